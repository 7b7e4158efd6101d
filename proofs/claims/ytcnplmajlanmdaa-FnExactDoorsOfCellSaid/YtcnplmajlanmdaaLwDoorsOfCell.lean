/- The walk of the law FnExactDoorsOfCell by hand (its result is rows of rows, handed to a writer); for all arguments, slices that read as lists. -/
import Derived.Test.YtcnplmajlanmdaaPg
import Derived.Test.YtcnplmajlanmdaaQx6
import Derived.Test.YtcnplmajlanmdaaQx11
import Derived.Test.YtcnplmajlanmdaaQx1
import Derived.Lib.Walk
import Derived.Shelf.Abstract
import Derived.Outline
namespace Go.Proofs.Ytcnplmajlanmdaa.Q
open Go.Proofs.Ytcnplmajlanmdaa.Given Go.Proofs.Ytcnplmajlanmdaa.Pg Go.Proofs.Ytcnplmajlanmdaa.Pz Go.RowKit Go.Proofs.YtcnplmajlanmdaaW.PrintWords Go.Proofs.YtcnplmajlanmdaaW.PrintLast Go.Proofs.YtcnplmajlanmdaaW.PrintMore
set_option linter.unusedVariables false
set_option linter.unusedSimpArgs false

/-- The one pure statement: both return the same rows. -/
def laws_FnExactDoorsOfCell.Pure : Prop := ∀ (a0 : Int) (l1 : List Int) (a2 : Int), (Lit.int .i64 a0).wf = true → l1.length ≤ maxLen → l1.length * 8 ≤ 140737488351232 → (∀ x ∈ l1, (Lit.int .i64 x).wf = true) → (Lit.int .i64 a2).wf = true → l1.length ≤ 1048576 → ∃ (k : Nat) (g : List (List Int) × Bool), spec_DoorsOfCell.f k a0 l1 a2 = some g ∧ impl_DoorsOfCell.f k a0 l1 a2 = some g ∧ Small g.1

set_option maxHeartbeats 16000000 in
set_option maxRecDepth 100000 in
theorem laws_FnExactDoorsOfCell.walk (P : laws_FnExactDoorsOfCell.Pure) (a0 : Int) (a1 : Option Addr) (len1 cap1 : Nat) (z1 : List Int) (a2 : Int) (w : World) (w0 : (Lit.int .i64 a0).wf = true) (w1 : (a1 = none ∧ len1 = 0 ∧ cap1 = 0 ∧ z1 = []) ∨ ∃ x, a1 = some x ∧ len1 ≤ cap1 ∧ cap1 ≤ maxLen ∧ z1.length = cap1 ∧ (∀ i, i < z1.length → w.cell? (x.add i) = some (.int .i64 (z1.getD i 0))) ∧ ∀ n ∈ z1, (Lit.int .i64 n).wf = true) (y1 : len1 * 8 ≤ 140737488351232) (w2 : (Lit.int .i64 a2).wf = true) :
    Calls Try.prog 10 #[.int .i64 a0, .slice a1 len1 cap1, .int .i64 a2] w fun e w' => e = .returned (.bool true) ∧ Below w.heap.size w w' := by
  obtain ⟨l, rfl, hr, hm1, hw1, hc⟩ := ReadsInt.ofRowC w1
  have HR := Aside0.mk (Kd.C_of_reads (d := (0 : Int)) (h1 := fun _ => rfl) hr)
  have HC := Aside0.mk hc
  have P' := P a0 l a2 w0 hm1 y1 hw1 w2
  clear w1 hr hc P
  by_cases hbig : l.length ≤ 1048576
  case neg =>
    have hbz : (1048576 : Int) < (l.length : Int) := by omega
    go_enter Try.func10, Try.ntmps10
    go_wp2
    go_ret
    exact ⟨rfl, by repeat (first | exact Below.refl _ _ | apply pw_below_drewN)⟩
  have hbz : ¬ (1048576 : Int) < (l.length : Int) := by omega
  obtain ⟨k, ⟨g, bb⟩, h1, h2, hs⟩ := P' hbig
  have H1 := Aside0.mk h1
  have H2 := Aside0.mk h2
  have hl2 : l.length ≤ 1099511627776 := by omega
  have HTI := Aside0.mk (toIntS_f l hl2 (l.length + 1) (by omega))
  have HEI := Aside0.mk (show laws_eqIntS.f (l.length + 1) l l = some true by rw [eqIntS_f l l hl2 (l.length + 1) (by omega)]; simp)
  have HMI := Aside0.mk (markIntS_f l 1 (l.length + 1) (by omega) (by omega) (by omega))
  have HE := Aside0.mk (eqSS_f g hs)
  have HM := Aside0.mk (markSS_ff g hs)
  have HH := Aside0.mk (heldSS_f g hs)
  have HT := Aside0.mk (marksS_len g 1)
  clear h1 h2 hs P' hl2
  have mm0 : (0 : Int) ≤ 1 + (total g : Int) := by omega
  have mk0 : (0 : Int) ≤ 1 + (l.length : Int) := by omega
  generalize (1 + (total g : Int)) = mm at HM HH mm0
  generalize marksS 1 g = g' at HM HH HT
  generalize (1 + (l.length : Int)) = mk at HMI mk0
  generalize marks 1 l.length = lk at HMI
  go_enter Try.func10, Try.ntmps10
  go_wp2_with fail
  refine (laws_toIntS.calls (l.length + 1) _ _ l l _ (by repeat (first | exact HR.out | apply Kd.C_drewN)) HC.out HTI.out).mono ?_
  rintro e w1 ⟨vt, rfl, RT, B1⟩
  have B1 := Aside0.mk (show Below w.heap.size w w1 from below_step (by repeat (first | exact Below.refl _ _ | apply pw_below_drewN)) B1)
  obtain ⟨At, ct, rfl⟩ := Kd.R_slice RT
  have CT := Aside0.mk (Kd.R_reads' RT)
  clear RT
  go_wp2_with fail
  refine (spec_DoorsOfCell.calls k a0 _ _ l a2 _ _ _ CT.out.2.2 CT.out.2.1 H1.out).mono ?_
  rintro e w2 ⟨vs, rfl, NS1, B2⟩
  obtain ⟨As, cs, rfl, hcs, CS⟩ := Kd.S_reads NS1
  have CS := Aside0.mk CS
  have HCS := Aside0.mk hcs
  have B2 := Aside0.mk (below_step B1.out B2)
  clear NS1 hcs CT B1
  go_wp2_with fail
  refine (laws_toIntS.calls (l.length + 1) _ _ l l _ (by repeat (first | exact Kd.C_below HR.out B2.out | apply Kd.C_drewN)) HC.out HTI.out).mono ?_
  rintro e w3 ⟨vx, rfl, RX, B3⟩
  obtain ⟨Ax, cx, rfl⟩ := Kd.R_slice RX
  have B3 := Aside0.mk B3
  have RX := Aside0.mk RX
  go_wp2_with fail
  refine (impl_DoorsOfCell.calls k a0 (fun _ => True) _ _ l a2 _ _ _ (Kd.R_V (ok := fun _ => True) (Kd.R_mono RX.out (fun _ _ => trivial))) H2.out).mono ?_
  rintro e w4 ⟨vg, rfl, SG, B4⟩
  have SG := Kd.S_mono (ok' := fun _ => True) SG (fun _ _ => trivial)
  obtain ⟨Ag, cg, rfl⟩ := Kd.S_slice SG
  have SG := Aside0.mk SG
  have B4 := Aside0.mk B4
  have B24 := Aside0.mk (below_step B3.out B4.out)
  go_wp2_with fail
  refine (laws_eqIntSS.calls 30000 _ _ g _ _ g _ _ (Kd.S_reads' SG.out).2.2 (Kd.S_reads' SG.out).2.1 (Kd.C_below CS.out B24.out) HCS.out HE.out).mono ?_
  rintro e w5 ⟨rfl, ⟨q5, rfl⟩⟩
  go_wp2_with fail
  refine (laws_toIntS.calls (l.length + 1) _ _ l l _ (by repeat (first | exact Kd.C_below HR.out (below_step B2.out B24.out) | apply Kd.C_drewN)) HC.out HTI.out).mono ?_
  rintro e w6 ⟨vy, rfl, RY, B6⟩
  obtain ⟨Ay, cy, rfl⟩ := Kd.R_slice RY
  have CY := Aside0.mk (Kd.R_reads' RY)
  have B46 := Aside0.mk (show Below w4.heap.size w4 w6 from below_step (by repeat (first | exact Below.refl _ _ | apply pw_below_drewN)) B6)
  have RX6 := Aside0.mk (Kd.R_below RX.out (below_step B4.out B46.out))
  have SG6 := Aside0.mk (Kd.S_below SG.out B46.out)
  have B26 := Aside0.mk (below_step B24.out B46.out)
  have XLT := Aside0.mk (Kd.R_lt RX.out)
  have W23 := Aside0.mk (B3.out.size)
  clear RY B6 SG RX B4 B24 B46 B3
  go_wp2_with fail
  refine (laws_eqIntS.calls (l.length + 1) _ _ l _ _ l _ _ (Kd.R_reads' RX6.out).2.2 (Kd.R_reads' RX6.out).2.1 CY.out.2.2 CY.out.2.1 HEI.out).mono ?_
  rintro e w7 ⟨rfl, ⟨q7, rfl⟩⟩
  go_wp2_with fail
  refine (laws_markIntS.calls (l.length + 1) (fun k_ => some k_ = (Value.slice Ax l.length cx).ownBlock) (.slice Ax l.length cx) l 1 mk lk w2 _ (by repeat (first | exact B26.out | apply pw_below_drewN)) (by repeat (first | exact Kd.R_tight rfl RX6.out | apply Kd.R_drewN)) HMI.out).mono ?_
  rintro e w8 ⟨rfl, _, B28, K8⟩
  have SG8 := Aside0.mk (Kd.S_mono (Kd.S_kept (Kd.S_bound (Kd.S_drewN SG6.out q7)) K8 (fun k_ hk hs => by have := XLT.out k_ hs.symm; have := hk.2.1; omega)) (fun _ _ => trivial))
  have SG8 := Aside0.mk (Kd.S_lower SG8.out W23.out)
  have B28 := Aside0.mk B28
  clear SG6 RX6 CY K8 B26 XLT
  go_wp2_with fail
  refine (laws_eqIntSS.calls 30000 _ _ g _ _ g _ _ (by repeat (first | exact (Kd.S_reads' SG8.out).2.2 | apply Kd.C_drewN)) (Kd.S_reads' SG8.out).2.1 (by repeat (first | exact (Kd.C_below CS.out B28.out) | apply Kd.C_drewN)) HCS.out HE.out).mono ?_
  rintro e w9 ⟨rfl, ⟨q9, rfl⟩⟩
  go_wp2_with fail
  refine (laws_markIntSS.calls 30000 (.slice Ag g.length cg) g 1 mm g' w2 _ (by repeat (first | exact B28.out | apply pw_below_drewN)) (by repeat (first | exact SG8.out | apply Kd.S_drewN)) HM.out).mono ?_
  rintro e w10 ⟨rfl, S10, B10⟩
  have S10 := Aside0.mk S10
  have B10 := Aside0.mk B10
  have HELD := Aside0.mk (fun W (hb : Below w10.heap.size w10 W) => by
    have hs := Kd.S_reads' (Kd.S_below S10.out hb)
    have hc := laws_heldIntSS.calls 30000 Ag cg g' 1 mm W hs.2.2 (by rw [HT.out]; exact hs.2.1) HH.out
    rw [HT.out] at hc
    exact hc)
  clear SG8 B28
  go_wp2_with fail
  refine (HELD.out _ (by repeat (first | exact Below.refl _ _ | apply pw_below_drewN))).mono ?_
  rintro e w11 ⟨rfl, ⟨q11, rfl⟩⟩
  go_wp2_with fail
  refine (laws_toIntS.calls (l.length + 1) _ _ l l _ (by repeat (first | exact Kd.C_below HR.out (below_step B2.out B10.out) | apply Kd.C_drewN)) HC.out HTI.out).mono ?_
  rintro e w12 ⟨vz, rfl, RZ, B12⟩
  obtain ⟨Az, cz, rfl⟩ := Kd.R_slice RZ
  have RZ := Aside0.mk RZ
  have B12 := Aside0.mk (show Below w10.heap.size w10 w12 from below_step (by repeat (first | exact Below.refl _ _ | apply pw_below_drewN)) B12)
  go_wp2_with fail
  refine (impl_DoorsOfCell.calls k a0 (fun _ => True) _ _ l a2 _ _ _ (Kd.R_V (ok := fun _ => True) (Kd.R_mono RZ.out (fun _ _ => trivial))) H2.out).mono ?_
  rintro e w13 ⟨vh, rfl, SH, B13⟩
  obtain ⟨Ah, ch, rfl⟩ := Kd.S_slice SH
  have CH := Aside0.mk (Kd.S_reads' SH)
  have B13 := Aside0.mk (below_step B12.out B13)
  have CS13 := Aside0.mk (Kd.C_below CS.out (below_step B10.out B13.out))
  have BE := Aside0.mk (below_step (below_step B2.out B10.out) B13.out)
  clear SH
  go_wp2_with fail
  refine (laws_eqIntSS.calls 30000 _ _ g _ _ g _ _ CH.out.2.2 CH.out.2.1 CS13.out HCS.out HE.out).mono ?_
  rintro e w14 ⟨rfl, ⟨q14, rfl⟩⟩
  go_wp2_with fail
  refine (HELD.out _ (by repeat (first | exact B13.out | apply pw_below_drewN))).mono ?_
  rintro e w15 ⟨rfl, ⟨q15, rfl⟩⟩
  go_wp2_with fail
  go_ret
  exact ⟨rfl, by repeat (first | exact BE.out | apply pw_below_drewN)⟩

end Go.Proofs.Ytcnplmajlanmdaa.Q
