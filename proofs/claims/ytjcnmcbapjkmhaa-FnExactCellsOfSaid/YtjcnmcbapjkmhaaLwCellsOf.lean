/- The walk of the law FnExactCellsOf by hand (its result is rows of rows, handed to a writer); for all arguments. -/
import Derived.Test.YtjcnmcbapjkmhaaPg
import Derived.Test.YtjcnmcbapjkmhaaQx5
import Derived.Test.YtjcnmcbapjkmhaaQx4
import Derived.Lib.Walk
import Derived.Shelf.Abstract
import Derived.Outline
namespace Go.Proofs.Ytjcnmcbapjkmhaa.Q
open Go.Proofs.Ytjcnmcbapjkmhaa.Given Go.Proofs.Ytjcnmcbapjkmhaa.Pg Go.Proofs.Ytjcnmcbapjkmhaa.Pz Go.RowKit Go.Proofs.YtjcnmcbapjkmhaaW.PrintWords Go.Proofs.YtjcnmcbapjkmhaaW.PrintLast Go.Proofs.YtjcnmcbapjkmhaaW.PrintMore
set_option linter.unusedVariables false
set_option linter.unusedSimpArgs false

/-- The one pure statement: both return the same rows. -/
def laws_FnExactCellsOf.Pure : Prop := ∀ (a0 : Int), (Lit.int .i64 a0).wf = true → ∃ (k : Nat) (g : List (List Int) × Bool), spec_CellsOf.f k a0 = some g ∧ impl_CellsOf.f k a0 = some g ∧ Small g.1

theorem drewS {W : World} {base n : Nat} {A : Option Addr} {c : Nat} {xs : List (List Int)} (h : Kd.S kSS 22 W base (fun _ => True) (.slice A n c) xs) (q : Nat) : Kd.S kSS 22 (W.drewN q) base (fun _ => True) (.slice A n c) xs := Kd.S_drewN h q
set_option maxHeartbeats 8000000 in
set_option maxRecDepth 100000 in
theorem laws_FnExactCellsOf.walk (P : laws_FnExactCellsOf.Pure) (a0 : Int) (w : World) (w0 : (Lit.int .i64 a0).wf = true) :
    Calls Try.prog 14 #[.int .i64 a0] w fun e w' => e = .returned (.bool true) ∧ Below w.heap.size w w' := by
  obtain ⟨k, ⟨g, bb⟩, h1, h2, hs⟩ := P a0 w0
  have H1 := Aside0.mk h1
  have H2 := Aside0.mk h2
  have HE := Aside0.mk (eqSS_f g hs)
  have HM := Aside0.mk (markSS_ff g hs)
  have HH := Aside0.mk (heldSS_f g hs)
  have HT := Aside0.mk (marksS_len g 1)
  clear h1 h2 hs
  have mm0 : (0 : Int) ≤ 1 + (total g : Int) := by omega
  generalize (1 + (total g : Int)) = mm at HM HH mm0
  generalize marksS 1 g = g' at HM HH HT
  go_enter Try.func14, Try.ntmps14
  go_wp2_with fail
  refine (spec_CellsOf.calls k a0 _ _ _ H1.out).mono ?_
  rintro e w1 ⟨vs, rfl, NS1, B1⟩
  have NS1 := Aside0.mk (Kd.S_reads NS1)
  obtain ⟨As, cs, rfl, hcs, CS⟩ := NS1.out
  have CS := Aside0.mk CS
  have HCS := Aside0.mk hcs
  clear NS1 hcs
  go_wp2_with fail
  refine (impl_CellsOf.calls k a0 _ _ _ H2.out).mono ?_
  rintro e w2 ⟨vg, rfl, SG, B2⟩
  obtain ⟨Ag, cg, rfl⟩ := Kd.S_slice SG
  have CG := Aside0.mk (Kd.S_reads' SG)
  have CS2 := Aside0.mk (Kd.C_below CS.out B2)
  have SG := Aside0.mk SG
  have B2 := Aside0.mk B2
  have B1 := Aside0.mk B1
  go_wp2_with fail
  refine (laws_eqIntSS.calls 30000 _ _ g _ _ g _ _ CG.out.2.2 CG.out.2.1 CS2.out HCS.out HE.out).mono ?_
  rintro e w3 ⟨rfl, ⟨q3, rfl⟩⟩
  go_wp2_with fail
  refine (laws_markIntSS.calls 30000 (.slice Ag g.length cg) g 1 mm g' w1 _ (by repeat (first | exact B2.out | apply pw_below_drewN)) (by repeat (first | exact SG.out | apply Kd.S_drewN)) HM.out).mono ?_
  rintro e w4 ⟨rfl, S4, B4⟩
  have S4 := Aside0.mk S4
  have B4 := Aside0.mk B4
  have HELD := Aside0.mk (fun W (hb : Below w4.heap.size w4 W) => by
    have hs := Kd.S_reads' (Kd.S_below S4.out hb)
    have hc := laws_heldIntSS.calls 30000 Ag cg g' 1 mm W hs.2.2 (by rw [HT.out]; exact hs.2.1) HH.out
    rw [HT.out] at hc
    exact hc)
  clear CG SG CS2 B2
  go_wp2_with fail
  refine (HELD.out _ (by repeat (first | exact Below.refl _ _ | apply pw_below_drewN))).mono ?_
  rintro e w5 ⟨rfl, ⟨q5, rfl⟩⟩
  go_wp2_with fail
  refine (impl_CellsOf.calls k a0 _ _ _ H2.out).mono ?_
  rintro e w6 ⟨vh, rfl, SH, B6⟩
  obtain ⟨Ah, ch, rfl⟩ := Kd.S_slice SH
  have CH := Aside0.mk (Kd.S_reads' SH)
  have B46 := Aside0.mk (show Below w4.heap.size w4 w6 from below_step (by repeat (first | exact Below.refl _ _ | apply pw_below_drewN)) B6)
  have CS6 := Aside0.mk (Kd.C_below (Kd.C_below CS.out B4.out) B46.out)
  have BE := Aside0.mk (below_step (below_step B1.out B4.out) B46.out)
  clear SH B6
  go_wp2_with fail
  refine (laws_eqIntSS.calls 30000 _ _ g _ _ g _ _ CH.out.2.2 CH.out.2.1 CS6.out HCS.out HE.out).mono ?_
  rintro e w7 ⟨rfl, ⟨q7, rfl⟩⟩
  go_wp2_with fail
  refine (HELD.out _ (by repeat (first | exact B46.out | apply pw_below_drewN))).mono ?_
  rintro e w8 ⟨rfl, ⟨q8, rfl⟩⟩
  go_wp2_with fail
  go_ret
  exact ⟨rfl, by repeat (first | exact BE.out | apply pw_below_drewN)⟩

end Go.Proofs.Ytjcnmcbapjkmhaa.Q
