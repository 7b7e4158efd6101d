/- spec.opIs by hand (its region has a call beside loads); for all slices that read as lists. -/
import Derived.Test.YtmdhclpkbopmdaaGk
import Derived.Test.YtmdhclpkbopmdaaQx2
import Derived.Test.YtmdhclpkbopmdaaQx3
import Derived.Lib.Walk
import Derived.Shelf.Abstract
import Derived.Outline
namespace Go.Proofs.Ytmdhclpkbopmdaa.Given
open Go.Proofs.Ytmdhclpkbopmdaa.Q Go.RowKit Go.Proofs.YtmdhclpkbopmdaaW.PrintWords Go.Proofs.YtmdhclpkbopmdaaW.PrintLast Go.Proofs.YtmdhclpkbopmdaaW.PrintMore
set_option linter.unusedVariables false
set_option linter.unusedSimpArgs false

def spec_opIs.f (k : Nat) (a0 : Int) (l1 : List Int) : Option Bool := (spec_opLabels.f k a0 l1).bind fun b => if b = true then ((spec_opBorder.f k a0).bind fun bd => (spec_opCount.f a0).bind fun m =>
  if ∀ i ∈ bd, (0 ≤ i ∧ i < (l1.length : Int)) ∧ 0 ≤ wrap64 (wrap64 (m - 1) - i) ∧ wrap64 (wrap64 (m - 1) - i) < (l1.length : Int) then some (!(bd.any (unopM l1 (wrap64 (m - 1))))) else none) else some false
theorem spec_opIs.mono : ∀ a0 a1 k, LeO (spec_opIs.f k a0 a1) (spec_opIs.f (k + 1) a0 a1) := by
  intro a0 a1 k
  unfold spec_opIs.f
  exact LeO.bind (spec_opLabels.mono _ _ _) (fun _ => LeO.ite (LeO.bind (spec_opBorder.mono _ _) (fun _ => LeO.refl _)) (LeO.refl _))

set_option maxHeartbeats 4000000 in
set_option maxRecDepth 100000 in
theorem spec_opIs.calls (k : Nat) (a0 : Int) (A1 : Option Addr) (c1 : Nat) (l1 : List Int) (r : Bool) (w : World) (hr1 : Kd.C (Kd.int .i64) w A1 l1.length l1) (hc1 : l1.length ≤ c1) (h : spec_opIs.f k a0 l1 = some r) :
    Calls Try.prog 79 #[.int .i64 a0, .slice A1 l1.length c1] w fun e w' => e = .returned (.bool r) ∧ Below w.heap.size w w' := by
  obtain ⟨b, hb, h⟩ := Option.bind_eq_some_iff.mp h
  have HAL := Aside0.mk hb
  clear hb
  have HL := Aside0.mk hr1
  have HC := Aside0.mk hc1
  have hm := Kd.C_max hr1
  clear hr1 hc1
  cases b with
  | false =>
    simp only [Bool.false_eq_true, if_false, Option.some.injEq] at h
    subst h
    go_enter Try.func79, Try.ntmps79
    go_wp2_with fail
    refine (spec_opLabels.calls k _ _ _ l1 _ _ HL.out HC.out HAL.out).mono ?_
    rintro e w1 ⟨rfl, ⟨q, rfl⟩⟩
    go_wp2_with fail
    go_ret
    exact ⟨rfl, by repeat (first | exact Below.refl _ _ | apply pw_below_drewN | apply below_alloc)⟩
  | true =>
    simp only [if_true] at h
    obtain ⟨bd, hbd, h⟩ := Option.bind_eq_some_iff.mp h
    obtain ⟨m0, hm0, h⟩ := Option.bind_eq_some_iff.mp h
    have HBD := Aside0.mk hbd
    have HCT := Aside0.mk hm0
    clear hbd hm0
    by_cases hx : ∀ i ∈ bd, (0 ≤ i ∧ i < (l1.length : Int)) ∧ 0 ≤ wrap64 (wrap64 (m0 - 1) - i) ∧ wrap64 (wrap64 (m0 - 1) - i) < (l1.length : Int)
    case neg => rw [if_neg hx] at h; cases h
    rw [if_pos hx] at h
    obtain rfl := Option.some.inj h
    have HX := Aside0.mk hx
    clear hx h
    obtain ⟨r, hr⟩ : ∃ r, bd.any (unopM l1 (wrap64 (m0 - 1))) = r := ⟨_, rfl⟩
    rw [hr]
    have R := Aside0.mk hr
    clear hr
    go_enter Try.func79, Try.ntmps79
    go_wp2_with fail
    refine (spec_opLabels.calls k _ _ _ l1 _ _ HL.out HC.out HAL.out).mono ?_
    rintro e w1 ⟨rfl, ⟨q, rfl⟩⟩
    go_wp2_with fail
    refine (spec_opBorder.calls k _ bd _ HBD.out).mono ?_
    rintro e w3 ⟨vb, rfl, RB, B3⟩
    have BB := Aside0.mk ((pw_below_drewN (Below.refl w.heap.size w) q).trans (B3.mono (by simp)))
    obtain ⟨Ab, cb, rfl⟩ := Kd.R_slice RB
    have RB := Aside0.mk (Kd.R_reads' RB).2.2
    have HL3 := Aside0.mk (Kd.C_below HL.out BB.out)
    have hmb := Kd.C_max RB.out
    clear B3
    go_wp2
    go_loopg [14] bd.length (fun gg s14 wr => ∃ kk q : Nat, kk ≤ bd.length ∧ bd.length - kk ≤ gg ∧ s14 = .int .i64 kk ∧ wr = w3.drewN q ∧ Aside0 (∀ j, j < kk → unopM l1 (wrap64 (m0 - 1)) (rd bd j) = false))
    case atStart => exact ⟨0, 0, Nat.zero_le _, by omega, rfl, rfl, ⟨fun j hj => absurd hj (Nat.not_lt_zero _)⟩⟩
    case round =>
      obtain ⟨kk, q, hkk, hg, rfl, rfl, M⟩ := hrel
      by_cases hlt : kk < bd.length
      · have hltz : (kk : Int) < (bd.length : Int) := by omega
        have pk : 0 ≤ (kk : Int) := by omega
        obtain ⟨ad, e1, hx⟩ := Kd.at_int RB.out kk pk hltz
        cases e1
        simp only [Int.toNat_natCast] at hx
        have hmem : rd bd kk ∈ bd := by unfold rd; rw [List.getD_eq_getElem?_getD, Int.toNat_natCast, List.getElem?_eq_getElem hlt]; simp
        obtain ⟨⟨x0, x1⟩, y0, y1⟩ := HX.out _ hmem
        obtain ⟨ad1, e1, h1⟩ := Kd.at_int HL3.out _ x0 x1
        cases e1
        obtain ⟨ad2, e1, h2⟩ := Kd.at_int HL3.out _ y0 y1
        cases e1
        have U := Aside0.mk (show unopM l1 (wrap64 (m0 - 1)) (rd bd kk) = (wrap64 (rd l1 (rd bd kk) + rd l1 (wrap64 (wrap64 (m0 - 1) - rd bd kk))) != 0) from rfl)
        have hmm := Aside0.mk hmem
        clear hmem
        obtain ⟨u, HU⟩ : ∃ u, Aside0 (unopM l1 (wrap64 (m0 - 1)) (rd bd kk) = u) := ⟨_, ⟨rfl⟩⟩
        have U' : (wrap64 (rd l1 (rd bd kk) + rd l1 (wrap64 (wrap64 (m0 - 1) - rd bd kk))) != 0) = u := U.out.symm.trans HU.out
        clear U
        generalize rd l1 (rd bd kk) = x at h1 U'
        generalize hi : rd bd kk = i at hx h1 h2 U' x0 x1 y0 y1 HU hmm
        have HI := Aside0.mk hi
        clear hi
        generalize rd l1 (wrap64 (wrap64 (m0 - 1) - i)) = y at h2 U'
        cases u with
        | true =>
          go_wp2
          repeat (go_quiet (first | (go_at_call 96; refine (spec_opCount.calls _ _ _ HCT.out).mono ?_; rintro e w' ⟨rfl, ⟨q', rfl⟩⟩; first | exact ⟨rfl, _, World.drewN_drewN _ _ _⟩ | exact ⟨rfl, _, Eq.trans (World.drewN_drewN _ _ _) (congrArg (World.drewN _) (Nat.add_assoc _ _ _))⟩)); try go_wp2)
          go_ret
          have hr : r = true := by rw [← R.out]; exact List.any_eq_true.mpr ⟨_, hmm.out, HU.out⟩
          subst hr
          exact ⟨rfl, pw_below_drewN (pw_below_drewN BB.out _) _⟩
        | false =>
          go_wp2
          repeat (go_quiet (first | (go_at_call 96; refine (spec_opCount.calls _ _ _ HCT.out).mono ?_; rintro e w' ⟨rfl, ⟨q', rfl⟩⟩; first | exact ⟨rfl, _, World.drewN_drewN _ _ _⟩ | exact ⟨rfl, _, Eq.trans (World.drewN_drewN _ _ _) (congrArg (World.drewN _) (Nat.add_assoc _ _ _))⟩)); try go_wp2)
          go_roundg (bd.length - (kk + 1))
          case measure => omega
          case rel =>
            refine ⟨kk + 1, _, by omega, by omega, by go_num, by first | rfl | exact World.drewN_drewN _ _ _, ⟨fun j hj => ?_⟩⟩
            by_cases e : j = kk
            · subst e
              rw [HI.out]; exact HU.out
            · exact M.out j (by omega)
      · have hltz : ¬ (kk : Int) < (bd.length : Int) := by omega
        have hk : kk = bd.length := by omega
        have HK := Aside0.mk hk
        clear hk
        go_wp2
        go_ret
        have hr : r = false := by
          rw [← R.out, List.any_eq_false]
          intro x hx
          obtain ⟨j, hj, rfl⟩ := List.mem_iff_getElem.mp hx
          have := M.out j (by rw [HK.out]; exact hj)
          unfold rd at this
          rw [List.getD_eq_getElem?_getD, Int.toNat_natCast, List.getElem?_eq_getElem hj] at this
          simpa using this
        subst hr
        exact ⟨rfl, pw_below_drewN BB.out _⟩
end Go.Proofs.Ytmdhclpkbopmdaa.Given
