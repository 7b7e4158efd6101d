/- impl.isBoard by hand; for all slices that read as lists. -/
import Derived.Test.YtmfocekebenniaaDoorGa
import Derived.Test.YtmfocekebenniaaDoorQx2
import Derived.Lib.Walk
import Derived.Shelf.Abstract
import Derived.Outline
namespace Go.Proofs.YtmfocekebenniaaDoor.Given
open Go.Proofs.YtmfocekebenniaaDoor.Q Go.RowKit Go.Proofs.YtmfocekebenniaaDoorW.PrintWords Go.Proofs.YtmfocekebenniaaDoorW.PrintLast Go.Proofs.YtmfocekebenniaaDoorW.PrintMore
set_option linter.unusedVariables false
set_option linter.unusedSimpArgs false

theorem isBoard1 (x : Int) (w : World) : Calls Tryd.prog 35 #[.int .i64 x] w fun e w' => e = .returned (.bool (!(inRange x 0 2))) ∧ Drawn0 w w' := by
  by_cases h1 : 0 ≤ x <;> by_cases h2 : x ≤ 2
  all_goals
    go_enter Tryd.func35, Tryd.ntmps35
    go_wp2
    all_goals first | (exfalso; omega) | (go_ret; exact ⟨by simp [inRange, h1, h2], Drawn0.refl _⟩)

def impl_isBoard.f (a0 a1 : Int) (l1 : List Int) : Option Bool := (impl_isShape.f a0 a1).bind fun s => some (s && (((l1.length : Int) == wrap64 (a0 * a1)) && !(l1.any fun x => !(inRange x 0 2))))

set_option maxHeartbeats 1000000 in
theorem impl_isBoard.calls (a0 a1 : Int) (A1 : Option Addr) (c1 : Nat) (l1 : List Int) (r : Bool) (w : World) (hr1 : Kd.C (Kd.int .i64) w A1 l1.length l1) (hc1 : l1.length ≤ c1) (h : impl_isBoard.f a0 a1 l1 = some r) :
    Calls Tryd.prog 19 #[.int .i64 a0, .int .i64 a1, .slice A1 l1.length c1] w fun e w' => e = .returned (.bool r) ∧ Drawn0 w w' := by
  have hcon := fun q => ContainsFunc_any (fun x => !(inRange x 0 2)) 35 #[] (enters_of Tryd.func35 (by kernel_rfl) rfl) A1 c1 l1 (w.drewN q) (fun x _ q => isBoard1 x _) (Kd.C_drewN hr1 q) hc1
  clear hr1 hc1
  simp only [impl_isBoard.f] at h
  generalize (l1.any fun x => !(inRange x 0 2)) = b at hcon h
  obtain ⟨s, hs, h⟩ := Option.bind_eq_some_iff.mp h
  have HS := Aside0.mk hs
  have HC := Aside0.mk hcon
  obtain rfl := Option.some.inj h
  clear h hs hcon
  cases s with
  | false =>
    go_enter Tryd.func19, Tryd.ntmps19
    go_wp2_with (go_at_call 33; refine (impl_isShape.calls _ _ _ _ HS.out).mono ?_; rintro e w' ⟨rfl, ⟨q, rfl⟩⟩)
    go_ret
    exact ⟨by simp, ⟨⟨_, rfl⟩⟩⟩
  | true =>
    by_cases hl : (l1.length : Int) = wrap64 (a0 * a1)
    · have e1 : ((l1.length : Int) == wrap64 (a0 * a1)) = true := beq_iff_eq.mpr hl
      have e2 : ((l1.length : Int) != wrap64 (a0 * a1)) = false := bne_eq_false_iff_eq.mpr hl
      clear hl
      go_enter Tryd.func19, Tryd.ntmps19
      go_wp2_with (first | (go_at_call 33; refine (impl_isShape.calls _ _ _ _ HS.out).mono ?_; rintro e w' ⟨rfl, ⟨q, rfl⟩⟩) | (go_at_call 34; refine (HC.out _).mono ?_; rintro e w' ⟨rfl, ⟨q, rfl⟩⟩))
      go_ret
      exact ⟨by simp [e1], ⟨⟨_, rfl⟩⟩⟩
    · have e1 : ((l1.length : Int) == wrap64 (a0 * a1)) = false := beq_eq_false_iff_ne.mpr hl
      have e2 : ((l1.length : Int) != wrap64 (a0 * a1)) = true := bne_iff_ne.mpr hl
      clear hl
      go_enter Tryd.func19, Tryd.ntmps19
      go_wp2_with (go_at_call 33; refine (impl_isShape.calls _ _ _ _ HS.out).mono ?_; rintro e w' ⟨rfl, ⟨q, rfl⟩⟩)
      go_ret
      exact ⟨by simp [e1], ⟨⟨_, rfl⟩⟩⟩
end Go.Proofs.YtmfocekebenniaaDoor.Given
