/- Plain lemmas on boards: the reference's and the program's tests say the same. -/
import Derived.Test.YtmfocekebenniaaDoorPm
import Derived.Test.YtmfocekebenniaaDoorGn
import Derived.Test.YtmfocekebenniaaDoorQx1
namespace Go.Proofs.YtmfocekebenniaaDoor.Ph
open Go.RowKit Go.Proofs.YtmfocekebenniaaDoor.Q Go.Proofs.YtmfocekebenniaaDoor.Given Go.Proofs.YtmfocekebenniaaDoor.Pz Go.Proofs.YtmfocekebenniaaDoor.Pm Go.Proofs.YtmfocekebenniaaDoorW.PrintWords Go.Proofs.YtmfocekebenniaaDoorW.PrintLast

def hshape (a b : Int) : Bool := if inRange a 1 30 = true then (if inRange b 1 30 = true then decide (wrap64 (a * b) ≤ 30) else false) else false
theorem hxSides_f (a b : Int) : spec_hxSides.f a b = some (hshape a b) := by
  unfold spec_hxSides.f hshape
  simp only [l1In_f, Option.bind_some]
  cases inRange a 1 30 <;> cases inRange b 1 30 <;> rfl
theorem isShape_f (a b : Int) : impl_isShape.f a b = some (hshape a b) := by
  unfold impl_isShape.f hshape
  simp only [in_f, Option.bind_some]
  cases inRange a 1 30 <;> cases inRange b 1 30 <;> rfl
theorem shape_of {a b : Int} (h : hshape a b = true) : (1 ≤ a ∧ a ≤ 30) ∧ (1 ≤ b ∧ b ≤ 30) ∧ wrap64 (a * b) ≤ 30 := by
  unfold hshape at h
  split at h
  · rename_i h1
    split at h
    · rename_i h2
      unfold inRange at h1 h2
      simp only [Bool.and_eq_true, decide_eq_true_eq] at h1 h2 h
      exact ⟨h1, h2, h⟩
    · simp at h
  · simp at h

end Go.Proofs.YtmfocekebenniaaDoor.Ph
