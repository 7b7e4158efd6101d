/- Plain lemmas on boards: the reference's and the program's tests say the same. -/
import Derived.Test.YtmfocekebenniaaPm
import Derived.Test.YtmfocekebenniaaGn
import Derived.Test.YtmfocekebenniaaQx1
namespace Go.Proofs.Ytmfocekebenniaa.Ph
open Go.RowKit Go.Proofs.Ytmfocekebenniaa.Q Go.Proofs.Ytmfocekebenniaa.Given Go.Proofs.Ytmfocekebenniaa.Pz Go.Proofs.Ytmfocekebenniaa.Pm Go.Proofs.YtmfocekebenniaaW.PrintWords Go.Proofs.YtmfocekebenniaaW.PrintLast

def hshape (a b : Int) : Bool := if inRange a 1 30 = true then (if inRange b 1 30 = true then decide (wrap64 (a * b) ≤ 30) else false) else false
theorem hxSides_f (a b : Int) : spec_hxSides.f a b = some (hshape a b) := by
  unfold spec_hxSides.f hshape
  simp only [l1In_f, Option.bind_some]
  cases inRange a 1 30 <;> cases inRange b 1 30 <;> rfl
theorem isShape_f (a b : Int) : impl_isShape.f a b = some (hshape a b) := by
  unfold impl_isShape.f hshape
  simp only [in_f, Option.bind_some]
  cases inRange a 1 30 <;> cases inRange b 1 30 <;> rfl
theorem shape_of {a b : Int} (h : hshape a b = true) : (1 ≤ a ∧ a ≤ 30) ∧ (1 ≤ b ∧ b ≤ 30) ∧ wrap64 (a * b) ≤ 30 := by
  unfold hshape at h
  split at h
  · rename_i h1
    split at h
    · rename_i h2
      unfold inRange at h1 h2
      simp only [Bool.and_eq_true, decide_eq_true_eq] at h1 h2 h
      exact ⟨h1, h2, h⟩
    · simp at h
  · simp at h

/-- Is a list a board: both say the same. -/
theorem board_f (a c : Int) (l : List Int) (hm : l.length ≤ 1099511627776) (k : Nat) (hk : l.length < k) : ∃ b, spec_hxGood.f k a c l = some b ∧ impl_isBoard.f a c l = some b ∧ (b = true → hshape a c = true ∧ (l.length : Int) = wrap64 (a * c) ∧ ∀ x ∈ l, 0 ≤ x ∧ x ≤ 2) := by
  refine ⟨hshape a c && (((l.length : Int) == wrap64 (a * c)) && l.all fun x => inRange x 0 2), ?_, ?_, ?_⟩
  · unfold spec_hxGood.f
    rw [hxSides_f, l1All_f l 0 2 hm k hk]
    simp only [Option.bind_some]
    cases hshape a c
    · simp
    · by_cases h : (l.length : Int) = wrap64 (a * c)
      · simp [h]
      · simp [h]
  · unfold impl_isBoard.f
    rw [isShape_f]
    simp only [Option.bind_some]
    rw [List.all_eq_not_any_not]
  · intro h
    simp only [Bool.and_eq_true, beq_iff_eq, List.all_eq_true] at h
    refine ⟨h.1, h.2.1, fun x hx => ?_⟩
    have := h.2.2 x hx
    unfold inRange at this
    simpa using this
end Go.Proofs.Ytmfocekebenniaa.Ph
