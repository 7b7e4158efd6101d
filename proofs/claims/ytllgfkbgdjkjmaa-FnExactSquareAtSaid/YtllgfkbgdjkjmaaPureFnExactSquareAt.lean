/- The law FnExactSquareAt answers true for all ints n and i: the program's SquareAt and the reference's return the same, in memory of their own. No condition. -/
import Derived.Test.YtllgfkbgdjkjmaaPFnExactSquareAtx2
namespace Go.Proofs.Ytllgfkbgdjkjmaa.Pure
open Go.RowKit Go.Proofs.Ytllgfkbgdjkjmaa.PFnExactSquareAt Go.Proofs.YtllgfkbgdjkjmaaW.PrintWords Go.Proofs.YtllgfkbgdjkjmaaW.PrintLast

theorem in_same (a b c : Int) : spec_l1In.f a b c = impl_in.f a b c := by
  simp only [spec_l1In.f, impl_in.f, ge_iff_le]
theorem in_some (a b c : Int) : impl_in.f a b c = some (decide (b ≤ a ∧ a ≤ c)) := by
  unfold impl_in.f
  by_cases h : b ≤ a <;> simp [h]
theorem at_same (a i : Int) : impl_square_at.f a i = spec_opAt.f a i := by
  unfold impl_square_at.f impl_square_wide.f spec_opAt.f
  simp only [Option.bind_some]
  by_cases h : wrap64 (wrap64 (2 * a) + 1) = 0 <;> simp [h]
theorem FnExactSquareAt : laws_FnExactSquareAt.Pure := by
  intro a0 a1 _ _
  have hs : impl_SquareAt.f a0 a1 = spec_SquareAt.f a0 a1 := by
    simp only [impl_SquareAt.f, spec_SquareAt.f, spec_opPoint.f, spec_opReach.f, impl_isReach.f, spec_opCount.f, in_same, at_same, in_some, Option.bind_some]
    by_cases h1 : 1 ≤ a0 ∧ a0 ≤ 4
    · simp [h1]
    · simp [h1]
  refine ⟨20, ?_⟩
  unfold laws_FnExactSquareAt.f
  rw [hs]
  have hr : (∃ x y, spec_SquareAt.f a0 a1 = some ([x, y], true)) ∨ spec_SquareAt.f a0 a1 = some ([], false) := by
    simp only [spec_SquareAt.f, spec_opPoint.f, spec_opReach.f, spec_opCount.f, in_same, in_some, Option.bind_some]
    by_cases h1 : 1 ≤ a0 ∧ a0 ≤ 4
    · by_cases h2 : 0 ≤ a1 ∧ a1 ≤ wrap64 (wrap64 (wrap64 (wrap64 (2 * a0) + 1) * wrap64 (wrap64 (2 * a0) + 1)) - 1)
      · left
        have h0 : ¬ wrap64 (wrap64 (2 * a0) + 1) = 0 := by unfold wrap64; omega
        simp only [h1, h2, spec_opAt.f, h0, and_self, decide_true, if_true, if_false, Option.bind_some]
        exact ⟨_, _, rfl⟩
      · right; simp [h1, h2]
    · right; simp [h1]
  rcases hr with ⟨x, y, h⟩ | h
  · simp [h, hs, laws_FnExactSquareAt.j0, laws_FnExactSquareAt.j1, laws_eqIntS.f, laws_eqIntS.l0, laws_markIntS.f, laws_markIntS.l0, laws_heldIntS.f, laws_heldIntS.l0, rd, wrap64]
  · simp [h, hs, laws_FnExactSquareAt.j0, laws_FnExactSquareAt.j1, laws_eqIntS.f, laws_eqIntS.l0, laws_markIntS.f, laws_markIntS.l0, laws_heldIntS.f, laws_heldIntS.l0, rd, wrap64]

end Go.Proofs.Ytllgfkbgdjkjmaa.Pure
