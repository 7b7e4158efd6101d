/- The law FnExactSquareIndex answers true for all ints n, x and y: the program's SquareIndex and the reference's return the same. No condition. -/
import Derived.Test.YtllgfkbgdjkjmaaPFnExactSquareIndexx1
namespace Go.Proofs.Ytllgfkbgdjkjmaa.Pure
open Go.RowKit Go.Proofs.Ytllgfkbgdjkjmaa.PFnExactSquareIndex Go.Proofs.YtllgfkbgdjkjmaaW.PrintWords Go.Proofs.YtllgfkbgdjkjmaaW.PrintLast

theorem in_same (a b c : Int) : spec_l1In.f a b c = impl_in.f a b c := by
  simp only [spec_l1In.f, impl_in.f, ge_iff_le]
theorem in_some (a b c : Int) : impl_in.f a b c = some (decide (b ≤ a ∧ a ≤ c)) := by
  unfold impl_in.f
  by_cases h : b ≤ a <;> simp [h]
theorem FnExactSquareIndex : laws_FnExactSquareIndex.Pure := by
  intro a0 a1 a2 _ _ _
  simp only [laws_FnExactSquareIndex.f, spec_SquareIndex.f, impl_SquareIndex.f, spec_opReach.f, impl_isReach.f, spec_opIndex.f, impl_square_index.f, impl_square_wide.f, in_same, in_some, Option.bind_some]
  by_cases h1 : 1 ≤ a0 ∧ a0 ≤ 4 <;> by_cases h2 : wrap64 (-a0) ≤ a1 ∧ a1 ≤ a0 <;> by_cases h3 : wrap64 (-a0) ≤ a2 ∧ a2 ≤ a0 <;> simp [h1, h2, h3]

end Go.Proofs.Ytllgfkbgdjkjmaa.Pure
