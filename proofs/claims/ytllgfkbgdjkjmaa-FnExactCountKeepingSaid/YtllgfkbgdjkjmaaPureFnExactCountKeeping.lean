/- The law FnExactCountKeeping answers true for every int n: the program's CountKeeping and the reference's return the same. No condition. -/
import Derived.Test.YtllgfkbgdjkjmaaPFnExactCountKeepingx1
namespace Go.Proofs.Ytllgfkbgdjkjmaa.Pure
open Go.RowKit Go.Proofs.Ytllgfkbgdjkjmaa.PFnExactCountKeeping Go.Proofs.YtllgfkbgdjkjmaaW.PrintWords Go.Proofs.YtllgfkbgdjkjmaaW.PrintLast

theorem FnExactCountKeeping : laws_FnExactCountKeeping.Pure := by
  intro a0 _
  by_cases h : 1 ≤ a0 ∧ a0 ≤ 7
  · obtain ⟨h1, h2⟩ := h
    refine ⟨100, ?_⟩
    have : a0 = 1 ∨ a0 = 2 ∨ a0 = 3 ∨ a0 = 4 ∨ a0 = 5 ∨ a0 = 6 ∨ a0 = 7 := by omega
    rcases this with rfl | rfl | rfl | rfl | rfl | rfl | rfl <;> decide +kernel
  · refine ⟨1, ?_⟩
    simp only [laws_FnExactCountKeeping.f, spec_CountKeeping.f, impl_CountKeeping.f, spec_l1In.f, impl_in.f, ge_iff_le]
    by_cases h1 : 1 ≤ a0
    · have h2 : ¬ a0 ≤ 7 := fun h2 => h ⟨h1, h2⟩
      simp [h1, h2]
    · simp [h1]

end Go.Proofs.Ytllgfkbgdjkjmaa.Pure
