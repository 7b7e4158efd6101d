/- The law FnExactCountPoints answers true for every int n: the program's CountPoints and the reference's return the same. No condition. -/
import Derived.Test.YtllgfkbgdjkjmaaPFnExactCountPointsx1
namespace Go.Proofs.Ytllgfkbgdjkjmaa.Pure
open Go.RowKit Go.Proofs.Ytllgfkbgdjkjmaa.PFnExactCountPoints Go.Proofs.YtllgfkbgdjkjmaaW.PrintWords Go.Proofs.YtllgfkbgdjkjmaaW.PrintLast

theorem FnExactCountPoints : laws_FnExactCountPoints.Pure := by
  intro a0 _
  simp only [laws_FnExactCountPoints.f, spec_CountPoints.f, impl_CountPoints.f, spec_meSide.f, impl_isSide.f, spec_meCount.f, impl_many.f, spec_l1In.f, impl_in.f]
  by_cases h1 : 1 ≤ a0 <;> by_cases h2 : a0 ≤ 8 <;> simp [h1, h2]

end Go.Proofs.Ytllgfkbgdjkjmaa.Pure
