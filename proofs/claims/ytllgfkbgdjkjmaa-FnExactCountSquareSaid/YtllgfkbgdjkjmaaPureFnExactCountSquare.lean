/- The law FnExactCountSquare answers true for every int n: the program's CountSquare and the reference's return the same. No condition. -/
import Derived.Test.YtllgfkbgdjkjmaaPFnExactCountSquarex1
namespace Go.Proofs.Ytllgfkbgdjkjmaa.Pure
open Go.RowKit Go.Proofs.Ytllgfkbgdjkjmaa.PFnExactCountSquare Go.Proofs.YtllgfkbgdjkjmaaW.PrintWords Go.Proofs.YtllgfkbgdjkjmaaW.PrintLast

theorem FnExactCountSquare : laws_FnExactCountSquare.Pure := by
  intro a0 _
  simp only [laws_FnExactCountSquare.f, spec_CountSquare.f, impl_CountSquare.f, spec_opReach.f, impl_isReach.f, spec_opCount.f, spec_l1In.f, impl_in.f]
  by_cases h1 : 1 ≤ a0 <;> by_cases h2 : a0 ≤ 4 <;> simp [h1, h2]

end Go.Proofs.Ytllgfkbgdjkjmaa.Pure
