/- A world in which the listed variables are laid, for the row of FnExactParseLabels. -/
import Derived.Test.YtmfocekebenniaaDoorRows
import Derived.ProofKit
import Derived.LaidMore
import Derived.LaidLaws
import Derived.Stop.Joined
namespace Go.Proofs.YtmfocekebenniaaDoor
open Go
theorem Tryd.metH (l : List (String × DataW Unit)) (w : World) (h : (l.filter fun x => x.2.handleName?.isSome) = []) (hm : laidMet Tryd.prog l w) : laidMetH Tryd.prog l w := by
  unfold laidMetH
  rw [h]
  exact hm
noncomputable def fnExactParseLabelsWorld (os : Os) : World := World.doorLaid Tryd.prog 400 os
theorem fnExactParseLabels_shaped (os : Os) {args : Array Value} : ((fnExactParseLabelsWorld os).forCall (fun _ _ => 0) ⟨#[], args, []⟩).Shaped Tryd.prog := World.shaped_of_RefB (by kernel_rfl) (by kernel_rfl)
theorem fnExactParseLabels_met (os : Os) (args : Array Value) : laidMetH Tryd.prog Rows.fnExactParseLabelsRow.laid ((fnExactParseLabelsWorld os).forCall (fun _ _ => 0) ⟨#[], args, []⟩).memory :=
  Tryd.metH _ _ (by kernel_rfl) (laidMet_of_run' 8 (by kernel_rfl) (by kernel_rfl))
end Go.Proofs.YtmfocekebenniaaDoor
