/- A world in which the listed variables are laid, for the row of FnExactParseBoard. -/
import Derived.Test.YtmfocekebenniaaDoorRows
import Derived.ProofKit
import Derived.LaidMore
import Derived.LaidLaws
import Derived.Stop.Joined
namespace Go.Proofs.YtmfocekebenniaaDoor
open Go
theorem Tryd.metH (l : List (String × DataW Unit)) (w : World) (h : (l.filter fun x => x.2.handleName?.isSome) = []) (hm : laidMet Tryd.prog l w) : laidMetH Tryd.prog l w := by
  unfold laidMetH
  rw [h]
  exact hm
/-- The table's cells. -/
def firstCells : Array Value := (Go.Pinned.utf8FirstZ.map fun n => Value.int .u8 (n : Nat)).toArray
noncomputable def fnExactParseBoardWorld (os : Os) : World :=
  let w0 := World.doorLaid Tryd.prog 400 os
  { w0 with heap := w0.heap.modify ((Tryd.prog.globalNamed "unicode/utf8.first").getD 0) fun
      | .cells _ t frozen => .cells firstCells t frozen
      | o => o }
theorem fnExactParseBoard_shaped (os : Os) {args : Array Value} : ((fnExactParseBoardWorld os).forCall (fun _ _ => 0) ⟨#[], args, []⟩).Shaped Tryd.prog := World.shaped_of_RefB (by kernel_rfl) (by kernel_rfl)
theorem fnExactParseBoard_met (os : Os) (args : Array Value) : laidMetH Tryd.prog Rows.fnExactParseBoardRow.laid ((fnExactParseBoardWorld os).forCall (fun _ _ => 0) ⟨#[], args, []⟩).memory :=
  Tryd.metH _ _ (by kernel_rfl) (laidMet_of_run' 8 (by kernel_rfl) (by kernel_rfl))
end Go.Proofs.YtmfocekebenniaaDoor
