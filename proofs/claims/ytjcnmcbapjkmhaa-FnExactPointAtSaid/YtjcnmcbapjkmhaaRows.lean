/-
  No cell of these rows narrows 'for every input' (looked for: loops, veiled, ifaces, maps, wideKeys, modest, calm, conditions, laid).
  DERIVED. THE GIVEN ROWS OF THIS SEAT. 12 by the template 'for every input the law returns true; each argument reads behind the call as it read before'; 0 by the template 'total and deterministic' (their statements: YtjcnmcbapjkmhaaTotals.lean).
  GIVEN WITH THE SEED: the statements are not yours to turn. If you find one false, say at which input.
  Laid BY PROGRAM, IN A SANDBOX (cutbox-rows.mjs): the forced cells as the released guide's own fill.sh prints them over the translation cdde48d54054323e… (all of the seat's roots in one cut). By AI agents, Wed Nov 11 2026. No macro, syntax, notation, axiom, sorry.
-/
import Derived.Test.YtjcnmcbapjkmhaaChecked
import GoSem.Claim
import GoSem.ClaimJoined
import GoSem.ClaimMapViews
import Derived.JoinedTies
import Derived.KernelRfl
namespace Go.Proofs.Ytjcnmcbapjkmhaa
/- THE CELL 'sum', in the pinned program and in every row, IS THE sha256 OF THE DUMP (.gsa) THAT YtjcnmcbapjkmhaaProg.lean LOADS. Nothing in Lean hashes anything: it is a label: what it is worth is what the hold of that sum in a sandbox is worth. -/
noncomputable def Try.pinned : Pinned := { name := "ytjcnmcbapjkmhaa", sum := "cdde48d54054323e4ab9fbaa33ca585ebfc6ca7c532fdebf6eb6608640173178", checked := Try.checked }
namespace Rows
def none {H : Type} : Left H := { results := [], args := [] }

/-- 'laws.FnExactAreLabels': WHATEVER THE INPUT: true; the input reads as it did. -/
def fnExactAreLabelsSpec : ChangeSpec := { name := "fnExactAreLabels", fn := fun _ => fun
  | [d1, d2] => { results := [.lit (.bool true)], args := [d1, d2] }
  | _ => none }
def fnExactAreLabelsRow : OpenClaim := { program := "ytjcnmcbapjkmhaa", sum := "cdde48d54054323e4ab9fbaa33ca585ebfc6ca7c532fdebf6eb6608640173178", func := "loop.example/g01160/laws.FnExactAreLabels", spec := "fnExactAreLabels", unfollowed := true, recurses := true, apart := false }
def FnExactAreLabelsSaid : Prop := fnExactAreLabelsRow.holds Try.pinned (OpenSpec.ofChange fnExactAreLabelsSpec)

/-- ITS FALSE NEIGHBOUR: 'it returns false'. Refute it at one input. -/
def fnExactAreLabelsWrong : ChangeSpec := { name := "fnExactAreLabels", fn := fun _ => fun
  | [d1, d2] => { results := [.lit (.bool false)], args := [d1, d2] }
  | _ => none }
def FnExactAreLabelsWrongFalsely : Prop := fnExactAreLabelsRow.holds Try.pinned (OpenSpec.ofChange fnExactAreLabelsWrong)

/-- 'laws.FnExactIndexOfPoint': WHATEVER THE INPUT: true; the input reads as it did. -/
def fnExactIndexOfPointSpec : ChangeSpec := { name := "fnExactIndexOfPoint", fn := fun _ => fun
  | [d1, d2] => { results := [.lit (.bool true)], args := [d1, d2] }
  | _ => none }
def fnExactIndexOfPointRow : OpenClaim := { program := "ytjcnmcbapjkmhaa", sum := "cdde48d54054323e4ab9fbaa33ca585ebfc6ca7c532fdebf6eb6608640173178", func := "loop.example/g01160/laws.FnExactIndexOfPoint", spec := "fnExactIndexOfPoint", apart := false }
def FnExactIndexOfPointSaid : Prop := fnExactIndexOfPointRow.holds Try.pinned (OpenSpec.ofChange fnExactIndexOfPointSpec)

/-- ITS FALSE NEIGHBOUR: 'it returns false'. Refute it at one input. -/
def fnExactIndexOfPointWrong : ChangeSpec := { name := "fnExactIndexOfPoint", fn := fun _ => fun
  | [d1, d2] => { results := [.lit (.bool false)], args := [d1, d2] }
  | _ => none }
def FnExactIndexOfPointWrongFalsely : Prop := fnExactIndexOfPointRow.holds Try.pinned (OpenSpec.ofChange fnExactIndexOfPointWrong)

/-- 'laws.FnExactPointAt': WHATEVER THE INPUT: true; the input reads as it did. -/
def fnExactPointAtSpec : ChangeSpec := { name := "fnExactPointAt", fn := fun _ => fun
  | [d1, d2] => { results := [.lit (.bool true)], args := [d1, d2] }
  | _ => none }
def fnExactPointAtRow : OpenClaim := { program := "ytjcnmcbapjkmhaa", sum := "cdde48d54054323e4ab9fbaa33ca585ebfc6ca7c532fdebf6eb6608640173178", func := "loop.example/g01160/laws.FnExactPointAt", spec := "fnExactPointAt", unfollowed := true, recurses := true, apart := false }
def FnExactPointAtSaid : Prop := fnExactPointAtRow.holds Try.pinned (OpenSpec.ofChange fnExactPointAtSpec)

/-- ITS FALSE NEIGHBOUR: 'it returns false'. Refute it at one input. -/
def fnExactPointAtWrong : ChangeSpec := { name := "fnExactPointAt", fn := fun _ => fun
  | [d1, d2] => { results := [.lit (.bool false)], args := [d1, d2] }
  | _ => none }
def FnExactPointAtWrongFalsely : Prop := fnExactPointAtRow.holds Try.pinned (OpenSpec.ofChange fnExactPointAtWrong)

/-- 'laws.FnExactBorderOf': WHATEVER THE INPUT: true; the input reads as it did. -/
def fnExactBorderOfSpec : ChangeSpec := { name := "fnExactBorderOf", fn := fun _ => fun
  | [d] => { results := [.lit (.bool true)], args := [d] }
  | _ => none }
def fnExactBorderOfRow : OpenClaim := { program := "ytjcnmcbapjkmhaa", sum := "cdde48d54054323e4ab9fbaa33ca585ebfc6ca7c532fdebf6eb6608640173178", func := "loop.example/g01160/laws.FnExactBorderOf", spec := "fnExactBorderOf", apart := false }
def FnExactBorderOfSaid : Prop := fnExactBorderOfRow.holds Try.pinned (OpenSpec.ofChange fnExactBorderOfSpec)

/-- ITS FALSE NEIGHBOUR: 'it returns false'. Refute it at one input. -/
def fnExactBorderOfWrong : ChangeSpec := { name := "fnExactBorderOf", fn := fun _ => fun
  | [d] => { results := [.lit (.bool false)], args := [d] }
  | _ => none }
def FnExactBorderOfWrongFalsely : Prop := fnExactBorderOfRow.holds Try.pinned (OpenSpec.ofChange fnExactBorderOfWrong)

/-- 'laws.FnExactSidesOf': WHATEVER THE INPUT: true; the input reads as it did. -/
def fnExactSidesOfSpec : ChangeSpec := { name := "fnExactSidesOf", fn := fun _ => fun
  | [d1, d2] => { results := [.lit (.bool true)], args := [d1, d2] }
  | _ => none }
def fnExactSidesOfRow : OpenClaim := { program := "ytjcnmcbapjkmhaa", sum := "cdde48d54054323e4ab9fbaa33ca585ebfc6ca7c532fdebf6eb6608640173178", func := "loop.example/g01160/laws.FnExactSidesOf", spec := "fnExactSidesOf", unfollowed := true, recurses := true, apart := false }
def FnExactSidesOfSaid : Prop := fnExactSidesOfRow.holds Try.pinned (OpenSpec.ofChange fnExactSidesOfSpec)

/-- ITS FALSE NEIGHBOUR: 'it returns false'. Refute it at one input. -/
def fnExactSidesOfWrong : ChangeSpec := { name := "fnExactSidesOf", fn := fun _ => fun
  | [d1, d2] => { results := [.lit (.bool false)], args := [d1, d2] }
  | _ => none }
def FnExactSidesOfWrongFalsely : Prop := fnExactSidesOfRow.holds Try.pinned (OpenSpec.ofChange fnExactSidesOfWrong)

/-- 'laws.FnExactKeepsSides': WHATEVER THE INPUT: true; the input reads as it did. -/
def fnExactKeepsSidesSpec : ChangeSpec := { name := "fnExactKeepsSides", fn := fun _ => fun
  | [d1, d2] => { results := [.lit (.bool true)], args := [d1, d2] }
  | _ => none }
def fnExactKeepsSidesRow : OpenClaim := { program := "ytjcnmcbapjkmhaa", sum := "cdde48d54054323e4ab9fbaa33ca585ebfc6ca7c532fdebf6eb6608640173178", func := "loop.example/g01160/laws.FnExactKeepsSides", spec := "fnExactKeepsSides", unfollowed := true, recurses := true, apart := false }
def FnExactKeepsSidesSaid : Prop := fnExactKeepsSidesRow.holds Try.pinned (OpenSpec.ofChange fnExactKeepsSidesSpec)

/-- ITS FALSE NEIGHBOUR: 'it returns false'. Refute it at one input. -/
def fnExactKeepsSidesWrong : ChangeSpec := { name := "fnExactKeepsSides", fn := fun _ => fun
  | [d1, d2] => { results := [.lit (.bool false)], args := [d1, d2] }
  | _ => none }
def FnExactKeepsSidesWrongFalsely : Prop := fnExactKeepsSidesRow.holds Try.pinned (OpenSpec.ofChange fnExactKeepsSidesWrong)

/-- 'laws.FnExactFirstBroken': WHATEVER THE INPUT: true; the input reads as it did. -/
def fnExactFirstBrokenSpec : ChangeSpec := { name := "fnExactFirstBroken", fn := fun _ => fun
  | [d1, d2] => { results := [.lit (.bool true)], args := [d1, d2] }
  | _ => none }
def fnExactFirstBrokenRow : OpenClaim := { program := "ytjcnmcbapjkmhaa", sum := "cdde48d54054323e4ab9fbaa33ca585ebfc6ca7c532fdebf6eb6608640173178", func := "loop.example/g01160/laws.FnExactFirstBroken", spec := "fnExactFirstBroken", unfollowed := true, recurses := true, apart := false }
def FnExactFirstBrokenSaid : Prop := fnExactFirstBrokenRow.holds Try.pinned (OpenSpec.ofChange fnExactFirstBrokenSpec)

/-- ITS FALSE NEIGHBOUR: 'it returns false'. Refute it at one input. -/
def fnExactFirstBrokenWrong : ChangeSpec := { name := "fnExactFirstBroken", fn := fun _ => fun
  | [d1, d2] => { results := [.lit (.bool false)], args := [d1, d2] }
  | _ => none }
def FnExactFirstBrokenWrongFalsely : Prop := fnExactFirstBrokenRow.holds Try.pinned (OpenSpec.ofChange fnExactFirstBrokenWrong)

/-- 'laws.FnExactIsUpCell': WHATEVER THE INPUT: true; the input reads as it did. -/
def fnExactIsUpCellSpec : ChangeSpec := { name := "fnExactIsUpCell", fn := fun _ => fun
  | [d1, d2] => { results := [.lit (.bool true)], args := [d1, d2] }
  | _ => none }
def fnExactIsUpCellRow : OpenClaim := { program := "ytjcnmcbapjkmhaa", sum := "cdde48d54054323e4ab9fbaa33ca585ebfc6ca7c532fdebf6eb6608640173178", func := "loop.example/g01160/laws.FnExactIsUpCell", spec := "fnExactIsUpCell", apart := false }
def FnExactIsUpCellSaid : Prop := fnExactIsUpCellRow.holds Try.pinned (OpenSpec.ofChange fnExactIsUpCellSpec)

/-- ITS FALSE NEIGHBOUR: 'it returns false'. Refute it at one input. -/
def fnExactIsUpCellWrong : ChangeSpec := { name := "fnExactIsUpCell", fn := fun _ => fun
  | [d1, d2] => { results := [.lit (.bool false)], args := [d1, d2] }
  | _ => none }
def FnExactIsUpCellWrongFalsely : Prop := fnExactIsUpCellRow.holds Try.pinned (OpenSpec.ofChange fnExactIsUpCellWrong)

/-- 'laws.FnExactNeighboursOf': WHATEVER THE INPUT: true; the input reads as it did. -/
def fnExactNeighboursOfSpec : ChangeSpec := { name := "fnExactNeighboursOf", fn := fun _ => fun
  | [d1, d2] => { results := [.lit (.bool true)], args := [d1, d2] }
  | _ => none }
def fnExactNeighboursOfRow : OpenClaim := { program := "ytjcnmcbapjkmhaa", sum := "cdde48d54054323e4ab9fbaa33ca585ebfc6ca7c532fdebf6eb6608640173178", func := "loop.example/g01160/laws.FnExactNeighboursOf", spec := "fnExactNeighboursOf", unfollowed := true, recurses := true, apart := false }
def FnExactNeighboursOfSaid : Prop := fnExactNeighboursOfRow.holds Try.pinned (OpenSpec.ofChange fnExactNeighboursOfSpec)

/-- ITS FALSE NEIGHBOUR: 'it returns false'. Refute it at one input. -/
def fnExactNeighboursOfWrong : ChangeSpec := { name := "fnExactNeighboursOf", fn := fun _ => fun
  | [d1, d2] => { results := [.lit (.bool false)], args := [d1, d2] }
  | _ => none }
def FnExactNeighboursOfWrongFalsely : Prop := fnExactNeighboursOfRow.holds Try.pinned (OpenSpec.ofChange fnExactNeighboursOfWrong)

/-- 'laws.FnExactTurnLabels': WHATEVER THE INPUT: true; the input reads as it did. -/
def fnExactTurnLabelsSpec : ChangeSpec := { name := "fnExactTurnLabels", fn := fun _ => fun
  | [d1, d2] => { results := [.lit (.bool true)], args := [d1, d2] }
  | _ => none }
def fnExactTurnLabelsRow : OpenClaim := { program := "ytjcnmcbapjkmhaa", sum := "cdde48d54054323e4ab9fbaa33ca585ebfc6ca7c532fdebf6eb6608640173178", func := "loop.example/g01160/laws.FnExactTurnLabels", spec := "fnExactTurnLabels", unfollowed := true, recurses := true, apart := false }
def FnExactTurnLabelsSaid : Prop := fnExactTurnLabelsRow.holds Try.pinned (OpenSpec.ofChange fnExactTurnLabelsSpec)

/-- ITS FALSE NEIGHBOUR: 'it returns false'. Refute it at one input. -/
def fnExactTurnLabelsWrong : ChangeSpec := { name := "fnExactTurnLabels", fn := fun _ => fun
  | [d1, d2] => { results := [.lit (.bool false)], args := [d1, d2] }
  | _ => none }
def FnExactTurnLabelsWrongFalsely : Prop := fnExactTurnLabelsRow.holds Try.pinned (OpenSpec.ofChange fnExactTurnLabelsWrong)

/-- 'laws.FnExactMirrorLabels': WHATEVER THE INPUT: true; the input reads as it did. -/
def fnExactMirrorLabelsSpec : ChangeSpec := { name := "fnExactMirrorLabels", fn := fun _ => fun
  | [d1, d2] => { results := [.lit (.bool true)], args := [d1, d2] }
  | _ => none }
def fnExactMirrorLabelsRow : OpenClaim := { program := "ytjcnmcbapjkmhaa", sum := "cdde48d54054323e4ab9fbaa33ca585ebfc6ca7c532fdebf6eb6608640173178", func := "loop.example/g01160/laws.FnExactMirrorLabels", spec := "fnExactMirrorLabels", unfollowed := true, recurses := true, apart := false }
def FnExactMirrorLabelsSaid : Prop := fnExactMirrorLabelsRow.holds Try.pinned (OpenSpec.ofChange fnExactMirrorLabelsSpec)

/-- ITS FALSE NEIGHBOUR: 'it returns false'. Refute it at one input. -/
def fnExactMirrorLabelsWrong : ChangeSpec := { name := "fnExactMirrorLabels", fn := fun _ => fun
  | [d1, d2] => { results := [.lit (.bool false)], args := [d1, d2] }
  | _ => none }
def FnExactMirrorLabelsWrongFalsely : Prop := fnExactMirrorLabelsRow.holds Try.pinned (OpenSpec.ofChange fnExactMirrorLabelsWrong)

/-- 'laws.FnExactCellsOf': WHATEVER THE INPUT: true; the input reads as it did. -/
def fnExactCellsOfSpec : ChangeSpec := { name := "fnExactCellsOf", fn := fun _ => fun
  | [d] => { results := [.lit (.bool true)], args := [d] }
  | _ => none }
def fnExactCellsOfRow : OpenClaim := { program := "ytjcnmcbapjkmhaa", sum := "cdde48d54054323e4ab9fbaa33ca585ebfc6ca7c532fdebf6eb6608640173178", func := "loop.example/g01160/laws.FnExactCellsOf", spec := "fnExactCellsOf", apart := false }
def FnExactCellsOfSaid : Prop := fnExactCellsOfRow.holds Try.pinned (OpenSpec.ofChange fnExactCellsOfSpec)

/-- ITS FALSE NEIGHBOUR: 'it returns false'. Refute it at one input. -/
def fnExactCellsOfWrong : ChangeSpec := { name := "fnExactCellsOf", fn := fun _ => fun
  | [d] => { results := [.lit (.bool false)], args := [d] }
  | _ => none }
def FnExactCellsOfWrongFalsely : Prop := fnExactCellsOfRow.holds Try.pinned (OpenSpec.ofChange fnExactCellsOfWrong)

/- THE SECOND FORM. 'bulk': how many values and letters a reading holds, each counted each time it is reached (what is shared counts as often as it is met; a slice's spare places count too). A statement '..UptoSaid' is the law's where the arguments, and the package variables that the reading takes, are together of bulk at most 1048576: NARROWER than '..Said'. Prove '..Said' where nothing that the law and all that it calls make is longer than what came in: it says more and counts as full. Else prove '..UptoSaid'. A law counts once. -/
mutual
def uptoBulk {H : Type} : DataW H → Nat
  | .lit (.string bytes) => bytes.length + 1
  | .lit _ => 1
  | .nil => 1
  | .ptr d => uptoBulk d + 1
  | .slice elems spare => uptoBulkAll elems + uptoBulkAll spare + 1
  | .agg parts => uptoBulkAll parts + 1
  | .iface _ d => uptoBulk d + 1
  | .map entries => uptoBulkEntries entries + 1
  | .held _ => 1
def uptoBulkAll {H : Type} : List (DataW H) → Nat
  | [] => 0
  | d :: r => uptoBulk d + uptoBulkAll r
def uptoBulkEntries {H : Type} : List (Lit × DataW H) → Nat
  | [] => 0
  | x :: r => uptoBulkEntry x + uptoBulkEntries r
def uptoBulkEntry {H : Type} : Lit × DataW H → Nat
  | (.string bytes, d) => bytes.length + uptoBulk d + 1
  | (_, d) => uptoBulk d + 1
 end
def uptoSmall : (H : Type) → List (DataW H) → Bool := fun _ ds => decide (uptoBulkAll ds ≤ 1048576)
def OpenSpec.upto (s : _root_.Go.ChangeSpec) : _root_.Go.OpenSpec := { _root_.Go.OpenSpec.ofChange s with cond := some uptoSmall }

/-- 'laws.FnExactAreLabels', WHERE WHAT IT READS IS OF BULK AT MOST 1048576: true; the input reads as it did. -/
def fnExactAreLabelsUptoRow : OpenClaim := { program := "ytjcnmcbapjkmhaa", sum := "cdde48d54054323e4ab9fbaa33ca585ebfc6ca7c532fdebf6eb6608640173178", func := "loop.example/g01160/laws.FnExactAreLabels", spec := "fnExactAreLabels", unfollowed := true, recurses := true, apart := false, narrowed := true }
def FnExactAreLabelsUptoSaid : Prop := fnExactAreLabelsUptoRow.holds Try.pinned (OpenSpec.upto fnExactAreLabelsSpec)

/-- 'laws.FnExactIndexOfPoint', WHERE WHAT IT READS IS OF BULK AT MOST 1048576: true; the input reads as it did. -/
def fnExactIndexOfPointUptoRow : OpenClaim := { program := "ytjcnmcbapjkmhaa", sum := "cdde48d54054323e4ab9fbaa33ca585ebfc6ca7c532fdebf6eb6608640173178", func := "loop.example/g01160/laws.FnExactIndexOfPoint", spec := "fnExactIndexOfPoint", apart := false, narrowed := true }
def FnExactIndexOfPointUptoSaid : Prop := fnExactIndexOfPointUptoRow.holds Try.pinned (OpenSpec.upto fnExactIndexOfPointSpec)

/-- 'laws.FnExactPointAt', WHERE WHAT IT READS IS OF BULK AT MOST 1048576: true; the input reads as it did. -/
def fnExactPointAtUptoRow : OpenClaim := { program := "ytjcnmcbapjkmhaa", sum := "cdde48d54054323e4ab9fbaa33ca585ebfc6ca7c532fdebf6eb6608640173178", func := "loop.example/g01160/laws.FnExactPointAt", spec := "fnExactPointAt", unfollowed := true, recurses := true, apart := false, narrowed := true }
def FnExactPointAtUptoSaid : Prop := fnExactPointAtUptoRow.holds Try.pinned (OpenSpec.upto fnExactPointAtSpec)

/-- 'laws.FnExactBorderOf', WHERE WHAT IT READS IS OF BULK AT MOST 1048576: true; the input reads as it did. -/
def fnExactBorderOfUptoRow : OpenClaim := { program := "ytjcnmcbapjkmhaa", sum := "cdde48d54054323e4ab9fbaa33ca585ebfc6ca7c532fdebf6eb6608640173178", func := "loop.example/g01160/laws.FnExactBorderOf", spec := "fnExactBorderOf", apart := false, narrowed := true }
def FnExactBorderOfUptoSaid : Prop := fnExactBorderOfUptoRow.holds Try.pinned (OpenSpec.upto fnExactBorderOfSpec)

/-- 'laws.FnExactSidesOf', WHERE WHAT IT READS IS OF BULK AT MOST 1048576: true; the input reads as it did. -/
def fnExactSidesOfUptoRow : OpenClaim := { program := "ytjcnmcbapjkmhaa", sum := "cdde48d54054323e4ab9fbaa33ca585ebfc6ca7c532fdebf6eb6608640173178", func := "loop.example/g01160/laws.FnExactSidesOf", spec := "fnExactSidesOf", unfollowed := true, recurses := true, apart := false, narrowed := true }
def FnExactSidesOfUptoSaid : Prop := fnExactSidesOfUptoRow.holds Try.pinned (OpenSpec.upto fnExactSidesOfSpec)

/-- 'laws.FnExactKeepsSides', WHERE WHAT IT READS IS OF BULK AT MOST 1048576: true; the input reads as it did. -/
def fnExactKeepsSidesUptoRow : OpenClaim := { program := "ytjcnmcbapjkmhaa", sum := "cdde48d54054323e4ab9fbaa33ca585ebfc6ca7c532fdebf6eb6608640173178", func := "loop.example/g01160/laws.FnExactKeepsSides", spec := "fnExactKeepsSides", unfollowed := true, recurses := true, apart := false, narrowed := true }
def FnExactKeepsSidesUptoSaid : Prop := fnExactKeepsSidesUptoRow.holds Try.pinned (OpenSpec.upto fnExactKeepsSidesSpec)

/-- 'laws.FnExactFirstBroken', WHERE WHAT IT READS IS OF BULK AT MOST 1048576: true; the input reads as it did. -/
def fnExactFirstBrokenUptoRow : OpenClaim := { program := "ytjcnmcbapjkmhaa", sum := "cdde48d54054323e4ab9fbaa33ca585ebfc6ca7c532fdebf6eb6608640173178", func := "loop.example/g01160/laws.FnExactFirstBroken", spec := "fnExactFirstBroken", unfollowed := true, recurses := true, apart := false, narrowed := true }
def FnExactFirstBrokenUptoSaid : Prop := fnExactFirstBrokenUptoRow.holds Try.pinned (OpenSpec.upto fnExactFirstBrokenSpec)

/-- 'laws.FnExactIsUpCell', WHERE WHAT IT READS IS OF BULK AT MOST 1048576: true; the input reads as it did. -/
def fnExactIsUpCellUptoRow : OpenClaim := { program := "ytjcnmcbapjkmhaa", sum := "cdde48d54054323e4ab9fbaa33ca585ebfc6ca7c532fdebf6eb6608640173178", func := "loop.example/g01160/laws.FnExactIsUpCell", spec := "fnExactIsUpCell", apart := false, narrowed := true }
def FnExactIsUpCellUptoSaid : Prop := fnExactIsUpCellUptoRow.holds Try.pinned (OpenSpec.upto fnExactIsUpCellSpec)

/-- 'laws.FnExactNeighboursOf', WHERE WHAT IT READS IS OF BULK AT MOST 1048576: true; the input reads as it did. -/
def fnExactNeighboursOfUptoRow : OpenClaim := { program := "ytjcnmcbapjkmhaa", sum := "cdde48d54054323e4ab9fbaa33ca585ebfc6ca7c532fdebf6eb6608640173178", func := "loop.example/g01160/laws.FnExactNeighboursOf", spec := "fnExactNeighboursOf", unfollowed := true, recurses := true, apart := false, narrowed := true }
def FnExactNeighboursOfUptoSaid : Prop := fnExactNeighboursOfUptoRow.holds Try.pinned (OpenSpec.upto fnExactNeighboursOfSpec)

/-- 'laws.FnExactTurnLabels', WHERE WHAT IT READS IS OF BULK AT MOST 1048576: true; the input reads as it did. -/
def fnExactTurnLabelsUptoRow : OpenClaim := { program := "ytjcnmcbapjkmhaa", sum := "cdde48d54054323e4ab9fbaa33ca585ebfc6ca7c532fdebf6eb6608640173178", func := "loop.example/g01160/laws.FnExactTurnLabels", spec := "fnExactTurnLabels", unfollowed := true, recurses := true, apart := false, narrowed := true }
def FnExactTurnLabelsUptoSaid : Prop := fnExactTurnLabelsUptoRow.holds Try.pinned (OpenSpec.upto fnExactTurnLabelsSpec)

/-- 'laws.FnExactMirrorLabels', WHERE WHAT IT READS IS OF BULK AT MOST 1048576: true; the input reads as it did. -/
def fnExactMirrorLabelsUptoRow : OpenClaim := { program := "ytjcnmcbapjkmhaa", sum := "cdde48d54054323e4ab9fbaa33ca585ebfc6ca7c532fdebf6eb6608640173178", func := "loop.example/g01160/laws.FnExactMirrorLabels", spec := "fnExactMirrorLabels", unfollowed := true, recurses := true, apart := false, narrowed := true }
def FnExactMirrorLabelsUptoSaid : Prop := fnExactMirrorLabelsUptoRow.holds Try.pinned (OpenSpec.upto fnExactMirrorLabelsSpec)

/-- 'laws.FnExactCellsOf', WHERE WHAT IT READS IS OF BULK AT MOST 1048576: true; the input reads as it did. -/
def fnExactCellsOfUptoRow : OpenClaim := { program := "ytjcnmcbapjkmhaa", sum := "cdde48d54054323e4ab9fbaa33ca585ebfc6ca7c532fdebf6eb6608640173178", func := "loop.example/g01160/laws.FnExactCellsOf", spec := "fnExactCellsOf", apart := false, narrowed := true }
def FnExactCellsOfUptoSaid : Prop := fnExactCellsOfUptoRow.holds Try.pinned (OpenSpec.upto fnExactCellsOfSpec)

end Rows
end Go.Proofs.Ytjcnmcbapjkmhaa
