/-
  No cell of these rows narrows 'for every input' (looked for: loops, veiled, ifaces, maps, wideKeys, modest, calm, conditions, laid).
  DERIVED. THE GIVEN ROWS OF THIS SEAT. 9 by the template 'for every input the law returns true; each argument reads behind the call as it read before'; 0 by the template 'total and deterministic' (their statements: YtcnplmajlanmdaaTotals.lean).
  GIVEN WITH THE SEED: the statements are not yours to turn. If you find one false, say at which input.
  Laid BY PROGRAM, IN A SANDBOX (cutbox-rows.mjs): the forced cells as the released guide's own fill.sh prints them over the translation 0f59ef43e2ad72b6… (all of the seat's roots in one cut). By AI agents, Wed Nov 11 2026. No macro, syntax, notation, axiom, sorry.
-/
import Derived.Test.YtcnplmajlanmdaaChecked
import GoSem.Claim
import GoSem.ClaimJoined
import GoSem.ClaimMapViews
import Derived.JoinedTies
import Derived.KernelRfl
namespace Go.Proofs.Ytcnplmajlanmdaa
/- THE CELL 'sum', in the pinned program and in every row, IS THE sha256 OF THE DUMP (.gsa) THAT YtcnplmajlanmdaaProg.lean LOADS. Nothing in Lean hashes anything: it is a label: what it is worth is what the hold of that sum in a sandbox is worth. -/
noncomputable def Try.pinned : Pinned := { name := "ytcnplmajlanmdaa", sum := "0f59ef43e2ad72b6768c0947692f23653a2ab8cb770583666406f50e06a68343", checked := Try.checked }
namespace Rows
def none {H : Type} : Left H := { results := [], args := [] }

/-- 'laws.FnExactIsDoor': WHATEVER THE INPUT: true; the input reads as it did. -/
def fnExactIsDoorSpec : ChangeSpec := { name := "fnExactIsDoor", fn := fun _ => fun
  | [d1, d2, d3, d4] => { results := [.lit (.bool true)], args := [d1, d2, d3, d4] }
  | _ => none }
def fnExactIsDoorRow : OpenClaim := { program := "ytcnplmajlanmdaa", sum := "0f59ef43e2ad72b6768c0947692f23653a2ab8cb770583666406f50e06a68343", func := "loop.example/g01160/laws.FnExactIsDoor", spec := "fnExactIsDoor", unfollowed := true, recurses := true, apart := false }
def FnExactIsDoorSaid : Prop := fnExactIsDoorRow.holds Try.pinned (OpenSpec.ofChange fnExactIsDoorSpec)

/-- ITS FALSE NEIGHBOUR: 'it returns false'. Refute it at one input. -/
def fnExactIsDoorWrong : ChangeSpec := { name := "fnExactIsDoor", fn := fun _ => fun
  | [d1, d2, d3, d4] => { results := [.lit (.bool false)], args := [d1, d2, d3, d4] }
  | _ => none }
def FnExactIsDoorWrongFalsely : Prop := fnExactIsDoorRow.holds Try.pinned (OpenSpec.ofChange fnExactIsDoorWrong)

/-- 'laws.FnExactIsFull': WHATEVER THE INPUT: true; the input reads as it did. -/
def fnExactIsFullSpec : ChangeSpec := { name := "fnExactIsFull", fn := fun _ => fun
  | [d1, d2, d3] => { results := [.lit (.bool true)], args := [d1, d2, d3] }
  | _ => none }
def fnExactIsFullRow : OpenClaim := { program := "ytcnplmajlanmdaa", sum := "0f59ef43e2ad72b6768c0947692f23653a2ab8cb770583666406f50e06a68343", func := "loop.example/g01160/laws.FnExactIsFull", spec := "fnExactIsFull", unfollowed := true, recurses := true, apart := false }
def FnExactIsFullSaid : Prop := fnExactIsFullRow.holds Try.pinned (OpenSpec.ofChange fnExactIsFullSpec)

/-- ITS FALSE NEIGHBOUR: 'it returns false'. Refute it at one input. -/
def fnExactIsFullWrong : ChangeSpec := { name := "fnExactIsFull", fn := fun _ => fun
  | [d1, d2, d3] => { results := [.lit (.bool false)], args := [d1, d2, d3] }
  | _ => none }
def FnExactIsFullWrongFalsely : Prop := fnExactIsFullRow.holds Try.pinned (OpenSpec.ofChange fnExactIsFullWrong)

/-- 'laws.FnExactTurnsOfBorder': WHATEVER THE INPUT: true; the input reads as it did. -/
def fnExactTurnsOfBorderSpec : ChangeSpec := { name := "fnExactTurnsOfBorder", fn := fun _ => fun
  | [d1, d2] => { results := [.lit (.bool true)], args := [d1, d2] }
  | _ => none }
def fnExactTurnsOfBorderRow : OpenClaim := { program := "ytcnplmajlanmdaa", sum := "0f59ef43e2ad72b6768c0947692f23653a2ab8cb770583666406f50e06a68343", func := "loop.example/g01160/laws.FnExactTurnsOfBorder", spec := "fnExactTurnsOfBorder", unfollowed := true, recurses := true, apart := false }
def FnExactTurnsOfBorderSaid : Prop := fnExactTurnsOfBorderRow.holds Try.pinned (OpenSpec.ofChange fnExactTurnsOfBorderSpec)

/-- ITS FALSE NEIGHBOUR: 'it returns false'. Refute it at one input. -/
def fnExactTurnsOfBorderWrong : ChangeSpec := { name := "fnExactTurnsOfBorder", fn := fun _ => fun
  | [d1, d2] => { results := [.lit (.bool false)], args := [d1, d2] }
  | _ => none }
def FnExactTurnsOfBorderWrongFalsely : Prop := fnExactTurnsOfBorderRow.holds Try.pinned (OpenSpec.ofChange fnExactTurnsOfBorderWrong)

/-- 'laws.FnExactFullCells': WHATEVER THE INPUT: true; the input reads as it did. -/
def fnExactFullCellsSpec : ChangeSpec := { name := "fnExactFullCells", fn := fun _ => fun
  | [d1, d2] => { results := [.lit (.bool true)], args := [d1, d2] }
  | _ => none }
def fnExactFullCellsRow : OpenClaim := { program := "ytcnplmajlanmdaa", sum := "0f59ef43e2ad72b6768c0947692f23653a2ab8cb770583666406f50e06a68343", func := "loop.example/g01160/laws.FnExactFullCells", spec := "fnExactFullCells", unfollowed := true, recurses := true, apart := false }
def FnExactFullCellsSaid : Prop := fnExactFullCellsRow.holds Try.pinned (OpenSpec.ofChange fnExactFullCellsSpec)

/-- ITS FALSE NEIGHBOUR: 'it returns false'. Refute it at one input. -/
def fnExactFullCellsWrong : ChangeSpec := { name := "fnExactFullCells", fn := fun _ => fun
  | [d1, d2] => { results := [.lit (.bool false)], args := [d1, d2] }
  | _ => none }
def FnExactFullCellsWrongFalsely : Prop := fnExactFullCellsRow.holds Try.pinned (OpenSpec.ofChange fnExactFullCellsWrong)

/-- 'laws.FnExactDoorsOf': WHATEVER THE INPUT: true; the input reads as it did. -/
def fnExactDoorsOfSpec : ChangeSpec := { name := "fnExactDoorsOf", fn := fun _ => fun
  | [d1, d2] => { results := [.lit (.bool true)], args := [d1, d2] }
  | _ => none }
def fnExactDoorsOfRow : OpenClaim := { program := "ytcnplmajlanmdaa", sum := "0f59ef43e2ad72b6768c0947692f23653a2ab8cb770583666406f50e06a68343", func := "loop.example/g01160/laws.FnExactDoorsOf", spec := "fnExactDoorsOf", unfollowed := true, recurses := true, apart := false }
def FnExactDoorsOfSaid : Prop := fnExactDoorsOfRow.holds Try.pinned (OpenSpec.ofChange fnExactDoorsOfSpec)

/-- ITS FALSE NEIGHBOUR: 'it returns false'. Refute it at one input. -/
def fnExactDoorsOfWrong : ChangeSpec := { name := "fnExactDoorsOf", fn := fun _ => fun
  | [d1, d2] => { results := [.lit (.bool false)], args := [d1, d2] }
  | _ => none }
def FnExactDoorsOfWrongFalsely : Prop := fnExactDoorsOfRow.holds Try.pinned (OpenSpec.ofChange fnExactDoorsOfWrong)

/-- 'laws.FnExactSignOfFull': WHATEVER THE INPUT: true; the input reads as it did. -/
def fnExactSignOfFullSpec : ChangeSpec := { name := "fnExactSignOfFull", fn := fun _ => fun
  | [d1, d2, d3] => { results := [.lit (.bool true)], args := [d1, d2, d3] }
  | _ => none }
def fnExactSignOfFullRow : OpenClaim := { program := "ytcnplmajlanmdaa", sum := "0f59ef43e2ad72b6768c0947692f23653a2ab8cb770583666406f50e06a68343", func := "loop.example/g01160/laws.FnExactSignOfFull", spec := "fnExactSignOfFull", unfollowed := true, recurses := true, apart := false }
def FnExactSignOfFullSaid : Prop := fnExactSignOfFullRow.holds Try.pinned (OpenSpec.ofChange fnExactSignOfFullSpec)

/-- ITS FALSE NEIGHBOUR: 'it returns false'. Refute it at one input. -/
def fnExactSignOfFullWrong : ChangeSpec := { name := "fnExactSignOfFull", fn := fun _ => fun
  | [d1, d2, d3] => { results := [.lit (.bool false)], args := [d1, d2, d3] }
  | _ => none }
def FnExactSignOfFullWrongFalsely : Prop := fnExactSignOfFullRow.holds Try.pinned (OpenSpec.ofChange fnExactSignOfFullWrong)

/-- 'laws.FnExactBorderDoors': WHATEVER THE INPUT: true; the input reads as it did. -/
def fnExactBorderDoorsSpec : ChangeSpec := { name := "fnExactBorderDoors", fn := fun _ => fun
  | [d1, d2] => { results := [.lit (.bool true)], args := [d1, d2] }
  | _ => none }
def fnExactBorderDoorsRow : OpenClaim := { program := "ytcnplmajlanmdaa", sum := "0f59ef43e2ad72b6768c0947692f23653a2ab8cb770583666406f50e06a68343", func := "loop.example/g01160/laws.FnExactBorderDoors", spec := "fnExactBorderDoors", unfollowed := true, recurses := true, apart := false }
def FnExactBorderDoorsSaid : Prop := fnExactBorderDoorsRow.holds Try.pinned (OpenSpec.ofChange fnExactBorderDoorsSpec)

/-- ITS FALSE NEIGHBOUR: 'it returns false'. Refute it at one input. -/
def fnExactBorderDoorsWrong : ChangeSpec := { name := "fnExactBorderDoors", fn := fun _ => fun
  | [d1, d2] => { results := [.lit (.bool false)], args := [d1, d2] }
  | _ => none }
def FnExactBorderDoorsWrongFalsely : Prop := fnExactBorderDoorsRow.holds Try.pinned (OpenSpec.ofChange fnExactBorderDoorsWrong)

/-- 'laws.FnExactDoorsOfCell': WHATEVER THE INPUT: true; the input reads as it did. -/
def fnExactDoorsOfCellSpec : ChangeSpec := { name := "fnExactDoorsOfCell", fn := fun _ => fun
  | [d1, d2, d3] => { results := [.lit (.bool true)], args := [d1, d2, d3] }
  | _ => none }
def fnExactDoorsOfCellRow : OpenClaim := { program := "ytcnplmajlanmdaa", sum := "0f59ef43e2ad72b6768c0947692f23653a2ab8cb770583666406f50e06a68343", func := "loop.example/g01160/laws.FnExactDoorsOfCell", spec := "fnExactDoorsOfCell", unfollowed := true, recurses := true, apart := false }
def FnExactDoorsOfCellSaid : Prop := fnExactDoorsOfCellRow.holds Try.pinned (OpenSpec.ofChange fnExactDoorsOfCellSpec)

/-- ITS FALSE NEIGHBOUR: 'it returns false'. Refute it at one input. -/
def fnExactDoorsOfCellWrong : ChangeSpec := { name := "fnExactDoorsOfCell", fn := fun _ => fun
  | [d1, d2, d3] => { results := [.lit (.bool false)], args := [d1, d2, d3] }
  | _ => none }
def FnExactDoorsOfCellWrongFalsely : Prop := fnExactDoorsOfCellRow.holds Try.pinned (OpenSpec.ofChange fnExactDoorsOfCellWrong)

/-- 'laws.FnExactDegreeOf': WHATEVER THE INPUT: true; the input reads as it did. -/
def fnExactDegreeOfSpec : ChangeSpec := { name := "fnExactDegreeOf", fn := fun _ => fun
  | [d1, d2] => { results := [.lit (.bool true)], args := [d1, d2] }
  | _ => none }
def fnExactDegreeOfRow : OpenClaim := { program := "ytcnplmajlanmdaa", sum := "0f59ef43e2ad72b6768c0947692f23653a2ab8cb770583666406f50e06a68343", func := "loop.example/g01160/laws.FnExactDegreeOf", spec := "fnExactDegreeOf", unfollowed := true, recurses := true, apart := false }
def FnExactDegreeOfSaid : Prop := fnExactDegreeOfRow.holds Try.pinned (OpenSpec.ofChange fnExactDegreeOfSpec)

/-- ITS FALSE NEIGHBOUR: 'it returns false'. Refute it at one input. -/
def fnExactDegreeOfWrong : ChangeSpec := { name := "fnExactDegreeOf", fn := fun _ => fun
  | [d1, d2] => { results := [.lit (.bool false)], args := [d1, d2] }
  | _ => none }
def FnExactDegreeOfWrongFalsely : Prop := fnExactDegreeOfRow.holds Try.pinned (OpenSpec.ofChange fnExactDegreeOfWrong)

/- THE SECOND FORM. 'bulk': how many values and letters a reading holds, each counted each time it is reached (what is shared counts as often as it is met; a slice's spare places count too). A statement '..UptoSaid' is the law's where the arguments, and the package variables that the reading takes, are together of bulk at most 1048576: NARROWER than '..Said'. Prove '..Said' where nothing that the law and all that it calls make is longer than what came in: it says more and counts as full. Else prove '..UptoSaid'. A law counts once. -/
mutual
def uptoBulk {H : Type} : DataW H → Nat
  | .lit (.string bytes) => bytes.length + 1
  | .lit _ => 1
  | .nil => 1
  | .ptr d => uptoBulk d + 1
  | .slice elems spare => uptoBulkAll elems + uptoBulkAll spare + 1
  | .agg parts => uptoBulkAll parts + 1
  | .iface _ d => uptoBulk d + 1
  | .map entries => uptoBulkEntries entries + 1
  | .held _ => 1
def uptoBulkAll {H : Type} : List (DataW H) → Nat
  | [] => 0
  | d :: r => uptoBulk d + uptoBulkAll r
def uptoBulkEntries {H : Type} : List (Lit × DataW H) → Nat
  | [] => 0
  | x :: r => uptoBulkEntry x + uptoBulkEntries r
def uptoBulkEntry {H : Type} : Lit × DataW H → Nat
  | (.string bytes, d) => bytes.length + uptoBulk d + 1
  | (_, d) => uptoBulk d + 1
 end
def uptoSmall : (H : Type) → List (DataW H) → Bool := fun _ ds => decide (uptoBulkAll ds ≤ 1048576)
def OpenSpec.upto (s : _root_.Go.ChangeSpec) : _root_.Go.OpenSpec := { _root_.Go.OpenSpec.ofChange s with cond := some uptoSmall }

/-- 'laws.FnExactIsDoor', WHERE WHAT IT READS IS OF BULK AT MOST 1048576: true; the input reads as it did. -/
def fnExactIsDoorUptoRow : OpenClaim := { program := "ytcnplmajlanmdaa", sum := "0f59ef43e2ad72b6768c0947692f23653a2ab8cb770583666406f50e06a68343", func := "loop.example/g01160/laws.FnExactIsDoor", spec := "fnExactIsDoor", unfollowed := true, recurses := true, apart := false, narrowed := true }
def FnExactIsDoorUptoSaid : Prop := fnExactIsDoorUptoRow.holds Try.pinned (OpenSpec.upto fnExactIsDoorSpec)

/-- 'laws.FnExactIsFull', WHERE WHAT IT READS IS OF BULK AT MOST 1048576: true; the input reads as it did. -/
def fnExactIsFullUptoRow : OpenClaim := { program := "ytcnplmajlanmdaa", sum := "0f59ef43e2ad72b6768c0947692f23653a2ab8cb770583666406f50e06a68343", func := "loop.example/g01160/laws.FnExactIsFull", spec := "fnExactIsFull", unfollowed := true, recurses := true, apart := false, narrowed := true }
def FnExactIsFullUptoSaid : Prop := fnExactIsFullUptoRow.holds Try.pinned (OpenSpec.upto fnExactIsFullSpec)

/-- 'laws.FnExactTurnsOfBorder', WHERE WHAT IT READS IS OF BULK AT MOST 1048576: true; the input reads as it did. -/
def fnExactTurnsOfBorderUptoRow : OpenClaim := { program := "ytcnplmajlanmdaa", sum := "0f59ef43e2ad72b6768c0947692f23653a2ab8cb770583666406f50e06a68343", func := "loop.example/g01160/laws.FnExactTurnsOfBorder", spec := "fnExactTurnsOfBorder", unfollowed := true, recurses := true, apart := false, narrowed := true }
def FnExactTurnsOfBorderUptoSaid : Prop := fnExactTurnsOfBorderUptoRow.holds Try.pinned (OpenSpec.upto fnExactTurnsOfBorderSpec)

/-- 'laws.FnExactFullCells', WHERE WHAT IT READS IS OF BULK AT MOST 1048576: true; the input reads as it did. -/
def fnExactFullCellsUptoRow : OpenClaim := { program := "ytcnplmajlanmdaa", sum := "0f59ef43e2ad72b6768c0947692f23653a2ab8cb770583666406f50e06a68343", func := "loop.example/g01160/laws.FnExactFullCells", spec := "fnExactFullCells", unfollowed := true, recurses := true, apart := false, narrowed := true }
def FnExactFullCellsUptoSaid : Prop := fnExactFullCellsUptoRow.holds Try.pinned (OpenSpec.upto fnExactFullCellsSpec)

/-- 'laws.FnExactDoorsOf', WHERE WHAT IT READS IS OF BULK AT MOST 1048576: true; the input reads as it did. -/
def fnExactDoorsOfUptoRow : OpenClaim := { program := "ytcnplmajlanmdaa", sum := "0f59ef43e2ad72b6768c0947692f23653a2ab8cb770583666406f50e06a68343", func := "loop.example/g01160/laws.FnExactDoorsOf", spec := "fnExactDoorsOf", unfollowed := true, recurses := true, apart := false, narrowed := true }
def FnExactDoorsOfUptoSaid : Prop := fnExactDoorsOfUptoRow.holds Try.pinned (OpenSpec.upto fnExactDoorsOfSpec)

/-- 'laws.FnExactSignOfFull', WHERE WHAT IT READS IS OF BULK AT MOST 1048576: true; the input reads as it did. -/
def fnExactSignOfFullUptoRow : OpenClaim := { program := "ytcnplmajlanmdaa", sum := "0f59ef43e2ad72b6768c0947692f23653a2ab8cb770583666406f50e06a68343", func := "loop.example/g01160/laws.FnExactSignOfFull", spec := "fnExactSignOfFull", unfollowed := true, recurses := true, apart := false, narrowed := true }
def FnExactSignOfFullUptoSaid : Prop := fnExactSignOfFullUptoRow.holds Try.pinned (OpenSpec.upto fnExactSignOfFullSpec)

/-- 'laws.FnExactBorderDoors', WHERE WHAT IT READS IS OF BULK AT MOST 1048576: true; the input reads as it did. -/
def fnExactBorderDoorsUptoRow : OpenClaim := { program := "ytcnplmajlanmdaa", sum := "0f59ef43e2ad72b6768c0947692f23653a2ab8cb770583666406f50e06a68343", func := "loop.example/g01160/laws.FnExactBorderDoors", spec := "fnExactBorderDoors", unfollowed := true, recurses := true, apart := false, narrowed := true }
def FnExactBorderDoorsUptoSaid : Prop := fnExactBorderDoorsUptoRow.holds Try.pinned (OpenSpec.upto fnExactBorderDoorsSpec)

/-- 'laws.FnExactDoorsOfCell', WHERE WHAT IT READS IS OF BULK AT MOST 1048576: true; the input reads as it did. -/
def fnExactDoorsOfCellUptoRow : OpenClaim := { program := "ytcnplmajlanmdaa", sum := "0f59ef43e2ad72b6768c0947692f23653a2ab8cb770583666406f50e06a68343", func := "loop.example/g01160/laws.FnExactDoorsOfCell", spec := "fnExactDoorsOfCell", unfollowed := true, recurses := true, apart := false, narrowed := true }
def FnExactDoorsOfCellUptoSaid : Prop := fnExactDoorsOfCellUptoRow.holds Try.pinned (OpenSpec.upto fnExactDoorsOfCellSpec)

/-- 'laws.FnExactDegreeOf', WHERE WHAT IT READS IS OF BULK AT MOST 1048576: true; the input reads as it did. -/
def fnExactDegreeOfUptoRow : OpenClaim := { program := "ytcnplmajlanmdaa", sum := "0f59ef43e2ad72b6768c0947692f23653a2ab8cb770583666406f50e06a68343", func := "loop.example/g01160/laws.FnExactDegreeOf", spec := "fnExactDegreeOf", unfollowed := true, recurses := true, apart := false, narrowed := true }
def FnExactDegreeOfUptoSaid : Prop := fnExactDegreeOfUptoRow.holds Try.pinned (OpenSpec.upto fnExactDegreeOfSpec)

end Rows
end Go.Proofs.Ytcnplmajlanmdaa
