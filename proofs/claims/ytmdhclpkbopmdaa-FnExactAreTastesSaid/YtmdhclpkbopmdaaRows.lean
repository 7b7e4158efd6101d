/-
  No cell of these rows narrows 'for every input' (looked for: loops, veiled, ifaces, maps, wideKeys, modest, calm, conditions, laid).
  DERIVED. THE GIVEN ROWS OF THIS SEAT. 12 by the template 'for every input the law returns true; each argument reads behind the call as it read before'; 0 by the template 'total and deterministic' (their statements: YtmdhclpkbopmdaaTotals.lean).
  GIVEN WITH THE SEED: the statements are not yours to turn. If you find one false, say at which input.
  Laid BY PROGRAM, IN A SANDBOX (cutbox-rows.mjs): the forced cells as the released guide's own fill.sh prints them over the translation 2077e3147c3864d2… (all of the seat's roots in one cut). By AI agents, Wed Nov 11 2026. No macro, syntax, notation, axiom, sorry.
-/
import Derived.Test.YtmdhclpkbopmdaaChecked
import GoSem.Claim
import GoSem.ClaimJoined
import GoSem.ClaimMapViews
import Derived.JoinedTies
import Derived.KernelRfl
namespace Go.Proofs.Ytmdhclpkbopmdaa
/- THE CELL 'sum', in the pinned program and in every row, IS THE sha256 OF THE DUMP (.gsa) THAT YtmdhclpkbopmdaaProg.lean LOADS. Nothing in Lean hashes anything: it is a label: what it is worth is what the hold of that sum in a sandbox is worth. -/
noncomputable def Try.pinned : Pinned := { name := "ytmdhclpkbopmdaa", sum := "2077e3147c3864d2cfd7bec01861f6f5ed860d260ee52a7992665533dac44c83", checked := Try.checked }
namespace Rows
def none {H : Type} : Left H := { results := [], args := [] }

/-- 'laws.FnExactOwnerAt': WHATEVER THE INPUT: true; the input reads as it did. -/
def fnExactOwnerAtSpec : ChangeSpec := { name := "fnExactOwnerAt", fn := fun _ => fun
  | [d1, d2] => { results := [.lit (.bool true)], args := [d1, d2] }
  | _ => none }
def fnExactOwnerAtRow : OpenClaim := { program := "ytmdhclpkbopmdaa", sum := "2077e3147c3864d2cfd7bec01861f6f5ed860d260ee52a7992665533dac44c83", func := "loop.example/g01160/laws.FnExactOwnerAt", spec := "fnExactOwnerAt", unfollowed := true, recurses := true, apart := false }
def FnExactOwnerAtSaid : Prop := fnExactOwnerAtRow.holds Try.pinned (OpenSpec.ofChange fnExactOwnerAtSpec)

/-- ITS FALSE NEIGHBOUR: 'it returns false'. Refute it at one input. -/
def fnExactOwnerAtWrong : ChangeSpec := { name := "fnExactOwnerAt", fn := fun _ => fun
  | [d1, d2] => { results := [.lit (.bool false)], args := [d1, d2] }
  | _ => none }
def FnExactOwnerAtWrongFalsely : Prop := fnExactOwnerAtRow.holds Try.pinned (OpenSpec.ofChange fnExactOwnerAtWrong)

/-- 'laws.FnExactAreTastes': WHATEVER THE INPUT: true; the input reads as it did. -/
def fnExactAreTastesSpec : ChangeSpec := { name := "fnExactAreTastes", fn := fun _ => fun
  | [d1, d2] => { results := [.lit (.bool true)], args := [d1, d2] }
  | _ => none }
def fnExactAreTastesRow : OpenClaim := { program := "ytmdhclpkbopmdaa", sum := "2077e3147c3864d2cfd7bec01861f6f5ed860d260ee52a7992665533dac44c83", func := "loop.example/g01160/laws.FnExactAreTastes", spec := "fnExactAreTastes", unfollowed := true, recurses := true, apart := false }
def FnExactAreTastesSaid : Prop := fnExactAreTastesRow.holds Try.pinned (OpenSpec.ofChange fnExactAreTastesSpec)

/-- ITS FALSE NEIGHBOUR: 'it returns false'. Refute it at one input. -/
def fnExactAreTastesWrong : ChangeSpec := { name := "fnExactAreTastes", fn := fun _ => fun
  | [d1, d2] => { results := [.lit (.bool false)], args := [d1, d2] }
  | _ => none }
def FnExactAreTastesWrongFalsely : Prop := fnExactAreTastesRow.holds Try.pinned (OpenSpec.ofChange fnExactAreTastesWrong)

/-- 'laws.FnExactSquareBorder': WHATEVER THE INPUT: true; the input reads as it did. -/
def fnExactSquareBorderSpec : ChangeSpec := { name := "fnExactSquareBorder", fn := fun _ => fun
  | [d] => { results := [.lit (.bool true)], args := [d] }
  | _ => none }
def fnExactSquareBorderRow : OpenClaim := { program := "ytmdhclpkbopmdaa", sum := "2077e3147c3864d2cfd7bec01861f6f5ed860d260ee52a7992665533dac44c83", func := "loop.example/g01160/laws.FnExactSquareBorder", spec := "fnExactSquareBorder", apart := false }
def FnExactSquareBorderSaid : Prop := fnExactSquareBorderRow.holds Try.pinned (OpenSpec.ofChange fnExactSquareBorderSpec)

/-- ITS FALSE NEIGHBOUR: 'it returns false'. Refute it at one input. -/
def fnExactSquareBorderWrong : ChangeSpec := { name := "fnExactSquareBorder", fn := fun _ => fun
  | [d] => { results := [.lit (.bool false)], args := [d] }
  | _ => none }
def FnExactSquareBorderWrongFalsely : Prop := fnExactSquareBorderRow.holds Try.pinned (OpenSpec.ofChange fnExactSquareBorderWrong)

/-- 'laws.FnExactNegateLabels': WHATEVER THE INPUT: true; the input reads as it did. -/
def fnExactNegateLabelsSpec : ChangeSpec := { name := "fnExactNegateLabels", fn := fun _ => fun
  | [d1, d2] => { results := [.lit (.bool true)], args := [d1, d2] }
  | _ => none }
def fnExactNegateLabelsRow : OpenClaim := { program := "ytmdhclpkbopmdaa", sum := "2077e3147c3864d2cfd7bec01861f6f5ed860d260ee52a7992665533dac44c83", func := "loop.example/g01160/laws.FnExactNegateLabels", spec := "fnExactNegateLabels", unfollowed := true, recurses := true, apart := false }
def FnExactNegateLabelsSaid : Prop := fnExactNegateLabelsRow.holds Try.pinned (OpenSpec.ofChange fnExactNegateLabelsSpec)

/-- ITS FALSE NEIGHBOUR: 'it returns false'. Refute it at one input. -/
def fnExactNegateLabelsWrong : ChangeSpec := { name := "fnExactNegateLabels", fn := fun _ => fun
  | [d1, d2] => { results := [.lit (.bool false)], args := [d1, d2] }
  | _ => none }
def FnExactNegateLabelsWrongFalsely : Prop := fnExactNegateLabelsRow.holds Try.pinned (OpenSpec.ofChange fnExactNegateLabelsWrong)

/-- 'laws.FnExactAddTurn': WHATEVER THE INPUT: true; the input reads as it did. -/
def fnExactAddTurnSpec : ChangeSpec := { name := "fnExactAddTurn", fn := fun _ => fun
  | [d1, d2] => { results := [.lit (.bool true)], args := [d1, d2] }
  | _ => none }
def fnExactAddTurnRow : OpenClaim := { program := "ytmdhclpkbopmdaa", sum := "2077e3147c3864d2cfd7bec01861f6f5ed860d260ee52a7992665533dac44c83", func := "loop.example/g01160/laws.FnExactAddTurn", spec := "fnExactAddTurn", unfollowed := true, recurses := true, apart := false }
def FnExactAddTurnSaid : Prop := fnExactAddTurnRow.holds Try.pinned (OpenSpec.ofChange fnExactAddTurnSpec)

/-- ITS FALSE NEIGHBOUR: 'it returns false'. Refute it at one input. -/
def fnExactAddTurnWrong : ChangeSpec := { name := "fnExactAddTurn", fn := fun _ => fun
  | [d1, d2] => { results := [.lit (.bool false)], args := [d1, d2] }
  | _ => none }
def FnExactAddTurnWrongFalsely : Prop := fnExactAddTurnRow.holds Try.pinned (OpenSpec.ofChange fnExactAddTurnWrong)

/-- 'laws.FnExactSquareCells': WHATEVER THE INPUT: true; the input reads as it did. -/
def fnExactSquareCellsSpec : ChangeSpec := { name := "fnExactSquareCells", fn := fun _ => fun
  | [d] => { results := [.lit (.bool true)], args := [d] }
  | _ => none }
def fnExactSquareCellsRow : OpenClaim := { program := "ytmdhclpkbopmdaa", sum := "2077e3147c3864d2cfd7bec01861f6f5ed860d260ee52a7992665533dac44c83", func := "loop.example/g01160/laws.FnExactSquareCells", spec := "fnExactSquareCells", apart := false }
def FnExactSquareCellsSaid : Prop := fnExactSquareCellsRow.holds Try.pinned (OpenSpec.ofChange fnExactSquareCellsSpec)

/-- ITS FALSE NEIGHBOUR: 'it returns false'. Refute it at one input. -/
def fnExactSquareCellsWrong : ChangeSpec := { name := "fnExactSquareCells", fn := fun _ => fun
  | [d] => { results := [.lit (.bool false)], args := [d] }
  | _ => none }
def FnExactSquareCellsWrongFalsely : Prop := fnExactSquareCellsRow.holds Try.pinned (OpenSpec.ofChange fnExactSquareCellsWrong)

/-- 'laws.FnExactAreOpposite': WHATEVER THE INPUT: true; the input reads as it did. -/
def fnExactAreOppositeSpec : ChangeSpec := { name := "fnExactAreOpposite", fn := fun _ => fun
  | [d1, d2] => { results := [.lit (.bool true)], args := [d1, d2] }
  | _ => none }
def fnExactAreOppositeRow : OpenClaim := { program := "ytmdhclpkbopmdaa", sum := "2077e3147c3864d2cfd7bec01861f6f5ed860d260ee52a7992665533dac44c83", func := "loop.example/g01160/laws.FnExactAreOpposite", spec := "fnExactAreOpposite", unfollowed := true, recurses := true, apart := false }
def FnExactAreOppositeSaid : Prop := fnExactAreOppositeRow.holds Try.pinned (OpenSpec.ofChange fnExactAreOppositeSpec)

/-- ITS FALSE NEIGHBOUR: 'it returns false'. Refute it at one input. -/
def fnExactAreOppositeWrong : ChangeSpec := { name := "fnExactAreOpposite", fn := fun _ => fun
  | [d1, d2] => { results := [.lit (.bool false)], args := [d1, d2] }
  | _ => none }
def FnExactAreOppositeWrongFalsely : Prop := fnExactAreOppositeRow.holds Try.pinned (OpenSpec.ofChange fnExactAreOppositeWrong)

/-- 'laws.FnExactOppositeEdges': WHATEVER THE INPUT: true; the input reads as it did. -/
def fnExactOppositeEdgesSpec : ChangeSpec := { name := "fnExactOppositeEdges", fn := fun _ => fun
  | [d1, d2] => { results := [.lit (.bool true)], args := [d1, d2] }
  | _ => none }
def fnExactOppositeEdgesRow : OpenClaim := { program := "ytmdhclpkbopmdaa", sum := "2077e3147c3864d2cfd7bec01861f6f5ed860d260ee52a7992665533dac44c83", func := "loop.example/g01160/laws.FnExactOppositeEdges", spec := "fnExactOppositeEdges", unfollowed := true, recurses := true, apart := false }
def FnExactOppositeEdgesSaid : Prop := fnExactOppositeEdgesRow.holds Try.pinned (OpenSpec.ofChange fnExactOppositeEdgesSpec)

/-- ITS FALSE NEIGHBOUR: 'it returns false'. Refute it at one input. -/
def fnExactOppositeEdgesWrong : ChangeSpec := { name := "fnExactOppositeEdges", fn := fun _ => fun
  | [d1, d2] => { results := [.lit (.bool false)], args := [d1, d2] }
  | _ => none }
def FnExactOppositeEdgesWrongFalsely : Prop := fnExactOppositeEdgesRow.holds Try.pinned (OpenSpec.ofChange fnExactOppositeEdgesWrong)

/-- 'laws.FnExactSquareTurns': WHATEVER THE INPUT: true; the input reads as it did. -/
def fnExactSquareTurnsSpec : ChangeSpec := { name := "fnExactSquareTurns", fn := fun _ => fun
  | [d1, d2] => { results := [.lit (.bool true)], args := [d1, d2] }
  | _ => none }
def fnExactSquareTurnsRow : OpenClaim := { program := "ytmdhclpkbopmdaa", sum := "2077e3147c3864d2cfd7bec01861f6f5ed860d260ee52a7992665533dac44c83", func := "loop.example/g01160/laws.FnExactSquareTurns", spec := "fnExactSquareTurns", unfollowed := true, recurses := true, apart := false }
def FnExactSquareTurnsSaid : Prop := fnExactSquareTurnsRow.holds Try.pinned (OpenSpec.ofChange fnExactSquareTurnsSpec)

/-- ITS FALSE NEIGHBOUR: 'it returns false'. Refute it at one input. -/
def fnExactSquareTurnsWrong : ChangeSpec := { name := "fnExactSquareTurns", fn := fun _ => fun
  | [d1, d2] => { results := [.lit (.bool false)], args := [d1, d2] }
  | _ => none }
def FnExactSquareTurnsWrongFalsely : Prop := fnExactSquareTurnsRow.holds Try.pinned (OpenSpec.ofChange fnExactSquareTurnsWrong)

/-- 'laws.FnExactSquareDoors': WHATEVER THE INPUT: true; the input reads as it did. -/
def fnExactSquareDoorsSpec : ChangeSpec := { name := "fnExactSquareDoors", fn := fun _ => fun
  | [d1, d2] => { results := [.lit (.bool true)], args := [d1, d2] }
  | _ => none }
def fnExactSquareDoorsRow : OpenClaim := { program := "ytmdhclpkbopmdaa", sum := "2077e3147c3864d2cfd7bec01861f6f5ed860d260ee52a7992665533dac44c83", func := "loop.example/g01160/laws.FnExactSquareDoors", spec := "fnExactSquareDoors", unfollowed := true, recurses := true, apart := false }
def FnExactSquareDoorsSaid : Prop := fnExactSquareDoorsRow.holds Try.pinned (OpenSpec.ofChange fnExactSquareDoorsSpec)

/-- ITS FALSE NEIGHBOUR: 'it returns false'. Refute it at one input. -/
def fnExactSquareDoorsWrong : ChangeSpec := { name := "fnExactSquareDoors", fn := fun _ => fun
  | [d1, d2] => { results := [.lit (.bool false)], args := [d1, d2] }
  | _ => none }
def FnExactSquareDoorsWrongFalsely : Prop := fnExactSquareDoorsRow.holds Try.pinned (OpenSpec.ofChange fnExactSquareDoorsWrong)

/-- 'laws.FnSquaresAreCut': WHATEVER THE INPUT: true; the input reads as it did. -/
def fnSquaresAreCutSpec : ChangeSpec := { name := "fnSquaresAreCut", fn := fun _ => fun
  | [d1, d2] => { results := [.lit (.bool true)], args := [d1, d2] }
  | _ => none }
def fnSquaresAreCutRow : OpenClaim := { program := "ytmdhclpkbopmdaa", sum := "2077e3147c3864d2cfd7bec01861f6f5ed860d260ee52a7992665533dac44c83", func := "loop.example/g01160/laws.FnSquaresAreCut", spec := "fnSquaresAreCut", apart := false }
def FnSquaresAreCutSaid : Prop := fnSquaresAreCutRow.holds Try.pinned (OpenSpec.ofChange fnSquaresAreCutSpec)

/-- ITS FALSE NEIGHBOUR: 'it returns false'. Refute it at one input. -/
def fnSquaresAreCutWrong : ChangeSpec := { name := "fnSquaresAreCut", fn := fun _ => fun
  | [d1, d2] => { results := [.lit (.bool false)], args := [d1, d2] }
  | _ => none }
def FnSquaresAreCutWrongFalsely : Prop := fnSquaresAreCutRow.holds Try.pinned (OpenSpec.ofChange fnSquaresAreCutWrong)

/-- 'laws.FnTurnsAreOdd': WHATEVER THE INPUT: true; the input reads as it did. -/
def fnTurnsAreOddSpec : ChangeSpec := { name := "fnTurnsAreOdd", fn := fun _ => fun
  | [d1, d2] => { results := [.lit (.bool true)], args := [d1, d2] }
  | _ => none }
def fnTurnsAreOddRow : OpenClaim := { program := "ytmdhclpkbopmdaa", sum := "2077e3147c3864d2cfd7bec01861f6f5ed860d260ee52a7992665533dac44c83", func := "loop.example/g01160/laws.FnTurnsAreOdd", spec := "fnTurnsAreOdd", unfollowed := true, recurses := true, apart := false }
def FnTurnsAreOddSaid : Prop := fnTurnsAreOddRow.holds Try.pinned (OpenSpec.ofChange fnTurnsAreOddSpec)

/-- ITS FALSE NEIGHBOUR: 'it returns false'. Refute it at one input. -/
def fnTurnsAreOddWrong : ChangeSpec := { name := "fnTurnsAreOdd", fn := fun _ => fun
  | [d1, d2] => { results := [.lit (.bool false)], args := [d1, d2] }
  | _ => none }
def FnTurnsAreOddWrongFalsely : Prop := fnTurnsAreOddRow.holds Try.pinned (OpenSpec.ofChange fnTurnsAreOddWrong)

/- THE SECOND FORM. 'bulk': how many values and letters a reading holds, each counted each time it is reached (what is shared counts as often as it is met; a slice's spare places count too). A statement '..UptoSaid' is the law's where the arguments, and the package variables that the reading takes, are together of bulk at most 1048576: NARROWER than '..Said'. Prove '..Said' where nothing that the law and all that it calls make is longer than what came in: it says more and counts as full. Else prove '..UptoSaid'. A law counts once. -/
mutual
def uptoBulk {H : Type} : DataW H → Nat
  | .lit (.string bytes) => bytes.length + 1
  | .lit _ => 1
  | .nil => 1
  | .ptr d => uptoBulk d + 1
  | .slice elems spare => uptoBulkAll elems + uptoBulkAll spare + 1
  | .agg parts => uptoBulkAll parts + 1
  | .iface _ d => uptoBulk d + 1
  | .map entries => uptoBulkEntries entries + 1
  | .held _ => 1
def uptoBulkAll {H : Type} : List (DataW H) → Nat
  | [] => 0
  | d :: r => uptoBulk d + uptoBulkAll r
def uptoBulkEntries {H : Type} : List (Lit × DataW H) → Nat
  | [] => 0
  | x :: r => uptoBulkEntry x + uptoBulkEntries r
def uptoBulkEntry {H : Type} : Lit × DataW H → Nat
  | (.string bytes, d) => bytes.length + uptoBulk d + 1
  | (_, d) => uptoBulk d + 1
 end
def uptoSmall : (H : Type) → List (DataW H) → Bool := fun _ ds => decide (uptoBulkAll ds ≤ 1048576)
def OpenSpec.upto (s : _root_.Go.ChangeSpec) : _root_.Go.OpenSpec := { _root_.Go.OpenSpec.ofChange s with cond := some uptoSmall }

/-- 'laws.FnExactOwnerAt', WHERE WHAT IT READS IS OF BULK AT MOST 1048576: true; the input reads as it did. -/
def fnExactOwnerAtUptoRow : OpenClaim := { program := "ytmdhclpkbopmdaa", sum := "2077e3147c3864d2cfd7bec01861f6f5ed860d260ee52a7992665533dac44c83", func := "loop.example/g01160/laws.FnExactOwnerAt", spec := "fnExactOwnerAt", unfollowed := true, recurses := true, apart := false, narrowed := true }
def FnExactOwnerAtUptoSaid : Prop := fnExactOwnerAtUptoRow.holds Try.pinned (OpenSpec.upto fnExactOwnerAtSpec)

/-- 'laws.FnExactAreTastes', WHERE WHAT IT READS IS OF BULK AT MOST 1048576: true; the input reads as it did. -/
def fnExactAreTastesUptoRow : OpenClaim := { program := "ytmdhclpkbopmdaa", sum := "2077e3147c3864d2cfd7bec01861f6f5ed860d260ee52a7992665533dac44c83", func := "loop.example/g01160/laws.FnExactAreTastes", spec := "fnExactAreTastes", unfollowed := true, recurses := true, apart := false, narrowed := true }
def FnExactAreTastesUptoSaid : Prop := fnExactAreTastesUptoRow.holds Try.pinned (OpenSpec.upto fnExactAreTastesSpec)

/-- 'laws.FnExactSquareBorder', WHERE WHAT IT READS IS OF BULK AT MOST 1048576: true; the input reads as it did. -/
def fnExactSquareBorderUptoRow : OpenClaim := { program := "ytmdhclpkbopmdaa", sum := "2077e3147c3864d2cfd7bec01861f6f5ed860d260ee52a7992665533dac44c83", func := "loop.example/g01160/laws.FnExactSquareBorder", spec := "fnExactSquareBorder", apart := false, narrowed := true }
def FnExactSquareBorderUptoSaid : Prop := fnExactSquareBorderUptoRow.holds Try.pinned (OpenSpec.upto fnExactSquareBorderSpec)

/-- 'laws.FnExactNegateLabels', WHERE WHAT IT READS IS OF BULK AT MOST 1048576: true; the input reads as it did. -/
def fnExactNegateLabelsUptoRow : OpenClaim := { program := "ytmdhclpkbopmdaa", sum := "2077e3147c3864d2cfd7bec01861f6f5ed860d260ee52a7992665533dac44c83", func := "loop.example/g01160/laws.FnExactNegateLabels", spec := "fnExactNegateLabels", unfollowed := true, recurses := true, apart := false, narrowed := true }
def FnExactNegateLabelsUptoSaid : Prop := fnExactNegateLabelsUptoRow.holds Try.pinned (OpenSpec.upto fnExactNegateLabelsSpec)

/-- 'laws.FnExactAddTurn', WHERE WHAT IT READS IS OF BULK AT MOST 1048576: true; the input reads as it did. -/
def fnExactAddTurnUptoRow : OpenClaim := { program := "ytmdhclpkbopmdaa", sum := "2077e3147c3864d2cfd7bec01861f6f5ed860d260ee52a7992665533dac44c83", func := "loop.example/g01160/laws.FnExactAddTurn", spec := "fnExactAddTurn", unfollowed := true, recurses := true, apart := false, narrowed := true }
def FnExactAddTurnUptoSaid : Prop := fnExactAddTurnUptoRow.holds Try.pinned (OpenSpec.upto fnExactAddTurnSpec)

/-- 'laws.FnExactSquareCells', WHERE WHAT IT READS IS OF BULK AT MOST 1048576: true; the input reads as it did. -/
def fnExactSquareCellsUptoRow : OpenClaim := { program := "ytmdhclpkbopmdaa", sum := "2077e3147c3864d2cfd7bec01861f6f5ed860d260ee52a7992665533dac44c83", func := "loop.example/g01160/laws.FnExactSquareCells", spec := "fnExactSquareCells", apart := false, narrowed := true }
def FnExactSquareCellsUptoSaid : Prop := fnExactSquareCellsUptoRow.holds Try.pinned (OpenSpec.upto fnExactSquareCellsSpec)

/-- 'laws.FnExactAreOpposite', WHERE WHAT IT READS IS OF BULK AT MOST 1048576: true; the input reads as it did. -/
def fnExactAreOppositeUptoRow : OpenClaim := { program := "ytmdhclpkbopmdaa", sum := "2077e3147c3864d2cfd7bec01861f6f5ed860d260ee52a7992665533dac44c83", func := "loop.example/g01160/laws.FnExactAreOpposite", spec := "fnExactAreOpposite", unfollowed := true, recurses := true, apart := false, narrowed := true }
def FnExactAreOppositeUptoSaid : Prop := fnExactAreOppositeUptoRow.holds Try.pinned (OpenSpec.upto fnExactAreOppositeSpec)

/-- 'laws.FnExactOppositeEdges', WHERE WHAT IT READS IS OF BULK AT MOST 1048576: true; the input reads as it did. -/
def fnExactOppositeEdgesUptoRow : OpenClaim := { program := "ytmdhclpkbopmdaa", sum := "2077e3147c3864d2cfd7bec01861f6f5ed860d260ee52a7992665533dac44c83", func := "loop.example/g01160/laws.FnExactOppositeEdges", spec := "fnExactOppositeEdges", unfollowed := true, recurses := true, apart := false, narrowed := true }
def FnExactOppositeEdgesUptoSaid : Prop := fnExactOppositeEdgesUptoRow.holds Try.pinned (OpenSpec.upto fnExactOppositeEdgesSpec)

/-- 'laws.FnExactSquareTurns', WHERE WHAT IT READS IS OF BULK AT MOST 1048576: true; the input reads as it did. -/
def fnExactSquareTurnsUptoRow : OpenClaim := { program := "ytmdhclpkbopmdaa", sum := "2077e3147c3864d2cfd7bec01861f6f5ed860d260ee52a7992665533dac44c83", func := "loop.example/g01160/laws.FnExactSquareTurns", spec := "fnExactSquareTurns", unfollowed := true, recurses := true, apart := false, narrowed := true }
def FnExactSquareTurnsUptoSaid : Prop := fnExactSquareTurnsUptoRow.holds Try.pinned (OpenSpec.upto fnExactSquareTurnsSpec)

/-- 'laws.FnExactSquareDoors', WHERE WHAT IT READS IS OF BULK AT MOST 1048576: true; the input reads as it did. -/
def fnExactSquareDoorsUptoRow : OpenClaim := { program := "ytmdhclpkbopmdaa", sum := "2077e3147c3864d2cfd7bec01861f6f5ed860d260ee52a7992665533dac44c83", func := "loop.example/g01160/laws.FnExactSquareDoors", spec := "fnExactSquareDoors", unfollowed := true, recurses := true, apart := false, narrowed := true }
def FnExactSquareDoorsUptoSaid : Prop := fnExactSquareDoorsUptoRow.holds Try.pinned (OpenSpec.upto fnExactSquareDoorsSpec)

/-- 'laws.FnSquaresAreCut', WHERE WHAT IT READS IS OF BULK AT MOST 1048576: true; the input reads as it did. -/
def fnSquaresAreCutUptoRow : OpenClaim := { program := "ytmdhclpkbopmdaa", sum := "2077e3147c3864d2cfd7bec01861f6f5ed860d260ee52a7992665533dac44c83", func := "loop.example/g01160/laws.FnSquaresAreCut", spec := "fnSquaresAreCut", apart := false, narrowed := true }
def FnSquaresAreCutUptoSaid : Prop := fnSquaresAreCutUptoRow.holds Try.pinned (OpenSpec.upto fnSquaresAreCutSpec)

/-- 'laws.FnTurnsAreOdd', WHERE WHAT IT READS IS OF BULK AT MOST 1048576: true; the input reads as it did. -/
def fnTurnsAreOddUptoRow : OpenClaim := { program := "ytmdhclpkbopmdaa", sum := "2077e3147c3864d2cfd7bec01861f6f5ed860d260ee52a7992665533dac44c83", func := "loop.example/g01160/laws.FnTurnsAreOdd", spec := "fnTurnsAreOdd", unfollowed := true, recurses := true, apart := false, narrowed := true }
def FnTurnsAreOddUptoSaid : Prop := fnTurnsAreOddUptoRow.holds Try.pinned (OpenSpec.upto fnTurnsAreOddSpec)

end Rows
end Go.Proofs.Ytmdhclpkbopmdaa
