/-
  No cell of these rows narrows 'for every input' (looked for: loops, veiled, ifaces, maps, wideKeys, modest, calm, conditions, laid).
  DERIVED. THE GIVEN ROWS OF THIS SEAT. 12 by the template 'for every input the law returns true; each argument reads behind the call as it read before'; 0 by the template 'total and deterministic' (their statements: YtenaefpbjblmbaaTotals.lean).
  GIVEN WITH THE SEED: the statements are not yours to turn. If you find one false, say at which input.
  Laid BY PROGRAM, IN A SANDBOX (cutbox-rows.mjs): the forced cells as the released guide's own fill.sh prints them over the translation bccd17a899127711… (all of the seat's roots in one cut). By AI agents, Wed Nov 11 2026. No macro, syntax, notation, axiom, sorry.
-/
import Derived.Test.YtenaefpbjblmbaaChecked
import GoSem.Claim
import GoSem.ClaimJoined
import GoSem.ClaimMapViews
import Derived.JoinedTies
import Derived.KernelRfl
namespace Go.Proofs.Ytenaefpbjblmbaa
/- THE CELL 'sum', in the pinned program and in every row, IS THE sha256 OF THE DUMP (.gsa) THAT YtenaefpbjblmbaaProg.lean LOADS. Nothing in Lean hashes anything: it is a label: what it is worth is what the hold of that sum in a sandbox is worth. -/
noncomputable def Try.pinned : Pinned := { name := "ytenaefpbjblmbaa", sum := "bccd17a899127711d0948cf8ddb49a7169ace3f7b5dcc92b470893fd43bb264b", checked := Try.checked }
namespace Rows
def none {H : Type} : Left H := { results := [], args := [] }

/-- 'laws.FnBoardsPlayed': WHATEVER THE INPUT: true; the input reads as it did. -/
def fnBoardsPlayedSpec : ChangeSpec := { name := "fnBoardsPlayed", fn := fun _ => fun
  | [d1, d2] => { results := [.lit (.bool true)], args := [d1, d2] }
  | _ => none }
def fnBoardsPlayedRow : OpenClaim := { program := "ytenaefpbjblmbaa", sum := "bccd17a899127711d0948cf8ddb49a7169ace3f7b5dcc92b470893fd43bb264b", func := "loop.example/g01160/laws.FnBoardsPlayed", spec := "fnBoardsPlayed", unfollowed := true, recurses := true, apart := false }
def FnBoardsPlayedSaid : Prop := fnBoardsPlayedRow.holds Try.pinned (OpenSpec.ofChange fnBoardsPlayedSpec)

/-- ITS FALSE NEIGHBOUR: 'it returns false'. Refute it at one input. -/
def fnBoardsPlayedWrong : ChangeSpec := { name := "fnBoardsPlayed", fn := fun _ => fun
  | [d1, d2] => { results := [.lit (.bool false)], args := [d1, d2] }
  | _ => none }
def FnBoardsPlayedWrongFalsely : Prop := fnBoardsPlayedRow.holds Try.pinned (OpenSpec.ofChange fnBoardsPlayedWrong)

/-- 'laws.FnExactIsBoard': WHATEVER THE INPUT: true; the input reads as it did. -/
def fnExactIsBoardSpec : ChangeSpec := { name := "fnExactIsBoard", fn := fun _ => fun
  | [d1, d2, d3] => { results := [.lit (.bool true)], args := [d1, d2, d3] }
  | _ => none }
def fnExactIsBoardRow : OpenClaim := { program := "ytenaefpbjblmbaa", sum := "bccd17a899127711d0948cf8ddb49a7169ace3f7b5dcc92b470893fd43bb264b", func := "loop.example/g01160/laws.FnExactIsBoard", spec := "fnExactIsBoard", unfollowed := true, recurses := true, apart := false }
def FnExactIsBoardSaid : Prop := fnExactIsBoardRow.holds Try.pinned (OpenSpec.ofChange fnExactIsBoardSpec)

/-- ITS FALSE NEIGHBOUR: 'it returns false'. Refute it at one input. -/
def fnExactIsBoardWrong : ChangeSpec := { name := "fnExactIsBoard", fn := fun _ => fun
  | [d1, d2, d3] => { results := [.lit (.bool false)], args := [d1, d2, d3] }
  | _ => none }
def FnExactIsBoardWrongFalsely : Prop := fnExactIsBoardRow.holds Try.pinned (OpenSpec.ofChange fnExactIsBoardWrong)

/-- 'laws.FnExactHexNear': WHATEVER THE INPUT: true; the input reads as it did. -/
def fnExactHexNearSpec : ChangeSpec := { name := "fnExactHexNear", fn := fun _ => fun
  | [d1, d2, d3] => { results := [.lit (.bool true)], args := [d1, d2, d3] }
  | _ => none }
def fnExactHexNearRow : OpenClaim := { program := "ytenaefpbjblmbaa", sum := "bccd17a899127711d0948cf8ddb49a7169ace3f7b5dcc92b470893fd43bb264b", func := "loop.example/g01160/laws.FnExactHexNear", spec := "fnExactHexNear", apart := false }
def FnExactHexNearSaid : Prop := fnExactHexNearRow.holds Try.pinned (OpenSpec.ofChange fnExactHexNearSpec)

/-- ITS FALSE NEIGHBOUR: 'it returns false'. Refute it at one input. -/
def fnExactHexNearWrong : ChangeSpec := { name := "fnExactHexNear", fn := fun _ => fun
  | [d1, d2, d3] => { results := [.lit (.bool false)], args := [d1, d2, d3] }
  | _ => none }
def FnExactHexNearWrongFalsely : Prop := fnExactHexNearRow.holds Try.pinned (OpenSpec.ofChange fnExactHexNearWrong)

/-- 'laws.FnExactTurnBoard': WHATEVER THE INPUT: true; the input reads as it did. -/
def fnExactTurnBoardSpec : ChangeSpec := { name := "fnExactTurnBoard", fn := fun _ => fun
  | [d1, d2, d3] => { results := [.lit (.bool true)], args := [d1, d2, d3] }
  | _ => none }
def fnExactTurnBoardRow : OpenClaim := { program := "ytenaefpbjblmbaa", sum := "bccd17a899127711d0948cf8ddb49a7169ace3f7b5dcc92b470893fd43bb264b", func := "loop.example/g01160/laws.FnExactTurnBoard", spec := "fnExactTurnBoard", unfollowed := true, recurses := true, apart := false }
def FnExactTurnBoardSaid : Prop := fnExactTurnBoardRow.holds Try.pinned (OpenSpec.ofChange fnExactTurnBoardSpec)

/-- ITS FALSE NEIGHBOUR: 'it returns false'. Refute it at one input. -/
def fnExactTurnBoardWrong : ChangeSpec := { name := "fnExactTurnBoard", fn := fun _ => fun
  | [d1, d2, d3] => { results := [.lit (.bool false)], args := [d1, d2, d3] }
  | _ => none }
def FnExactTurnBoardWrongFalsely : Prop := fnExactTurnBoardRow.holds Try.pinned (OpenSpec.ofChange fnExactTurnBoardWrong)

/-- 'laws.FnExactHalfTurn': WHATEVER THE INPUT: true; the input reads as it did. -/
def fnExactHalfTurnSpec : ChangeSpec := { name := "fnExactHalfTurn", fn := fun _ => fun
  | [d1, d2, d3] => { results := [.lit (.bool true)], args := [d1, d2, d3] }
  | _ => none }
def fnExactHalfTurnRow : OpenClaim := { program := "ytenaefpbjblmbaa", sum := "bccd17a899127711d0948cf8ddb49a7169ace3f7b5dcc92b470893fd43bb264b", func := "loop.example/g01160/laws.FnExactHalfTurn", spec := "fnExactHalfTurn", unfollowed := true, recurses := true, apart := false }
def FnExactHalfTurnSaid : Prop := fnExactHalfTurnRow.holds Try.pinned (OpenSpec.ofChange fnExactHalfTurnSpec)

/-- ITS FALSE NEIGHBOUR: 'it returns false'. Refute it at one input. -/
def fnExactHalfTurnWrong : ChangeSpec := { name := "fnExactHalfTurn", fn := fun _ => fun
  | [d1, d2, d3] => { results := [.lit (.bool false)], args := [d1, d2, d3] }
  | _ => none }
def FnExactHalfTurnWrongFalsely : Prop := fnExactHalfTurnRow.holds Try.pinned (OpenSpec.ofChange fnExactHalfTurnWrong)

/-- 'laws.FnExactCountWins': WHATEVER THE INPUT: true; the input reads as it did. -/
def fnExactCountWinsSpec : ChangeSpec := { name := "fnExactCountWins", fn := fun _ => fun
  | [d1, d2, d3] => { results := [.lit (.bool true)], args := [d1, d2, d3] }
  | _ => none }
def fnExactCountWinsRow : OpenClaim := { program := "ytenaefpbjblmbaa", sum := "bccd17a899127711d0948cf8ddb49a7169ace3f7b5dcc92b470893fd43bb264b", func := "loop.example/g01160/laws.FnExactCountWins", spec := "fnExactCountWins", unfollowed := true, recurses := true, apart := false }
def FnExactCountWinsSaid : Prop := fnExactCountWinsRow.holds Try.pinned (OpenSpec.ofChange fnExactCountWinsSpec)

/-- ITS FALSE NEIGHBOUR: 'it returns false'. Refute it at one input. -/
def fnExactCountWinsWrong : ChangeSpec := { name := "fnExactCountWins", fn := fun _ => fun
  | [d1, d2, d3] => { results := [.lit (.bool false)], args := [d1, d2, d3] }
  | _ => none }
def FnExactCountWinsWrongFalsely : Prop := fnExactCountWinsRow.holds Try.pinned (OpenSpec.ofChange fnExactCountWinsWrong)

/-- 'laws.FnExactHasWon': WHATEVER THE INPUT: true; the input reads as it did. -/
def fnExactHasWonSpec : ChangeSpec := { name := "fnExactHasWon", fn := fun _ => fun
  | [d1, d2, d3, d4] => { results := [.lit (.bool true)], args := [d1, d2, d3, d4] }
  | _ => none }
def fnExactHasWonRow : OpenClaim := { program := "ytenaefpbjblmbaa", sum := "bccd17a899127711d0948cf8ddb49a7169ace3f7b5dcc92b470893fd43bb264b", func := "loop.example/g01160/laws.FnExactHasWon", spec := "fnExactHasWon", unfollowed := true, recurses := true, apart := false }
def FnExactHasWonSaid : Prop := fnExactHasWonRow.holds Try.pinned (OpenSpec.ofChange fnExactHasWonSpec)

/-- ITS FALSE NEIGHBOUR: 'it returns false'. Refute it at one input. -/
def fnExactHasWonWrong : ChangeSpec := { name := "fnExactHasWon", fn := fun _ => fun
  | [d1, d2, d3, d4] => { results := [.lit (.bool false)], args := [d1, d2, d3, d4] }
  | _ => none }
def FnExactHasWonWrongFalsely : Prop := fnExactHasWonRow.holds Try.pinned (OpenSpec.ofChange fnExactHasWonWrong)

/-- 'laws.FnExactNeedOf': WHATEVER THE INPUT: true; the input reads as it did. -/
def fnExactNeedOfSpec : ChangeSpec := { name := "fnExactNeedOf", fn := fun _ => fun
  | [d1, d2, d3, d4] => { results := [.lit (.bool true)], args := [d1, d2, d3, d4] }
  | _ => none }
def fnExactNeedOfRow : OpenClaim := { program := "ytenaefpbjblmbaa", sum := "bccd17a899127711d0948cf8ddb49a7169ace3f7b5dcc92b470893fd43bb264b", func := "loop.example/g01160/laws.FnExactNeedOf", spec := "fnExactNeedOf", unfollowed := true, recurses := true, apart := false }
def FnExactNeedOfSaid : Prop := fnExactNeedOfRow.holds Try.pinned (OpenSpec.ofChange fnExactNeedOfSpec)

/-- ITS FALSE NEIGHBOUR: 'it returns false'. Refute it at one input. -/
def fnExactNeedOfWrong : ChangeSpec := { name := "fnExactNeedOf", fn := fun _ => fun
  | [d1, d2, d3, d4] => { results := [.lit (.bool false)], args := [d1, d2, d3, d4] }
  | _ => none }
def FnExactNeedOfWrongFalsely : Prop := fnExactNeedOfRow.holds Try.pinned (OpenSpec.ofChange fnExactNeedOfWrong)

/-- 'laws.FnExactWinnerOf': WHATEVER THE INPUT: true; the input reads as it did. -/
def fnExactWinnerOfSpec : ChangeSpec := { name := "fnExactWinnerOf", fn := fun _ => fun
  | [d1, d2, d3] => { results := [.lit (.bool true)], args := [d1, d2, d3] }
  | _ => none }
def fnExactWinnerOfRow : OpenClaim := { program := "ytenaefpbjblmbaa", sum := "bccd17a899127711d0948cf8ddb49a7169ace3f7b5dcc92b470893fd43bb264b", func := "loop.example/g01160/laws.FnExactWinnerOf", spec := "fnExactWinnerOf", unfollowed := true, recurses := true, apart := false }
def FnExactWinnerOfSaid : Prop := fnExactWinnerOfRow.holds Try.pinned (OpenSpec.ofChange fnExactWinnerOfSpec)

/-- ITS FALSE NEIGHBOUR: 'it returns false'. Refute it at one input. -/
def fnExactWinnerOfWrong : ChangeSpec := { name := "fnExactWinnerOf", fn := fun _ => fun
  | [d1, d2, d3] => { results := [.lit (.bool false)], args := [d1, d2, d3] }
  | _ => none }
def FnExactWinnerOfWrongFalsely : Prop := fnExactWinnerOfRow.holds Try.pinned (OpenSpec.ofChange fnExactWinnerOfWrong)

/-- 'laws.FnExactWinsMoving': WHATEVER THE INPUT: true; the input reads as it did. -/
def fnExactWinsMovingSpec : ChangeSpec := { name := "fnExactWinsMoving", fn := fun _ => fun
  | [d1, d2, d3, d4] => { results := [.lit (.bool true)], args := [d1, d2, d3, d4] }
  | _ => none }
def fnExactWinsMovingRow : OpenClaim := { program := "ytenaefpbjblmbaa", sum := "bccd17a899127711d0948cf8ddb49a7169ace3f7b5dcc92b470893fd43bb264b", func := "loop.example/g01160/laws.FnExactWinsMoving", spec := "fnExactWinsMoving", unfollowed := true, recurses := true, apart := false }
def FnExactWinsMovingSaid : Prop := fnExactWinsMovingRow.holds Try.pinned (OpenSpec.ofChange fnExactWinsMovingSpec)

/-- ITS FALSE NEIGHBOUR: 'it returns false'. Refute it at one input. -/
def fnExactWinsMovingWrong : ChangeSpec := { name := "fnExactWinsMoving", fn := fun _ => fun
  | [d1, d2, d3, d4] => { results := [.lit (.bool false)], args := [d1, d2, d3, d4] }
  | _ => none }
def FnExactWinsMovingWrongFalsely : Prop := fnExactWinsMovingRow.holds Try.pinned (OpenSpec.ofChange fnExactWinsMovingWrong)

/-- 'laws.FnExactFirstWinningMove': WHATEVER THE INPUT: true; the input reads as it did. -/
def fnExactFirstWinningMoveSpec : ChangeSpec := { name := "fnExactFirstWinningMove", fn := fun _ => fun
  | [d1, d2, d3, d4] => { results := [.lit (.bool true)], args := [d1, d2, d3, d4] }
  | _ => none }
def fnExactFirstWinningMoveRow : OpenClaim := { program := "ytenaefpbjblmbaa", sum := "bccd17a899127711d0948cf8ddb49a7169ace3f7b5dcc92b470893fd43bb264b", func := "loop.example/g01160/laws.FnExactFirstWinningMove", spec := "fnExactFirstWinningMove", unfollowed := true, recurses := true, apart := false }
def FnExactFirstWinningMoveSaid : Prop := fnExactFirstWinningMoveRow.holds Try.pinned (OpenSpec.ofChange fnExactFirstWinningMoveSpec)

/-- ITS FALSE NEIGHBOUR: 'it returns false'. Refute it at one input. -/
def fnExactFirstWinningMoveWrong : ChangeSpec := { name := "fnExactFirstWinningMove", fn := fun _ => fun
  | [d1, d2, d3, d4] => { results := [.lit (.bool false)], args := [d1, d2, d3, d4] }
  | _ => none }
def FnExactFirstWinningMoveWrongFalsely : Prop := fnExactFirstWinningMoveRow.holds Try.pinned (OpenSpec.ofChange fnExactFirstWinningMoveWrong)

/-- 'laws.FnPlacesNeeded': WHATEVER THE INPUT: true; the input reads as it did. -/
def fnPlacesNeededSpec : ChangeSpec := { name := "fnPlacesNeeded", fn := fun _ => fun
  | [d1, d2] => { results := [.lit (.bool true)], args := [d1, d2] }
  | _ => none }
def fnPlacesNeededRow : OpenClaim := { program := "ytenaefpbjblmbaa", sum := "bccd17a899127711d0948cf8ddb49a7169ace3f7b5dcc92b470893fd43bb264b", func := "loop.example/g01160/laws.FnPlacesNeeded", spec := "fnPlacesNeeded", unfollowed := true, recurses := true, apart := false }
def FnPlacesNeededSaid : Prop := fnPlacesNeededRow.holds Try.pinned (OpenSpec.ofChange fnPlacesNeededSpec)

/-- ITS FALSE NEIGHBOUR: 'it returns false'. Refute it at one input. -/
def fnPlacesNeededWrong : ChangeSpec := { name := "fnPlacesNeeded", fn := fun _ => fun
  | [d1, d2] => { results := [.lit (.bool false)], args := [d1, d2] }
  | _ => none }
def FnPlacesNeededWrongFalsely : Prop := fnPlacesNeededRow.holds Try.pinned (OpenSpec.ofChange fnPlacesNeededWrong)

/- THE SECOND FORM. 'bulk': how many values and letters a reading holds, each counted each time it is reached (what is shared counts as often as it is met; a slice's spare places count too). A statement '..UptoSaid' is the law's where the arguments, and the package variables that the reading takes, are together of bulk at most 1048576: NARROWER than '..Said'. Prove '..Said' where nothing that the law and all that it calls make is longer than what came in: it says more and counts as full. Else prove '..UptoSaid'. A law counts once. -/
mutual
def uptoBulk {H : Type} : DataW H → Nat
  | .lit (.string bytes) => bytes.length + 1
  | .lit _ => 1
  | .nil => 1
  | .ptr d => uptoBulk d + 1
  | .slice elems spare => uptoBulkAll elems + uptoBulkAll spare + 1
  | .agg parts => uptoBulkAll parts + 1
  | .iface _ d => uptoBulk d + 1
  | .map entries => uptoBulkEntries entries + 1
  | .held _ => 1
def uptoBulkAll {H : Type} : List (DataW H) → Nat
  | [] => 0
  | d :: r => uptoBulk d + uptoBulkAll r
def uptoBulkEntries {H : Type} : List (Lit × DataW H) → Nat
  | [] => 0
  | x :: r => uptoBulkEntry x + uptoBulkEntries r
def uptoBulkEntry {H : Type} : Lit × DataW H → Nat
  | (.string bytes, d) => bytes.length + uptoBulk d + 1
  | (_, d) => uptoBulk d + 1
 end
def uptoSmall : (H : Type) → List (DataW H) → Bool := fun _ ds => decide (uptoBulkAll ds ≤ 1048576)
def OpenSpec.upto (s : _root_.Go.ChangeSpec) : _root_.Go.OpenSpec := { _root_.Go.OpenSpec.ofChange s with cond := some uptoSmall }

/-- 'laws.FnBoardsPlayed', WHERE WHAT IT READS IS OF BULK AT MOST 1048576: true; the input reads as it did. -/
def fnBoardsPlayedUptoRow : OpenClaim := { program := "ytenaefpbjblmbaa", sum := "bccd17a899127711d0948cf8ddb49a7169ace3f7b5dcc92b470893fd43bb264b", func := "loop.example/g01160/laws.FnBoardsPlayed", spec := "fnBoardsPlayed", unfollowed := true, recurses := true, apart := false, narrowed := true }
def FnBoardsPlayedUptoSaid : Prop := fnBoardsPlayedUptoRow.holds Try.pinned (OpenSpec.upto fnBoardsPlayedSpec)

/-- 'laws.FnExactIsBoard', WHERE WHAT IT READS IS OF BULK AT MOST 1048576: true; the input reads as it did. -/
def fnExactIsBoardUptoRow : OpenClaim := { program := "ytenaefpbjblmbaa", sum := "bccd17a899127711d0948cf8ddb49a7169ace3f7b5dcc92b470893fd43bb264b", func := "loop.example/g01160/laws.FnExactIsBoard", spec := "fnExactIsBoard", unfollowed := true, recurses := true, apart := false, narrowed := true }
def FnExactIsBoardUptoSaid : Prop := fnExactIsBoardUptoRow.holds Try.pinned (OpenSpec.upto fnExactIsBoardSpec)

/-- 'laws.FnExactHexNear', WHERE WHAT IT READS IS OF BULK AT MOST 1048576: true; the input reads as it did. -/
def fnExactHexNearUptoRow : OpenClaim := { program := "ytenaefpbjblmbaa", sum := "bccd17a899127711d0948cf8ddb49a7169ace3f7b5dcc92b470893fd43bb264b", func := "loop.example/g01160/laws.FnExactHexNear", spec := "fnExactHexNear", apart := false, narrowed := true }
def FnExactHexNearUptoSaid : Prop := fnExactHexNearUptoRow.holds Try.pinned (OpenSpec.upto fnExactHexNearSpec)

/-- 'laws.FnExactTurnBoard', WHERE WHAT IT READS IS OF BULK AT MOST 1048576: true; the input reads as it did. -/
def fnExactTurnBoardUptoRow : OpenClaim := { program := "ytenaefpbjblmbaa", sum := "bccd17a899127711d0948cf8ddb49a7169ace3f7b5dcc92b470893fd43bb264b", func := "loop.example/g01160/laws.FnExactTurnBoard", spec := "fnExactTurnBoard", unfollowed := true, recurses := true, apart := false, narrowed := true }
def FnExactTurnBoardUptoSaid : Prop := fnExactTurnBoardUptoRow.holds Try.pinned (OpenSpec.upto fnExactTurnBoardSpec)

/-- 'laws.FnExactHalfTurn', WHERE WHAT IT READS IS OF BULK AT MOST 1048576: true; the input reads as it did. -/
def fnExactHalfTurnUptoRow : OpenClaim := { program := "ytenaefpbjblmbaa", sum := "bccd17a899127711d0948cf8ddb49a7169ace3f7b5dcc92b470893fd43bb264b", func := "loop.example/g01160/laws.FnExactHalfTurn", spec := "fnExactHalfTurn", unfollowed := true, recurses := true, apart := false, narrowed := true }
def FnExactHalfTurnUptoSaid : Prop := fnExactHalfTurnUptoRow.holds Try.pinned (OpenSpec.upto fnExactHalfTurnSpec)

/-- 'laws.FnExactCountWins', WHERE WHAT IT READS IS OF BULK AT MOST 1048576: true; the input reads as it did. -/
def fnExactCountWinsUptoRow : OpenClaim := { program := "ytenaefpbjblmbaa", sum := "bccd17a899127711d0948cf8ddb49a7169ace3f7b5dcc92b470893fd43bb264b", func := "loop.example/g01160/laws.FnExactCountWins", spec := "fnExactCountWins", unfollowed := true, recurses := true, apart := false, narrowed := true }
def FnExactCountWinsUptoSaid : Prop := fnExactCountWinsUptoRow.holds Try.pinned (OpenSpec.upto fnExactCountWinsSpec)

/-- 'laws.FnExactHasWon', WHERE WHAT IT READS IS OF BULK AT MOST 1048576: true; the input reads as it did. -/
def fnExactHasWonUptoRow : OpenClaim := { program := "ytenaefpbjblmbaa", sum := "bccd17a899127711d0948cf8ddb49a7169ace3f7b5dcc92b470893fd43bb264b", func := "loop.example/g01160/laws.FnExactHasWon", spec := "fnExactHasWon", unfollowed := true, recurses := true, apart := false, narrowed := true }
def FnExactHasWonUptoSaid : Prop := fnExactHasWonUptoRow.holds Try.pinned (OpenSpec.upto fnExactHasWonSpec)

/-- 'laws.FnExactNeedOf', WHERE WHAT IT READS IS OF BULK AT MOST 1048576: true; the input reads as it did. -/
def fnExactNeedOfUptoRow : OpenClaim := { program := "ytenaefpbjblmbaa", sum := "bccd17a899127711d0948cf8ddb49a7169ace3f7b5dcc92b470893fd43bb264b", func := "loop.example/g01160/laws.FnExactNeedOf", spec := "fnExactNeedOf", unfollowed := true, recurses := true, apart := false, narrowed := true }
def FnExactNeedOfUptoSaid : Prop := fnExactNeedOfUptoRow.holds Try.pinned (OpenSpec.upto fnExactNeedOfSpec)

/-- 'laws.FnExactWinnerOf', WHERE WHAT IT READS IS OF BULK AT MOST 1048576: true; the input reads as it did. -/
def fnExactWinnerOfUptoRow : OpenClaim := { program := "ytenaefpbjblmbaa", sum := "bccd17a899127711d0948cf8ddb49a7169ace3f7b5dcc92b470893fd43bb264b", func := "loop.example/g01160/laws.FnExactWinnerOf", spec := "fnExactWinnerOf", unfollowed := true, recurses := true, apart := false, narrowed := true }
def FnExactWinnerOfUptoSaid : Prop := fnExactWinnerOfUptoRow.holds Try.pinned (OpenSpec.upto fnExactWinnerOfSpec)

/-- 'laws.FnExactWinsMoving', WHERE WHAT IT READS IS OF BULK AT MOST 1048576: true; the input reads as it did. -/
def fnExactWinsMovingUptoRow : OpenClaim := { program := "ytenaefpbjblmbaa", sum := "bccd17a899127711d0948cf8ddb49a7169ace3f7b5dcc92b470893fd43bb264b", func := "loop.example/g01160/laws.FnExactWinsMoving", spec := "fnExactWinsMoving", unfollowed := true, recurses := true, apart := false, narrowed := true }
def FnExactWinsMovingUptoSaid : Prop := fnExactWinsMovingUptoRow.holds Try.pinned (OpenSpec.upto fnExactWinsMovingSpec)

/-- 'laws.FnExactFirstWinningMove', WHERE WHAT IT READS IS OF BULK AT MOST 1048576: true; the input reads as it did. -/
def fnExactFirstWinningMoveUptoRow : OpenClaim := { program := "ytenaefpbjblmbaa", sum := "bccd17a899127711d0948cf8ddb49a7169ace3f7b5dcc92b470893fd43bb264b", func := "loop.example/g01160/laws.FnExactFirstWinningMove", spec := "fnExactFirstWinningMove", unfollowed := true, recurses := true, apart := false, narrowed := true }
def FnExactFirstWinningMoveUptoSaid : Prop := fnExactFirstWinningMoveUptoRow.holds Try.pinned (OpenSpec.upto fnExactFirstWinningMoveSpec)

/-- 'laws.FnPlacesNeeded', WHERE WHAT IT READS IS OF BULK AT MOST 1048576: true; the input reads as it did. -/
def fnPlacesNeededUptoRow : OpenClaim := { program := "ytenaefpbjblmbaa", sum := "bccd17a899127711d0948cf8ddb49a7169ace3f7b5dcc92b470893fd43bb264b", func := "loop.example/g01160/laws.FnPlacesNeeded", spec := "fnPlacesNeeded", unfollowed := true, recurses := true, apart := false, narrowed := true }
def FnPlacesNeededUptoSaid : Prop := fnPlacesNeededUptoRow.holds Try.pinned (OpenSpec.upto fnPlacesNeededSpec)

end Rows
end Go.Proofs.Ytenaefpbjblmbaa
