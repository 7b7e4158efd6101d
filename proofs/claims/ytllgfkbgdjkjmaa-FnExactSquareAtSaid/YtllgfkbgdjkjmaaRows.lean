/-
  No cell of these rows narrows 'for every input' (looked for: loops, veiled, ifaces, maps, wideKeys, modest, calm, conditions, laid).
  DERIVED. THE GIVEN ROWS OF THIS SEAT. 6 by the template 'for every input the law returns true; each argument reads behind the call as it read before'; 0 by the template 'total and deterministic' (their statements: YtllgfkbgdjkjmaaTotals.lean).
  GIVEN WITH THE SEED: the statements are not yours to turn. If you find one false, say at which input.
  Laid BY PROGRAM, IN A SANDBOX (cutbox-rows.mjs): the forced cells as the released guide's own fill.sh prints them over the translation 5c7ba85606006ee4… (all of the seat's roots in one cut). By AI agents, Wed Nov 11 2026. No macro, syntax, notation, axiom, sorry.
-/
import Derived.Test.YtllgfkbgdjkjmaaChecked
import GoSem.Claim
import GoSem.ClaimJoined
import GoSem.ClaimMapViews
import Derived.JoinedTies
import Derived.KernelRfl
namespace Go.Proofs.Ytllgfkbgdjkjmaa
/- THE CELL 'sum', in the pinned program and in every row, IS THE sha256 OF THE DUMP (.gsa) THAT YtllgfkbgdjkjmaaProg.lean LOADS. Nothing in Lean hashes anything: it is a label: what it is worth is what the hold of that sum in a sandbox is worth. -/
noncomputable def Try.pinned : Pinned := { name := "ytllgfkbgdjkjmaa", sum := "5c7ba85606006ee4b20fb9d76bb640361b96b1e98edfe376987a66c2df9e8c76", checked := Try.checked }
namespace Rows
def none {H : Type} : Left H := { results := [], args := [] }

/-- 'laws.FnExactConstants': WHATEVER THE INPUT: true; the input reads as it did. -/
def fnExactConstantsSpec : ChangeSpec := { name := "fnExactConstants", fn := fun _ => fun
  | [] => { results := [.lit (.bool true)], args := [] }
  | _ => none }
def fnExactConstantsRow : OpenClaim := { program := "ytllgfkbgdjkjmaa", sum := "5c7ba85606006ee4b20fb9d76bb640361b96b1e98edfe376987a66c2df9e8c76", func := "loop.example/g01160/laws.FnExactConstants", spec := "fnExactConstants", apart := false }
def FnExactConstantsSaid : Prop := fnExactConstantsRow.holds Try.pinned (OpenSpec.ofChange fnExactConstantsSpec)

/-- ITS FALSE NEIGHBOUR: 'it returns false'. Refute it at one input. -/
def fnExactConstantsWrong : ChangeSpec := { name := "fnExactConstants", fn := fun _ => fun
  | [] => { results := [.lit (.bool false)], args := [] }
  | _ => none }
def FnExactConstantsWrongFalsely : Prop := fnExactConstantsRow.holds Try.pinned (OpenSpec.ofChange fnExactConstantsWrong)

/-- 'laws.FnExactCountSquare': WHATEVER THE INPUT: true; the input reads as it did. -/
def fnExactCountSquareSpec : ChangeSpec := { name := "fnExactCountSquare", fn := fun _ => fun
  | [d] => { results := [.lit (.bool true)], args := [d] }
  | _ => none }
def fnExactCountSquareRow : OpenClaim := { program := "ytllgfkbgdjkjmaa", sum := "5c7ba85606006ee4b20fb9d76bb640361b96b1e98edfe376987a66c2df9e8c76", func := "loop.example/g01160/laws.FnExactCountSquare", spec := "fnExactCountSquare", apart := false }
def FnExactCountSquareSaid : Prop := fnExactCountSquareRow.holds Try.pinned (OpenSpec.ofChange fnExactCountSquareSpec)

/-- ITS FALSE NEIGHBOUR: 'it returns false'. Refute it at one input. -/
def fnExactCountSquareWrong : ChangeSpec := { name := "fnExactCountSquare", fn := fun _ => fun
  | [d] => { results := [.lit (.bool false)], args := [d] }
  | _ => none }
def FnExactCountSquareWrongFalsely : Prop := fnExactCountSquareRow.holds Try.pinned (OpenSpec.ofChange fnExactCountSquareWrong)

/-- 'laws.FnExactCountPoints': WHATEVER THE INPUT: true; the input reads as it did. -/
def fnExactCountPointsSpec : ChangeSpec := { name := "fnExactCountPoints", fn := fun _ => fun
  | [d] => { results := [.lit (.bool true)], args := [d] }
  | _ => none }
def fnExactCountPointsRow : OpenClaim := { program := "ytllgfkbgdjkjmaa", sum := "5c7ba85606006ee4b20fb9d76bb640361b96b1e98edfe376987a66c2df9e8c76", func := "loop.example/g01160/laws.FnExactCountPoints", spec := "fnExactCountPoints", apart := false }
def FnExactCountPointsSaid : Prop := fnExactCountPointsRow.holds Try.pinned (OpenSpec.ofChange fnExactCountPointsSpec)

/-- ITS FALSE NEIGHBOUR: 'it returns false'. Refute it at one input. -/
def fnExactCountPointsWrong : ChangeSpec := { name := "fnExactCountPoints", fn := fun _ => fun
  | [d] => { results := [.lit (.bool false)], args := [d] }
  | _ => none }
def FnExactCountPointsWrongFalsely : Prop := fnExactCountPointsRow.holds Try.pinned (OpenSpec.ofChange fnExactCountPointsWrong)

/-- 'laws.FnExactSquareIndex': WHATEVER THE INPUT: true; the input reads as it did. -/
def fnExactSquareIndexSpec : ChangeSpec := { name := "fnExactSquareIndex", fn := fun _ => fun
  | [d1, d2, d3] => { results := [.lit (.bool true)], args := [d1, d2, d3] }
  | _ => none }
def fnExactSquareIndexRow : OpenClaim := { program := "ytllgfkbgdjkjmaa", sum := "5c7ba85606006ee4b20fb9d76bb640361b96b1e98edfe376987a66c2df9e8c76", func := "loop.example/g01160/laws.FnExactSquareIndex", spec := "fnExactSquareIndex", apart := false }
def FnExactSquareIndexSaid : Prop := fnExactSquareIndexRow.holds Try.pinned (OpenSpec.ofChange fnExactSquareIndexSpec)

/-- ITS FALSE NEIGHBOUR: 'it returns false'. Refute it at one input. -/
def fnExactSquareIndexWrong : ChangeSpec := { name := "fnExactSquareIndex", fn := fun _ => fun
  | [d1, d2, d3] => { results := [.lit (.bool false)], args := [d1, d2, d3] }
  | _ => none }
def FnExactSquareIndexWrongFalsely : Prop := fnExactSquareIndexRow.holds Try.pinned (OpenSpec.ofChange fnExactSquareIndexWrong)

/-- 'laws.FnExactCountKeeping': WHATEVER THE INPUT: true; the input reads as it did. -/
def fnExactCountKeepingSpec : ChangeSpec := { name := "fnExactCountKeeping", fn := fun _ => fun
  | [d] => { results := [.lit (.bool true)], args := [d] }
  | _ => none }
def fnExactCountKeepingRow : OpenClaim := { program := "ytllgfkbgdjkjmaa", sum := "5c7ba85606006ee4b20fb9d76bb640361b96b1e98edfe376987a66c2df9e8c76", func := "loop.example/g01160/laws.FnExactCountKeeping", spec := "fnExactCountKeeping", apart := false }
def FnExactCountKeepingSaid : Prop := fnExactCountKeepingRow.holds Try.pinned (OpenSpec.ofChange fnExactCountKeepingSpec)

/-- ITS FALSE NEIGHBOUR: 'it returns false'. Refute it at one input. -/
def fnExactCountKeepingWrong : ChangeSpec := { name := "fnExactCountKeeping", fn := fun _ => fun
  | [d] => { results := [.lit (.bool false)], args := [d] }
  | _ => none }
def FnExactCountKeepingWrongFalsely : Prop := fnExactCountKeepingRow.holds Try.pinned (OpenSpec.ofChange fnExactCountKeepingWrong)

/-- 'laws.FnExactSquareAt': WHATEVER THE INPUT: true; the input reads as it did. -/
def fnExactSquareAtSpec : ChangeSpec := { name := "fnExactSquareAt", fn := fun _ => fun
  | [d1, d2] => { results := [.lit (.bool true)], args := [d1, d2] }
  | _ => none }
def fnExactSquareAtRow : OpenClaim := { program := "ytllgfkbgdjkjmaa", sum := "5c7ba85606006ee4b20fb9d76bb640361b96b1e98edfe376987a66c2df9e8c76", func := "loop.example/g01160/laws.FnExactSquareAt", spec := "fnExactSquareAt", apart := false }
def FnExactSquareAtSaid : Prop := fnExactSquareAtRow.holds Try.pinned (OpenSpec.ofChange fnExactSquareAtSpec)

/-- ITS FALSE NEIGHBOUR: 'it returns false'. Refute it at one input. -/
def fnExactSquareAtWrong : ChangeSpec := { name := "fnExactSquareAt", fn := fun _ => fun
  | [d1, d2] => { results := [.lit (.bool false)], args := [d1, d2] }
  | _ => none }
def FnExactSquareAtWrongFalsely : Prop := fnExactSquareAtRow.holds Try.pinned (OpenSpec.ofChange fnExactSquareAtWrong)

/- THE SECOND FORM. 'bulk': how many values and letters a reading holds, each counted each time it is reached (what is shared counts as often as it is met; a slice's spare places count too). A statement '..UptoSaid' is the law's where the arguments, and the package variables that the reading takes, are together of bulk at most 1048576: NARROWER than '..Said'. Prove '..Said' where nothing that the law and all that it calls make is longer than what came in: it says more and counts as full. Else prove '..UptoSaid'. A law counts once. -/
mutual
def uptoBulk {H : Type} : DataW H → Nat
  | .lit (.string bytes) => bytes.length + 1
  | .lit _ => 1
  | .nil => 1
  | .ptr d => uptoBulk d + 1
  | .slice elems spare => uptoBulkAll elems + uptoBulkAll spare + 1
  | .agg parts => uptoBulkAll parts + 1
  | .iface _ d => uptoBulk d + 1
  | .map entries => uptoBulkEntries entries + 1
  | .held _ => 1
def uptoBulkAll {H : Type} : List (DataW H) → Nat
  | [] => 0
  | d :: r => uptoBulk d + uptoBulkAll r
def uptoBulkEntries {H : Type} : List (Lit × DataW H) → Nat
  | [] => 0
  | x :: r => uptoBulkEntry x + uptoBulkEntries r
def uptoBulkEntry {H : Type} : Lit × DataW H → Nat
  | (.string bytes, d) => bytes.length + uptoBulk d + 1
  | (_, d) => uptoBulk d + 1
 end
def uptoSmall : (H : Type) → List (DataW H) → Bool := fun _ ds => decide (uptoBulkAll ds ≤ 1048576)
def OpenSpec.upto (s : _root_.Go.ChangeSpec) : _root_.Go.OpenSpec := { _root_.Go.OpenSpec.ofChange s with cond := some uptoSmall }

/-- 'laws.FnExactConstants', WHERE WHAT IT READS IS OF BULK AT MOST 1048576: true; the input reads as it did. -/
def fnExactConstantsUptoRow : OpenClaim := { program := "ytllgfkbgdjkjmaa", sum := "5c7ba85606006ee4b20fb9d76bb640361b96b1e98edfe376987a66c2df9e8c76", func := "loop.example/g01160/laws.FnExactConstants", spec := "fnExactConstants", apart := false, narrowed := true }
def FnExactConstantsUptoSaid : Prop := fnExactConstantsUptoRow.holds Try.pinned (OpenSpec.upto fnExactConstantsSpec)

/-- 'laws.FnExactCountSquare', WHERE WHAT IT READS IS OF BULK AT MOST 1048576: true; the input reads as it did. -/
def fnExactCountSquareUptoRow : OpenClaim := { program := "ytllgfkbgdjkjmaa", sum := "5c7ba85606006ee4b20fb9d76bb640361b96b1e98edfe376987a66c2df9e8c76", func := "loop.example/g01160/laws.FnExactCountSquare", spec := "fnExactCountSquare", apart := false, narrowed := true }
def FnExactCountSquareUptoSaid : Prop := fnExactCountSquareUptoRow.holds Try.pinned (OpenSpec.upto fnExactCountSquareSpec)

/-- 'laws.FnExactCountPoints', WHERE WHAT IT READS IS OF BULK AT MOST 1048576: true; the input reads as it did. -/
def fnExactCountPointsUptoRow : OpenClaim := { program := "ytllgfkbgdjkjmaa", sum := "5c7ba85606006ee4b20fb9d76bb640361b96b1e98edfe376987a66c2df9e8c76", func := "loop.example/g01160/laws.FnExactCountPoints", spec := "fnExactCountPoints", apart := false, narrowed := true }
def FnExactCountPointsUptoSaid : Prop := fnExactCountPointsUptoRow.holds Try.pinned (OpenSpec.upto fnExactCountPointsSpec)

/-- 'laws.FnExactSquareIndex', WHERE WHAT IT READS IS OF BULK AT MOST 1048576: true; the input reads as it did. -/
def fnExactSquareIndexUptoRow : OpenClaim := { program := "ytllgfkbgdjkjmaa", sum := "5c7ba85606006ee4b20fb9d76bb640361b96b1e98edfe376987a66c2df9e8c76", func := "loop.example/g01160/laws.FnExactSquareIndex", spec := "fnExactSquareIndex", apart := false, narrowed := true }
def FnExactSquareIndexUptoSaid : Prop := fnExactSquareIndexUptoRow.holds Try.pinned (OpenSpec.upto fnExactSquareIndexSpec)

/-- 'laws.FnExactCountKeeping', WHERE WHAT IT READS IS OF BULK AT MOST 1048576: true; the input reads as it did. -/
def fnExactCountKeepingUptoRow : OpenClaim := { program := "ytllgfkbgdjkjmaa", sum := "5c7ba85606006ee4b20fb9d76bb640361b96b1e98edfe376987a66c2df9e8c76", func := "loop.example/g01160/laws.FnExactCountKeeping", spec := "fnExactCountKeeping", apart := false, narrowed := true }
def FnExactCountKeepingUptoSaid : Prop := fnExactCountKeepingUptoRow.holds Try.pinned (OpenSpec.upto fnExactCountKeepingSpec)

/-- 'laws.FnExactSquareAt', WHERE WHAT IT READS IS OF BULK AT MOST 1048576: true; the input reads as it did. -/
def fnExactSquareAtUptoRow : OpenClaim := { program := "ytllgfkbgdjkjmaa", sum := "5c7ba85606006ee4b20fb9d76bb640361b96b1e98edfe376987a66c2df9e8c76", func := "loop.example/g01160/laws.FnExactSquareAt", spec := "fnExactSquareAt", apart := false, narrowed := true }
def FnExactSquareAtUptoSaid : Prop := fnExactSquareAtUptoRow.holds Try.pinned (OpenSpec.upto fnExactSquareAtSpec)

end Rows
end Go.Proofs.Ytllgfkbgdjkjmaa
