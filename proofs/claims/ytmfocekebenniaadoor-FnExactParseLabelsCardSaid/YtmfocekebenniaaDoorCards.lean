/-
  DERIVED. GIVEN WITH THE SEED: THE CARDS: each row of YtmfocekebenniaaDoorRows.lean that lists a variable, with what it lists TIED to the program's text (the seventh form; the later family's looks); each row that meets fmt, with fmt's text TOLD by the authors' own Lean function (tested against real Go, not proved from fmt's source: count such statements apart). THE CARD IS WHAT COUNTS. Prove the row's statement (the work); the ties are given (YtmfocekebenniaaDoorTie.lean); close each card by the builder's one call (the guide's Derived/Test/ToyasCard.lean, 'card_holds'). Laid BY PROGRAM, IN A SANDBOX (cutbox-door.mjs). By AI agents, Wed Nov 11 2026. No macro, syntax, notation, axiom, sorry.
-/
import Derived.Test.YtmfocekebenniaaDoorRows
import GoSem.ClaimSeven
namespace Go.Proofs.YtmfocekebenniaaDoor
namespace Rows

/-- THE TIED CARD OF 'laws.FnExactParseBoard'. -/
def fnExactParseBoardCard : Claim7 := { stood := { row := fnExactParseBoardRow, standIns := [], harness := (true, "abec543825f6365653b660e2a351154208546473e47630b80948e89d156778f1"), looks := true }, kinds := [], alts := [], laidByText := true, laidKinds := [.data, .pinned], laidTests := true, laidLooks := .later }
def FnExactParseBoardCardSaid : Prop := Claim7.holds Tryd.pinned (.plain (OpenSpec.ofChange fnExactParseBoardSpec)) fnExactParseBoardCard

/-- THE TIED CARD OF 'laws.FnExactParseLabels'. -/
def fnExactParseLabelsCard : Claim7 := { stood := { row := fnExactParseLabelsRow, standIns := [], harness := (true, "abec543825f6365653b660e2a351154208546473e47630b80948e89d156778f1"), looks := true }, kinds := [], alts := [], laidByText := true, laidKinds := [.data, .data, .data, .sentinel, .sentinel], laidTests := true, laidLooks := .later }
def FnExactParseLabelsCardSaid : Prop := Claim7.holds Tryd.pinned (.plain (OpenSpec.ofChange fnExactParseLabelsSpec)) fnExactParseLabelsCard

/-- THE TIED CARD OF 'laws.FnExactLabelsText'. -/
def fnExactLabelsTextCard : Claim7 := { stood := { row := fnExactLabelsTextRow, standIns := [], harness := (true, "abec543825f6365653b660e2a351154208546473e47630b80948e89d156778f1"), looks := true }, kinds := [], alts := [], laidByText := true, laidKinds := [.data, .data, .data], laidTests := true, laidLooks := .later }
def FnExactLabelsTextCardSaid : Prop := Claim7.holds Tryd.pinned (.plain (OpenSpec.ofChange fnExactLabelsTextSpec)) fnExactLabelsTextCard

/-- THE SECOND FORM's CARD OF 'laws.FnExactParseBoard'. -/
def fnExactParseBoardUptoCard : Claim7 := { stood := { row := fnExactParseBoardUptoRow, standIns := [], harness := (true, "abec543825f6365653b660e2a351154208546473e47630b80948e89d156778f1"), looks := true }, kinds := [], alts := [], laidByText := true, laidKinds := [.data, .pinned], laidTests := true, laidLooks := .later }
def FnExactParseBoardUptoCardSaid : Prop := Claim7.holds Tryd.pinned (.plain (OpenSpec.upto fnExactParseBoardSpec)) fnExactParseBoardUptoCard

/-- THE SECOND FORM's CARD OF 'laws.FnExactParseLabels'. -/
def fnExactParseLabelsUptoCard : Claim7 := { stood := { row := fnExactParseLabelsUptoRow, standIns := [], harness := (true, "abec543825f6365653b660e2a351154208546473e47630b80948e89d156778f1"), looks := true }, kinds := [], alts := [], laidByText := true, laidKinds := [.data, .data, .data, .sentinel, .sentinel], laidTests := true, laidLooks := .later }
def FnExactParseLabelsUptoCardSaid : Prop := Claim7.holds Tryd.pinned (.plain (OpenSpec.upto fnExactParseLabelsSpec)) fnExactParseLabelsUptoCard

/-- THE SECOND FORM's CARD OF 'laws.FnExactLabelsText'. -/
def fnExactLabelsTextUptoCard : Claim7 := { stood := { row := fnExactLabelsTextUptoRow, standIns := [], harness := (true, "abec543825f6365653b660e2a351154208546473e47630b80948e89d156778f1"), looks := true }, kinds := [], alts := [], laidByText := true, laidKinds := [.data, .data, .data], laidTests := true, laidLooks := .later }
def FnExactLabelsTextUptoCardSaid : Prop := Claim7.holds Tryd.pinned (.plain (OpenSpec.upto fnExactLabelsTextSpec)) fnExactLabelsTextUptoCard
end Rows
end Go.Proofs.YtmfocekebenniaaDoor
