/-
  DERIVED. GIVEN WITH THE SEED: THE CARDS: each row of YtfjmpdcflnaogaaDoorRows.lean that lists a variable, with what it lists TIED to the program's text (the seventh form; the later family's looks); each row that meets fmt, with fmt's text TOLD by the authors' own Lean function (tested against real Go, not proved from fmt's source: count such statements apart). THE CARD IS WHAT COUNTS. Prove the row's statement (the work); the ties are given (YtfjmpdcflnaogaaDoorTie.lean); close each card by the builder's one call (the guide's Derived/Test/ToyasCard.lean, 'card_holds'). Laid BY PROGRAM, IN A SANDBOX (cutbox-door.mjs). By AI agents, Wed Nov 11 2026. No macro, syntax, notation, axiom, sorry.
-/
import Derived.Test.YtfjmpdcflnaogaaDoorRows
import GoSem.ClaimSeven
namespace Go.Proofs.YtfjmpdcflnaogaaDoor
namespace Rows

/-- THE TIED CARD OF 'laws.FnExactItemText'. -/
def fnExactItemTextCard : Claim7 := { stood := { row := fnExactItemTextRow, standIns := [], harness := (true, "2bdae180b6f5908984cec66f4c87256e1827608c408384b222109a69185b0699"), looks := true }, kinds := [], alts := [], laidByText := true, laidKinds := [.data, .data, .data], laidTests := true, laidLooks := .later }
def FnExactItemTextCardSaid : Prop := Claim7.holds Tryd.pinned (.plain (OpenSpec.ofChange fnExactItemTextSpec)) fnExactItemTextCard

/-- THE TIED CARD OF 'laws.FnExactExport'. -/
def fnExactExportCard : Claim7 := { stood := { row := fnExactExportRow, standIns := [], harness := (true, "2bdae180b6f5908984cec66f4c87256e1827608c408384b222109a69185b0699"), looks := true }, kinds := [], alts := [], laidByText := true, laidKinds := [.data, .data, .data], laidTests := true, laidLooks := .later }
def FnExactExportCardSaid : Prop := Claim7.holds Tryd.pinned (.plain (OpenSpec.ofChange fnExactExportSpec)) fnExactExportCard

/-- THE TIED CARD OF 'laws.FnItem'. -/
def fnItemCard : Claim7 := { stood := { row := fnItemRow, standIns := [], harness := (true, "2bdae180b6f5908984cec66f4c87256e1827608c408384b222109a69185b0699"), looks := true }, kinds := [], alts := [], laidByText := true, laidKinds := [.data, .data, .data, .sentinel, .sentinel], laidTests := true, laidLooks := .later }
def FnItemCardSaid : Prop := Claim7.holds Tryd.pinned (.plain (OpenSpec.ofChange fnItemSpec)) fnItemCard

/-- THE TIED CARD OF 'laws.FnExactReadItem'. -/
def fnExactReadItemCard : Claim7 := { stood := { row := fnExactReadItemRow, standIns := [], harness := (true, "2bdae180b6f5908984cec66f4c87256e1827608c408384b222109a69185b0699"), looks := true }, kinds := [], alts := [], laidByText := true, laidKinds := [.data, .data, .data, .sentinel, .sentinel], laidTests := true, laidLooks := .later }
def FnExactReadItemCardSaid : Prop := Claim7.holds Tryd.pinned (.plain (OpenSpec.ofChange fnExactReadItemSpec)) fnExactReadItemCard

/-- THE SECOND FORM's CARD OF 'laws.FnExactItemText'. -/
def fnExactItemTextUptoCard : Claim7 := { stood := { row := fnExactItemTextUptoRow, standIns := [], harness := (true, "2bdae180b6f5908984cec66f4c87256e1827608c408384b222109a69185b0699"), looks := true }, kinds := [], alts := [], laidByText := true, laidKinds := [.data, .data, .data], laidTests := true, laidLooks := .later }
def FnExactItemTextUptoCardSaid : Prop := Claim7.holds Tryd.pinned (.plain (OpenSpec.upto fnExactItemTextSpec)) fnExactItemTextUptoCard

/-- THE SECOND FORM's CARD OF 'laws.FnExactExport'. -/
def fnExactExportUptoCard : Claim7 := { stood := { row := fnExactExportUptoRow, standIns := [], harness := (true, "2bdae180b6f5908984cec66f4c87256e1827608c408384b222109a69185b0699"), looks := true }, kinds := [], alts := [], laidByText := true, laidKinds := [.data, .data, .data], laidTests := true, laidLooks := .later }
def FnExactExportUptoCardSaid : Prop := Claim7.holds Tryd.pinned (.plain (OpenSpec.upto fnExactExportSpec)) fnExactExportUptoCard

/-- THE SECOND FORM's CARD OF 'laws.FnItem'. -/
def fnItemUptoCard : Claim7 := { stood := { row := fnItemUptoRow, standIns := [], harness := (true, "2bdae180b6f5908984cec66f4c87256e1827608c408384b222109a69185b0699"), looks := true }, kinds := [], alts := [], laidByText := true, laidKinds := [.data, .data, .data, .sentinel, .sentinel], laidTests := true, laidLooks := .later }
def FnItemUptoCardSaid : Prop := Claim7.holds Tryd.pinned (.plain (OpenSpec.upto fnItemSpec)) fnItemUptoCard

/-- THE SECOND FORM's CARD OF 'laws.FnExactReadItem'. -/
def fnExactReadItemUptoCard : Claim7 := { stood := { row := fnExactReadItemUptoRow, standIns := [], harness := (true, "2bdae180b6f5908984cec66f4c87256e1827608c408384b222109a69185b0699"), looks := true }, kinds := [], alts := [], laidByText := true, laidKinds := [.data, .data, .data, .sentinel, .sentinel], laidTests := true, laidLooks := .later }
def FnExactReadItemUptoCardSaid : Prop := Claim7.holds Tryd.pinned (.plain (OpenSpec.upto fnExactReadItemSpec)) fnExactReadItemUptoCard
end Rows
end Go.Proofs.YtfjmpdcflnaogaaDoor
