/-
  DERIVED. GIVEN WITH THE SEED: THE CARDS: each row of YtfjmpdcflnaogaaGreatDoorRows.lean that lists a variable, with what it lists TIED to the program's text (the seventh form; the later family's looks); each row that meets fmt, with fmt's text TOLD by the authors' own Lean function (tested against real Go, not proved from fmt's source: count such statements apart). THE CARD IS WHAT COUNTS. Prove the row's statement (the work); the ties are given (YtfjmpdcflnaogaaGreatDoorTie.lean); close each card by the builder's one call (the guide's Derived/Test/ToyasCard.lean, 'card_holds'). Laid BY PROGRAM, IN A SANDBOX (cutbox-door.mjs). By AI agents, Wed Nov 11 2026. No macro, syntax, notation, axiom, sorry.
-/
import Derived.Test.YtfjmpdcflnaogaaGreatDoorRows
import GoSem.ClaimSeven
namespace Go.Proofs.YtfjmpdcflnaogaaGreatDoor
namespace Rows

/-- THE TIED CARD OF 'laws.FnNotes'. -/
def fnNotesCard : Claim7 := { stood := { row := fnNotesRow, standIns := [], harness := (true, "c6aa23e73ca02ff96ebd77022469b67c52f3cb52b2b04e77cb0d4e79391614b7"), looks := true }, kinds := [], alts := [], laidByText := true, laidKinds := [.data, .data, .data, .sentinel, .sentinel], laidTests := true, laidLooks := .later }
def FnNotesCardSaid : Prop := Claim7.holds Tryz.pinned (.plain (OpenSpec.ofChange fnNotesSpec)) fnNotesCard

/-- THE TIED CARD OF 'laws.FnExactImport'. -/
def fnExactImportCard : Claim7 := { stood := { row := fnExactImportRow, standIns := [], harness := (true, "c6aa23e73ca02ff96ebd77022469b67c52f3cb52b2b04e77cb0d4e79391614b7"), looks := true }, kinds := [], alts := [], laidByText := true, laidKinds := [.data, .data, .data, .sentinel, .sentinel], laidTests := true, laidLooks := .later }
def FnExactImportCardSaid : Prop := Claim7.holds Tryz.pinned (.plain (OpenSpec.ofChange fnExactImportSpec)) fnExactImportCard

/-- THE SECOND FORM's CARD OF 'laws.FnNotes'. -/
def fnNotesUptoCard : Claim7 := { stood := { row := fnNotesUptoRow, standIns := [], harness := (true, "c6aa23e73ca02ff96ebd77022469b67c52f3cb52b2b04e77cb0d4e79391614b7"), looks := true }, kinds := [], alts := [], laidByText := true, laidKinds := [.data, .data, .data, .sentinel, .sentinel], laidTests := true, laidLooks := .later }
def FnNotesUptoCardSaid : Prop := Claim7.holds Tryz.pinned (.plain (OpenSpec.upto fnNotesSpec)) fnNotesUptoCard

/-- THE SECOND FORM's CARD OF 'laws.FnExactImport'. -/
def fnExactImportUptoCard : Claim7 := { stood := { row := fnExactImportUptoRow, standIns := [], harness := (true, "c6aa23e73ca02ff96ebd77022469b67c52f3cb52b2b04e77cb0d4e79391614b7"), looks := true }, kinds := [], alts := [], laidByText := true, laidKinds := [.data, .data, .data, .sentinel, .sentinel], laidTests := true, laidLooks := .later }
def FnExactImportUptoCardSaid : Prop := Claim7.holds Tryz.pinned (.plain (OpenSpec.upto fnExactImportSpec)) fnExactImportUptoCard
end Rows
end Go.Proofs.YtfjmpdcflnaogaaGreatDoor
