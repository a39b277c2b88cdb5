/-
  DERIVED. GIVEN WITH THE SEED: THE CARDS: each row of YtgaelgcadcmfnaaGreatDoorRows.lean that lists a variable, with what it lists TIED to the program's text (the seventh form; the later family's looks); each row that meets fmt, with fmt's text TOLD by the authors' own Lean function (tested against real Go, not proved from fmt's source: count such statements apart). THE CARD IS WHAT COUNTS. Prove the row's statement (the work); the ties are given (YtgaelgcadcmfnaaGreatDoorTie.lean); close each card by the builder's one call (the guide's Derived/Test/ToyasCard.lean, 'card_holds'). Laid BY PROGRAM, IN A SANDBOX (cutbox-door.mjs). By AI agents, Wed Nov 11 2026. No macro, syntax, notation, axiom, sorry.
-/
import Derived.Test.YtgaelgcadcmfnaaGreatDoorRows
import GoSem.ClaimSeven
namespace Go.Proofs.YtgaelgcadcmfnaaGreatDoor
namespace Rows

/-- THE TIED CARD OF 'varvelaw44.ExportTexts'. -/
def exportTextsCard : Claim7 := { stood := { row := exportTextsRow, standIns := [], harness := (true, "187a32a78152f5e11e2e95d3a01faa71d88a1df269f09746f52dd35626991b2d"), looks := true }, kinds := [], alts := [], laidByText := true, laidKinds := [.data, .data, .data, .data, .sentinel, .sentinel, .pinned], laidTests := true, laidLooks := .later }
def ExportTextsCardSaid : Prop := Claim7.holds Tryz.pinned (.plain (OpenSpec.ofChange exportTextsSpec)) exportTextsCard

/-- THE TIED CARD OF 'varvelaw44.ExportReads'. -/
def exportReadsCard : Claim7 := { stood := { row := exportReadsRow, standIns := [], harness := (true, "187a32a78152f5e11e2e95d3a01faa71d88a1df269f09746f52dd35626991b2d"), looks := true }, kinds := [], alts := [], laidByText := true, laidKinds := [.data, .data, .data, .data, .sentinel, .sentinel, .pinned], laidTests := true, laidLooks := .later }
def ExportReadsCardSaid : Prop := Claim7.holds Tryz.pinned (.plain (OpenSpec.ofChange exportReadsSpec)) exportReadsCard

/-- THE TIED CARD OF 'varvelaw44.ExportLines'. -/
def exportLinesCard : Claim7 := { stood := { row := exportLinesRow, standIns := [], harness := (true, "187a32a78152f5e11e2e95d3a01faa71d88a1df269f09746f52dd35626991b2d"), looks := true }, kinds := [], alts := [], laidByText := true, laidKinds := [.data, .data, .data, .data, .sentinel, .sentinel, .pinned], laidTests := true, laidLooks := .later }
def ExportLinesCardSaid : Prop := Claim7.holds Tryz.pinned (.plain (OpenSpec.ofChange exportLinesSpec)) exportLinesCard

/-- THE SECOND FORM's CARD OF 'varvelaw44.ExportTexts'. -/
def exportTextsUptoCard : Claim7 := { stood := { row := exportTextsUptoRow, standIns := [], harness := (true, "187a32a78152f5e11e2e95d3a01faa71d88a1df269f09746f52dd35626991b2d"), looks := true }, kinds := [], alts := [], laidByText := true, laidKinds := [.data, .data, .data, .data, .sentinel, .sentinel, .pinned], laidTests := true, laidLooks := .later }
def ExportTextsUptoCardSaid : Prop := Claim7.holds Tryz.pinned (.plain (OpenSpec.upto exportTextsSpec)) exportTextsUptoCard

/-- THE SECOND FORM's CARD OF 'varvelaw44.ExportReads'. -/
def exportReadsUptoCard : Claim7 := { stood := { row := exportReadsUptoRow, standIns := [], harness := (true, "187a32a78152f5e11e2e95d3a01faa71d88a1df269f09746f52dd35626991b2d"), looks := true }, kinds := [], alts := [], laidByText := true, laidKinds := [.data, .data, .data, .data, .sentinel, .sentinel, .pinned], laidTests := true, laidLooks := .later }
def ExportReadsUptoCardSaid : Prop := Claim7.holds Tryz.pinned (.plain (OpenSpec.upto exportReadsSpec)) exportReadsUptoCard

/-- THE SECOND FORM's CARD OF 'varvelaw44.ExportLines'. -/
def exportLinesUptoCard : Claim7 := { stood := { row := exportLinesUptoRow, standIns := [], harness := (true, "187a32a78152f5e11e2e95d3a01faa71d88a1df269f09746f52dd35626991b2d"), looks := true }, kinds := [], alts := [], laidByText := true, laidKinds := [.data, .data, .data, .data, .sentinel, .sentinel, .pinned], laidTests := true, laidLooks := .later }
def ExportLinesUptoCardSaid : Prop := Claim7.holds Tryz.pinned (.plain (OpenSpec.upto exportLinesSpec)) exportLinesUptoCard
end Rows
end Go.Proofs.YtgaelgcadcmfnaaGreatDoor
