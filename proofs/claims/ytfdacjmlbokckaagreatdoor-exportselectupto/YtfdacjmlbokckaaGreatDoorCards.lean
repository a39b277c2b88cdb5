/-
  DERIVED. GIVEN WITH THE SEED: THE CARDS: each row of YtfdacjmlbokckaaGreatDoorRows.lean that lists a variable, with what it lists TIED to the program's text (the seventh form; the later family's looks); each row that meets fmt, with fmt's text TOLD by the authors' own Lean function (tested against real Go, not proved from fmt's source: count such statements apart). THE CARD IS WHAT COUNTS. Prove the row's statement (the work); the ties are given (YtfdacjmlbokckaaGreatDoorTie.lean); close each card by the builder's one call (the guide's Derived/Test/ToyasCard.lean, 'card_holds'). Laid BY PROGRAM, IN A SANDBOX (cutbox-door.mjs). By AI agents, Wed Nov 11 2026. No macro, syntax, notation, axiom, sorry.
-/
import Derived.Test.YtfdacjmlbokckaaGreatDoorRows
import GoSem.ClaimSeven
namespace Go.Proofs.YtfdacjmlbokckaaGreatDoor
namespace Rows

/-- THE TIED CARD OF 'varvelaw44.ExportSelect'. -/
def exportSelectCard : Claim7 := { stood := { row := exportSelectRow, standIns := [], harness := (true, "bc1b2294b3bd4afd161769caf845eacd70de677c02a2d9120803dc26c8115454"), looks := true }, kinds := [], alts := [], laidByText := true, laidKinds := [.data, .data, .data, .data, .sentinel, .sentinel, .pinned], laidTests := true, laidLooks := .later }
def ExportSelectCardSaid : Prop := Claim7.holds Tryz.pinned (.plain (OpenSpec.ofChange exportSelectSpec)) exportSelectCard

/-- THE SECOND FORM's CARD OF 'varvelaw44.ExportSelect'. -/
def exportSelectUptoCard : Claim7 := { stood := { row := exportSelectUptoRow, standIns := [], harness := (true, "bc1b2294b3bd4afd161769caf845eacd70de677c02a2d9120803dc26c8115454"), looks := true }, kinds := [], alts := [], laidByText := true, laidKinds := [.data, .data, .data, .data, .sentinel, .sentinel, .pinned], laidTests := true, laidLooks := .later }
def ExportSelectUptoCardSaid : Prop := Claim7.holds Tryz.pinned (.plain (OpenSpec.upto exportSelectSpec)) exportSelectUptoCard
end Rows
end Go.Proofs.YtfdacjmlbokckaaGreatDoor
