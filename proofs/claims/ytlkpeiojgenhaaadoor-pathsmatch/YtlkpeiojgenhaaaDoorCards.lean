/-
  DERIVED. GIVEN WITH THE SEED: THE CARDS: each row of YtlkpeiojgenhaaaDoorRows.lean that lists a variable, with what it lists TIED to the program's text (the seventh form; the later family's looks); each row that meets fmt, with fmt's text TOLD by the authors' own Lean function (tested against real Go, not proved from fmt's source: count such statements apart). THE CARD IS WHAT COUNTS. Prove the row's statement (the work); the ties are given (YtlkpeiojgenhaaaDoorTie.lean); close each card by the builder's one call (the guide's Derived/Test/ToyasCard.lean, 'card_holds'). Laid BY PROGRAM, IN A SANDBOX (cutbox-door.mjs). By AI agents, Wed Nov 11 2026. No macro, syntax, notation, axiom, sorry.
-/
import Derived.Test.YtlkpeiojgenhaaaDoorRows
import GoSem.ClaimSeven
namespace Go.Proofs.YtlkpeiojgenhaaaDoor
namespace Rows

/-- THE TIED CARD OF 'varvelaw30.PathsMatch'. -/
def pathsMatchCard : Claim7 := { stood := { row := pathsMatchRow, standIns := [], harness := (true, "06a694772379dca78baa438ffdb6204e8c76f4893c941369bf90857c8cbc9b44"), looks := false }, kinds := [], alts := [], laidByText := true, laidKinds := [.data, .pinned], laidTests := true, laidLooks := .later }
def PathsMatchCardSaid : Prop := Claim7.holds Tryd.pinned (.plain (OpenSpec.ofChange pathsMatchSpec)) pathsMatchCard

/-- THE SECOND FORM's CARD OF 'varvelaw30.PathsMatch'. -/
def pathsMatchUptoCard : Claim7 := { stood := { row := pathsMatchUptoRow, standIns := [], harness := (true, "06a694772379dca78baa438ffdb6204e8c76f4893c941369bf90857c8cbc9b44"), looks := false }, kinds := [], alts := [], laidByText := true, laidKinds := [.data, .pinned], laidTests := true, laidLooks := .later }
def PathsMatchUptoCardSaid : Prop := Claim7.holds Tryd.pinned (.plain (OpenSpec.upto pathsMatchSpec)) pathsMatchUptoCard
end Rows
end Go.Proofs.YtlkpeiojgenhaaaDoor
