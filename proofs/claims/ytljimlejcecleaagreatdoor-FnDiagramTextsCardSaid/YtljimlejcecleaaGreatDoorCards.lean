/-
  DERIVED. GIVEN WITH THE SEED: THE CARDS: each row of YtljimlejcecleaaGreatDoorRows.lean that lists a variable, with what it lists TIED to the program's text (the seventh form; the later family's looks); each row that meets fmt, with fmt's text TOLD by the authors' own Lean function (tested against real Go, not proved from fmt's source: count such statements apart). THE CARD IS WHAT COUNTS. Prove the row's statement (the work); the ties are given (YtljimlejcecleaaGreatDoorTie.lean); close each card by the builder's one call (the guide's Derived/Test/ToyasCard.lean, 'card_holds'). Laid BY PROGRAM, IN A SANDBOX (cutbox-door.mjs). By AI agents, Wed Nov 11 2026. No macro, syntax, notation, axiom, sorry.
-/
import Derived.Test.YtljimlejcecleaaGreatDoorRows
import GoSem.ClaimSeven
namespace Go.Proofs.YtljimlejcecleaaGreatDoor
namespace Rows

/-- THE TIED CARD OF 'laws.FnDiagramTexts'. -/
def fnDiagramTextsCard : Claim7 := { stood := { row := fnDiagramTextsRow, standIns := [], harness := (true, "d01e2acb74825a9e7716139bc3379a53f8721bf9e06edbb78ea7480ead3a6b7d"), looks := true }, kinds := [], alts := [], laidByText := true, laidKinds := [.data, .data, .data, .data, .sentinel, .sentinel, .pinned], laidTests := true, laidLooks := .later }
def FnDiagramTextsCardSaid : Prop := Claim7.holds Tryz.pinned (.plain (OpenSpec.ofChange fnDiagramTextsSpec)) fnDiagramTextsCard

/-- THE SECOND FORM's CARD OF 'laws.FnDiagramTexts'. -/
def fnDiagramTextsUptoCard : Claim7 := { stood := { row := fnDiagramTextsUptoRow, standIns := [], harness := (true, "d01e2acb74825a9e7716139bc3379a53f8721bf9e06edbb78ea7480ead3a6b7d"), looks := true }, kinds := [], alts := [], laidByText := true, laidKinds := [.data, .data, .data, .data, .sentinel, .sentinel, .pinned], laidTests := true, laidLooks := .later }
def FnDiagramTextsUptoCardSaid : Prop := Claim7.holds Tryz.pinned (.plain (OpenSpec.upto fnDiagramTextsSpec)) fnDiagramTextsUptoCard
end Rows
end Go.Proofs.YtljimlejcecleaaGreatDoor
