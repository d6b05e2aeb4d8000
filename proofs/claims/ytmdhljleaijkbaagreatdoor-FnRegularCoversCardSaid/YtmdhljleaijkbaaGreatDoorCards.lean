/-
  DERIVED. GIVEN WITH THE SEED: THE CARDS: each row of YtmdhljleaijkbaaGreatDoorRows.lean that lists a variable, with what it lists TIED to the program's text (the seventh form; the later family's looks); each row that meets fmt, with fmt's text TOLD by the authors' own Lean function (tested against real Go, not proved from fmt's source: count such statements apart). THE CARD IS WHAT COUNTS. Prove the row's statement (the work); the ties are given (YtmdhljleaijkbaaGreatDoorTie.lean); close each card by the builder's one call (the guide's Derived/Test/ToyasCard.lean, 'card_holds'). Laid BY PROGRAM, IN A SANDBOX (cutbox-door.mjs). By AI agents, Wed Nov 11 2026. No macro, syntax, notation, axiom, sorry.
-/
import Derived.Test.YtmdhljleaijkbaaGreatDoorRows
import GoSem.ClaimSeven
namespace Go.Proofs.YtmdhljleaijkbaaGreatDoor
namespace Rows

/-- THE TIED CARD OF 'laws.FnRegularCovers'. -/
def fnRegularCoversCard : Claim7 := { stood := { row := fnRegularCoversRow, standIns := [], harness := (true, "6e2f0809ed2733d6b8a7887c5ff683ac9513968176a3047d9abce4a27b8edff2"), looks := false }, kinds := [], alts := [], laidByText := true, laidKinds := [.data, .data, .data], laidTests := true, laidLooks := .later }
def FnRegularCoversCardSaid : Prop := Claim7.holds Tryz.pinned (.plain (OpenSpec.ofChange fnRegularCoversSpec)) fnRegularCoversCard

/-- THE SECOND FORM's CARD OF 'laws.FnRegularCovers'. -/
def fnRegularCoversUptoCard : Claim7 := { stood := { row := fnRegularCoversUptoRow, standIns := [], harness := (true, "6e2f0809ed2733d6b8a7887c5ff683ac9513968176a3047d9abce4a27b8edff2"), looks := false }, kinds := [], alts := [], laidByText := true, laidKinds := [.data, .data, .data], laidTests := true, laidLooks := .later }
def FnRegularCoversUptoCardSaid : Prop := Claim7.holds Tryz.pinned (.plain (OpenSpec.upto fnRegularCoversSpec)) fnRegularCoversUptoCard
end Rows
end Go.Proofs.YtmdhljleaijkbaaGreatDoor
