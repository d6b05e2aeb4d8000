/-
  DERIVED. GIVEN WITH THE SEED: THE CARDS: each row of YtmdhljleaijkbaaDoorRows.lean that lists a variable, with what it lists TIED to the program's text (the seventh form; the later family's looks); each row that meets fmt, with fmt's text TOLD by the authors' own Lean function (tested against real Go, not proved from fmt's source: count such statements apart). THE CARD IS WHAT COUNTS. Prove the row's statement (the work); the ties are given (YtmdhljleaijkbaaDoorTie.lean); close each card by the builder's one call (the guide's Derived/Test/ToyasCard.lean, 'card_holds'). Laid BY PROGRAM, IN A SANDBOX (cutbox-door.mjs). By AI agents, Wed Nov 11 2026. No macro, syntax, notation, axiom, sorry.
-/
import Derived.Test.YtmdhljleaijkbaaDoorRows
import GoSem.ClaimSeven
namespace Go.Proofs.YtmdhljleaijkbaaDoor
namespace Rows

/-- THE TIED CARD OF 'laws.FnExactRegularCover'. -/
def fnExactRegularCoverCard : Claim7 := { stood := { row := fnExactRegularCoverRow, standIns := [], harness := (true, "3494813bd558eeb6b88dbc50ba600d8b9b91abcaa7efe33812d8f37348356c33"), looks := false }, kinds := [], alts := [], laidByText := true, laidKinds := [.data, .data, .data], laidTests := true, laidLooks := .later }
def FnExactRegularCoverCardSaid : Prop := Claim7.holds Tryd.pinned (.plain (OpenSpec.ofChange fnExactRegularCoverSpec)) fnExactRegularCoverCard

/-- THE SECOND FORM's CARD OF 'laws.FnExactRegularCover'. -/
def fnExactRegularCoverUptoCard : Claim7 := { stood := { row := fnExactRegularCoverUptoRow, standIns := [], harness := (true, "3494813bd558eeb6b88dbc50ba600d8b9b91abcaa7efe33812d8f37348356c33"), looks := false }, kinds := [], alts := [], laidByText := true, laidKinds := [.data, .data, .data], laidTests := true, laidLooks := .later }
def FnExactRegularCoverUptoCardSaid : Prop := Claim7.holds Tryd.pinned (.plain (OpenSpec.upto fnExactRegularCoverSpec)) fnExactRegularCoverUptoCard
end Rows
end Go.Proofs.YtmdhljleaijkbaaDoor
