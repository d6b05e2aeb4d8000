/-
  DERIVED. GIVEN WITH THE SEED: THE CARDS: each row of YtljimlejcecleaaDoorRows.lean that lists a variable, with what it lists TIED to the program's text (the seventh form; the later family's looks); each row that meets fmt, with fmt's text TOLD by the authors' own Lean function (tested against real Go, not proved from fmt's source: count such statements apart). THE CARD IS WHAT COUNTS. Prove the row's statement (the work); the ties are given (YtljimlejcecleaaDoorTie.lean); close each card by the builder's one call (the guide's Derived/Test/ToyasCard.lean, 'card_holds'). Laid BY PROGRAM, IN A SANDBOX (cutbox-door.mjs). By AI agents, Wed Nov 11 2026. No macro, syntax, notation, axiom, sorry.
-/
import Derived.Test.YtljimlejcecleaaDoorRows
import GoSem.ClaimSeven
namespace Go.Proofs.YtljimlejcecleaaDoor
namespace Rows

/-- THE TIED CARD OF 'laws.FnExactParseDiagram'. -/
def fnExactParseDiagramCard : Claim7 := { stood := { row := fnExactParseDiagramRow, standIns := [], harness := (true, "4e9df97395b1d33d38c1529b4d48127a5074307acfc72826da2f615163cbf899"), looks := true }, kinds := [], alts := [], laidByText := true, laidKinds := [.data, .data, .data, .data, .sentinel, .sentinel, .pinned], laidTests := true, laidLooks := .later }
def FnExactParseDiagramCardSaid : Prop := Claim7.holds Tryd.pinned (.plain (OpenSpec.ofChange fnExactParseDiagramSpec)) fnExactParseDiagramCard

/-- THE TIED CARD OF 'laws.FnExactSimplexOf'. -/
def fnExactSimplexOfCard : Claim7 := { stood := { row := fnExactSimplexOfRow, standIns := [], harness := (true, "4e9df97395b1d33d38c1529b4d48127a5074307acfc72826da2f615163cbf899"), looks := true }, kinds := [], alts := [], laidByText := true, laidKinds := [.data, .data, .data], laidTests := true, laidLooks := .later }
def FnExactSimplexOfCardSaid : Prop := Claim7.holds Tryd.pinned (.plain (OpenSpec.ofChange fnExactSimplexOfSpec)) fnExactSimplexOfCard

/-- THE SECOND FORM's CARD OF 'laws.FnExactParseDiagram'. -/
def fnExactParseDiagramUptoCard : Claim7 := { stood := { row := fnExactParseDiagramUptoRow, standIns := [], harness := (true, "4e9df97395b1d33d38c1529b4d48127a5074307acfc72826da2f615163cbf899"), looks := true }, kinds := [], alts := [], laidByText := true, laidKinds := [.data, .data, .data, .data, .sentinel, .sentinel, .pinned], laidTests := true, laidLooks := .later }
def FnExactParseDiagramUptoCardSaid : Prop := Claim7.holds Tryd.pinned (.plain (OpenSpec.upto fnExactParseDiagramSpec)) fnExactParseDiagramUptoCard

/-- THE SECOND FORM's CARD OF 'laws.FnExactSimplexOf'. -/
def fnExactSimplexOfUptoCard : Claim7 := { stood := { row := fnExactSimplexOfUptoRow, standIns := [], harness := (true, "4e9df97395b1d33d38c1529b4d48127a5074307acfc72826da2f615163cbf899"), looks := true }, kinds := [], alts := [], laidByText := true, laidKinds := [.data, .data, .data], laidTests := true, laidLooks := .later }
def FnExactSimplexOfUptoCardSaid : Prop := Claim7.holds Tryd.pinned (.plain (OpenSpec.upto fnExactSimplexOfSpec)) fnExactSimplexOfUptoCard
end Rows
end Go.Proofs.YtljimlejcecleaaDoor
