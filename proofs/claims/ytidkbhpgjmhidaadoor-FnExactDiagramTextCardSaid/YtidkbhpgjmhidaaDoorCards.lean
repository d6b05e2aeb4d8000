/-
  DERIVED. GIVEN WITH THE SEED: THE CARDS: each row of YtidkbhpgjmhidaaDoorRows.lean that lists a variable, with what it lists TIED to the program's text (the seventh form; the later family's looks); each row that meets fmt, with fmt's text TOLD by the authors' own Lean function (tested against real Go, not proved from fmt's source: count such statements apart). THE CARD IS WHAT COUNTS. Prove the row's statement (the work); the ties are given (YtidkbhpgjmhidaaDoorTie.lean); close each card by the builder's one call (the guide's Derived/Test/ToyasCard.lean, 'card_holds'). Laid BY PROGRAM, IN A SANDBOX (cutbox-door.mjs). By AI agents, Wed Nov 11 2026. No macro, syntax, notation, axiom, sorry.
-/
import Derived.Test.YtidkbhpgjmhidaaDoorRows
import GoSem.ClaimSeven
namespace Go.Proofs.YtidkbhpgjmhidaaDoor
namespace Rows

/-- THE TIED CARD OF 'laws.FnExactPolytopeNames'. -/
def fnExactPolytopeNamesCard : Claim7 := { stood := { row := fnExactPolytopeNamesRow, standIns := [], harness := (true, "265adce6a076b801eedd97a2baa33b9f7792e16e754b5ca9082f519130321de1"), looks := false }, kinds := [], alts := [], laidByText := true, laidKinds := [.widerDeep], laidTests := true, laidLooks := .later }
def FnExactPolytopeNamesCardSaid : Prop := Claim7.holds Tryd.pinned (.plain (OpenSpec.ofChange fnExactPolytopeNamesSpec)) fnExactPolytopeNamesCard

/-- THE TIED CARD OF 'laws.FnExactDiagramText'. -/
def fnExactDiagramTextCard : Claim7 := { stood := { row := fnExactDiagramTextRow, standIns := [], harness := (true, "265adce6a076b801eedd97a2baa33b9f7792e16e754b5ca9082f519130321de1"), looks := false }, kinds := [], alts := [], laidByText := true, laidKinds := [.data, .data, .data], laidTests := true, laidLooks := .later }
def FnExactDiagramTextCardSaid : Prop := Claim7.holds Tryd.pinned (.plain (OpenSpec.ofChange fnExactDiagramTextSpec)) fnExactDiagramTextCard

/-- THE TIED CARD OF 'laws.FnExactSimplexOf'. -/
def fnExactSimplexOfCard : Claim7 := { stood := { row := fnExactSimplexOfRow, standIns := [], harness := (true, "265adce6a076b801eedd97a2baa33b9f7792e16e754b5ca9082f519130321de1"), looks := false }, kinds := [], alts := [], laidByText := true, laidKinds := [.data, .data, .data], laidTests := true, laidLooks := .later }
def FnExactSimplexOfCardSaid : Prop := Claim7.holds Tryd.pinned (.plain (OpenSpec.ofChange fnExactSimplexOfSpec)) fnExactSimplexOfCard

/-- THE SECOND FORM's CARD OF 'laws.FnExactPolytopeNames'. -/
def fnExactPolytopeNamesUptoCard : Claim7 := { stood := { row := fnExactPolytopeNamesUptoRow, standIns := [], harness := (true, "265adce6a076b801eedd97a2baa33b9f7792e16e754b5ca9082f519130321de1"), looks := false }, kinds := [], alts := [], laidByText := true, laidKinds := [.widerDeep], laidTests := true, laidLooks := .later }
def FnExactPolytopeNamesUptoCardSaid : Prop := Claim7.holds Tryd.pinned (.plain (OpenSpec.upto fnExactPolytopeNamesSpec)) fnExactPolytopeNamesUptoCard

/-- THE SECOND FORM's CARD OF 'laws.FnExactDiagramText'. -/
def fnExactDiagramTextUptoCard : Claim7 := { stood := { row := fnExactDiagramTextUptoRow, standIns := [], harness := (true, "265adce6a076b801eedd97a2baa33b9f7792e16e754b5ca9082f519130321de1"), looks := false }, kinds := [], alts := [], laidByText := true, laidKinds := [.data, .data, .data], laidTests := true, laidLooks := .later }
def FnExactDiagramTextUptoCardSaid : Prop := Claim7.holds Tryd.pinned (.plain (OpenSpec.upto fnExactDiagramTextSpec)) fnExactDiagramTextUptoCard

/-- THE SECOND FORM's CARD OF 'laws.FnExactSimplexOf'. -/
def fnExactSimplexOfUptoCard : Claim7 := { stood := { row := fnExactSimplexOfUptoRow, standIns := [], harness := (true, "265adce6a076b801eedd97a2baa33b9f7792e16e754b5ca9082f519130321de1"), looks := false }, kinds := [], alts := [], laidByText := true, laidKinds := [.data, .data, .data], laidTests := true, laidLooks := .later }
def FnExactSimplexOfUptoCardSaid : Prop := Claim7.holds Tryd.pinned (.plain (OpenSpec.upto fnExactSimplexOfSpec)) fnExactSimplexOfUptoCard
end Rows
end Go.Proofs.YtidkbhpgjmhidaaDoor
