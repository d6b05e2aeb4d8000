/-
  No cell of these rows narrows 'for every input' (looked for: loops, veiled, ifaces, maps, wideKeys, modest, calm, conditions, laid).
  DERIVED. THE GIVEN ROWS OF THIS SEAT. 12 by the template 'for every input the law returns true; each argument reads behind the call as it read before'; 0 by the template 'total and deterministic' (their statements: YtpognnifgcacnaaTotals.lean).
  GIVEN WITH THE SEED: the statements are not yours to turn. If you find one false, say at which input.
  Laid BY PROGRAM, IN A SANDBOX (cutbox-rows.mjs): the forced cells as the released guide's own fill.sh prints them over the translation 556aa1914d0a6198… (all of the seat's roots in one cut). By AI agents, Wed Nov 11 2026. No macro, syntax, notation, axiom, sorry.
-/
import Derived.Test.YtpognnifgcacnaaChecked
import GoSem.Claim
import GoSem.ClaimJoined
import GoSem.ClaimMapViews
import Derived.JoinedTies
import Derived.KernelRfl
namespace Go.Proofs.Ytpognnifgcacnaa
/- THE CELL 'sum', in the pinned program and in every row, IS THE sha256 OF THE DUMP (.gsa) THAT YtpognnifgcacnaaProg.lean LOADS. Nothing in Lean hashes anything: it is a label: what it is worth is what the hold of that sum in a sandbox is worth. -/
noncomputable def Try.pinned : Pinned := { name := "ytpognnifgcacnaa", sum := "556aa1914d0a61986ebc29572b3b4f1ebb856b069ed3b3d80dc8584df032786d", checked := Try.checked }
namespace Rows
def none {H : Type} : Left H := { results := [], args := [] }

/-- 'laws.FnExactIsTemplate': WHATEVER THE INPUT: true; the input reads as it did. -/
def fnExactIsTemplateSpec : ChangeSpec := { name := "fnExactIsTemplate", fn := fun _ => fun
  | [d] => { results := [.lit (.bool true)], args := [d] }
  | _ => none }
def fnExactIsTemplateRow : OpenClaim := { program := "ytpognnifgcacnaa", sum := "556aa1914d0a61986ebc29572b3b4f1ebb856b069ed3b3d80dc8584df032786d", func := "loop.example/g01108/laws.FnExactIsTemplate", spec := "fnExactIsTemplate", unfollowed := true, recurses := true, plainKeys := false, apart := false }
def FnExactIsTemplateSaid : Prop := fnExactIsTemplateRow.holds Try.pinned (OpenSpec.ofChange fnExactIsTemplateSpec)

/-- ITS FALSE NEIGHBOUR: 'it returns false'. Refute it at one input. -/
def fnExactIsTemplateWrong : ChangeSpec := { name := "fnExactIsTemplate", fn := fun _ => fun
  | [d] => { results := [.lit (.bool false)], args := [d] }
  | _ => none }
def FnExactIsTemplateWrongFalsely : Prop := fnExactIsTemplateRow.holds Try.pinned (OpenSpec.ofChange fnExactIsTemplateWrong)

/-- 'laws.FnExactComposeTemplates': WHATEVER THE INPUT: true; the input reads as it did. -/
def fnExactComposeTemplatesSpec : ChangeSpec := { name := "fnExactComposeTemplates", fn := fun _ => fun
  | [d1, d2] => { results := [.lit (.bool true)], args := [d1, d2] }
  | _ => none }
def fnExactComposeTemplatesRow : OpenClaim := { program := "ytpognnifgcacnaa", sum := "556aa1914d0a61986ebc29572b3b4f1ebb856b069ed3b3d80dc8584df032786d", func := "loop.example/g01108/laws.FnExactComposeTemplates", spec := "fnExactComposeTemplates", unfollowed := true, recurses := true, plainKeys := false, apart := false }
def FnExactComposeTemplatesSaid : Prop := fnExactComposeTemplatesRow.holds Try.pinned (OpenSpec.ofChange fnExactComposeTemplatesSpec)

/-- ITS FALSE NEIGHBOUR: 'it returns false'. Refute it at one input. -/
def fnExactComposeTemplatesWrong : ChangeSpec := { name := "fnExactComposeTemplates", fn := fun _ => fun
  | [d1, d2] => { results := [.lit (.bool false)], args := [d1, d2] }
  | _ => none }
def FnExactComposeTemplatesWrongFalsely : Prop := fnExactComposeTemplatesRow.holds Try.pinned (OpenSpec.ofChange fnExactComposeTemplatesWrong)

/-- 'laws.FnExactNamedTemplate': WHATEVER THE INPUT: true; the input reads as it did. -/
def fnExactNamedTemplateSpec : ChangeSpec := { name := "fnExactNamedTemplate", fn := fun _ => fun
  | [d] => { results := [.lit (.bool true)], args := [d] }
  | _ => none }
def fnExactNamedTemplateRow : OpenClaim := { program := "ytpognnifgcacnaa", sum := "556aa1914d0a61986ebc29572b3b4f1ebb856b069ed3b3d80dc8584df032786d", func := "loop.example/g01108/laws.FnExactNamedTemplate", spec := "fnExactNamedTemplate", recurses := true, plainKeys := false, apart := false }
def FnExactNamedTemplateSaid : Prop := fnExactNamedTemplateRow.holds Try.pinned (OpenSpec.ofChange fnExactNamedTemplateSpec)

/-- ITS FALSE NEIGHBOUR: 'it returns false'. Refute it at one input. -/
def fnExactNamedTemplateWrong : ChangeSpec := { name := "fnExactNamedTemplate", fn := fun _ => fun
  | [d] => { results := [.lit (.bool false)], args := [d] }
  | _ => none }
def FnExactNamedTemplateWrongFalsely : Prop := fnExactNamedTemplateRow.holds Try.pinned (OpenSpec.ofChange fnExactNamedTemplateWrong)

/-- 'laws.FnExactTorusMap': WHATEVER THE INPUT: true; the input reads as it did. -/
def fnExactTorusMapSpec : ChangeSpec := { name := "fnExactTorusMap", fn := fun _ => fun
  | [d1, d2] => { results := [.lit (.bool true)], args := [d1, d2] }
  | _ => none }
def fnExactTorusMapRow : OpenClaim := { program := "ytpognnifgcacnaa", sum := "556aa1914d0a61986ebc29572b3b4f1ebb856b069ed3b3d80dc8584df032786d", func := "loop.example/g01108/laws.FnExactTorusMap", spec := "fnExactTorusMap", unfollowed := true, recurses := true, plainKeys := false, apart := false }
def FnExactTorusMapSaid : Prop := fnExactTorusMapRow.holds Try.pinned (OpenSpec.ofChange fnExactTorusMapSpec)

/-- ITS FALSE NEIGHBOUR: 'it returns false'. Refute it at one input. -/
def fnExactTorusMapWrong : ChangeSpec := { name := "fnExactTorusMap", fn := fun _ => fun
  | [d1, d2] => { results := [.lit (.bool false)], args := [d1, d2] }
  | _ => none }
def FnExactTorusMapWrongFalsely : Prop := fnExactTorusMapRow.holds Try.pinned (OpenSpec.ofChange fnExactTorusMapWrong)

/-- 'laws.FnExactFaceSizes': WHATEVER THE INPUT: true; the input reads as it did. -/
def fnExactFaceSizesSpec : ChangeSpec := { name := "fnExactFaceSizes", fn := fun _ => fun
  | [d] => { results := [.lit (.bool true)], args := [d] }
  | _ => none }
def fnExactFaceSizesRow : OpenClaim := { program := "ytpognnifgcacnaa", sum := "556aa1914d0a61986ebc29572b3b4f1ebb856b069ed3b3d80dc8584df032786d", func := "loop.example/g01108/laws.FnExactFaceSizes", spec := "fnExactFaceSizes", plainKeys := false, apart := false }
def FnExactFaceSizesSaid : Prop := fnExactFaceSizesRow.holds Try.pinned (OpenSpec.ofChange fnExactFaceSizesSpec)

/-- ITS FALSE NEIGHBOUR: 'it returns false'. Refute it at one input. -/
def fnExactFaceSizesWrong : ChangeSpec := { name := "fnExactFaceSizes", fn := fun _ => fun
  | [d] => { results := [.lit (.bool false)], args := [d] }
  | _ => none }
def FnExactFaceSizesWrongFalsely : Prop := fnExactFaceSizesRow.holds Try.pinned (OpenSpec.ofChange fnExactFaceSizesWrong)

/-- 'laws.FnExactUniversalPolytope': WHATEVER THE INPUT: true; the input reads as it did. -/
def fnExactUniversalPolytopeSpec : ChangeSpec := { name := "fnExactUniversalPolytope", fn := fun _ => fun
  | [d1, d2] => { results := [.lit (.bool true)], args := [d1, d2] }
  | _ => none }
def fnExactUniversalPolytopeRow : OpenClaim := { program := "ytpognnifgcacnaa", sum := "556aa1914d0a61986ebc29572b3b4f1ebb856b069ed3b3d80dc8584df032786d", func := "loop.example/g01108/laws.FnExactUniversalPolytope", spec := "fnExactUniversalPolytope", unfollowed := true, recurses := true, plainKeys := false, apart := false }
def FnExactUniversalPolytopeSaid : Prop := fnExactUniversalPolytopeRow.holds Try.pinned (OpenSpec.ofChange fnExactUniversalPolytopeSpec)

/-- ITS FALSE NEIGHBOUR: 'it returns false'. Refute it at one input. -/
def fnExactUniversalPolytopeWrong : ChangeSpec := { name := "fnExactUniversalPolytope", fn := fun _ => fun
  | [d1, d2] => { results := [.lit (.bool false)], args := [d1, d2] }
  | _ => none }
def FnExactUniversalPolytopeWrongFalsely : Prop := fnExactUniversalPolytopeRow.holds Try.pinned (OpenSpec.ofChange fnExactUniversalPolytopeWrong)

/-- 'laws.FnExactMapOfPolygons': WHATEVER THE INPUT: true; the input reads as it did. -/
def fnExactMapOfPolygonsSpec : ChangeSpec := { name := "fnExactMapOfPolygons", fn := fun _ => fun
  | [d1, d2] => { results := [.lit (.bool true)], args := [d1, d2] }
  | _ => none }
def fnExactMapOfPolygonsRow : OpenClaim := { program := "ytpognnifgcacnaa", sum := "556aa1914d0a61986ebc29572b3b4f1ebb856b069ed3b3d80dc8584df032786d", func := "loop.example/g01108/laws.FnExactMapOfPolygons", spec := "fnExactMapOfPolygons", unfollowed := true, recurses := true, plainKeys := false, apart := false }
def FnExactMapOfPolygonsSaid : Prop := fnExactMapOfPolygonsRow.holds Try.pinned (OpenSpec.ofChange fnExactMapOfPolygonsSpec)

/-- ITS FALSE NEIGHBOUR: 'it returns false'. Refute it at one input. -/
def fnExactMapOfPolygonsWrong : ChangeSpec := { name := "fnExactMapOfPolygons", fn := fun _ => fun
  | [d1, d2] => { results := [.lit (.bool false)], args := [d1, d2] }
  | _ => none }
def FnExactMapOfPolygonsWrongFalsely : Prop := fnExactMapOfPolygonsRow.holds Try.pinned (OpenSpec.ofChange fnExactMapOfPolygonsWrong)

/-- 'laws.FnPolygonMaps': WHATEVER THE INPUT: true; the input reads as it did. -/
def fnPolygonMapsSpec : ChangeSpec := { name := "fnPolygonMaps", fn := fun _ => fun
  | [d] => { results := [.lit (.bool true)], args := [d] }
  | _ => none }
def fnPolygonMapsRow : OpenClaim := { program := "ytpognnifgcacnaa", sum := "556aa1914d0a61986ebc29572b3b4f1ebb856b069ed3b3d80dc8584df032786d", func := "loop.example/g01108/laws.FnPolygonMaps", spec := "fnPolygonMaps", unfollowed := true, recurses := true, plainKeys := false, apart := false }
def FnPolygonMapsSaid : Prop := fnPolygonMapsRow.holds Try.pinned (OpenSpec.ofChange fnPolygonMapsSpec)

/-- ITS FALSE NEIGHBOUR: 'it returns false'. Refute it at one input. -/
def fnPolygonMapsWrong : ChangeSpec := { name := "fnPolygonMaps", fn := fun _ => fun
  | [d] => { results := [.lit (.bool false)], args := [d] }
  | _ => none }
def FnPolygonMapsWrongFalsely : Prop := fnPolygonMapsRow.holds Try.pinned (OpenSpec.ofChange fnPolygonMapsWrong)

/-- 'laws.FnOrdersOfWords': WHATEVER THE INPUT: true; the input reads as it did. -/
def fnOrdersOfWordsSpec : ChangeSpec := { name := "fnOrdersOfWords", fn := fun _ => fun
  | [d] => { results := [.lit (.bool true)], args := [d] }
  | _ => none }
def fnOrdersOfWordsRow : OpenClaim := { program := "ytpognnifgcacnaa", sum := "556aa1914d0a61986ebc29572b3b4f1ebb856b069ed3b3d80dc8584df032786d", func := "loop.example/g01108/laws.FnOrdersOfWords", spec := "fnOrdersOfWords", unfollowed := true, recurses := true, plainKeys := false, apart := false }
def FnOrdersOfWordsSaid : Prop := fnOrdersOfWordsRow.holds Try.pinned (OpenSpec.ofChange fnOrdersOfWordsSpec)

/-- ITS FALSE NEIGHBOUR: 'it returns false'. Refute it at one input. -/
def fnOrdersOfWordsWrong : ChangeSpec := { name := "fnOrdersOfWords", fn := fun _ => fun
  | [d] => { results := [.lit (.bool false)], args := [d] }
  | _ => none }
def FnOrdersOfWordsWrongFalsely : Prop := fnOrdersOfWordsRow.holds Try.pinned (OpenSpec.ofChange fnOrdersOfWordsWrong)

/-- 'laws.FnCosetTables': WHATEVER THE INPUT: true; the input reads as it did. -/
def fnCosetTablesSpec : ChangeSpec := { name := "fnCosetTables", fn := fun _ => fun
  | [d] => { results := [.lit (.bool true)], args := [d] }
  | _ => none }
def fnCosetTablesRow : OpenClaim := { program := "ytpognnifgcacnaa", sum := "556aa1914d0a61986ebc29572b3b4f1ebb856b069ed3b3d80dc8584df032786d", func := "loop.example/g01108/laws.FnCosetTables", spec := "fnCosetTables", unfollowed := true, recurses := true, plainKeys := false, apart := false }
def FnCosetTablesSaid : Prop := fnCosetTablesRow.holds Try.pinned (OpenSpec.ofChange fnCosetTablesSpec)

/-- ITS FALSE NEIGHBOUR: 'it returns false'. Refute it at one input. -/
def fnCosetTablesWrong : ChangeSpec := { name := "fnCosetTables", fn := fun _ => fun
  | [d] => { results := [.lit (.bool false)], args := [d] }
  | _ => none }
def FnCosetTablesWrongFalsely : Prop := fnCosetTablesRow.holds Try.pinned (OpenSpec.ofChange fnCosetTablesWrong)

/-- 'laws.FnCosetWords': WHATEVER THE INPUT: true; the input reads as it did. -/
def fnCosetWordsSpec : ChangeSpec := { name := "fnCosetWords", fn := fun _ => fun
  | [d] => { results := [.lit (.bool true)], args := [d] }
  | _ => none }
def fnCosetWordsRow : OpenClaim := { program := "ytpognnifgcacnaa", sum := "556aa1914d0a61986ebc29572b3b4f1ebb856b069ed3b3d80dc8584df032786d", func := "loop.example/g01108/laws.FnCosetWords", spec := "fnCosetWords", unfollowed := true, recurses := true, plainKeys := false, apart := false }
def FnCosetWordsSaid : Prop := fnCosetWordsRow.holds Try.pinned (OpenSpec.ofChange fnCosetWordsSpec)

/-- ITS FALSE NEIGHBOUR: 'it returns false'. Refute it at one input. -/
def fnCosetWordsWrong : ChangeSpec := { name := "fnCosetWords", fn := fun _ => fun
  | [d] => { results := [.lit (.bool false)], args := [d] }
  | _ => none }
def FnCosetWordsWrongFalsely : Prop := fnCosetWordsRow.holds Try.pinned (OpenSpec.ofChange fnCosetWordsWrong)

/-- 'laws.FnNormalSubgroups': WHATEVER THE INPUT: true; the input reads as it did. -/
def fnNormalSubgroupsSpec : ChangeSpec := { name := "fnNormalSubgroups", fn := fun _ => fun
  | [d] => { results := [.lit (.bool true)], args := [d] }
  | _ => none }
def fnNormalSubgroupsRow : OpenClaim := { program := "ytpognnifgcacnaa", sum := "556aa1914d0a61986ebc29572b3b4f1ebb856b069ed3b3d80dc8584df032786d", func := "loop.example/g01108/laws.FnNormalSubgroups", spec := "fnNormalSubgroups", unfollowed := true, recurses := true, plainKeys := false, apart := false }
def FnNormalSubgroupsSaid : Prop := fnNormalSubgroupsRow.holds Try.pinned (OpenSpec.ofChange fnNormalSubgroupsSpec)

/-- ITS FALSE NEIGHBOUR: 'it returns false'. Refute it at one input. -/
def fnNormalSubgroupsWrong : ChangeSpec := { name := "fnNormalSubgroups", fn := fun _ => fun
  | [d] => { results := [.lit (.bool false)], args := [d] }
  | _ => none }
def FnNormalSubgroupsWrongFalsely : Prop := fnNormalSubgroupsRow.holds Try.pinned (OpenSpec.ofChange fnNormalSubgroupsWrong)

/- THE SECOND FORM. 'bulk': how many values and letters a reading holds, each counted each time it is reached (what is shared counts as often as it is met; a slice's spare places count too). A statement '..UptoSaid' is the law's where the arguments, and the package variables that the reading takes, are together of bulk at most 1048576: NARROWER than '..Said'. Prove '..Said' where nothing that the law and all that it calls make is longer than what came in: it says more and counts as full. Else prove '..UptoSaid'. A law counts once. -/
mutual
def uptoBulk {H : Type} : DataW H → Nat
  | .lit (.string bytes) => bytes.length + 1
  | .lit _ => 1
  | .nil => 1
  | .ptr d => uptoBulk d + 1
  | .slice elems spare => uptoBulkAll elems + uptoBulkAll spare + 1
  | .agg parts => uptoBulkAll parts + 1
  | .iface _ d => uptoBulk d + 1
  | .map entries => uptoBulkEntries entries + 1
  | .held _ => 1
def uptoBulkAll {H : Type} : List (DataW H) → Nat
  | [] => 0
  | d :: r => uptoBulk d + uptoBulkAll r
def uptoBulkEntries {H : Type} : List (Lit × DataW H) → Nat
  | [] => 0
  | x :: r => uptoBulkEntry x + uptoBulkEntries r
def uptoBulkEntry {H : Type} : Lit × DataW H → Nat
  | (.string bytes, d) => bytes.length + uptoBulk d + 1
  | (_, d) => uptoBulk d + 1
 end
def uptoSmall : (H : Type) → List (DataW H) → Bool := fun _ ds => decide (uptoBulkAll ds ≤ 1048576)
def OpenSpec.upto (s : _root_.Go.ChangeSpec) : _root_.Go.OpenSpec := { _root_.Go.OpenSpec.ofChange s with cond := some uptoSmall }

/-- 'laws.FnExactIsTemplate', WHERE WHAT IT READS IS OF BULK AT MOST 1048576: true; the input reads as it did. -/
def fnExactIsTemplateUptoRow : OpenClaim := { program := "ytpognnifgcacnaa", sum := "556aa1914d0a61986ebc29572b3b4f1ebb856b069ed3b3d80dc8584df032786d", func := "loop.example/g01108/laws.FnExactIsTemplate", spec := "fnExactIsTemplate", unfollowed := true, recurses := true, plainKeys := false, apart := false, narrowed := true }
def FnExactIsTemplateUptoSaid : Prop := fnExactIsTemplateUptoRow.holds Try.pinned (OpenSpec.upto fnExactIsTemplateSpec)

/-- 'laws.FnExactComposeTemplates', WHERE WHAT IT READS IS OF BULK AT MOST 1048576: true; the input reads as it did. -/
def fnExactComposeTemplatesUptoRow : OpenClaim := { program := "ytpognnifgcacnaa", sum := "556aa1914d0a61986ebc29572b3b4f1ebb856b069ed3b3d80dc8584df032786d", func := "loop.example/g01108/laws.FnExactComposeTemplates", spec := "fnExactComposeTemplates", unfollowed := true, recurses := true, plainKeys := false, apart := false, narrowed := true }
def FnExactComposeTemplatesUptoSaid : Prop := fnExactComposeTemplatesUptoRow.holds Try.pinned (OpenSpec.upto fnExactComposeTemplatesSpec)

/-- 'laws.FnExactNamedTemplate', WHERE WHAT IT READS IS OF BULK AT MOST 1048576: true; the input reads as it did. -/
def fnExactNamedTemplateUptoRow : OpenClaim := { program := "ytpognnifgcacnaa", sum := "556aa1914d0a61986ebc29572b3b4f1ebb856b069ed3b3d80dc8584df032786d", func := "loop.example/g01108/laws.FnExactNamedTemplate", spec := "fnExactNamedTemplate", recurses := true, plainKeys := false, apart := false, narrowed := true }
def FnExactNamedTemplateUptoSaid : Prop := fnExactNamedTemplateUptoRow.holds Try.pinned (OpenSpec.upto fnExactNamedTemplateSpec)

/-- 'laws.FnExactTorusMap', WHERE WHAT IT READS IS OF BULK AT MOST 1048576: true; the input reads as it did. -/
def fnExactTorusMapUptoRow : OpenClaim := { program := "ytpognnifgcacnaa", sum := "556aa1914d0a61986ebc29572b3b4f1ebb856b069ed3b3d80dc8584df032786d", func := "loop.example/g01108/laws.FnExactTorusMap", spec := "fnExactTorusMap", unfollowed := true, recurses := true, plainKeys := false, apart := false, narrowed := true }
def FnExactTorusMapUptoSaid : Prop := fnExactTorusMapUptoRow.holds Try.pinned (OpenSpec.upto fnExactTorusMapSpec)

/-- 'laws.FnExactFaceSizes', WHERE WHAT IT READS IS OF BULK AT MOST 1048576: true; the input reads as it did. -/
def fnExactFaceSizesUptoRow : OpenClaim := { program := "ytpognnifgcacnaa", sum := "556aa1914d0a61986ebc29572b3b4f1ebb856b069ed3b3d80dc8584df032786d", func := "loop.example/g01108/laws.FnExactFaceSizes", spec := "fnExactFaceSizes", plainKeys := false, apart := false, narrowed := true }
def FnExactFaceSizesUptoSaid : Prop := fnExactFaceSizesUptoRow.holds Try.pinned (OpenSpec.upto fnExactFaceSizesSpec)

/-- 'laws.FnExactUniversalPolytope', WHERE WHAT IT READS IS OF BULK AT MOST 1048576: true; the input reads as it did. -/
def fnExactUniversalPolytopeUptoRow : OpenClaim := { program := "ytpognnifgcacnaa", sum := "556aa1914d0a61986ebc29572b3b4f1ebb856b069ed3b3d80dc8584df032786d", func := "loop.example/g01108/laws.FnExactUniversalPolytope", spec := "fnExactUniversalPolytope", unfollowed := true, recurses := true, plainKeys := false, apart := false, narrowed := true }
def FnExactUniversalPolytopeUptoSaid : Prop := fnExactUniversalPolytopeUptoRow.holds Try.pinned (OpenSpec.upto fnExactUniversalPolytopeSpec)

/-- 'laws.FnExactMapOfPolygons', WHERE WHAT IT READS IS OF BULK AT MOST 1048576: true; the input reads as it did. -/
def fnExactMapOfPolygonsUptoRow : OpenClaim := { program := "ytpognnifgcacnaa", sum := "556aa1914d0a61986ebc29572b3b4f1ebb856b069ed3b3d80dc8584df032786d", func := "loop.example/g01108/laws.FnExactMapOfPolygons", spec := "fnExactMapOfPolygons", unfollowed := true, recurses := true, plainKeys := false, apart := false, narrowed := true }
def FnExactMapOfPolygonsUptoSaid : Prop := fnExactMapOfPolygonsUptoRow.holds Try.pinned (OpenSpec.upto fnExactMapOfPolygonsSpec)

/-- 'laws.FnPolygonMaps', WHERE WHAT IT READS IS OF BULK AT MOST 1048576: true; the input reads as it did. -/
def fnPolygonMapsUptoRow : OpenClaim := { program := "ytpognnifgcacnaa", sum := "556aa1914d0a61986ebc29572b3b4f1ebb856b069ed3b3d80dc8584df032786d", func := "loop.example/g01108/laws.FnPolygonMaps", spec := "fnPolygonMaps", unfollowed := true, recurses := true, plainKeys := false, apart := false, narrowed := true }
def FnPolygonMapsUptoSaid : Prop := fnPolygonMapsUptoRow.holds Try.pinned (OpenSpec.upto fnPolygonMapsSpec)

/-- 'laws.FnOrdersOfWords', WHERE WHAT IT READS IS OF BULK AT MOST 1048576: true; the input reads as it did. -/
def fnOrdersOfWordsUptoRow : OpenClaim := { program := "ytpognnifgcacnaa", sum := "556aa1914d0a61986ebc29572b3b4f1ebb856b069ed3b3d80dc8584df032786d", func := "loop.example/g01108/laws.FnOrdersOfWords", spec := "fnOrdersOfWords", unfollowed := true, recurses := true, plainKeys := false, apart := false, narrowed := true }
def FnOrdersOfWordsUptoSaid : Prop := fnOrdersOfWordsUptoRow.holds Try.pinned (OpenSpec.upto fnOrdersOfWordsSpec)

/-- 'laws.FnCosetTables', WHERE WHAT IT READS IS OF BULK AT MOST 1048576: true; the input reads as it did. -/
def fnCosetTablesUptoRow : OpenClaim := { program := "ytpognnifgcacnaa", sum := "556aa1914d0a61986ebc29572b3b4f1ebb856b069ed3b3d80dc8584df032786d", func := "loop.example/g01108/laws.FnCosetTables", spec := "fnCosetTables", unfollowed := true, recurses := true, plainKeys := false, apart := false, narrowed := true }
def FnCosetTablesUptoSaid : Prop := fnCosetTablesUptoRow.holds Try.pinned (OpenSpec.upto fnCosetTablesSpec)

/-- 'laws.FnCosetWords', WHERE WHAT IT READS IS OF BULK AT MOST 1048576: true; the input reads as it did. -/
def fnCosetWordsUptoRow : OpenClaim := { program := "ytpognnifgcacnaa", sum := "556aa1914d0a61986ebc29572b3b4f1ebb856b069ed3b3d80dc8584df032786d", func := "loop.example/g01108/laws.FnCosetWords", spec := "fnCosetWords", unfollowed := true, recurses := true, plainKeys := false, apart := false, narrowed := true }
def FnCosetWordsUptoSaid : Prop := fnCosetWordsUptoRow.holds Try.pinned (OpenSpec.upto fnCosetWordsSpec)

/-- 'laws.FnNormalSubgroups', WHERE WHAT IT READS IS OF BULK AT MOST 1048576: true; the input reads as it did. -/
def fnNormalSubgroupsUptoRow : OpenClaim := { program := "ytpognnifgcacnaa", sum := "556aa1914d0a61986ebc29572b3b4f1ebb856b069ed3b3d80dc8584df032786d", func := "loop.example/g01108/laws.FnNormalSubgroups", spec := "fnNormalSubgroups", unfollowed := true, recurses := true, plainKeys := false, apart := false, narrowed := true }
def FnNormalSubgroupsUptoSaid : Prop := fnNormalSubgroupsUptoRow.holds Try.pinned (OpenSpec.upto fnNormalSubgroupsSpec)

end Rows
end Go.Proofs.Ytpognnifgcacnaa
