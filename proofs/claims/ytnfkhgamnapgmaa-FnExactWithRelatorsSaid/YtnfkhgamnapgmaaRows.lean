/-
  No cell of these rows narrows 'for every input' (looked for: loops, veiled, ifaces, maps, wideKeys, modest, calm, conditions, laid).
  DERIVED. THE GIVEN ROWS OF THIS SEAT. 12 by the template 'for every input the law returns true; each argument reads behind the call as it read before'; 0 by the template 'total and deterministic' (their statements: YtnfkhgamnapgmaaTotals.lean).
  GIVEN WITH THE SEED: the statements are not yours to turn. If you find one false, say at which input.
  Laid BY PROGRAM, IN A SANDBOX (cutbox-rows.mjs): the forced cells as the released guide's own fill.sh prints them over the translation 9b4d3f804e7e8dee… (all of the seat's roots in one cut). By AI agents, Wed Nov 11 2026. No macro, syntax, notation, axiom, sorry.
-/
import Derived.Test.YtnfkhgamnapgmaaChecked
import GoSem.Claim
import GoSem.ClaimJoined
import GoSem.ClaimMapViews
import Derived.JoinedTies
import Derived.KernelRfl
namespace Go.Proofs.Ytnfkhgamnapgmaa
/- THE CELL 'sum', in the pinned program and in every row, IS THE sha256 OF THE DUMP (.gsa) THAT YtnfkhgamnapgmaaProg.lean LOADS. Nothing in Lean hashes anything: it is a label: what it is worth is what the hold of that sum in a sandbox is worth. -/
noncomputable def Try.pinned : Pinned := { name := "ytnfkhgamnapgmaa", sum := "9b4d3f804e7e8dee0ed113da4ec2e47f6716721c89267cb45b7ef419900b8d11", checked := Try.checked }
namespace Rows
def none {H : Type} : Left H := { results := [], args := [] }

/-- 'laws.FnExactMapOfRotation': WHATEVER THE INPUT: true; the input reads as it did. -/
def fnExactMapOfRotationSpec : ChangeSpec := { name := "fnExactMapOfRotation", fn := fun _ => fun
  | [d] => { results := [.lit (.bool true)], args := [d] }
  | _ => none }
def fnExactMapOfRotationRow : OpenClaim := { program := "ytnfkhgamnapgmaa", sum := "9b4d3f804e7e8dee0ed113da4ec2e47f6716721c89267cb45b7ef419900b8d11", func := "loop.example/g01108/laws.FnExactMapOfRotation", spec := "fnExactMapOfRotation", plainKeys := false, apart := false }
def FnExactMapOfRotationSaid : Prop := fnExactMapOfRotationRow.holds Try.pinned (OpenSpec.ofChange fnExactMapOfRotationSpec)

/-- ITS FALSE NEIGHBOUR: 'it returns false'. Refute it at one input. -/
def fnExactMapOfRotationWrong : ChangeSpec := { name := "fnExactMapOfRotation", fn := fun _ => fun
  | [d] => { results := [.lit (.bool false)], args := [d] }
  | _ => none }
def FnExactMapOfRotationWrongFalsely : Prop := fnExactMapOfRotationRow.holds Try.pinned (OpenSpec.ofChange fnExactMapOfRotationWrong)

/-- 'laws.FnExactAdmissibleSets': WHATEVER THE INPUT: true; the input reads as it did. -/
def fnExactAdmissibleSetsSpec : ChangeSpec := { name := "fnExactAdmissibleSets", fn := fun _ => fun
  | [d1, d2] => { results := [.lit (.bool true)], args := [d1, d2] }
  | _ => none }
def fnExactAdmissibleSetsRow : OpenClaim := { program := "ytnfkhgamnapgmaa", sum := "9b4d3f804e7e8dee0ed113da4ec2e47f6716721c89267cb45b7ef419900b8d11", func := "loop.example/g01108/laws.FnExactAdmissibleSets", spec := "fnExactAdmissibleSets", unfollowed := true, recurses := true, plainKeys := false, apart := false }
def FnExactAdmissibleSetsSaid : Prop := fnExactAdmissibleSetsRow.holds Try.pinned (OpenSpec.ofChange fnExactAdmissibleSetsSpec)

/-- ITS FALSE NEIGHBOUR: 'it returns false'. Refute it at one input. -/
def fnExactAdmissibleSetsWrong : ChangeSpec := { name := "fnExactAdmissibleSets", fn := fun _ => fun
  | [d1, d2] => { results := [.lit (.bool false)], args := [d1, d2] }
  | _ => none }
def FnExactAdmissibleSetsWrongFalsely : Prop := fnExactAdmissibleSetsRow.holds Try.pinned (OpenSpec.ofChange fnExactAdmissibleSetsWrong)

/-- 'laws.FnExactKindsOfRank': WHATEVER THE INPUT: true; the input reads as it did. -/
def fnExactKindsOfRankSpec : ChangeSpec := { name := "fnExactKindsOfRank", fn := fun _ => fun
  | [d1, d2, d3] => { results := [.lit (.bool true)], args := [d1, d2, d3] }
  | _ => none }
def fnExactKindsOfRankRow : OpenClaim := { program := "ytnfkhgamnapgmaa", sum := "9b4d3f804e7e8dee0ed113da4ec2e47f6716721c89267cb45b7ef419900b8d11", func := "loop.example/g01108/laws.FnExactKindsOfRank", spec := "fnExactKindsOfRank", unfollowed := true, recurses := true, plainKeys := false, apart := false }
def FnExactKindsOfRankSaid : Prop := fnExactKindsOfRankRow.holds Try.pinned (OpenSpec.ofChange fnExactKindsOfRankSpec)

/-- ITS FALSE NEIGHBOUR: 'it returns false'. Refute it at one input. -/
def fnExactKindsOfRankWrong : ChangeSpec := { name := "fnExactKindsOfRank", fn := fun _ => fun
  | [d1, d2, d3] => { results := [.lit (.bool false)], args := [d1, d2, d3] }
  | _ => none }
def FnExactKindsOfRankWrongFalsely : Prop := fnExactKindsOfRankRow.holds Try.pinned (OpenSpec.ofChange fnExactKindsOfRankWrong)

/-- 'laws.FnExactWythoffCounts': WHATEVER THE INPUT: true; the input reads as it did. -/
def fnExactWythoffCountsSpec : ChangeSpec := { name := "fnExactWythoffCounts", fn := fun _ => fun
  | [d1, d2] => { results := [.lit (.bool true)], args := [d1, d2] }
  | _ => none }
def fnExactWythoffCountsRow : OpenClaim := { program := "ytnfkhgamnapgmaa", sum := "9b4d3f804e7e8dee0ed113da4ec2e47f6716721c89267cb45b7ef419900b8d11", func := "loop.example/g01108/laws.FnExactWythoffCounts", spec := "fnExactWythoffCounts", unfollowed := true, recurses := true, plainKeys := false, apart := false }
def FnExactWythoffCountsSaid : Prop := fnExactWythoffCountsRow.holds Try.pinned (OpenSpec.ofChange fnExactWythoffCountsSpec)

/-- ITS FALSE NEIGHBOUR: 'it returns false'. Refute it at one input. -/
def fnExactWythoffCountsWrong : ChangeSpec := { name := "fnExactWythoffCounts", fn := fun _ => fun
  | [d1, d2] => { results := [.lit (.bool false)], args := [d1, d2] }
  | _ => none }
def FnExactWythoffCountsWrongFalsely : Prop := fnExactWythoffCountsRow.holds Try.pinned (OpenSpec.ofChange fnExactWythoffCountsWrong)

/-- 'laws.FnExactFacesAtVertex': WHATEVER THE INPUT: true; the input reads as it did. -/
def fnExactFacesAtVertexSpec : ChangeSpec := { name := "fnExactFacesAtVertex", fn := fun _ => fun
  | [d1, d2] => { results := [.lit (.bool true)], args := [d1, d2] }
  | _ => none }
def fnExactFacesAtVertexRow : OpenClaim := { program := "ytnfkhgamnapgmaa", sum := "9b4d3f804e7e8dee0ed113da4ec2e47f6716721c89267cb45b7ef419900b8d11", func := "loop.example/g01108/laws.FnExactFacesAtVertex", spec := "fnExactFacesAtVertex", unfollowed := true, recurses := true, plainKeys := false, apart := false }
def FnExactFacesAtVertexSaid : Prop := fnExactFacesAtVertexRow.holds Try.pinned (OpenSpec.ofChange fnExactFacesAtVertexSpec)

/-- ITS FALSE NEIGHBOUR: 'it returns false'. Refute it at one input. -/
def fnExactFacesAtVertexWrong : ChangeSpec := { name := "fnExactFacesAtVertex", fn := fun _ => fun
  | [d1, d2] => { results := [.lit (.bool false)], args := [d1, d2] }
  | _ => none }
def FnExactFacesAtVertexWrongFalsely : Prop := fnExactFacesAtVertexRow.holds Try.pinned (OpenSpec.ofChange fnExactFacesAtVertexWrong)

/-- 'laws.FnExactIsTemplate': WHATEVER THE INPUT: true; the input reads as it did. -/
def fnExactIsTemplateSpec : ChangeSpec := { name := "fnExactIsTemplate", fn := fun _ => fun
  | [d] => { results := [.lit (.bool true)], args := [d] }
  | _ => none }
def fnExactIsTemplateRow : OpenClaim := { program := "ytnfkhgamnapgmaa", sum := "9b4d3f804e7e8dee0ed113da4ec2e47f6716721c89267cb45b7ef419900b8d11", func := "loop.example/g01108/laws.FnExactIsTemplate", spec := "fnExactIsTemplate", unfollowed := true, recurses := true, plainKeys := false, apart := false }
def FnExactIsTemplateSaid : Prop := fnExactIsTemplateRow.holds Try.pinned (OpenSpec.ofChange fnExactIsTemplateSpec)

/-- ITS FALSE NEIGHBOUR: 'it returns false'. Refute it at one input. -/
def fnExactIsTemplateWrong : ChangeSpec := { name := "fnExactIsTemplate", fn := fun _ => fun
  | [d] => { results := [.lit (.bool false)], args := [d] }
  | _ => none }
def FnExactIsTemplateWrongFalsely : Prop := fnExactIsTemplateRow.holds Try.pinned (OpenSpec.ofChange fnExactIsTemplateWrong)

/-- 'laws.FnExactNamedTemplate': WHATEVER THE INPUT: true; the input reads as it did. -/
def fnExactNamedTemplateSpec : ChangeSpec := { name := "fnExactNamedTemplate", fn := fun _ => fun
  | [d] => { results := [.lit (.bool true)], args := [d] }
  | _ => none }
def fnExactNamedTemplateRow : OpenClaim := { program := "ytnfkhgamnapgmaa", sum := "9b4d3f804e7e8dee0ed113da4ec2e47f6716721c89267cb45b7ef419900b8d11", func := "loop.example/g01108/laws.FnExactNamedTemplate", spec := "fnExactNamedTemplate", recurses := true, plainKeys := false, apart := false }
def FnExactNamedTemplateSaid : Prop := fnExactNamedTemplateRow.holds Try.pinned (OpenSpec.ofChange fnExactNamedTemplateSpec)

/-- ITS FALSE NEIGHBOUR: 'it returns false'. Refute it at one input. -/
def fnExactNamedTemplateWrong : ChangeSpec := { name := "fnExactNamedTemplate", fn := fun _ => fun
  | [d] => { results := [.lit (.bool false)], args := [d] }
  | _ => none }
def FnExactNamedTemplateWrongFalsely : Prop := fnExactNamedTemplateRow.holds Try.pinned (OpenSpec.ofChange fnExactNamedTemplateWrong)

/-- 'laws.FnExactComposeTemplates': WHATEVER THE INPUT: true; the input reads as it did. -/
def fnExactComposeTemplatesSpec : ChangeSpec := { name := "fnExactComposeTemplates", fn := fun _ => fun
  | [d1, d2] => { results := [.lit (.bool true)], args := [d1, d2] }
  | _ => none }
def fnExactComposeTemplatesRow : OpenClaim := { program := "ytnfkhgamnapgmaa", sum := "9b4d3f804e7e8dee0ed113da4ec2e47f6716721c89267cb45b7ef419900b8d11", func := "loop.example/g01108/laws.FnExactComposeTemplates", spec := "fnExactComposeTemplates", unfollowed := true, recurses := true, plainKeys := false, apart := false }
def FnExactComposeTemplatesSaid : Prop := fnExactComposeTemplatesRow.holds Try.pinned (OpenSpec.ofChange fnExactComposeTemplatesSpec)

/-- ITS FALSE NEIGHBOUR: 'it returns false'. Refute it at one input. -/
def fnExactComposeTemplatesWrong : ChangeSpec := { name := "fnExactComposeTemplates", fn := fun _ => fun
  | [d1, d2] => { results := [.lit (.bool false)], args := [d1, d2] }
  | _ => none }
def FnExactComposeTemplatesWrongFalsely : Prop := fnExactComposeTemplatesRow.holds Try.pinned (OpenSpec.ofChange fnExactComposeTemplatesWrong)

/-- 'laws.FnExactMapOfPolygons': WHATEVER THE INPUT: true; the input reads as it did. -/
def fnExactMapOfPolygonsSpec : ChangeSpec := { name := "fnExactMapOfPolygons", fn := fun _ => fun
  | [d1, d2] => { results := [.lit (.bool true)], args := [d1, d2] }
  | _ => none }
def fnExactMapOfPolygonsRow : OpenClaim := { program := "ytnfkhgamnapgmaa", sum := "9b4d3f804e7e8dee0ed113da4ec2e47f6716721c89267cb45b7ef419900b8d11", func := "loop.example/g01108/laws.FnExactMapOfPolygons", spec := "fnExactMapOfPolygons", unfollowed := true, recurses := true, plainKeys := false, apart := false }
def FnExactMapOfPolygonsSaid : Prop := fnExactMapOfPolygonsRow.holds Try.pinned (OpenSpec.ofChange fnExactMapOfPolygonsSpec)

/-- ITS FALSE NEIGHBOUR: 'it returns false'. Refute it at one input. -/
def fnExactMapOfPolygonsWrong : ChangeSpec := { name := "fnExactMapOfPolygons", fn := fun _ => fun
  | [d1, d2] => { results := [.lit (.bool false)], args := [d1, d2] }
  | _ => none }
def FnExactMapOfPolygonsWrongFalsely : Prop := fnExactMapOfPolygonsRow.holds Try.pinned (OpenSpec.ofChange fnExactMapOfPolygonsWrong)

/-- 'laws.FnExactFaceSizes': WHATEVER THE INPUT: true; the input reads as it did. -/
def fnExactFaceSizesSpec : ChangeSpec := { name := "fnExactFaceSizes", fn := fun _ => fun
  | [d] => { results := [.lit (.bool true)], args := [d] }
  | _ => none }
def fnExactFaceSizesRow : OpenClaim := { program := "ytnfkhgamnapgmaa", sum := "9b4d3f804e7e8dee0ed113da4ec2e47f6716721c89267cb45b7ef419900b8d11", func := "loop.example/g01108/laws.FnExactFaceSizes", spec := "fnExactFaceSizes", plainKeys := false, apart := false }
def FnExactFaceSizesSaid : Prop := fnExactFaceSizesRow.holds Try.pinned (OpenSpec.ofChange fnExactFaceSizesSpec)

/-- ITS FALSE NEIGHBOUR: 'it returns false'. Refute it at one input. -/
def fnExactFaceSizesWrong : ChangeSpec := { name := "fnExactFaceSizes", fn := fun _ => fun
  | [d] => { results := [.lit (.bool false)], args := [d] }
  | _ => none }
def FnExactFaceSizesWrongFalsely : Prop := fnExactFaceSizesRow.holds Try.pinned (OpenSpec.ofChange fnExactFaceSizesWrong)

/-- 'laws.FnExactUniversalPolytope': WHATEVER THE INPUT: true; the input reads as it did. -/
def fnExactUniversalPolytopeSpec : ChangeSpec := { name := "fnExactUniversalPolytope", fn := fun _ => fun
  | [d1, d2] => { results := [.lit (.bool true)], args := [d1, d2] }
  | _ => none }
def fnExactUniversalPolytopeRow : OpenClaim := { program := "ytnfkhgamnapgmaa", sum := "9b4d3f804e7e8dee0ed113da4ec2e47f6716721c89267cb45b7ef419900b8d11", func := "loop.example/g01108/laws.FnExactUniversalPolytope", spec := "fnExactUniversalPolytope", unfollowed := true, recurses := true, plainKeys := false, apart := false }
def FnExactUniversalPolytopeSaid : Prop := fnExactUniversalPolytopeRow.holds Try.pinned (OpenSpec.ofChange fnExactUniversalPolytopeSpec)

/-- ITS FALSE NEIGHBOUR: 'it returns false'. Refute it at one input. -/
def fnExactUniversalPolytopeWrong : ChangeSpec := { name := "fnExactUniversalPolytope", fn := fun _ => fun
  | [d1, d2] => { results := [.lit (.bool false)], args := [d1, d2] }
  | _ => none }
def FnExactUniversalPolytopeWrongFalsely : Prop := fnExactUniversalPolytopeRow.holds Try.pinned (OpenSpec.ofChange fnExactUniversalPolytopeWrong)

/-- 'laws.FnExactWithRelators': WHATEVER THE INPUT: true; the input reads as it did. -/
def fnExactWithRelatorsSpec : ChangeSpec := { name := "fnExactWithRelators", fn := fun _ => fun
  | [d1, d2] => { results := [.lit (.bool true)], args := [d1, d2] }
  | _ => none }
def fnExactWithRelatorsRow : OpenClaim := { program := "ytnfkhgamnapgmaa", sum := "9b4d3f804e7e8dee0ed113da4ec2e47f6716721c89267cb45b7ef419900b8d11", func := "loop.example/g01108/laws.FnExactWithRelators", spec := "fnExactWithRelators", unfollowed := true, recurses := true, plainKeys := false, apart := false }
def FnExactWithRelatorsSaid : Prop := fnExactWithRelatorsRow.holds Try.pinned (OpenSpec.ofChange fnExactWithRelatorsSpec)

/-- ITS FALSE NEIGHBOUR: 'it returns false'. Refute it at one input. -/
def fnExactWithRelatorsWrong : ChangeSpec := { name := "fnExactWithRelators", fn := fun _ => fun
  | [d1, d2] => { results := [.lit (.bool false)], args := [d1, d2] }
  | _ => none }
def FnExactWithRelatorsWrongFalsely : Prop := fnExactWithRelatorsRow.holds Try.pinned (OpenSpec.ofChange fnExactWithRelatorsWrong)

/- THE SECOND FORM. 'bulk': how many values and letters a reading holds, each counted each time it is reached (what is shared counts as often as it is met; a slice's spare places count too). A statement '..UptoSaid' is the law's where the arguments, and the package variables that the reading takes, are together of bulk at most 1048576: NARROWER than '..Said'. Prove '..Said' where nothing that the law and all that it calls make is longer than what came in: it says more and counts as full. Else prove '..UptoSaid'. A law counts once. -/
mutual
def uptoBulk {H : Type} : DataW H → Nat
  | .lit (.string bytes) => bytes.length + 1
  | .lit _ => 1
  | .nil => 1
  | .ptr d => uptoBulk d + 1
  | .slice elems spare => uptoBulkAll elems + uptoBulkAll spare + 1
  | .agg parts => uptoBulkAll parts + 1
  | .iface _ d => uptoBulk d + 1
  | .map entries => uptoBulkEntries entries + 1
  | .held _ => 1
def uptoBulkAll {H : Type} : List (DataW H) → Nat
  | [] => 0
  | d :: r => uptoBulk d + uptoBulkAll r
def uptoBulkEntries {H : Type} : List (Lit × DataW H) → Nat
  | [] => 0
  | x :: r => uptoBulkEntry x + uptoBulkEntries r
def uptoBulkEntry {H : Type} : Lit × DataW H → Nat
  | (.string bytes, d) => bytes.length + uptoBulk d + 1
  | (_, d) => uptoBulk d + 1
 end
def uptoSmall : (H : Type) → List (DataW H) → Bool := fun _ ds => decide (uptoBulkAll ds ≤ 1048576)
def OpenSpec.upto (s : _root_.Go.ChangeSpec) : _root_.Go.OpenSpec := { _root_.Go.OpenSpec.ofChange s with cond := some uptoSmall }

/-- 'laws.FnExactMapOfRotation', WHERE WHAT IT READS IS OF BULK AT MOST 1048576: true; the input reads as it did. -/
def fnExactMapOfRotationUptoRow : OpenClaim := { program := "ytnfkhgamnapgmaa", sum := "9b4d3f804e7e8dee0ed113da4ec2e47f6716721c89267cb45b7ef419900b8d11", func := "loop.example/g01108/laws.FnExactMapOfRotation", spec := "fnExactMapOfRotation", plainKeys := false, apart := false, narrowed := true }
def FnExactMapOfRotationUptoSaid : Prop := fnExactMapOfRotationUptoRow.holds Try.pinned (OpenSpec.upto fnExactMapOfRotationSpec)

/-- 'laws.FnExactAdmissibleSets', WHERE WHAT IT READS IS OF BULK AT MOST 1048576: true; the input reads as it did. -/
def fnExactAdmissibleSetsUptoRow : OpenClaim := { program := "ytnfkhgamnapgmaa", sum := "9b4d3f804e7e8dee0ed113da4ec2e47f6716721c89267cb45b7ef419900b8d11", func := "loop.example/g01108/laws.FnExactAdmissibleSets", spec := "fnExactAdmissibleSets", unfollowed := true, recurses := true, plainKeys := false, apart := false, narrowed := true }
def FnExactAdmissibleSetsUptoSaid : Prop := fnExactAdmissibleSetsUptoRow.holds Try.pinned (OpenSpec.upto fnExactAdmissibleSetsSpec)

/-- 'laws.FnExactKindsOfRank', WHERE WHAT IT READS IS OF BULK AT MOST 1048576: true; the input reads as it did. -/
def fnExactKindsOfRankUptoRow : OpenClaim := { program := "ytnfkhgamnapgmaa", sum := "9b4d3f804e7e8dee0ed113da4ec2e47f6716721c89267cb45b7ef419900b8d11", func := "loop.example/g01108/laws.FnExactKindsOfRank", spec := "fnExactKindsOfRank", unfollowed := true, recurses := true, plainKeys := false, apart := false, narrowed := true }
def FnExactKindsOfRankUptoSaid : Prop := fnExactKindsOfRankUptoRow.holds Try.pinned (OpenSpec.upto fnExactKindsOfRankSpec)

/-- 'laws.FnExactWythoffCounts', WHERE WHAT IT READS IS OF BULK AT MOST 1048576: true; the input reads as it did. -/
def fnExactWythoffCountsUptoRow : OpenClaim := { program := "ytnfkhgamnapgmaa", sum := "9b4d3f804e7e8dee0ed113da4ec2e47f6716721c89267cb45b7ef419900b8d11", func := "loop.example/g01108/laws.FnExactWythoffCounts", spec := "fnExactWythoffCounts", unfollowed := true, recurses := true, plainKeys := false, apart := false, narrowed := true }
def FnExactWythoffCountsUptoSaid : Prop := fnExactWythoffCountsUptoRow.holds Try.pinned (OpenSpec.upto fnExactWythoffCountsSpec)

/-- 'laws.FnExactFacesAtVertex', WHERE WHAT IT READS IS OF BULK AT MOST 1048576: true; the input reads as it did. -/
def fnExactFacesAtVertexUptoRow : OpenClaim := { program := "ytnfkhgamnapgmaa", sum := "9b4d3f804e7e8dee0ed113da4ec2e47f6716721c89267cb45b7ef419900b8d11", func := "loop.example/g01108/laws.FnExactFacesAtVertex", spec := "fnExactFacesAtVertex", unfollowed := true, recurses := true, plainKeys := false, apart := false, narrowed := true }
def FnExactFacesAtVertexUptoSaid : Prop := fnExactFacesAtVertexUptoRow.holds Try.pinned (OpenSpec.upto fnExactFacesAtVertexSpec)

/-- 'laws.FnExactIsTemplate', WHERE WHAT IT READS IS OF BULK AT MOST 1048576: true; the input reads as it did. -/
def fnExactIsTemplateUptoRow : OpenClaim := { program := "ytnfkhgamnapgmaa", sum := "9b4d3f804e7e8dee0ed113da4ec2e47f6716721c89267cb45b7ef419900b8d11", func := "loop.example/g01108/laws.FnExactIsTemplate", spec := "fnExactIsTemplate", unfollowed := true, recurses := true, plainKeys := false, apart := false, narrowed := true }
def FnExactIsTemplateUptoSaid : Prop := fnExactIsTemplateUptoRow.holds Try.pinned (OpenSpec.upto fnExactIsTemplateSpec)

/-- 'laws.FnExactNamedTemplate', WHERE WHAT IT READS IS OF BULK AT MOST 1048576: true; the input reads as it did. -/
def fnExactNamedTemplateUptoRow : OpenClaim := { program := "ytnfkhgamnapgmaa", sum := "9b4d3f804e7e8dee0ed113da4ec2e47f6716721c89267cb45b7ef419900b8d11", func := "loop.example/g01108/laws.FnExactNamedTemplate", spec := "fnExactNamedTemplate", recurses := true, plainKeys := false, apart := false, narrowed := true }
def FnExactNamedTemplateUptoSaid : Prop := fnExactNamedTemplateUptoRow.holds Try.pinned (OpenSpec.upto fnExactNamedTemplateSpec)

/-- 'laws.FnExactComposeTemplates', WHERE WHAT IT READS IS OF BULK AT MOST 1048576: true; the input reads as it did. -/
def fnExactComposeTemplatesUptoRow : OpenClaim := { program := "ytnfkhgamnapgmaa", sum := "9b4d3f804e7e8dee0ed113da4ec2e47f6716721c89267cb45b7ef419900b8d11", func := "loop.example/g01108/laws.FnExactComposeTemplates", spec := "fnExactComposeTemplates", unfollowed := true, recurses := true, plainKeys := false, apart := false, narrowed := true }
def FnExactComposeTemplatesUptoSaid : Prop := fnExactComposeTemplatesUptoRow.holds Try.pinned (OpenSpec.upto fnExactComposeTemplatesSpec)

/-- 'laws.FnExactMapOfPolygons', WHERE WHAT IT READS IS OF BULK AT MOST 1048576: true; the input reads as it did. -/
def fnExactMapOfPolygonsUptoRow : OpenClaim := { program := "ytnfkhgamnapgmaa", sum := "9b4d3f804e7e8dee0ed113da4ec2e47f6716721c89267cb45b7ef419900b8d11", func := "loop.example/g01108/laws.FnExactMapOfPolygons", spec := "fnExactMapOfPolygons", unfollowed := true, recurses := true, plainKeys := false, apart := false, narrowed := true }
def FnExactMapOfPolygonsUptoSaid : Prop := fnExactMapOfPolygonsUptoRow.holds Try.pinned (OpenSpec.upto fnExactMapOfPolygonsSpec)

/-- 'laws.FnExactFaceSizes', WHERE WHAT IT READS IS OF BULK AT MOST 1048576: true; the input reads as it did. -/
def fnExactFaceSizesUptoRow : OpenClaim := { program := "ytnfkhgamnapgmaa", sum := "9b4d3f804e7e8dee0ed113da4ec2e47f6716721c89267cb45b7ef419900b8d11", func := "loop.example/g01108/laws.FnExactFaceSizes", spec := "fnExactFaceSizes", plainKeys := false, apart := false, narrowed := true }
def FnExactFaceSizesUptoSaid : Prop := fnExactFaceSizesUptoRow.holds Try.pinned (OpenSpec.upto fnExactFaceSizesSpec)

/-- 'laws.FnExactUniversalPolytope', WHERE WHAT IT READS IS OF BULK AT MOST 1048576: true; the input reads as it did. -/
def fnExactUniversalPolytopeUptoRow : OpenClaim := { program := "ytnfkhgamnapgmaa", sum := "9b4d3f804e7e8dee0ed113da4ec2e47f6716721c89267cb45b7ef419900b8d11", func := "loop.example/g01108/laws.FnExactUniversalPolytope", spec := "fnExactUniversalPolytope", unfollowed := true, recurses := true, plainKeys := false, apart := false, narrowed := true }
def FnExactUniversalPolytopeUptoSaid : Prop := fnExactUniversalPolytopeUptoRow.holds Try.pinned (OpenSpec.upto fnExactUniversalPolytopeSpec)

/-- 'laws.FnExactWithRelators', WHERE WHAT IT READS IS OF BULK AT MOST 1048576: true; the input reads as it did. -/
def fnExactWithRelatorsUptoRow : OpenClaim := { program := "ytnfkhgamnapgmaa", sum := "9b4d3f804e7e8dee0ed113da4ec2e47f6716721c89267cb45b7ef419900b8d11", func := "loop.example/g01108/laws.FnExactWithRelators", spec := "fnExactWithRelators", unfollowed := true, recurses := true, plainKeys := false, apart := false, narrowed := true }
def FnExactWithRelatorsUptoSaid : Prop := fnExactWithRelatorsUptoRow.holds Try.pinned (OpenSpec.upto fnExactWithRelatorsSpec)

end Rows
end Go.Proofs.Ytnfkhgamnapgmaa
