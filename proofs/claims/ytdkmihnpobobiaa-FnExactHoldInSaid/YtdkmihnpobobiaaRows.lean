/-
  No cell of these rows narrows 'for every input' (looked for: loops, veiled, ifaces, maps, wideKeys, modest, calm, conditions, laid).
  DERIVED. THE GIVEN ROWS OF THIS SEAT. 11 by the template 'for every input the law returns true; each argument reads behind the call as it read before'; 0 by the template 'total and deterministic' (their statements: YtdkmihnpobobiaaTotals.lean).
  GIVEN WITH THE SEED: the statements are not yours to turn. If you find one false, say at which input.
  Laid BY PROGRAM, IN A SANDBOX (cutbox-rows.mjs): the forced cells as the released guide's own fill.sh prints them over the translation d4c0267f8cae1a6e… (all of the seat's roots in one cut). By AI agents, Wed Nov 11 2026. No macro, syntax, notation, axiom, sorry.
-/
import Derived.Test.YtdkmihnpobobiaaChecked
import GoSem.Claim
import GoSem.ClaimJoined
import GoSem.ClaimMapViews
import Derived.JoinedTies
import Derived.KernelRfl
namespace Go.Proofs.Ytdkmihnpobobiaa
/- THE CELL 'sum', in the pinned program and in every row, IS THE sha256 OF THE DUMP (.gsa) THAT YtdkmihnpobobiaaProg.lean LOADS. Nothing in Lean hashes anything: it is a label: what it is worth is what the hold of that sum in a sandbox is worth. -/
noncomputable def Try.pinned : Pinned := { name := "ytdkmihnpobobiaa", sum := "d4c0267f8cae1a6e419e9fcf8b7b0f3d2bb1f0b0c2628fdc87a1ef1be552db5b", checked := Try.checked }
namespace Rows
def none {H : Type} : Left H := { results := [], args := [] }

/-- 'laws.FnExactCoxeterPresentation': WHATEVER THE INPUT: true; the input reads as it did. -/
def fnExactCoxeterPresentationSpec : ChangeSpec := { name := "fnExactCoxeterPresentation", fn := fun _ => fun
  | [d] => { results := [.lit (.bool true)], args := [d] }
  | _ => none }
def fnExactCoxeterPresentationRow : OpenClaim := { program := "ytdkmihnpobobiaa", sum := "d4c0267f8cae1a6e419e9fcf8b7b0f3d2bb1f0b0c2628fdc87a1ef1be552db5b", func := "loop.example/g01108/laws.FnExactCoxeterPresentation", spec := "fnExactCoxeterPresentation", unfollowed := true, recurses := true, plainKeys := false, apart := false }
def FnExactCoxeterPresentationSaid : Prop := fnExactCoxeterPresentationRow.holds Try.pinned (OpenSpec.ofChange fnExactCoxeterPresentationSpec)

/-- ITS FALSE NEIGHBOUR: 'it returns false'. Refute it at one input. -/
def fnExactCoxeterPresentationWrong : ChangeSpec := { name := "fnExactCoxeterPresentation", fn := fun _ => fun
  | [d] => { results := [.lit (.bool false)], args := [d] }
  | _ => none }
def FnExactCoxeterPresentationWrongFalsely : Prop := fnExactCoxeterPresentationRow.holds Try.pinned (OpenSpec.ofChange fnExactCoxeterPresentationWrong)

/-- 'laws.FnExactTorusMap': WHATEVER THE INPUT: true; the input reads as it did. -/
def fnExactTorusMapSpec : ChangeSpec := { name := "fnExactTorusMap", fn := fun _ => fun
  | [d1, d2] => { results := [.lit (.bool true)], args := [d1, d2] }
  | _ => none }
def fnExactTorusMapRow : OpenClaim := { program := "ytdkmihnpobobiaa", sum := "d4c0267f8cae1a6e419e9fcf8b7b0f3d2bb1f0b0c2628fdc87a1ef1be552db5b", func := "loop.example/g01108/laws.FnExactTorusMap", spec := "fnExactTorusMap", unfollowed := true, recurses := true, plainKeys := false, apart := false }
def FnExactTorusMapSaid : Prop := fnExactTorusMapRow.holds Try.pinned (OpenSpec.ofChange fnExactTorusMapSpec)

/-- ITS FALSE NEIGHBOUR: 'it returns false'. Refute it at one input. -/
def fnExactTorusMapWrong : ChangeSpec := { name := "fnExactTorusMap", fn := fun _ => fun
  | [d1, d2] => { results := [.lit (.bool false)], args := [d1, d2] }
  | _ => none }
def FnExactTorusMapWrongFalsely : Prop := fnExactTorusMapRow.holds Try.pinned (OpenSpec.ofChange fnExactTorusMapWrong)

/-- 'laws.FnExactHoldIn': WHATEVER THE INPUT: true; the input reads as it did. -/
def fnExactHoldInSpec : ChangeSpec := { name := "fnExactHoldIn", fn := fun _ => fun
  | [d1, d2] => { results := [.lit (.bool true)], args := [d1, d2] }
  | _ => none }
def fnExactHoldInRow : OpenClaim := { program := "ytdkmihnpobobiaa", sum := "d4c0267f8cae1a6e419e9fcf8b7b0f3d2bb1f0b0c2628fdc87a1ef1be552db5b", func := "loop.example/g01108/laws.FnExactHoldIn", spec := "fnExactHoldIn", unfollowed := true, recurses := true, plainKeys := false, apart := false }
def FnExactHoldInSaid : Prop := fnExactHoldInRow.holds Try.pinned (OpenSpec.ofChange fnExactHoldInSpec)

/-- ITS FALSE NEIGHBOUR: 'it returns false'. Refute it at one input. -/
def fnExactHoldInWrong : ChangeSpec := { name := "fnExactHoldIn", fn := fun _ => fun
  | [d1, d2] => { results := [.lit (.bool false)], args := [d1, d2] }
  | _ => none }
def FnExactHoldInWrongFalsely : Prop := fnExactHoldInRow.holds Try.pinned (OpenSpec.ofChange fnExactHoldInWrong)

/-- 'laws.FnExactNamedTemplate': WHATEVER THE INPUT: true; the input reads as it did. -/
def fnExactNamedTemplateSpec : ChangeSpec := { name := "fnExactNamedTemplate", fn := fun _ => fun
  | [d] => { results := [.lit (.bool true)], args := [d] }
  | _ => none }
def fnExactNamedTemplateRow : OpenClaim := { program := "ytdkmihnpobobiaa", sum := "d4c0267f8cae1a6e419e9fcf8b7b0f3d2bb1f0b0c2628fdc87a1ef1be552db5b", func := "loop.example/g01108/laws.FnExactNamedTemplate", spec := "fnExactNamedTemplate", recurses := true, plainKeys := false, apart := false }
def FnExactNamedTemplateSaid : Prop := fnExactNamedTemplateRow.holds Try.pinned (OpenSpec.ofChange fnExactNamedTemplateSpec)

/-- ITS FALSE NEIGHBOUR: 'it returns false'. Refute it at one input. -/
def fnExactNamedTemplateWrong : ChangeSpec := { name := "fnExactNamedTemplate", fn := fun _ => fun
  | [d] => { results := [.lit (.bool false)], args := [d] }
  | _ => none }
def FnExactNamedTemplateWrongFalsely : Prop := fnExactNamedTemplateRow.holds Try.pinned (OpenSpec.ofChange fnExactNamedTemplateWrong)

/-- 'laws.FnExactWithRelators': WHATEVER THE INPUT: true; the input reads as it did. -/
def fnExactWithRelatorsSpec : ChangeSpec := { name := "fnExactWithRelators", fn := fun _ => fun
  | [d1, d2] => { results := [.lit (.bool true)], args := [d1, d2] }
  | _ => none }
def fnExactWithRelatorsRow : OpenClaim := { program := "ytdkmihnpobobiaa", sum := "d4c0267f8cae1a6e419e9fcf8b7b0f3d2bb1f0b0c2628fdc87a1ef1be552db5b", func := "loop.example/g01108/laws.FnExactWithRelators", spec := "fnExactWithRelators", unfollowed := true, recurses := true, plainKeys := false, apart := false }
def FnExactWithRelatorsSaid : Prop := fnExactWithRelatorsRow.holds Try.pinned (OpenSpec.ofChange fnExactWithRelatorsSpec)

/-- ITS FALSE NEIGHBOUR: 'it returns false'. Refute it at one input. -/
def fnExactWithRelatorsWrong : ChangeSpec := { name := "fnExactWithRelators", fn := fun _ => fun
  | [d1, d2] => { results := [.lit (.bool false)], args := [d1, d2] }
  | _ => none }
def FnExactWithRelatorsWrongFalsely : Prop := fnExactWithRelatorsRow.holds Try.pinned (OpenSpec.ofChange fnExactWithRelatorsWrong)

/-- 'laws.FnExactIsMap': WHATEVER THE INPUT: true; the input reads as it did. -/
def fnExactIsMapSpec : ChangeSpec := { name := "fnExactIsMap", fn := fun _ => fun
  | [d] => { results := [.lit (.bool true)], args := [d] }
  | _ => none }
def fnExactIsMapRow : OpenClaim := { program := "ytdkmihnpobobiaa", sum := "d4c0267f8cae1a6e419e9fcf8b7b0f3d2bb1f0b0c2628fdc87a1ef1be552db5b", func := "loop.example/g01108/laws.FnExactIsMap", spec := "fnExactIsMap", plainKeys := false, apart := false }
def FnExactIsMapSaid : Prop := fnExactIsMapRow.holds Try.pinned (OpenSpec.ofChange fnExactIsMapSpec)

/-- ITS FALSE NEIGHBOUR: 'it returns false'. Refute it at one input. -/
def fnExactIsMapWrong : ChangeSpec := { name := "fnExactIsMap", fn := fun _ => fun
  | [d] => { results := [.lit (.bool false)], args := [d] }
  | _ => none }
def FnExactIsMapWrongFalsely : Prop := fnExactIsMapRow.holds Try.pinned (OpenSpec.ofChange fnExactIsMapWrong)

/-- 'laws.FnExactComposeTemplates': WHATEVER THE INPUT: true; the input reads as it did. -/
def fnExactComposeTemplatesSpec : ChangeSpec := { name := "fnExactComposeTemplates", fn := fun _ => fun
  | [d1, d2] => { results := [.lit (.bool true)], args := [d1, d2] }
  | _ => none }
def fnExactComposeTemplatesRow : OpenClaim := { program := "ytdkmihnpobobiaa", sum := "d4c0267f8cae1a6e419e9fcf8b7b0f3d2bb1f0b0c2628fdc87a1ef1be552db5b", func := "loop.example/g01108/laws.FnExactComposeTemplates", spec := "fnExactComposeTemplates", unfollowed := true, recurses := true, plainKeys := false, apart := false }
def FnExactComposeTemplatesSaid : Prop := fnExactComposeTemplatesRow.holds Try.pinned (OpenSpec.ofChange fnExactComposeTemplatesSpec)

/-- ITS FALSE NEIGHBOUR: 'it returns false'. Refute it at one input. -/
def fnExactComposeTemplatesWrong : ChangeSpec := { name := "fnExactComposeTemplates", fn := fun _ => fun
  | [d1, d2] => { results := [.lit (.bool false)], args := [d1, d2] }
  | _ => none }
def FnExactComposeTemplatesWrongFalsely : Prop := fnExactComposeTemplatesRow.holds Try.pinned (OpenSpec.ofChange fnExactComposeTemplatesWrong)

/-- 'laws.FnExactKindOfDiagram': WHATEVER THE INPUT: true; the input reads as it did. -/
def fnExactKindOfDiagramSpec : ChangeSpec := { name := "fnExactKindOfDiagram", fn := fun _ => fun
  | [d] => { results := [.lit (.bool true)], args := [d] }
  | _ => none }
def fnExactKindOfDiagramRow : OpenClaim := { program := "ytdkmihnpobobiaa", sum := "d4c0267f8cae1a6e419e9fcf8b7b0f3d2bb1f0b0c2628fdc87a1ef1be552db5b", func := "loop.example/g01108/laws.FnExactKindOfDiagram", spec := "fnExactKindOfDiagram", unfollowed := true, recurses := true, plainKeys := false, apart := false }
def FnExactKindOfDiagramSaid : Prop := fnExactKindOfDiagramRow.holds Try.pinned (OpenSpec.ofChange fnExactKindOfDiagramSpec)

/-- ITS FALSE NEIGHBOUR: 'it returns false'. Refute it at one input. -/
def fnExactKindOfDiagramWrong : ChangeSpec := { name := "fnExactKindOfDiagram", fn := fun _ => fun
  | [d] => { results := [.lit (.bool false)], args := [d] }
  | _ => none }
def FnExactKindOfDiagramWrongFalsely : Prop := fnExactKindOfDiagramRow.holds Try.pinned (OpenSpec.ofChange fnExactKindOfDiagramWrong)

/-- 'laws.FnExactMapOfRotation': WHATEVER THE INPUT: true; the input reads as it did. -/
def fnExactMapOfRotationSpec : ChangeSpec := { name := "fnExactMapOfRotation", fn := fun _ => fun
  | [d] => { results := [.lit (.bool true)], args := [d] }
  | _ => none }
def fnExactMapOfRotationRow : OpenClaim := { program := "ytdkmihnpobobiaa", sum := "d4c0267f8cae1a6e419e9fcf8b7b0f3d2bb1f0b0c2628fdc87a1ef1be552db5b", func := "loop.example/g01108/laws.FnExactMapOfRotation", spec := "fnExactMapOfRotation", plainKeys := false, apart := false }
def FnExactMapOfRotationSaid : Prop := fnExactMapOfRotationRow.holds Try.pinned (OpenSpec.ofChange fnExactMapOfRotationSpec)

/-- ITS FALSE NEIGHBOUR: 'it returns false'. Refute it at one input. -/
def fnExactMapOfRotationWrong : ChangeSpec := { name := "fnExactMapOfRotation", fn := fun _ => fun
  | [d] => { results := [.lit (.bool false)], args := [d] }
  | _ => none }
def FnExactMapOfRotationWrongFalsely : Prop := fnExactMapOfRotationRow.holds Try.pinned (OpenSpec.ofChange fnExactMapOfRotationWrong)

/-- 'laws.FnExactFaceSizes': WHATEVER THE INPUT: true; the input reads as it did. -/
def fnExactFaceSizesSpec : ChangeSpec := { name := "fnExactFaceSizes", fn := fun _ => fun
  | [d] => { results := [.lit (.bool true)], args := [d] }
  | _ => none }
def fnExactFaceSizesRow : OpenClaim := { program := "ytdkmihnpobobiaa", sum := "d4c0267f8cae1a6e419e9fcf8b7b0f3d2bb1f0b0c2628fdc87a1ef1be552db5b", func := "loop.example/g01108/laws.FnExactFaceSizes", spec := "fnExactFaceSizes", plainKeys := false, apart := false }
def FnExactFaceSizesSaid : Prop := fnExactFaceSizesRow.holds Try.pinned (OpenSpec.ofChange fnExactFaceSizesSpec)

/-- ITS FALSE NEIGHBOUR: 'it returns false'. Refute it at one input. -/
def fnExactFaceSizesWrong : ChangeSpec := { name := "fnExactFaceSizes", fn := fun _ => fun
  | [d] => { results := [.lit (.bool false)], args := [d] }
  | _ => none }
def FnExactFaceSizesWrongFalsely : Prop := fnExactFaceSizesRow.holds Try.pinned (OpenSpec.ofChange fnExactFaceSizesWrong)

/-- 'laws.FnExactMapOfPolygons': WHATEVER THE INPUT: true; the input reads as it did. -/
def fnExactMapOfPolygonsSpec : ChangeSpec := { name := "fnExactMapOfPolygons", fn := fun _ => fun
  | [d1, d2] => { results := [.lit (.bool true)], args := [d1, d2] }
  | _ => none }
def fnExactMapOfPolygonsRow : OpenClaim := { program := "ytdkmihnpobobiaa", sum := "d4c0267f8cae1a6e419e9fcf8b7b0f3d2bb1f0b0c2628fdc87a1ef1be552db5b", func := "loop.example/g01108/laws.FnExactMapOfPolygons", spec := "fnExactMapOfPolygons", unfollowed := true, recurses := true, plainKeys := false, apart := false }
def FnExactMapOfPolygonsSaid : Prop := fnExactMapOfPolygonsRow.holds Try.pinned (OpenSpec.ofChange fnExactMapOfPolygonsSpec)

/-- ITS FALSE NEIGHBOUR: 'it returns false'. Refute it at one input. -/
def fnExactMapOfPolygonsWrong : ChangeSpec := { name := "fnExactMapOfPolygons", fn := fun _ => fun
  | [d1, d2] => { results := [.lit (.bool false)], args := [d1, d2] }
  | _ => none }
def FnExactMapOfPolygonsWrongFalsely : Prop := fnExactMapOfPolygonsRow.holds Try.pinned (OpenSpec.ofChange fnExactMapOfPolygonsWrong)

/- THE SECOND FORM. 'bulk': how many values and letters a reading holds, each counted each time it is reached (what is shared counts as often as it is met; a slice's spare places count too). A statement '..UptoSaid' is the law's where the arguments, and the package variables that the reading takes, are together of bulk at most 1048576: NARROWER than '..Said'. Prove '..Said' where nothing that the law and all that it calls make is longer than what came in: it says more and counts as full. Else prove '..UptoSaid'. A law counts once. -/
mutual
def uptoBulk {H : Type} : DataW H → Nat
  | .lit (.string bytes) => bytes.length + 1
  | .lit _ => 1
  | .nil => 1
  | .ptr d => uptoBulk d + 1
  | .slice elems spare => uptoBulkAll elems + uptoBulkAll spare + 1
  | .agg parts => uptoBulkAll parts + 1
  | .iface _ d => uptoBulk d + 1
  | .map entries => uptoBulkEntries entries + 1
  | .held _ => 1
def uptoBulkAll {H : Type} : List (DataW H) → Nat
  | [] => 0
  | d :: r => uptoBulk d + uptoBulkAll r
def uptoBulkEntries {H : Type} : List (Lit × DataW H) → Nat
  | [] => 0
  | x :: r => uptoBulkEntry x + uptoBulkEntries r
def uptoBulkEntry {H : Type} : Lit × DataW H → Nat
  | (.string bytes, d) => bytes.length + uptoBulk d + 1
  | (_, d) => uptoBulk d + 1
 end
def uptoSmall : (H : Type) → List (DataW H) → Bool := fun _ ds => decide (uptoBulkAll ds ≤ 1048576)
def OpenSpec.upto (s : _root_.Go.ChangeSpec) : _root_.Go.OpenSpec := { _root_.Go.OpenSpec.ofChange s with cond := some uptoSmall }

/-- 'laws.FnExactCoxeterPresentation', WHERE WHAT IT READS IS OF BULK AT MOST 1048576: true; the input reads as it did. -/
def fnExactCoxeterPresentationUptoRow : OpenClaim := { program := "ytdkmihnpobobiaa", sum := "d4c0267f8cae1a6e419e9fcf8b7b0f3d2bb1f0b0c2628fdc87a1ef1be552db5b", func := "loop.example/g01108/laws.FnExactCoxeterPresentation", spec := "fnExactCoxeterPresentation", unfollowed := true, recurses := true, plainKeys := false, apart := false, narrowed := true }
def FnExactCoxeterPresentationUptoSaid : Prop := fnExactCoxeterPresentationUptoRow.holds Try.pinned (OpenSpec.upto fnExactCoxeterPresentationSpec)

/-- 'laws.FnExactTorusMap', WHERE WHAT IT READS IS OF BULK AT MOST 1048576: true; the input reads as it did. -/
def fnExactTorusMapUptoRow : OpenClaim := { program := "ytdkmihnpobobiaa", sum := "d4c0267f8cae1a6e419e9fcf8b7b0f3d2bb1f0b0c2628fdc87a1ef1be552db5b", func := "loop.example/g01108/laws.FnExactTorusMap", spec := "fnExactTorusMap", unfollowed := true, recurses := true, plainKeys := false, apart := false, narrowed := true }
def FnExactTorusMapUptoSaid : Prop := fnExactTorusMapUptoRow.holds Try.pinned (OpenSpec.upto fnExactTorusMapSpec)

/-- 'laws.FnExactHoldIn', WHERE WHAT IT READS IS OF BULK AT MOST 1048576: true; the input reads as it did. -/
def fnExactHoldInUptoRow : OpenClaim := { program := "ytdkmihnpobobiaa", sum := "d4c0267f8cae1a6e419e9fcf8b7b0f3d2bb1f0b0c2628fdc87a1ef1be552db5b", func := "loop.example/g01108/laws.FnExactHoldIn", spec := "fnExactHoldIn", unfollowed := true, recurses := true, plainKeys := false, apart := false, narrowed := true }
def FnExactHoldInUptoSaid : Prop := fnExactHoldInUptoRow.holds Try.pinned (OpenSpec.upto fnExactHoldInSpec)

/-- 'laws.FnExactNamedTemplate', WHERE WHAT IT READS IS OF BULK AT MOST 1048576: true; the input reads as it did. -/
def fnExactNamedTemplateUptoRow : OpenClaim := { program := "ytdkmihnpobobiaa", sum := "d4c0267f8cae1a6e419e9fcf8b7b0f3d2bb1f0b0c2628fdc87a1ef1be552db5b", func := "loop.example/g01108/laws.FnExactNamedTemplate", spec := "fnExactNamedTemplate", recurses := true, plainKeys := false, apart := false, narrowed := true }
def FnExactNamedTemplateUptoSaid : Prop := fnExactNamedTemplateUptoRow.holds Try.pinned (OpenSpec.upto fnExactNamedTemplateSpec)

/-- 'laws.FnExactWithRelators', WHERE WHAT IT READS IS OF BULK AT MOST 1048576: true; the input reads as it did. -/
def fnExactWithRelatorsUptoRow : OpenClaim := { program := "ytdkmihnpobobiaa", sum := "d4c0267f8cae1a6e419e9fcf8b7b0f3d2bb1f0b0c2628fdc87a1ef1be552db5b", func := "loop.example/g01108/laws.FnExactWithRelators", spec := "fnExactWithRelators", unfollowed := true, recurses := true, plainKeys := false, apart := false, narrowed := true }
def FnExactWithRelatorsUptoSaid : Prop := fnExactWithRelatorsUptoRow.holds Try.pinned (OpenSpec.upto fnExactWithRelatorsSpec)

/-- 'laws.FnExactIsMap', WHERE WHAT IT READS IS OF BULK AT MOST 1048576: true; the input reads as it did. -/
def fnExactIsMapUptoRow : OpenClaim := { program := "ytdkmihnpobobiaa", sum := "d4c0267f8cae1a6e419e9fcf8b7b0f3d2bb1f0b0c2628fdc87a1ef1be552db5b", func := "loop.example/g01108/laws.FnExactIsMap", spec := "fnExactIsMap", plainKeys := false, apart := false, narrowed := true }
def FnExactIsMapUptoSaid : Prop := fnExactIsMapUptoRow.holds Try.pinned (OpenSpec.upto fnExactIsMapSpec)

/-- 'laws.FnExactComposeTemplates', WHERE WHAT IT READS IS OF BULK AT MOST 1048576: true; the input reads as it did. -/
def fnExactComposeTemplatesUptoRow : OpenClaim := { program := "ytdkmihnpobobiaa", sum := "d4c0267f8cae1a6e419e9fcf8b7b0f3d2bb1f0b0c2628fdc87a1ef1be552db5b", func := "loop.example/g01108/laws.FnExactComposeTemplates", spec := "fnExactComposeTemplates", unfollowed := true, recurses := true, plainKeys := false, apart := false, narrowed := true }
def FnExactComposeTemplatesUptoSaid : Prop := fnExactComposeTemplatesUptoRow.holds Try.pinned (OpenSpec.upto fnExactComposeTemplatesSpec)

/-- 'laws.FnExactKindOfDiagram', WHERE WHAT IT READS IS OF BULK AT MOST 1048576: true; the input reads as it did. -/
def fnExactKindOfDiagramUptoRow : OpenClaim := { program := "ytdkmihnpobobiaa", sum := "d4c0267f8cae1a6e419e9fcf8b7b0f3d2bb1f0b0c2628fdc87a1ef1be552db5b", func := "loop.example/g01108/laws.FnExactKindOfDiagram", spec := "fnExactKindOfDiagram", unfollowed := true, recurses := true, plainKeys := false, apart := false, narrowed := true }
def FnExactKindOfDiagramUptoSaid : Prop := fnExactKindOfDiagramUptoRow.holds Try.pinned (OpenSpec.upto fnExactKindOfDiagramSpec)

/-- 'laws.FnExactMapOfRotation', WHERE WHAT IT READS IS OF BULK AT MOST 1048576: true; the input reads as it did. -/
def fnExactMapOfRotationUptoRow : OpenClaim := { program := "ytdkmihnpobobiaa", sum := "d4c0267f8cae1a6e419e9fcf8b7b0f3d2bb1f0b0c2628fdc87a1ef1be552db5b", func := "loop.example/g01108/laws.FnExactMapOfRotation", spec := "fnExactMapOfRotation", plainKeys := false, apart := false, narrowed := true }
def FnExactMapOfRotationUptoSaid : Prop := fnExactMapOfRotationUptoRow.holds Try.pinned (OpenSpec.upto fnExactMapOfRotationSpec)

/-- 'laws.FnExactFaceSizes', WHERE WHAT IT READS IS OF BULK AT MOST 1048576: true; the input reads as it did. -/
def fnExactFaceSizesUptoRow : OpenClaim := { program := "ytdkmihnpobobiaa", sum := "d4c0267f8cae1a6e419e9fcf8b7b0f3d2bb1f0b0c2628fdc87a1ef1be552db5b", func := "loop.example/g01108/laws.FnExactFaceSizes", spec := "fnExactFaceSizes", plainKeys := false, apart := false, narrowed := true }
def FnExactFaceSizesUptoSaid : Prop := fnExactFaceSizesUptoRow.holds Try.pinned (OpenSpec.upto fnExactFaceSizesSpec)

/-- 'laws.FnExactMapOfPolygons', WHERE WHAT IT READS IS OF BULK AT MOST 1048576: true; the input reads as it did. -/
def fnExactMapOfPolygonsUptoRow : OpenClaim := { program := "ytdkmihnpobobiaa", sum := "d4c0267f8cae1a6e419e9fcf8b7b0f3d2bb1f0b0c2628fdc87a1ef1be552db5b", func := "loop.example/g01108/laws.FnExactMapOfPolygons", spec := "fnExactMapOfPolygons", unfollowed := true, recurses := true, plainKeys := false, apart := false, narrowed := true }
def FnExactMapOfPolygonsUptoSaid : Prop := fnExactMapOfPolygonsUptoRow.holds Try.pinned (OpenSpec.upto fnExactMapOfPolygonsSpec)

end Rows
end Go.Proofs.Ytdkmihnpobobiaa
