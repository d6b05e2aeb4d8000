/-
  No cell of these rows narrows 'for every input' (looked for: loops, veiled, ifaces, maps, wideKeys, modest, calm, conditions, laid).
  DERIVED. THE GIVEN ROWS OF THIS SEAT. 12 by the template 'for every input the law returns true; each argument reads behind the call as it read before'; 0 by the template 'total and deterministic' (their statements: YtlpeghdbjfnenaaTotals.lean).
  GIVEN WITH THE SEED: the statements are not yours to turn. If you find one false, say at which input.
  Laid BY PROGRAM, IN A SANDBOX (cutbox-rows.mjs): the forced cells as the released guide's own fill.sh prints them over the translation fb8d21353b56f1c8… (all of the seat's roots in one cut). By AI agents, Wed Nov 11 2026. No macro, syntax, notation, axiom, sorry.
-/
import Derived.Test.YtlpeghdbjfnenaaChecked
import GoSem.Claim
import GoSem.ClaimJoined
import GoSem.ClaimMapViews
import Derived.JoinedTies
import Derived.KernelRfl
namespace Go.Proofs.Ytlpeghdbjfnenaa
/- THE CELL 'sum', in the pinned program and in every row, IS THE sha256 OF THE DUMP (.gsa) THAT YtlpeghdbjfnenaaProg.lean LOADS. Nothing in Lean hashes anything: it is a label: what it is worth is what the hold of that sum in a sandbox is worth. -/
noncomputable def Try.pinned : Pinned := { name := "ytlpeghdbjfnenaa", sum := "fb8d21353b56f1c868fe649b2ec173e938bba74762f1203fd32da23bae33e5ea", checked := Try.checked }
namespace Rows
def none {H : Type} : Left H := { results := [], args := [] }

/-- 'laws.FnExactIsMap': WHATEVER THE INPUT: true; the input reads as it did. -/
def fnExactIsMapSpec : ChangeSpec := { name := "fnExactIsMap", fn := fun _ => fun
  | [d] => { results := [.lit (.bool true)], args := [d] }
  | _ => none }
def fnExactIsMapRow : OpenClaim := { program := "ytlpeghdbjfnenaa", sum := "fb8d21353b56f1c868fe649b2ec173e938bba74762f1203fd32da23bae33e5ea", func := "loop.example/g01108/laws.FnExactIsMap", spec := "fnExactIsMap", apart := false }
def FnExactIsMapSaid : Prop := fnExactIsMapRow.holds Try.pinned (OpenSpec.ofChange fnExactIsMapSpec)

/-- ITS FALSE NEIGHBOUR: 'it returns false'. Refute it at one input. -/
def fnExactIsMapWrong : ChangeSpec := { name := "fnExactIsMap", fn := fun _ => fun
  | [d] => { results := [.lit (.bool false)], args := [d] }
  | _ => none }
def FnExactIsMapWrongFalsely : Prop := fnExactIsMapRow.holds Try.pinned (OpenSpec.ofChange fnExactIsMapWrong)

/-- 'laws.FnExactKindOfDiagram': WHATEVER THE INPUT: true; the input reads as it did. -/
def fnExactKindOfDiagramSpec : ChangeSpec := { name := "fnExactKindOfDiagram", fn := fun _ => fun
  | [d] => { results := [.lit (.bool true)], args := [d] }
  | _ => none }
def fnExactKindOfDiagramRow : OpenClaim := { program := "ytlpeghdbjfnenaa", sum := "fb8d21353b56f1c868fe649b2ec173e938bba74762f1203fd32da23bae33e5ea", func := "loop.example/g01108/laws.FnExactKindOfDiagram", spec := "fnExactKindOfDiagram", unfollowed := true, recurses := true, apart := false }
def FnExactKindOfDiagramSaid : Prop := fnExactKindOfDiagramRow.holds Try.pinned (OpenSpec.ofChange fnExactKindOfDiagramSpec)

/-- ITS FALSE NEIGHBOUR: 'it returns false'. Refute it at one input. -/
def fnExactKindOfDiagramWrong : ChangeSpec := { name := "fnExactKindOfDiagram", fn := fun _ => fun
  | [d] => { results := [.lit (.bool false)], args := [d] }
  | _ => none }
def FnExactKindOfDiagramWrongFalsely : Prop := fnExactKindOfDiagramRow.holds Try.pinned (OpenSpec.ofChange fnExactKindOfDiagramWrong)

/-- 'laws.FnExactWithRelators': WHATEVER THE INPUT: true; the input reads as it did. -/
def fnExactWithRelatorsSpec : ChangeSpec := { name := "fnExactWithRelators", fn := fun _ => fun
  | [d1, d2] => { results := [.lit (.bool true)], args := [d1, d2] }
  | _ => none }
def fnExactWithRelatorsRow : OpenClaim := { program := "ytlpeghdbjfnenaa", sum := "fb8d21353b56f1c868fe649b2ec173e938bba74762f1203fd32da23bae33e5ea", func := "loop.example/g01108/laws.FnExactWithRelators", spec := "fnExactWithRelators", unfollowed := true, recurses := true, apart := false }
def FnExactWithRelatorsSaid : Prop := fnExactWithRelatorsRow.holds Try.pinned (OpenSpec.ofChange fnExactWithRelatorsSpec)

/-- ITS FALSE NEIGHBOUR: 'it returns false'. Refute it at one input. -/
def fnExactWithRelatorsWrong : ChangeSpec := { name := "fnExactWithRelators", fn := fun _ => fun
  | [d1, d2] => { results := [.lit (.bool false)], args := [d1, d2] }
  | _ => none }
def FnExactWithRelatorsWrongFalsely : Prop := fnExactWithRelatorsRow.holds Try.pinned (OpenSpec.ofChange fnExactWithRelatorsWrong)

/-- 'laws.FnExactMapOfRotation': WHATEVER THE INPUT: true; the input reads as it did. -/
def fnExactMapOfRotationSpec : ChangeSpec := { name := "fnExactMapOfRotation", fn := fun _ => fun
  | [d] => { results := [.lit (.bool true)], args := [d] }
  | _ => none }
def fnExactMapOfRotationRow : OpenClaim := { program := "ytlpeghdbjfnenaa", sum := "fb8d21353b56f1c868fe649b2ec173e938bba74762f1203fd32da23bae33e5ea", func := "loop.example/g01108/laws.FnExactMapOfRotation", spec := "fnExactMapOfRotation", apart := false }
def FnExactMapOfRotationSaid : Prop := fnExactMapOfRotationRow.holds Try.pinned (OpenSpec.ofChange fnExactMapOfRotationSpec)

/-- ITS FALSE NEIGHBOUR: 'it returns false'. Refute it at one input. -/
def fnExactMapOfRotationWrong : ChangeSpec := { name := "fnExactMapOfRotation", fn := fun _ => fun
  | [d] => { results := [.lit (.bool false)], args := [d] }
  | _ => none }
def FnExactMapOfRotationWrongFalsely : Prop := fnExactMapOfRotationRow.holds Try.pinned (OpenSpec.ofChange fnExactMapOfRotationWrong)

/-- 'laws.FnExactCoxeterNumber': WHATEVER THE INPUT: true; the input reads as it did. -/
def fnExactCoxeterNumberSpec : ChangeSpec := { name := "fnExactCoxeterNumber", fn := fun _ => fun
  | [d] => { results := [.lit (.bool true)], args := [d] }
  | _ => none }
def fnExactCoxeterNumberRow : OpenClaim := { program := "ytlpeghdbjfnenaa", sum := "fb8d21353b56f1c868fe649b2ec173e938bba74762f1203fd32da23bae33e5ea", func := "loop.example/g01108/laws.FnExactCoxeterNumber", spec := "fnExactCoxeterNumber", unfollowed := true, recurses := true, apart := false }
def FnExactCoxeterNumberSaid : Prop := fnExactCoxeterNumberRow.holds Try.pinned (OpenSpec.ofChange fnExactCoxeterNumberSpec)

/-- ITS FALSE NEIGHBOUR: 'it returns false'. Refute it at one input. -/
def fnExactCoxeterNumberWrong : ChangeSpec := { name := "fnExactCoxeterNumber", fn := fun _ => fun
  | [d] => { results := [.lit (.bool false)], args := [d] }
  | _ => none }
def FnExactCoxeterNumberWrongFalsely : Prop := fnExactCoxeterNumberRow.holds Try.pinned (OpenSpec.ofChange fnExactCoxeterNumberWrong)

/-- 'laws.FnExactOrderOfNodes': WHATEVER THE INPUT: true; the input reads as it did. -/
def fnExactOrderOfNodesSpec : ChangeSpec := { name := "fnExactOrderOfNodes", fn := fun _ => fun
  | [d1, d2] => { results := [.lit (.bool true)], args := [d1, d2] }
  | _ => none }
def fnExactOrderOfNodesRow : OpenClaim := { program := "ytlpeghdbjfnenaa", sum := "fb8d21353b56f1c868fe649b2ec173e938bba74762f1203fd32da23bae33e5ea", func := "loop.example/g01108/laws.FnExactOrderOfNodes", spec := "fnExactOrderOfNodes", unfollowed := true, recurses := true, apart := false }
def FnExactOrderOfNodesSaid : Prop := fnExactOrderOfNodesRow.holds Try.pinned (OpenSpec.ofChange fnExactOrderOfNodesSpec)

/-- ITS FALSE NEIGHBOUR: 'it returns false'. Refute it at one input. -/
def fnExactOrderOfNodesWrong : ChangeSpec := { name := "fnExactOrderOfNodes", fn := fun _ => fun
  | [d1, d2] => { results := [.lit (.bool false)], args := [d1, d2] }
  | _ => none }
def FnExactOrderOfNodesWrongFalsely : Prop := fnExactOrderOfNodesRow.holds Try.pinned (OpenSpec.ofChange fnExactOrderOfNodesWrong)

/-- 'laws.FnExactDegreesOf': WHATEVER THE INPUT: true; the input reads as it did. -/
def fnExactDegreesOfSpec : ChangeSpec := { name := "fnExactDegreesOf", fn := fun _ => fun
  | [d] => { results := [.lit (.bool true)], args := [d] }
  | _ => none }
def fnExactDegreesOfRow : OpenClaim := { program := "ytlpeghdbjfnenaa", sum := "fb8d21353b56f1c868fe649b2ec173e938bba74762f1203fd32da23bae33e5ea", func := "loop.example/g01108/laws.FnExactDegreesOf", spec := "fnExactDegreesOf", unfollowed := true, recurses := true, apart := false }
def FnExactDegreesOfSaid : Prop := fnExactDegreesOfRow.holds Try.pinned (OpenSpec.ofChange fnExactDegreesOfSpec)

/-- ITS FALSE NEIGHBOUR: 'it returns false'. Refute it at one input. -/
def fnExactDegreesOfWrong : ChangeSpec := { name := "fnExactDegreesOf", fn := fun _ => fun
  | [d] => { results := [.lit (.bool false)], args := [d] }
  | _ => none }
def FnExactDegreesOfWrongFalsely : Prop := fnExactDegreesOfRow.holds Try.pinned (OpenSpec.ofChange fnExactDegreesOfWrong)

/-- 'laws.FnExactPolynomialOf': WHATEVER THE INPUT: true; the input reads as it did. -/
def fnExactPolynomialOfSpec : ChangeSpec := { name := "fnExactPolynomialOf", fn := fun _ => fun
  | [d] => { results := [.lit (.bool true)], args := [d] }
  | _ => none }
def fnExactPolynomialOfRow : OpenClaim := { program := "ytlpeghdbjfnenaa", sum := "fb8d21353b56f1c868fe649b2ec173e938bba74762f1203fd32da23bae33e5ea", func := "loop.example/g01108/laws.FnExactPolynomialOf", spec := "fnExactPolynomialOf", unfollowed := true, recurses := true, apart := false }
def FnExactPolynomialOfSaid : Prop := fnExactPolynomialOfRow.holds Try.pinned (OpenSpec.ofChange fnExactPolynomialOfSpec)

/-- ITS FALSE NEIGHBOUR: 'it returns false'. Refute it at one input. -/
def fnExactPolynomialOfWrong : ChangeSpec := { name := "fnExactPolynomialOf", fn := fun _ => fun
  | [d] => { results := [.lit (.bool false)], args := [d] }
  | _ => none }
def FnExactPolynomialOfWrongFalsely : Prop := fnExactPolynomialOfRow.holds Try.pinned (OpenSpec.ofChange fnExactPolynomialOfWrong)

/-- 'laws.FnExactIsRinged': WHATEVER THE INPUT: true; the input reads as it did. -/
def fnExactIsRingedSpec : ChangeSpec := { name := "fnExactIsRinged", fn := fun _ => fun
  | [d1, d2] => { results := [.lit (.bool true)], args := [d1, d2] }
  | _ => none }
def fnExactIsRingedRow : OpenClaim := { program := "ytlpeghdbjfnenaa", sum := "fb8d21353b56f1c868fe649b2ec173e938bba74762f1203fd32da23bae33e5ea", func := "loop.example/g01108/laws.FnExactIsRinged", spec := "fnExactIsRinged", unfollowed := true, recurses := true, apart := false }
def FnExactIsRingedSaid : Prop := fnExactIsRingedRow.holds Try.pinned (OpenSpec.ofChange fnExactIsRingedSpec)

/-- ITS FALSE NEIGHBOUR: 'it returns false'. Refute it at one input. -/
def fnExactIsRingedWrong : ChangeSpec := { name := "fnExactIsRinged", fn := fun _ => fun
  | [d1, d2] => { results := [.lit (.bool false)], args := [d1, d2] }
  | _ => none }
def FnExactIsRingedWrongFalsely : Prop := fnExactIsRingedRow.holds Try.pinned (OpenSpec.ofChange fnExactIsRingedWrong)

/-- 'laws.FnExactFixedNodes': WHATEVER THE INPUT: true; the input reads as it did. -/
def fnExactFixedNodesSpec : ChangeSpec := { name := "fnExactFixedNodes", fn := fun _ => fun
  | [d1, d2, d3] => { results := [.lit (.bool true)], args := [d1, d2, d3] }
  | _ => none }
def fnExactFixedNodesRow : OpenClaim := { program := "ytlpeghdbjfnenaa", sum := "fb8d21353b56f1c868fe649b2ec173e938bba74762f1203fd32da23bae33e5ea", func := "loop.example/g01108/laws.FnExactFixedNodes", spec := "fnExactFixedNodes", unfollowed := true, recurses := true, apart := false }
def FnExactFixedNodesSaid : Prop := fnExactFixedNodesRow.holds Try.pinned (OpenSpec.ofChange fnExactFixedNodesSpec)

/-- ITS FALSE NEIGHBOUR: 'it returns false'. Refute it at one input. -/
def fnExactFixedNodesWrong : ChangeSpec := { name := "fnExactFixedNodes", fn := fun _ => fun
  | [d1, d2, d3] => { results := [.lit (.bool false)], args := [d1, d2, d3] }
  | _ => none }
def FnExactFixedNodesWrongFalsely : Prop := fnExactFixedNodesRow.holds Try.pinned (OpenSpec.ofChange fnExactFixedNodesWrong)

/-- 'laws.FnExactVerticesOfKind': WHATEVER THE INPUT: true; the input reads as it did. -/
def fnExactVerticesOfKindSpec : ChangeSpec := { name := "fnExactVerticesOfKind", fn := fun _ => fun
  | [d1, d2, d3] => { results := [.lit (.bool true)], args := [d1, d2, d3] }
  | _ => none }
def fnExactVerticesOfKindRow : OpenClaim := { program := "ytlpeghdbjfnenaa", sum := "fb8d21353b56f1c868fe649b2ec173e938bba74762f1203fd32da23bae33e5ea", func := "loop.example/g01108/laws.FnExactVerticesOfKind", spec := "fnExactVerticesOfKind", unfollowed := true, recurses := true, apart := false }
def FnExactVerticesOfKindSaid : Prop := fnExactVerticesOfKindRow.holds Try.pinned (OpenSpec.ofChange fnExactVerticesOfKindSpec)

/-- ITS FALSE NEIGHBOUR: 'it returns false'. Refute it at one input. -/
def fnExactVerticesOfKindWrong : ChangeSpec := { name := "fnExactVerticesOfKind", fn := fun _ => fun
  | [d1, d2, d3] => { results := [.lit (.bool false)], args := [d1, d2, d3] }
  | _ => none }
def FnExactVerticesOfKindWrongFalsely : Prop := fnExactVerticesOfKindRow.holds Try.pinned (OpenSpec.ofChange fnExactVerticesOfKindWrong)

/-- 'laws.FnExactFacesOfKind': WHATEVER THE INPUT: true; the input reads as it did. -/
def fnExactFacesOfKindSpec : ChangeSpec := { name := "fnExactFacesOfKind", fn := fun _ => fun
  | [d1, d2, d3] => { results := [.lit (.bool true)], args := [d1, d2, d3] }
  | _ => none }
def fnExactFacesOfKindRow : OpenClaim := { program := "ytlpeghdbjfnenaa", sum := "fb8d21353b56f1c868fe649b2ec173e938bba74762f1203fd32da23bae33e5ea", func := "loop.example/g01108/laws.FnExactFacesOfKind", spec := "fnExactFacesOfKind", unfollowed := true, recurses := true, apart := false }
def FnExactFacesOfKindSaid : Prop := fnExactFacesOfKindRow.holds Try.pinned (OpenSpec.ofChange fnExactFacesOfKindSpec)

/-- ITS FALSE NEIGHBOUR: 'it returns false'. Refute it at one input. -/
def fnExactFacesOfKindWrong : ChangeSpec := { name := "fnExactFacesOfKind", fn := fun _ => fun
  | [d1, d2, d3] => { results := [.lit (.bool false)], args := [d1, d2, d3] }
  | _ => none }
def FnExactFacesOfKindWrongFalsely : Prop := fnExactFacesOfKindRow.holds Try.pinned (OpenSpec.ofChange fnExactFacesOfKindWrong)

/- THE SECOND FORM. 'bulk': how many values and letters a reading holds, each counted each time it is reached (what is shared counts as often as it is met; a slice's spare places count too). A statement '..UptoSaid' is the law's where the arguments, and the package variables that the reading takes, are together of bulk at most 1048576: NARROWER than '..Said'. Prove '..Said' where nothing that the law and all that it calls make is longer than what came in: it says more and counts as full. Else prove '..UptoSaid'. A law counts once. -/
mutual
def uptoBulk {H : Type} : DataW H → Nat
  | .lit (.string bytes) => bytes.length + 1
  | .lit _ => 1
  | .nil => 1
  | .ptr d => uptoBulk d + 1
  | .slice elems spare => uptoBulkAll elems + uptoBulkAll spare + 1
  | .agg parts => uptoBulkAll parts + 1
  | .iface _ d => uptoBulk d + 1
  | .map entries => uptoBulkEntries entries + 1
  | .held _ => 1
def uptoBulkAll {H : Type} : List (DataW H) → Nat
  | [] => 0
  | d :: r => uptoBulk d + uptoBulkAll r
def uptoBulkEntries {H : Type} : List (Lit × DataW H) → Nat
  | [] => 0
  | x :: r => uptoBulkEntry x + uptoBulkEntries r
def uptoBulkEntry {H : Type} : Lit × DataW H → Nat
  | (.string bytes, d) => bytes.length + uptoBulk d + 1
  | (_, d) => uptoBulk d + 1
 end
def uptoSmall : (H : Type) → List (DataW H) → Bool := fun _ ds => decide (uptoBulkAll ds ≤ 1048576)
def OpenSpec.upto (s : _root_.Go.ChangeSpec) : _root_.Go.OpenSpec := { _root_.Go.OpenSpec.ofChange s with cond := some uptoSmall }

/-- 'laws.FnExactIsMap', WHERE WHAT IT READS IS OF BULK AT MOST 1048576: true; the input reads as it did. -/
def fnExactIsMapUptoRow : OpenClaim := { program := "ytlpeghdbjfnenaa", sum := "fb8d21353b56f1c868fe649b2ec173e938bba74762f1203fd32da23bae33e5ea", func := "loop.example/g01108/laws.FnExactIsMap", spec := "fnExactIsMap", apart := false, narrowed := true }
def FnExactIsMapUptoSaid : Prop := fnExactIsMapUptoRow.holds Try.pinned (OpenSpec.upto fnExactIsMapSpec)

/-- 'laws.FnExactKindOfDiagram', WHERE WHAT IT READS IS OF BULK AT MOST 1048576: true; the input reads as it did. -/
def fnExactKindOfDiagramUptoRow : OpenClaim := { program := "ytlpeghdbjfnenaa", sum := "fb8d21353b56f1c868fe649b2ec173e938bba74762f1203fd32da23bae33e5ea", func := "loop.example/g01108/laws.FnExactKindOfDiagram", spec := "fnExactKindOfDiagram", unfollowed := true, recurses := true, apart := false, narrowed := true }
def FnExactKindOfDiagramUptoSaid : Prop := fnExactKindOfDiagramUptoRow.holds Try.pinned (OpenSpec.upto fnExactKindOfDiagramSpec)

/-- 'laws.FnExactWithRelators', WHERE WHAT IT READS IS OF BULK AT MOST 1048576: true; the input reads as it did. -/
def fnExactWithRelatorsUptoRow : OpenClaim := { program := "ytlpeghdbjfnenaa", sum := "fb8d21353b56f1c868fe649b2ec173e938bba74762f1203fd32da23bae33e5ea", func := "loop.example/g01108/laws.FnExactWithRelators", spec := "fnExactWithRelators", unfollowed := true, recurses := true, apart := false, narrowed := true }
def FnExactWithRelatorsUptoSaid : Prop := fnExactWithRelatorsUptoRow.holds Try.pinned (OpenSpec.upto fnExactWithRelatorsSpec)

/-- 'laws.FnExactMapOfRotation', WHERE WHAT IT READS IS OF BULK AT MOST 1048576: true; the input reads as it did. -/
def fnExactMapOfRotationUptoRow : OpenClaim := { program := "ytlpeghdbjfnenaa", sum := "fb8d21353b56f1c868fe649b2ec173e938bba74762f1203fd32da23bae33e5ea", func := "loop.example/g01108/laws.FnExactMapOfRotation", spec := "fnExactMapOfRotation", apart := false, narrowed := true }
def FnExactMapOfRotationUptoSaid : Prop := fnExactMapOfRotationUptoRow.holds Try.pinned (OpenSpec.upto fnExactMapOfRotationSpec)

/-- 'laws.FnExactCoxeterNumber', WHERE WHAT IT READS IS OF BULK AT MOST 1048576: true; the input reads as it did. -/
def fnExactCoxeterNumberUptoRow : OpenClaim := { program := "ytlpeghdbjfnenaa", sum := "fb8d21353b56f1c868fe649b2ec173e938bba74762f1203fd32da23bae33e5ea", func := "loop.example/g01108/laws.FnExactCoxeterNumber", spec := "fnExactCoxeterNumber", unfollowed := true, recurses := true, apart := false, narrowed := true }
def FnExactCoxeterNumberUptoSaid : Prop := fnExactCoxeterNumberUptoRow.holds Try.pinned (OpenSpec.upto fnExactCoxeterNumberSpec)

/-- 'laws.FnExactOrderOfNodes', WHERE WHAT IT READS IS OF BULK AT MOST 1048576: true; the input reads as it did. -/
def fnExactOrderOfNodesUptoRow : OpenClaim := { program := "ytlpeghdbjfnenaa", sum := "fb8d21353b56f1c868fe649b2ec173e938bba74762f1203fd32da23bae33e5ea", func := "loop.example/g01108/laws.FnExactOrderOfNodes", spec := "fnExactOrderOfNodes", unfollowed := true, recurses := true, apart := false, narrowed := true }
def FnExactOrderOfNodesUptoSaid : Prop := fnExactOrderOfNodesUptoRow.holds Try.pinned (OpenSpec.upto fnExactOrderOfNodesSpec)

/-- 'laws.FnExactDegreesOf', WHERE WHAT IT READS IS OF BULK AT MOST 1048576: true; the input reads as it did. -/
def fnExactDegreesOfUptoRow : OpenClaim := { program := "ytlpeghdbjfnenaa", sum := "fb8d21353b56f1c868fe649b2ec173e938bba74762f1203fd32da23bae33e5ea", func := "loop.example/g01108/laws.FnExactDegreesOf", spec := "fnExactDegreesOf", unfollowed := true, recurses := true, apart := false, narrowed := true }
def FnExactDegreesOfUptoSaid : Prop := fnExactDegreesOfUptoRow.holds Try.pinned (OpenSpec.upto fnExactDegreesOfSpec)

/-- 'laws.FnExactPolynomialOf', WHERE WHAT IT READS IS OF BULK AT MOST 1048576: true; the input reads as it did. -/
def fnExactPolynomialOfUptoRow : OpenClaim := { program := "ytlpeghdbjfnenaa", sum := "fb8d21353b56f1c868fe649b2ec173e938bba74762f1203fd32da23bae33e5ea", func := "loop.example/g01108/laws.FnExactPolynomialOf", spec := "fnExactPolynomialOf", unfollowed := true, recurses := true, apart := false, narrowed := true }
def FnExactPolynomialOfUptoSaid : Prop := fnExactPolynomialOfUptoRow.holds Try.pinned (OpenSpec.upto fnExactPolynomialOfSpec)

/-- 'laws.FnExactIsRinged', WHERE WHAT IT READS IS OF BULK AT MOST 1048576: true; the input reads as it did. -/
def fnExactIsRingedUptoRow : OpenClaim := { program := "ytlpeghdbjfnenaa", sum := "fb8d21353b56f1c868fe649b2ec173e938bba74762f1203fd32da23bae33e5ea", func := "loop.example/g01108/laws.FnExactIsRinged", spec := "fnExactIsRinged", unfollowed := true, recurses := true, apart := false, narrowed := true }
def FnExactIsRingedUptoSaid : Prop := fnExactIsRingedUptoRow.holds Try.pinned (OpenSpec.upto fnExactIsRingedSpec)

/-- 'laws.FnExactFixedNodes', WHERE WHAT IT READS IS OF BULK AT MOST 1048576: true; the input reads as it did. -/
def fnExactFixedNodesUptoRow : OpenClaim := { program := "ytlpeghdbjfnenaa", sum := "fb8d21353b56f1c868fe649b2ec173e938bba74762f1203fd32da23bae33e5ea", func := "loop.example/g01108/laws.FnExactFixedNodes", spec := "fnExactFixedNodes", unfollowed := true, recurses := true, apart := false, narrowed := true }
def FnExactFixedNodesUptoSaid : Prop := fnExactFixedNodesUptoRow.holds Try.pinned (OpenSpec.upto fnExactFixedNodesSpec)

/-- 'laws.FnExactVerticesOfKind', WHERE WHAT IT READS IS OF BULK AT MOST 1048576: true; the input reads as it did. -/
def fnExactVerticesOfKindUptoRow : OpenClaim := { program := "ytlpeghdbjfnenaa", sum := "fb8d21353b56f1c868fe649b2ec173e938bba74762f1203fd32da23bae33e5ea", func := "loop.example/g01108/laws.FnExactVerticesOfKind", spec := "fnExactVerticesOfKind", unfollowed := true, recurses := true, apart := false, narrowed := true }
def FnExactVerticesOfKindUptoSaid : Prop := fnExactVerticesOfKindUptoRow.holds Try.pinned (OpenSpec.upto fnExactVerticesOfKindSpec)

/-- 'laws.FnExactFacesOfKind', WHERE WHAT IT READS IS OF BULK AT MOST 1048576: true; the input reads as it did. -/
def fnExactFacesOfKindUptoRow : OpenClaim := { program := "ytlpeghdbjfnenaa", sum := "fb8d21353b56f1c868fe649b2ec173e938bba74762f1203fd32da23bae33e5ea", func := "loop.example/g01108/laws.FnExactFacesOfKind", spec := "fnExactFacesOfKind", unfollowed := true, recurses := true, apart := false, narrowed := true }
def FnExactFacesOfKindUptoSaid : Prop := fnExactFacesOfKindUptoRow.holds Try.pinned (OpenSpec.upto fnExactFacesOfKindSpec)

end Rows
end Go.Proofs.Ytlpeghdbjfnenaa
