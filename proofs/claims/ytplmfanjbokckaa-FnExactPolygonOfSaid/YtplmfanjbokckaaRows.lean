/-
  No cell of these rows narrows 'for every input' (looked for: loops, veiled, ifaces, maps, wideKeys, modest, calm, conditions, laid).
  DERIVED. THE GIVEN ROWS OF THIS SEAT. 5 by the template 'for every input the law returns true; each argument reads behind the call as it read before'; 0 by the template 'total and deterministic' (their statements: YtplmfanjbokckaaTotals.lean).
  GIVEN WITH THE SEED: the statements are not yours to turn. If you find one false, say at which input.
  Laid BY PROGRAM, IN A SANDBOX (cutbox-rows.mjs): the forced cells as the released guide's own fill.sh prints them over the translation 640f9c91f612144b… (all of the seat's roots in one cut). By AI agents, Wed Nov 11 2026. No macro, syntax, notation, axiom, sorry.
-/
import Derived.Test.YtplmfanjbokckaaChecked
import GoSem.Claim
import GoSem.ClaimJoined
import GoSem.ClaimMapViews
import Derived.JoinedTies
import Derived.KernelRfl
namespace Go.Proofs.Ytplmfanjbokckaa
/- THE CELL 'sum', in the pinned program and in every row, IS THE sha256 OF THE DUMP (.gsa) THAT YtplmfanjbokckaaProg.lean LOADS. Nothing in Lean hashes anything: it is a label: what it is worth is what the hold of that sum in a sandbox is worth. -/
noncomputable def Try.pinned : Pinned := { name := "ytplmfanjbokckaa", sum := "640f9c91f612144b523b620cbd7e237d95fae0b5928025435a7a2333c25b74b8", checked := Try.checked }
namespace Rows
def none {H : Type} : Left H := { results := [], args := [] }

/-- 'laws.FnExactIsDiagram': WHATEVER THE INPUT: true; the input reads as it did. -/
def fnExactIsDiagramSpec : ChangeSpec := { name := "fnExactIsDiagram", fn := fun _ => fun
  | [d] => { results := [.lit (.bool true)], args := [d] }
  | _ => none }
def fnExactIsDiagramRow : OpenClaim := { program := "ytplmfanjbokckaa", sum := "640f9c91f612144b523b620cbd7e237d95fae0b5928025435a7a2333c25b74b8", func := "loop.example/g01108/laws.FnExactIsDiagram", spec := "fnExactIsDiagram", unfollowed := true, recurses := true, apart := false }
def FnExactIsDiagramSaid : Prop := fnExactIsDiagramRow.holds Try.pinned (OpenSpec.ofChange fnExactIsDiagramSpec)

/-- ITS FALSE NEIGHBOUR: 'it returns false'. Refute it at one input. -/
def fnExactIsDiagramWrong : ChangeSpec := { name := "fnExactIsDiagram", fn := fun _ => fun
  | [d] => { results := [.lit (.bool false)], args := [d] }
  | _ => none }
def FnExactIsDiagramWrongFalsely : Prop := fnExactIsDiagramRow.holds Try.pinned (OpenSpec.ofChange fnExactIsDiagramWrong)

/-- 'laws.FnExactIsRotation': WHATEVER THE INPUT: true; the input reads as it did. -/
def fnExactIsRotationSpec : ChangeSpec := { name := "fnExactIsRotation", fn := fun _ => fun
  | [d] => { results := [.lit (.bool true)], args := [d] }
  | _ => none }
def fnExactIsRotationRow : OpenClaim := { program := "ytplmfanjbokckaa", sum := "640f9c91f612144b523b620cbd7e237d95fae0b5928025435a7a2333c25b74b8", func := "loop.example/g01108/laws.FnExactIsRotation", spec := "fnExactIsRotation", apart := false }
def FnExactIsRotationSaid : Prop := fnExactIsRotationRow.holds Try.pinned (OpenSpec.ofChange fnExactIsRotationSpec)

/-- ITS FALSE NEIGHBOUR: 'it returns false'. Refute it at one input. -/
def fnExactIsRotationWrong : ChangeSpec := { name := "fnExactIsRotation", fn := fun _ => fun
  | [d] => { results := [.lit (.bool false)], args := [d] }
  | _ => none }
def FnExactIsRotationWrongFalsely : Prop := fnExactIsRotationRow.holds Try.pinned (OpenSpec.ofChange fnExactIsRotationWrong)

/-- 'laws.FnExactReverseDiagram': WHATEVER THE INPUT: true; the input reads as it did. -/
def fnExactReverseDiagramSpec : ChangeSpec := { name := "fnExactReverseDiagram", fn := fun _ => fun
  | [d] => { results := [.lit (.bool true)], args := [d] }
  | _ => none }
def fnExactReverseDiagramRow : OpenClaim := { program := "ytplmfanjbokckaa", sum := "640f9c91f612144b523b620cbd7e237d95fae0b5928025435a7a2333c25b74b8", func := "loop.example/g01108/laws.FnExactReverseDiagram", spec := "fnExactReverseDiagram", unfollowed := true, recurses := true, apart := false }
def FnExactReverseDiagramSaid : Prop := fnExactReverseDiagramRow.holds Try.pinned (OpenSpec.ofChange fnExactReverseDiagramSpec)

/-- ITS FALSE NEIGHBOUR: 'it returns false'. Refute it at one input. -/
def fnExactReverseDiagramWrong : ChangeSpec := { name := "fnExactReverseDiagram", fn := fun _ => fun
  | [d] => { results := [.lit (.bool false)], args := [d] }
  | _ => none }
def FnExactReverseDiagramWrongFalsely : Prop := fnExactReverseDiagramRow.holds Try.pinned (OpenSpec.ofChange fnExactReverseDiagramWrong)

/-- 'laws.FnExactPolygonOf': WHATEVER THE INPUT: true; the input reads as it did. -/
def fnExactPolygonOfSpec : ChangeSpec := { name := "fnExactPolygonOf", fn := fun _ => fun
  | [d] => { results := [.lit (.bool true)], args := [d] }
  | _ => none }
def fnExactPolygonOfRow : OpenClaim := { program := "ytplmfanjbokckaa", sum := "640f9c91f612144b523b620cbd7e237d95fae0b5928025435a7a2333c25b74b8", func := "loop.example/g01108/laws.FnExactPolygonOf", spec := "fnExactPolygonOf", apart := false }
def FnExactPolygonOfSaid : Prop := fnExactPolygonOfRow.holds Try.pinned (OpenSpec.ofChange fnExactPolygonOfSpec)

/-- ITS FALSE NEIGHBOUR: 'it returns false'. Refute it at one input. -/
def fnExactPolygonOfWrong : ChangeSpec := { name := "fnExactPolygonOf", fn := fun _ => fun
  | [d] => { results := [.lit (.bool false)], args := [d] }
  | _ => none }
def FnExactPolygonOfWrongFalsely : Prop := fnExactPolygonOfRow.holds Try.pinned (OpenSpec.ofChange fnExactPolygonOfWrong)

/-- 'laws.FnExactIsPresentation': WHATEVER THE INPUT: true; the input reads as it did. -/
def fnExactIsPresentationSpec : ChangeSpec := { name := "fnExactIsPresentation", fn := fun _ => fun
  | [d] => { results := [.lit (.bool true)], args := [d] }
  | _ => none }
def fnExactIsPresentationRow : OpenClaim := { program := "ytplmfanjbokckaa", sum := "640f9c91f612144b523b620cbd7e237d95fae0b5928025435a7a2333c25b74b8", func := "loop.example/g01108/laws.FnExactIsPresentation", spec := "fnExactIsPresentation", unfollowed := true, recurses := true, apart := false }
def FnExactIsPresentationSaid : Prop := fnExactIsPresentationRow.holds Try.pinned (OpenSpec.ofChange fnExactIsPresentationSpec)

/-- ITS FALSE NEIGHBOUR: 'it returns false'. Refute it at one input. -/
def fnExactIsPresentationWrong : ChangeSpec := { name := "fnExactIsPresentation", fn := fun _ => fun
  | [d] => { results := [.lit (.bool false)], args := [d] }
  | _ => none }
def FnExactIsPresentationWrongFalsely : Prop := fnExactIsPresentationRow.holds Try.pinned (OpenSpec.ofChange fnExactIsPresentationWrong)

/- THE SECOND FORM. 'bulk': how many values and letters a reading holds, each counted each time it is reached (what is shared counts as often as it is met; a slice's spare places count too). A statement '..UptoSaid' is the law's where the arguments, and the package variables that the reading takes, are together of bulk at most 1048576: NARROWER than '..Said'. Prove '..Said' where nothing that the law and all that it calls make is longer than what came in: it says more and counts as full. Else prove '..UptoSaid'. A law counts once. -/
mutual
def uptoBulk {H : Type} : DataW H → Nat
  | .lit (.string bytes) => bytes.length + 1
  | .lit _ => 1
  | .nil => 1
  | .ptr d => uptoBulk d + 1
  | .slice elems spare => uptoBulkAll elems + uptoBulkAll spare + 1
  | .agg parts => uptoBulkAll parts + 1
  | .iface _ d => uptoBulk d + 1
  | .map entries => uptoBulkEntries entries + 1
  | .held _ => 1
def uptoBulkAll {H : Type} : List (DataW H) → Nat
  | [] => 0
  | d :: r => uptoBulk d + uptoBulkAll r
def uptoBulkEntries {H : Type} : List (Lit × DataW H) → Nat
  | [] => 0
  | x :: r => uptoBulkEntry x + uptoBulkEntries r
def uptoBulkEntry {H : Type} : Lit × DataW H → Nat
  | (.string bytes, d) => bytes.length + uptoBulk d + 1
  | (_, d) => uptoBulk d + 1
 end
def uptoSmall : (H : Type) → List (DataW H) → Bool := fun _ ds => decide (uptoBulkAll ds ≤ 1048576)
def OpenSpec.upto (s : _root_.Go.ChangeSpec) : _root_.Go.OpenSpec := { _root_.Go.OpenSpec.ofChange s with cond := some uptoSmall }

/-- 'laws.FnExactIsDiagram', WHERE WHAT IT READS IS OF BULK AT MOST 1048576: true; the input reads as it did. -/
def fnExactIsDiagramUptoRow : OpenClaim := { program := "ytplmfanjbokckaa", sum := "640f9c91f612144b523b620cbd7e237d95fae0b5928025435a7a2333c25b74b8", func := "loop.example/g01108/laws.FnExactIsDiagram", spec := "fnExactIsDiagram", unfollowed := true, recurses := true, apart := false, narrowed := true }
def FnExactIsDiagramUptoSaid : Prop := fnExactIsDiagramUptoRow.holds Try.pinned (OpenSpec.upto fnExactIsDiagramSpec)

/-- 'laws.FnExactIsRotation', WHERE WHAT IT READS IS OF BULK AT MOST 1048576: true; the input reads as it did. -/
def fnExactIsRotationUptoRow : OpenClaim := { program := "ytplmfanjbokckaa", sum := "640f9c91f612144b523b620cbd7e237d95fae0b5928025435a7a2333c25b74b8", func := "loop.example/g01108/laws.FnExactIsRotation", spec := "fnExactIsRotation", apart := false, narrowed := true }
def FnExactIsRotationUptoSaid : Prop := fnExactIsRotationUptoRow.holds Try.pinned (OpenSpec.upto fnExactIsRotationSpec)

/-- 'laws.FnExactReverseDiagram', WHERE WHAT IT READS IS OF BULK AT MOST 1048576: true; the input reads as it did. -/
def fnExactReverseDiagramUptoRow : OpenClaim := { program := "ytplmfanjbokckaa", sum := "640f9c91f612144b523b620cbd7e237d95fae0b5928025435a7a2333c25b74b8", func := "loop.example/g01108/laws.FnExactReverseDiagram", spec := "fnExactReverseDiagram", unfollowed := true, recurses := true, apart := false, narrowed := true }
def FnExactReverseDiagramUptoSaid : Prop := fnExactReverseDiagramUptoRow.holds Try.pinned (OpenSpec.upto fnExactReverseDiagramSpec)

/-- 'laws.FnExactPolygonOf', WHERE WHAT IT READS IS OF BULK AT MOST 1048576: true; the input reads as it did. -/
def fnExactPolygonOfUptoRow : OpenClaim := { program := "ytplmfanjbokckaa", sum := "640f9c91f612144b523b620cbd7e237d95fae0b5928025435a7a2333c25b74b8", func := "loop.example/g01108/laws.FnExactPolygonOf", spec := "fnExactPolygonOf", apart := false, narrowed := true }
def FnExactPolygonOfUptoSaid : Prop := fnExactPolygonOfUptoRow.holds Try.pinned (OpenSpec.upto fnExactPolygonOfSpec)

/-- 'laws.FnExactIsPresentation', WHERE WHAT IT READS IS OF BULK AT MOST 1048576: true; the input reads as it did. -/
def fnExactIsPresentationUptoRow : OpenClaim := { program := "ytplmfanjbokckaa", sum := "640f9c91f612144b523b620cbd7e237d95fae0b5928025435a7a2333c25b74b8", func := "loop.example/g01108/laws.FnExactIsPresentation", spec := "fnExactIsPresentation", unfollowed := true, recurses := true, apart := false, narrowed := true }
def FnExactIsPresentationUptoSaid : Prop := fnExactIsPresentationUptoRow.holds Try.pinned (OpenSpec.upto fnExactIsPresentationSpec)

end Rows
end Go.Proofs.Ytplmfanjbokckaa
