/-
  No cell of these rows narrows 'for every input' (looked for: loops, veiled, ifaces, maps, wideKeys, modest, calm, conditions, laid).
  DERIVED. THE GIVEN ROWS OF THIS SEAT. 10 by the template 'for every input the law returns true; each argument reads behind the call as it read before'; 0 by the template 'total and deterministic' (their statements: YtpjglifijdcgnaaTotals.lean).
  GIVEN WITH THE SEED: the statements are not yours to turn. If you find one false, say at which input.
  Laid BY PROGRAM, IN A SANDBOX (cutbox-rows.mjs): the forced cells as the released guide's own fill.sh prints them over the translation c6df30b7f9b4c923… (all of the seat's roots in one cut). By AI agents, Wed Nov 11 2026. No macro, syntax, notation, axiom, sorry.
-/
import Derived.Test.YtpjglifijdcgnaaChecked
import GoSem.Claim
import GoSem.ClaimJoined
import GoSem.ClaimMapViews
import Derived.JoinedTies
import Derived.KernelRfl
namespace Go.Proofs.Ytpjglifijdcgnaa
/- THE CELL 'sum', in the pinned program and in every row, IS THE sha256 OF THE DUMP (.gsa) THAT YtpjglifijdcgnaaProg.lean LOADS. Nothing in Lean hashes anything: it is a label: what it is worth is what the hold of that sum in a sandbox is worth. -/
noncomputable def Try.pinned : Pinned := { name := "ytpjglifijdcgnaa", sum := "c6df30b7f9b4c923fc539858c74af7dfe424314eabf7e344824f614bf95d6bd2", checked := Try.checked }
namespace Rows
def none {H : Type} : Left H := { results := [], args := [] }

/-- 'laws.FnExactGroupOrder': WHATEVER THE INPUT: true; the input reads as it did. -/
def fnExactGroupOrderSpec : ChangeSpec := { name := "fnExactGroupOrder", fn := fun _ => fun
  | [d] => { results := [.lit (.bool true)], args := [d] }
  | _ => none }
def fnExactGroupOrderRow : OpenClaim := { program := "ytpjglifijdcgnaa", sum := "c6df30b7f9b4c923fc539858c74af7dfe424314eabf7e344824f614bf95d6bd2", func := "loop.example/g01108/laws.FnExactGroupOrder", spec := "fnExactGroupOrder", unfollowed := true, recurses := true, apart := false }
def FnExactGroupOrderSaid : Prop := fnExactGroupOrderRow.holds Try.pinned (OpenSpec.ofChange fnExactGroupOrderSpec)

/-- ITS FALSE NEIGHBOUR: 'it returns false'. Refute it at one input. -/
def fnExactGroupOrderWrong : ChangeSpec := { name := "fnExactGroupOrder", fn := fun _ => fun
  | [d] => { results := [.lit (.bool false)], args := [d] }
  | _ => none }
def FnExactGroupOrderWrongFalsely : Prop := fnExactGroupOrderRow.holds Try.pinned (OpenSpec.ofChange fnExactGroupOrderWrong)

/-- 'laws.FnExactIndexOfSubgroup': WHATEVER THE INPUT: true; the input reads as it did. -/
def fnExactIndexOfSubgroupSpec : ChangeSpec := { name := "fnExactIndexOfSubgroup", fn := fun _ => fun
  | [d1, d2] => { results := [.lit (.bool true)], args := [d1, d2] }
  | _ => none }
def fnExactIndexOfSubgroupRow : OpenClaim := { program := "ytpjglifijdcgnaa", sum := "c6df30b7f9b4c923fc539858c74af7dfe424314eabf7e344824f614bf95d6bd2", func := "loop.example/g01108/laws.FnExactIndexOfSubgroup", spec := "fnExactIndexOfSubgroup", unfollowed := true, recurses := true, apart := false }
def FnExactIndexOfSubgroupSaid : Prop := fnExactIndexOfSubgroupRow.holds Try.pinned (OpenSpec.ofChange fnExactIndexOfSubgroupSpec)

/-- ITS FALSE NEIGHBOUR: 'it returns false'. Refute it at one input. -/
def fnExactIndexOfSubgroupWrong : ChangeSpec := { name := "fnExactIndexOfSubgroup", fn := fun _ => fun
  | [d1, d2] => { results := [.lit (.bool false)], args := [d1, d2] }
  | _ => none }
def FnExactIndexOfSubgroupWrongFalsely : Prop := fnExactIndexOfSubgroupRow.holds Try.pinned (OpenSpec.ofChange fnExactIndexOfSubgroupWrong)

/-- 'laws.FnExactIsIdentityWord': WHATEVER THE INPUT: true; the input reads as it did. -/
def fnExactIsIdentityWordSpec : ChangeSpec := { name := "fnExactIsIdentityWord", fn := fun _ => fun
  | [d1, d2] => { results := [.lit (.bool true)], args := [d1, d2] }
  | _ => none }
def fnExactIsIdentityWordRow : OpenClaim := { program := "ytpjglifijdcgnaa", sum := "c6df30b7f9b4c923fc539858c74af7dfe424314eabf7e344824f614bf95d6bd2", func := "loop.example/g01108/laws.FnExactIsIdentityWord", spec := "fnExactIsIdentityWord", unfollowed := true, recurses := true, apart := false }
def FnExactIsIdentityWordSaid : Prop := fnExactIsIdentityWordRow.holds Try.pinned (OpenSpec.ofChange fnExactIsIdentityWordSpec)

/-- ITS FALSE NEIGHBOUR: 'it returns false'. Refute it at one input. -/
def fnExactIsIdentityWordWrong : ChangeSpec := { name := "fnExactIsIdentityWord", fn := fun _ => fun
  | [d1, d2] => { results := [.lit (.bool false)], args := [d1, d2] }
  | _ => none }
def FnExactIsIdentityWordWrongFalsely : Prop := fnExactIsIdentityWordRow.holds Try.pinned (OpenSpec.ofChange fnExactIsIdentityWordWrong)

/-- 'laws.FnExactOrderOfElement': WHATEVER THE INPUT: true; the input reads as it did. -/
def fnExactOrderOfElementSpec : ChangeSpec := { name := "fnExactOrderOfElement", fn := fun _ => fun
  | [d1, d2] => { results := [.lit (.bool true)], args := [d1, d2] }
  | _ => none }
def fnExactOrderOfElementRow : OpenClaim := { program := "ytpjglifijdcgnaa", sum := "c6df30b7f9b4c923fc539858c74af7dfe424314eabf7e344824f614bf95d6bd2", func := "loop.example/g01108/laws.FnExactOrderOfElement", spec := "fnExactOrderOfElement", unfollowed := true, recurses := true, apart := false }
def FnExactOrderOfElementSaid : Prop := fnExactOrderOfElementRow.holds Try.pinned (OpenSpec.ofChange fnExactOrderOfElementSpec)

/-- ITS FALSE NEIGHBOUR: 'it returns false'. Refute it at one input. -/
def fnExactOrderOfElementWrong : ChangeSpec := { name := "fnExactOrderOfElement", fn := fun _ => fun
  | [d1, d2] => { results := [.lit (.bool false)], args := [d1, d2] }
  | _ => none }
def FnExactOrderOfElementWrongFalsely : Prop := fnExactOrderOfElementRow.holds Try.pinned (OpenSpec.ofChange fnExactOrderOfElementWrong)

/-- 'laws.FnExactCosetTable': WHATEVER THE INPUT: true; the input reads as it did. -/
def fnExactCosetTableSpec : ChangeSpec := { name := "fnExactCosetTable", fn := fun _ => fun
  | [d1, d2] => { results := [.lit (.bool true)], args := [d1, d2] }
  | _ => none }
def fnExactCosetTableRow : OpenClaim := { program := "ytpjglifijdcgnaa", sum := "c6df30b7f9b4c923fc539858c74af7dfe424314eabf7e344824f614bf95d6bd2", func := "loop.example/g01108/laws.FnExactCosetTable", spec := "fnExactCosetTable", unfollowed := true, recurses := true, apart := false }
def FnExactCosetTableSaid : Prop := fnExactCosetTableRow.holds Try.pinned (OpenSpec.ofChange fnExactCosetTableSpec)

/-- ITS FALSE NEIGHBOUR: 'it returns false'. Refute it at one input. -/
def fnExactCosetTableWrong : ChangeSpec := { name := "fnExactCosetTable", fn := fun _ => fun
  | [d1, d2] => { results := [.lit (.bool false)], args := [d1, d2] }
  | _ => none }
def FnExactCosetTableWrongFalsely : Prop := fnExactCosetTableRow.holds Try.pinned (OpenSpec.ofChange fnExactCosetTableWrong)

/-- 'laws.FnExactIsNormalSubgroup': WHATEVER THE INPUT: true; the input reads as it did. -/
def fnExactIsNormalSubgroupSpec : ChangeSpec := { name := "fnExactIsNormalSubgroup", fn := fun _ => fun
  | [d1, d2] => { results := [.lit (.bool true)], args := [d1, d2] }
  | _ => none }
def fnExactIsNormalSubgroupRow : OpenClaim := { program := "ytpjglifijdcgnaa", sum := "c6df30b7f9b4c923fc539858c74af7dfe424314eabf7e344824f614bf95d6bd2", func := "loop.example/g01108/laws.FnExactIsNormalSubgroup", spec := "fnExactIsNormalSubgroup", unfollowed := true, recurses := true, apart := false }
def FnExactIsNormalSubgroupSaid : Prop := fnExactIsNormalSubgroupRow.holds Try.pinned (OpenSpec.ofChange fnExactIsNormalSubgroupSpec)

/-- ITS FALSE NEIGHBOUR: 'it returns false'. Refute it at one input. -/
def fnExactIsNormalSubgroupWrong : ChangeSpec := { name := "fnExactIsNormalSubgroup", fn := fun _ => fun
  | [d1, d2] => { results := [.lit (.bool false)], args := [d1, d2] }
  | _ => none }
def FnExactIsNormalSubgroupWrongFalsely : Prop := fnExactIsNormalSubgroupRow.holds Try.pinned (OpenSpec.ofChange fnExactIsNormalSubgroupWrong)

/-- 'laws.FnExactIntersectionFault': WHATEVER THE INPUT: true; the input reads as it did. -/
def fnExactIntersectionFaultSpec : ChangeSpec := { name := "fnExactIntersectionFault", fn := fun _ => fun
  | [d] => { results := [.lit (.bool true)], args := [d] }
  | _ => none }
def fnExactIntersectionFaultRow : OpenClaim := { program := "ytpjglifijdcgnaa", sum := "c6df30b7f9b4c923fc539858c74af7dfe424314eabf7e344824f614bf95d6bd2", func := "loop.example/g01108/laws.FnExactIntersectionFault", spec := "fnExactIntersectionFault", unfollowed := true, recurses := true, apart := false }
def FnExactIntersectionFaultSaid : Prop := fnExactIntersectionFaultRow.holds Try.pinned (OpenSpec.ofChange fnExactIntersectionFaultSpec)

/-- ITS FALSE NEIGHBOUR: 'it returns false'. Refute it at one input. -/
def fnExactIntersectionFaultWrong : ChangeSpec := { name := "fnExactIntersectionFault", fn := fun _ => fun
  | [d] => { results := [.lit (.bool false)], args := [d] }
  | _ => none }
def FnExactIntersectionFaultWrongFalsely : Prop := fnExactIntersectionFaultRow.holds Try.pinned (OpenSpec.ofChange fnExactIntersectionFaultWrong)

/-- 'laws.FnExactProductOrders': WHATEVER THE INPUT: true; the input reads as it did. -/
def fnExactProductOrdersSpec : ChangeSpec := { name := "fnExactProductOrders", fn := fun _ => fun
  | [d] => { results := [.lit (.bool true)], args := [d] }
  | _ => none }
def fnExactProductOrdersRow : OpenClaim := { program := "ytpjglifijdcgnaa", sum := "c6df30b7f9b4c923fc539858c74af7dfe424314eabf7e344824f614bf95d6bd2", func := "loop.example/g01108/laws.FnExactProductOrders", spec := "fnExactProductOrders", unfollowed := true, recurses := true, apart := false }
def FnExactProductOrdersSaid : Prop := fnExactProductOrdersRow.holds Try.pinned (OpenSpec.ofChange fnExactProductOrdersSpec)

/-- ITS FALSE NEIGHBOUR: 'it returns false'. Refute it at one input. -/
def fnExactProductOrdersWrong : ChangeSpec := { name := "fnExactProductOrders", fn := fun _ => fun
  | [d] => { results := [.lit (.bool false)], args := [d] }
  | _ => none }
def FnExactProductOrdersWrongFalsely : Prop := fnExactProductOrdersRow.holds Try.pinned (OpenSpec.ofChange fnExactProductOrdersWrong)

/-- 'laws.FnExactLengthsOf': WHATEVER THE INPUT: true; the input reads as it did. -/
def fnExactLengthsOfSpec : ChangeSpec := { name := "fnExactLengthsOf", fn := fun _ => fun
  | [d] => { results := [.lit (.bool true)], args := [d] }
  | _ => none }
def fnExactLengthsOfRow : OpenClaim := { program := "ytpjglifijdcgnaa", sum := "c6df30b7f9b4c923fc539858c74af7dfe424314eabf7e344824f614bf95d6bd2", func := "loop.example/g01108/laws.FnExactLengthsOf", spec := "fnExactLengthsOf", unfollowed := true, recurses := true, apart := false }
def FnExactLengthsOfSaid : Prop := fnExactLengthsOfRow.holds Try.pinned (OpenSpec.ofChange fnExactLengthsOfSpec)

/-- ITS FALSE NEIGHBOUR: 'it returns false'. Refute it at one input. -/
def fnExactLengthsOfWrong : ChangeSpec := { name := "fnExactLengthsOf", fn := fun _ => fun
  | [d] => { results := [.lit (.bool false)], args := [d] }
  | _ => none }
def FnExactLengthsOfWrongFalsely : Prop := fnExactLengthsOfRow.holds Try.pinned (OpenSpec.ofChange fnExactLengthsOfWrong)

/-- 'laws.FnExactCosetWords': WHATEVER THE INPUT: true; the input reads as it did. -/
def fnExactCosetWordsSpec : ChangeSpec := { name := "fnExactCosetWords", fn := fun _ => fun
  | [d1, d2] => { results := [.lit (.bool true)], args := [d1, d2] }
  | _ => none }
def fnExactCosetWordsRow : OpenClaim := { program := "ytpjglifijdcgnaa", sum := "c6df30b7f9b4c923fc539858c74af7dfe424314eabf7e344824f614bf95d6bd2", func := "loop.example/g01108/laws.FnExactCosetWords", spec := "fnExactCosetWords", unfollowed := true, recurses := true, apart := false }
def FnExactCosetWordsSaid : Prop := fnExactCosetWordsRow.holds Try.pinned (OpenSpec.ofChange fnExactCosetWordsSpec)

/-- ITS FALSE NEIGHBOUR: 'it returns false'. Refute it at one input. -/
def fnExactCosetWordsWrong : ChangeSpec := { name := "fnExactCosetWords", fn := fun _ => fun
  | [d1, d2] => { results := [.lit (.bool false)], args := [d1, d2] }
  | _ => none }
def FnExactCosetWordsWrongFalsely : Prop := fnExactCosetWordsRow.holds Try.pinned (OpenSpec.ofChange fnExactCosetWordsWrong)

/- THE SECOND FORM. 'bulk': how many values and letters a reading holds, each counted each time it is reached (what is shared counts as often as it is met; a slice's spare places count too). A statement '..UptoSaid' is the law's where the arguments, and the package variables that the reading takes, are together of bulk at most 1048576: NARROWER than '..Said'. Prove '..Said' where nothing that the law and all that it calls make is longer than what came in: it says more and counts as full. Else prove '..UptoSaid'. A law counts once. -/
mutual
def uptoBulk {H : Type} : DataW H → Nat
  | .lit (.string bytes) => bytes.length + 1
  | .lit _ => 1
  | .nil => 1
  | .ptr d => uptoBulk d + 1
  | .slice elems spare => uptoBulkAll elems + uptoBulkAll spare + 1
  | .agg parts => uptoBulkAll parts + 1
  | .iface _ d => uptoBulk d + 1
  | .map entries => uptoBulkEntries entries + 1
  | .held _ => 1
def uptoBulkAll {H : Type} : List (DataW H) → Nat
  | [] => 0
  | d :: r => uptoBulk d + uptoBulkAll r
def uptoBulkEntries {H : Type} : List (Lit × DataW H) → Nat
  | [] => 0
  | x :: r => uptoBulkEntry x + uptoBulkEntries r
def uptoBulkEntry {H : Type} : Lit × DataW H → Nat
  | (.string bytes, d) => bytes.length + uptoBulk d + 1
  | (_, d) => uptoBulk d + 1
 end
def uptoSmall : (H : Type) → List (DataW H) → Bool := fun _ ds => decide (uptoBulkAll ds ≤ 1048576)
def OpenSpec.upto (s : _root_.Go.ChangeSpec) : _root_.Go.OpenSpec := { _root_.Go.OpenSpec.ofChange s with cond := some uptoSmall }

/-- 'laws.FnExactGroupOrder', WHERE WHAT IT READS IS OF BULK AT MOST 1048576: true; the input reads as it did. -/
def fnExactGroupOrderUptoRow : OpenClaim := { program := "ytpjglifijdcgnaa", sum := "c6df30b7f9b4c923fc539858c74af7dfe424314eabf7e344824f614bf95d6bd2", func := "loop.example/g01108/laws.FnExactGroupOrder", spec := "fnExactGroupOrder", unfollowed := true, recurses := true, apart := false, narrowed := true }
def FnExactGroupOrderUptoSaid : Prop := fnExactGroupOrderUptoRow.holds Try.pinned (OpenSpec.upto fnExactGroupOrderSpec)

/-- 'laws.FnExactIndexOfSubgroup', WHERE WHAT IT READS IS OF BULK AT MOST 1048576: true; the input reads as it did. -/
def fnExactIndexOfSubgroupUptoRow : OpenClaim := { program := "ytpjglifijdcgnaa", sum := "c6df30b7f9b4c923fc539858c74af7dfe424314eabf7e344824f614bf95d6bd2", func := "loop.example/g01108/laws.FnExactIndexOfSubgroup", spec := "fnExactIndexOfSubgroup", unfollowed := true, recurses := true, apart := false, narrowed := true }
def FnExactIndexOfSubgroupUptoSaid : Prop := fnExactIndexOfSubgroupUptoRow.holds Try.pinned (OpenSpec.upto fnExactIndexOfSubgroupSpec)

/-- 'laws.FnExactIsIdentityWord', WHERE WHAT IT READS IS OF BULK AT MOST 1048576: true; the input reads as it did. -/
def fnExactIsIdentityWordUptoRow : OpenClaim := { program := "ytpjglifijdcgnaa", sum := "c6df30b7f9b4c923fc539858c74af7dfe424314eabf7e344824f614bf95d6bd2", func := "loop.example/g01108/laws.FnExactIsIdentityWord", spec := "fnExactIsIdentityWord", unfollowed := true, recurses := true, apart := false, narrowed := true }
def FnExactIsIdentityWordUptoSaid : Prop := fnExactIsIdentityWordUptoRow.holds Try.pinned (OpenSpec.upto fnExactIsIdentityWordSpec)

/-- 'laws.FnExactOrderOfElement', WHERE WHAT IT READS IS OF BULK AT MOST 1048576: true; the input reads as it did. -/
def fnExactOrderOfElementUptoRow : OpenClaim := { program := "ytpjglifijdcgnaa", sum := "c6df30b7f9b4c923fc539858c74af7dfe424314eabf7e344824f614bf95d6bd2", func := "loop.example/g01108/laws.FnExactOrderOfElement", spec := "fnExactOrderOfElement", unfollowed := true, recurses := true, apart := false, narrowed := true }
def FnExactOrderOfElementUptoSaid : Prop := fnExactOrderOfElementUptoRow.holds Try.pinned (OpenSpec.upto fnExactOrderOfElementSpec)

/-- 'laws.FnExactCosetTable', WHERE WHAT IT READS IS OF BULK AT MOST 1048576: true; the input reads as it did. -/
def fnExactCosetTableUptoRow : OpenClaim := { program := "ytpjglifijdcgnaa", sum := "c6df30b7f9b4c923fc539858c74af7dfe424314eabf7e344824f614bf95d6bd2", func := "loop.example/g01108/laws.FnExactCosetTable", spec := "fnExactCosetTable", unfollowed := true, recurses := true, apart := false, narrowed := true }
def FnExactCosetTableUptoSaid : Prop := fnExactCosetTableUptoRow.holds Try.pinned (OpenSpec.upto fnExactCosetTableSpec)

/-- 'laws.FnExactIsNormalSubgroup', WHERE WHAT IT READS IS OF BULK AT MOST 1048576: true; the input reads as it did. -/
def fnExactIsNormalSubgroupUptoRow : OpenClaim := { program := "ytpjglifijdcgnaa", sum := "c6df30b7f9b4c923fc539858c74af7dfe424314eabf7e344824f614bf95d6bd2", func := "loop.example/g01108/laws.FnExactIsNormalSubgroup", spec := "fnExactIsNormalSubgroup", unfollowed := true, recurses := true, apart := false, narrowed := true }
def FnExactIsNormalSubgroupUptoSaid : Prop := fnExactIsNormalSubgroupUptoRow.holds Try.pinned (OpenSpec.upto fnExactIsNormalSubgroupSpec)

/-- 'laws.FnExactIntersectionFault', WHERE WHAT IT READS IS OF BULK AT MOST 1048576: true; the input reads as it did. -/
def fnExactIntersectionFaultUptoRow : OpenClaim := { program := "ytpjglifijdcgnaa", sum := "c6df30b7f9b4c923fc539858c74af7dfe424314eabf7e344824f614bf95d6bd2", func := "loop.example/g01108/laws.FnExactIntersectionFault", spec := "fnExactIntersectionFault", unfollowed := true, recurses := true, apart := false, narrowed := true }
def FnExactIntersectionFaultUptoSaid : Prop := fnExactIntersectionFaultUptoRow.holds Try.pinned (OpenSpec.upto fnExactIntersectionFaultSpec)

/-- 'laws.FnExactProductOrders', WHERE WHAT IT READS IS OF BULK AT MOST 1048576: true; the input reads as it did. -/
def fnExactProductOrdersUptoRow : OpenClaim := { program := "ytpjglifijdcgnaa", sum := "c6df30b7f9b4c923fc539858c74af7dfe424314eabf7e344824f614bf95d6bd2", func := "loop.example/g01108/laws.FnExactProductOrders", spec := "fnExactProductOrders", unfollowed := true, recurses := true, apart := false, narrowed := true }
def FnExactProductOrdersUptoSaid : Prop := fnExactProductOrdersUptoRow.holds Try.pinned (OpenSpec.upto fnExactProductOrdersSpec)

/-- 'laws.FnExactLengthsOf', WHERE WHAT IT READS IS OF BULK AT MOST 1048576: true; the input reads as it did. -/
def fnExactLengthsOfUptoRow : OpenClaim := { program := "ytpjglifijdcgnaa", sum := "c6df30b7f9b4c923fc539858c74af7dfe424314eabf7e344824f614bf95d6bd2", func := "loop.example/g01108/laws.FnExactLengthsOf", spec := "fnExactLengthsOf", unfollowed := true, recurses := true, apart := false, narrowed := true }
def FnExactLengthsOfUptoSaid : Prop := fnExactLengthsOfUptoRow.holds Try.pinned (OpenSpec.upto fnExactLengthsOfSpec)

/-- 'laws.FnExactCosetWords', WHERE WHAT IT READS IS OF BULK AT MOST 1048576: true; the input reads as it did. -/
def fnExactCosetWordsUptoRow : OpenClaim := { program := "ytpjglifijdcgnaa", sum := "c6df30b7f9b4c923fc539858c74af7dfe424314eabf7e344824f614bf95d6bd2", func := "loop.example/g01108/laws.FnExactCosetWords", spec := "fnExactCosetWords", unfollowed := true, recurses := true, apart := false, narrowed := true }
def FnExactCosetWordsUptoSaid : Prop := fnExactCosetWordsUptoRow.holds Try.pinned (OpenSpec.upto fnExactCosetWordsSpec)

end Rows
end Go.Proofs.Ytpjglifijdcgnaa
