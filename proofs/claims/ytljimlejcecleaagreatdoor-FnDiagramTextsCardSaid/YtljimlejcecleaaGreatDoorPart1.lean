/- Words for the walks of this seat: integer slices that are read, rows that a call owns, and the walk's laws on make and append in those words. No program in sight. -/
import Derived.WalkKit
import Derived.WalkSpells
import Derived.WalkLawsBesides
import Derived.Lib.Hide
import Derived.BigQuiet
import Derived.Deep.QuietTactic
import Derived.Deep.Draws
import Derived.Deep.AppendLies
import Derived.Maps.AppendAt
import Derived.Test.YtljimlejcecleaaGreatDoorRows
import Derived.ProofKit
import Derived.OpenShut
import Derived.SizedLaws
import Derived.ChangeSame
import Derived.Deep.Slices
import Derived.Test.YtljimlejcecleaaGreatDoorProg
import Derived.RegionTactic
import Derived.Deep.RegionLaw
import Derived.Deep.DeepCutAuto
import Derived.Deep.CutBlock
import Derived.Lib.Join
import Derived.Lib.ItoaNum
import Derived.Shelf.Strings.OnBuilder
import Derived.Shelf.Strconv.Itoa4
import Derived.Shelf.Strings.SplitShaped
import Derived.Shelf.Strconv.ErrVarParseInt
import Derived.Lib.ParseIntB
import Derived.Lib.SplitLaws
import Derived.Lib.AppendIntMem
namespace Go.Proofs.YtljimlejcecleaaGreatDoor
open Go.RowKit

/-- element k of a list of integers, 0 behind its end; closed to the walk's simp -/
def iget (zs : List Int) (k : Nat) : Int := zs.getD k 0
theorem iget_lt {zs : List Int} {k : Nat} (h : k < zs.length) : iget zs k = zs[k] := by simp [iget, h]
theorem iget_mem {zs : List Int} {k : Nat} (h : k < zs.length) : iget zs k ∈ zs := by rw [iget_lt h]; exact List.getElem_mem h
theorem take_iget {zs : List Int} {k : Nat} (h : k < zs.length) : zs.take (k + 1) = zs.take k ++ [iget zs k] := by
  rw [List.take_succ_eq_append_getElem h, iget_lt h]
theorem iget_ext {za zb : List Int} (hl : za.length = zb.length) (h : ∀ k, k < za.length → iget za k = iget zb k) : za = zb := by
  apply List.ext_getElem hl
  intro k h1 h2
  rw [← iget_lt h1, ← iget_lt h2]; exact h k h1
theorem all_take_iget {zs : List Int} {p : Int → Bool} {k : Nat} (h : k < zs.length) : (zs.take (k + 1)).all p = ((zs.take k).all p && p (iget zs k)) := by
  rw [take_iget h, List.all_append]; simp
theorem any_take_iget {zs : List Int} {p : Int → Bool} {k : Nat} (h : k < zs.length) : (zs.take (k + 1)).any p = ((zs.take k).any p || p (iget zs k)) := by
  rw [take_iget h, List.any_append]; simp
theorem all_false_at {zs : List Int} {p : Int → Bool} {k : Nat} (h : k < zs.length) (hp : p (iget zs k) = false) : zs.all p = false := by
  rw [List.all_eq_false]; exact ⟨_, iget_mem h, by simp [hp]⟩

/-- the block of a slice's address -/
def bk (ao : Option Addr) : Option Nat := ao.map (·.block)
theorem ownBlock_slice (ao : Option Addr) (n c : Nat) : (Value.slice ao n c).ownBlock = bk ao := by cases ao <;> rfl

/-- the slice at ao, of n cells, holds xs -/
def Vals (w : World) (ao : Option Addr) (n : Nat) (xs : List Value) : Prop :=
  xs.length = n ∧ n ≤ 17592186044416 ∧ (0 < n → ∃ b off, ao = some ⟨b, off, none⟩ ∧ ∀ j u, xs[j]? = some u → w.cell? ⟨b, off + j, none⟩ = some u)

/-- the slice at ao, of n integers, reads as zs -/
def Ints (w : World) (ao : Option Addr) (n : Nat) (zs : List Int) : Prop :=
  zs.length = n ∧ n ≤ 17592186044416 ∧ (0 < n → ∃ b off, ao = some ⟨b, off, none⟩ ∧ ∀ j, j < n → w.cell? ⟨b, off + j, none⟩ = some (.int .i64 (iget zs j)))

theorem Ints.at_ {w : World} {ao : Option Addr} {n : Nat} {zs : List Int} (h : Ints w ao n zs) {k : Nat} (hk : k < n) :
    ∃ b off, ao = some ⟨b, off, none⟩ ∧ w.cell? ⟨b, off + k, none⟩ = some (.int .i64 (iget zs k)) := by
  obtain ⟨b, off, e, hc⟩ := h.2.2 (by omega)
  exact ⟨b, off, e, hc k hk⟩
theorem Ints.all_ {w : World} {ao : Option Addr} {n : Nat} {zs : List Int} (h : Ints w ao n zs) (hn : 0 < n) :
    ∃ b off, ao = some ⟨b, off, none⟩ ∧ b < w.heap.size ∧ ∀ j, j < n → w.cell? ⟨b, off + j, none⟩ = some (.int .i64 (iget zs j)) := by
  obtain ⟨b, off, e, hc⟩ := h.2.2 hn
  exact ⟨b, off, e, World.block_lt_of_cell? w _ (hc 0 hn), hc⟩
theorem Ints.vals {w : World} {ao : Option Addr} {n : Nat} {zs : List Int} (h : Ints w ao n zs) : Vals w ao n (zs.map (Value.int .i64)) := by
  refine ⟨by simpa using h.1, h.2.1, fun hn => ?_⟩
  obtain ⟨b, off, e, hc⟩ := h.2.2 hn
  refine ⟨b, off, e, fun j u hu => ?_⟩
  have hl := h.1
  have hj : j < zs.length := by have := (List.getElem?_eq_some_iff.1 hu).1; simpa using this
  rw [hc j (by omega), ← hu, List.getElem?_map, List.getElem?_eq_getElem hj, iget_lt hj]; rfl
theorem Ints.drewN {w : World} {ao : Option Addr} {n : Nat} {zs : List Int} (h : Ints w ao n zs) (m : Nat) : Ints (w.drewN m) ao n zs := h
theorem Ints.same {w w' : World} {ao : Option Addr} {n : Nat} {zs : List Int} (h : Ints w ao n zs) (hs : ∀ g, bk ao = some g → g < w.heap.size → w'.heap[g]? = w.heap[g]?) : Ints w' ao n zs := by
  refine ⟨h.1, h.2.1, fun hn => ?_⟩
  obtain ⟨b, off, rfl, hb, hc⟩ := h.all_ hn
  exact ⟨b, off, rfl, fun j hj => (World.cell?_of_block (hs b rfl hb)).trans (hc j hj)⟩
theorem Ints.below {w w' : World} {ao : Option Addr} {n : Nat} {zs : List Int} (h : Ints w ao n zs) (hb : Below w.heap.size w w') : Ints w' ao n zs :=
  h.same fun g _ hg => hb.block g hg
theorem Ints.of_none {w : World} {n : Nat} {zs : List Int} (h : Ints w none n zs) : n = 0 ∧ zs = [] := by
  rcases Nat.eq_zero_or_pos n with h0 | h0
  · exact ⟨h0, List.eq_nil_of_length_eq_zero (h.1.trans h0)⟩
  · obtain ⟨b, off, e, _⟩ := h.2.2 h0
    cases e
theorem Ints.nil_ (w : World) (ao : Option Addr) : Ints w ao 0 [] := ⟨rfl, by omega, fun h => absurd h (by omega)⟩

/-- the slice at ao, of n cells (one cell an element, of type E), owns the cells xs in a row of the call's own, from block 'base' on -/
def Own (w : World) (base E : Nat) (ao : Option Addr) (n c : Nat) (xs : List Value) : Prop :=
  w.ownsRow base E 1 (.slice ao n c) n xs ∧ n ≤ 4398046511104

section
variable {w w' : World} {base E : Nat} {ao : Option Addr} {n c : Nat} {xs : List Value} {row : Option Nat}
theorem Own.len (h : Own w base E ao n c xs) : xs.length = n := by have := h.1.1; omega
theorem Own.lt (h : Own w base E ao n c xs) : ∀ g, bk ao = some g → base ≤ g ∧ g < w.heap.size := by
  have := h.1.lt
  rw [ownBlock_slice] at this; exact this
theorem Own.drewN (h : Own w base E ao n c xs) (m : Nat) : Own (w.drewN m) base E ao n c xs := h
theorem Own.kept (h : Own w base E ao n c xs) (hg : w.grownBy w' row) (hne : bk ao = none ∨ bk ao ≠ row) : Own w' base E ao n c xs :=
  ⟨h.1.kept hg (by rw [ownBlock_slice]; exact hne), h.2⟩
theorem Own.same (h : Own w base E ao n c xs) (hs : ∀ g, bk ao = some g → w'.heap[g]? = w.heap[g]?) : Own w' base E ao n c xs := by
  refine ⟨⟨h.1.1, ?_⟩, h.2⟩
  rcases h.1.2 with h2 | ⟨g, cap, cur, hv, hg, hh, r⟩
  · exact Or.inl h2
  · refine Or.inr ⟨g, cap, cur, hv, hg, ?_, r⟩
    have : bk ao = some g := by injection hv with h1; subst h1; rfl
    rw [hs g this]; exact hh
theorem Own.below (h : Own w base E ao n c xs) (hb : Below w.heap.size w w') : Own w' base E ao n c xs :=
  h.same fun g hg => hb.block g (h.lt g hg).2
theorem Own.alloc (h : Own w base E ao n c xs) (o : Obj) : Own (w.alloc o) base E ao n c xs := ⟨h.1.alloc o, h.2⟩
theorem Own.mono (h : Own w base E ao n c xs) {base' : Nat} (hb : base' ≤ base) : Own w base' E ao n c xs := by
  refine ⟨⟨h.1.1, ?_⟩, h.2⟩
  rcases h.1.2 with h2 | ⟨g, cap, cur, hv, hg, r⟩
  · exact Or.inl h2
  · exact Or.inr ⟨g, cap, cur, hv, by omega, r⟩
/-- a slice that is not empty: the block, its cells, not frozen -/
theorem Own.form (h : Own w base E ao n c xs) (hn : 0 < n) : ∃ g, ao = some ⟨g, 0, none⟩ ∧ base ≤ g ∧ g < w.heap.size ∧ n ≤ c ∧ (∀ j, j < n → w.cell? ⟨g, j, none⟩ = xs[j]?) ∧ (∀ j, w.frozen? ⟨g, j, none⟩ = false) := by
  obtain ⟨g, cap, hv, hb, hlt⟩ := h.1.form hn
  injection hv with h1 _ h2
  subst h1 h2
  refine ⟨g, rfl, hb, hlt, ?_, fun j hj => h.1.cellAt j (by omega), fun j => h.1.frozenAt j⟩
  rcases h.1.2 with ⟨h2, _⟩ | ⟨g', cap', cur, hv, _, _, hnc, _⟩
  · cases h2
  · injection hv with _ _ h3; subst h3; exact hnc
theorem Own.stored {g : Nat} (h : Own w base E (some ⟨g, 0, none⟩) n c xs) (k : Nat) (u : Value) :
    Own (w.setCell ⟨g, k, none⟩ u) base E (some ⟨g, 0, none⟩) n c (xs.set k u) ∧ w.grownBy (w.setCell ⟨g, k, none⟩ u) (some g) :=
  ⟨⟨(h.1.stored k u).1, h.2⟩, (h.1.stored k u).2⟩
theorem Own.empty_ (w : World) {base : Nat} (E : Nat) (hb : base ≤ w.heap.size) : Own (w.alloc (.cells #[] E)) base E (some ⟨w.heap.size, 0, none⟩) 0 0 [] := ⟨World.ownsRow_made w #[] 0 hb (by simp [maxLen]) rfl, by omega⟩
theorem Own.nil_ (w : World) (base E : Nat) : Own w base E none 0 0 [] := ⟨World.ownsRow_nil w base E 1, by omega⟩
end

/-- what is owned and holds integers reads as them -/
theorem Own.ints {w : World} {base E : Nat} {ao : Option Addr} {n c : Nat} {zs : List Int} (h : Own w base E ao n c (zs.map (Value.int .i64))) : Ints w ao n zs := by
  have hl : zs.length = n := by have := h.len; simpa using this
  refine ⟨hl, by have := h.2; omega, fun hn => ?_⟩
  obtain ⟨g, rfl, _, _, _, hc, _⟩ := h.form hn
  refine ⟨g, 0, rfl, fun j hj => ?_⟩
  rw [Nat.zero_add, hc j hj, List.getElem?_map, List.getElem?_eq_getElem (by omega), iget_lt (by omega)]; rfl

/-- the row of the table of an element type of one cell -/
structure ET (P : Program) (S E : TypeId) (z : Value) (bytes : Nat) : Prop where
  und : P.underlying S = some (.slice E)
  info : (P.info? E).map (fun i => (i.zero, i.size, i.bytes)) = some (some z, 1, bytes)
  one : z.cells = #[z]
  small : bytes ≤ 32

theorem grown_tr {a b c : World} {row : Option Nat} (h : a.grownBy b row) (k : b.grownBy c row) : a.grownBy c row :=
  ⟨k.os.trans h.os, k.tape.trans h.tape, k.output.trans h.output, Nat.le_trans h.size k.size, fun i hi hne => (k.block i (Nat.lt_of_lt_of_le hi h.size) hne).trans (h.block i hi hne)⟩
theorem below_drewN {B : Nat} {a w : World} (h : Below B a w) (n : Nat) : Below B a (w.drewN n) := ⟨h.os, h.tape, h.output, h.size, h.block⟩
theorem below_of_quiet {B : Nat} {w w' : World} (h : ∃ m, w' = w.drewN m) : Below B w w' := by
  obtain ⟨m, rfl⟩ := h; exact below_drewN (Below.refl _ _) m

section
variable {P : Program} {ops : Array Oper} {rest : List Oper} {o : Oper} {a : Act} {Q : Exit → Act → World → Prop}

/-- make([]T, n) -/
theorem wpList_mk {S E : TypeId} {z : Value} {bytes : Nat} (et : ET P S E z bytes) (w : World) (hg : o.guard = none) (l c : Operand) (hop : o.op = Op.makeSlice S l c) (base : Nat)
    (kl kc : IntKind) (L C : Int) (n : Nat) (hl : a.eval l = .int kl L) (hc : a.eval c = .int kc C) (hL : L = (n : Int)) (hC : C = (n : Int)) (hn : n ≤ 4398046511104) (hb : base ≤ w.heap.size)
    (hK : ∀ w', Own w' base E (some ⟨w.heap.size, 0, none⟩) n n (List.replicate n z) → w.grownBy w' none → w'.heap.size = w.heap.size + 1 → wpList P ops Q rest (a.put o.dst (.slice (some ⟨w.heap.size, 0, none⟩) n n)) w') :
    wpList P ops Q (o :: rest) a w := by
  obtain ⟨i, hi, hz, hs, hby⟩ := info_parts et.info
  refine wpList_plain hg fun K hK' => ?_
  have hr := run_make (P := P) w S E i z et.und hi hz kl kc (n : Int) (n : Int) (by omega) (by omega) (by have := et.small; rw [hby]; have : (bytes : Int) * n ≤ 32 * n := Int.mul_le_mul_of_nonneg_right (by omega) (by omega); omega) (by omega)
  simp only [Int.toNat_natCast] at hr
  subst hL; subst hC
  unfold Oper.wp
  simp [execOp, hop, hl, hc, hr, Result.andThen]
  refine hK' _ _ (hK _ ⟨?_, hn⟩ (World.grownBy_alloc w _ none) (by simp))
  have := World.ownsRow_lit (e := E) (size := i.size) w (madeCells z.cells (n * i.size)) n hb (by simp [maxLen]; omega) (size_madeCells _ _)
  rw [hs, et.one, Nat.mul_one, toList_madeCells_one] at this
  rw [et.one, hs, Nat.mul_one]
  exact this

/-- append(s, x) of one element: x lies in a block of its own, just laid -/
theorem wpList_ap1 {S E : TypeId} {z : Value} {bytes : Nat} (et : ET P S E z bytes) (w : World) (hg : o.guard = none) (s x : Operand) (ho : o.op = .call { callee := .builtin .append, args := #[s, x], argTypes := #[S, S] })
    (base : Nat) (ao : Option Addr) (n c : Nat) (xs : List Value) (hs : a.eval s = .slice ao n c) (hown : Own w base E ao n c xs) (u : Value)
    (hx : a.eval x = .slice (some ⟨w.heap.size, 0, none⟩) 1 1) (hu : u.oneCell' = true) (hn : n + 1 ≤ 4398046511104) (hbase : base ≤ w.heap.size)
    (hK : ∀ ao' c' w', Own w' base E ao' (n + 1) c' (xs ++ [u]) → w.grownBy w' (bk ao) → (bk ao' = bk ao ∨ bk ao' = some (w.heap.size + 1)) → wpList P ops Q rest (a.put o.dst (.slice ao' (n + 1) c')) w') :
    wpList P ops Q (o :: rest) a (w.alloc (.cells #[u] E)) := by
  obtain ⟨i, hi, hz, hsz, hby⟩ := info_parts et.info
  refine wpList_append_own_at _ hg s x S ho base E i z 1 bytes et.und hi hz hsz hby (by rw [et.one]; rfl) (by omega) (.slice ao n c) n xs hs (hown.1.alloc _) ⟨w.heap.size, 0, none⟩ 1 1 [u] hx rfl (cell_one_new _ _ _)
    (by intro v hv; simp at hv; subst hv; exact hu) (by simp [maxLen]; omega) (by have := et.small; have : (n + 1) * bytes ≤ (n + 1) * 32 := Nat.mul_le_mul_left _ this; omega) (by simp; omega) ?_
  intro v' w' h1 h2 _ h4
  rw [ownBlock_slice] at h2 h4
  obtain ⟨g, cap, rfl, hb, hlt⟩ := h1.form (by omega)
  refine hK _ _ _ ⟨h1, hn⟩ (grown_tr (World.grownBy_alloc w _ _) h2) ?_
  rw [ownBlock_slice] at h4
  simpa using h4

/-- append(s, y...), y a slice whose cells hold news -/
theorem wpList_apV {S E : TypeId} {z : Value} {bytes : Nat} (et : ET P S E z bytes) (w : World) (hg : o.guard = none) (s x : Operand) (ho : o.op = .call { callee := .builtin .append, args := #[s, x], argTypes := #[S, S] })
    (base : Nat) (ao : Option Addr) (n c : Nat) (xs : List Value) (hs : a.eval s = .slice ao n c) (hown : Own w base E ao n c xs) (ad : Option Addr) (m mc : Nat) (news : List Value)
    (hx : a.eval x = .slice ad m mc) (hr : Vals w ad m news) (h1 : ∀ u ∈ news, u.oneCell' = true) (hn : n + m ≤ 4398046511104) (hbase : base ≤ w.heap.size)
    (hK : ∀ ao' c' w', Own w' base E ao' (n + m) c' (xs ++ news) → w.grownBy w' (bk ao) → (bk ao' = bk ao ∨ bk ao' = some w.heap.size) → wpList P ops Q rest (a.put o.dst (.slice ao' (n + m) c')) w') :
    wpList P ops Q (o :: rest) a w := by
  obtain ⟨i, hi, hz, hsz, hby⟩ := info_parts et.info
  rcases Nat.eq_zero_or_pos m with h0 | h0
  · subst h0
    have hz0 : news = [] := List.eq_nil_of_length_eq_zero hr.1
    subst hz0
    cases ad with
    | none =>
      have hrun : (Builtin.append_ #[S, S] o.type #[.slice ao n c, .slice none 0 mc]).run P w = .ok (.slice ao n c) w := by
        rcases hown.1.2 with ⟨hv, rfl⟩ | ⟨g, cap, cur, hv, _, _, hnc, _⟩
        · rw [hv]; simp [Builtin.append_, run_underlying et.und, sizeOf, typeInfo, hi, Builtin.lenOf, Builtin.firstCells]
        · rw [hv]; simp [Builtin.append_, run_underlying et.und, sizeOf, typeInfo, hi, Builtin.lenOf, Builtin.firstCells, hnc, storeCells]
      refine wpList_plain hg fun K hK' => ?_
      unfold Oper.wp execOp
      simp only [ho, resolve, invoke, builtin, Sem.run_bind, Sem.run_pure, Result.andThen_ok, List.map_toArray, List.map_cons, List.map_nil, hs, hx, hrun]
      exact hK' _ _ (hK ao c w (by simpa using hown) (World.grownBy.refl w _) (.inl rfl))
    | some ad =>
      refine wpList_append_own_at _ hg s x S ho base E i z 1 bytes et.und hi hz hsz hby (by rw [et.one]; rfl) (by omega) (.slice ao n c) n xs hs hown.1 ad 0 mc [] hx rfl (by intro j u hu; simp at hu)
        (by intro v hv; simp at hv) (by simp [maxLen]; omega) (by have := et.small; have : (n + 0) * bytes ≤ (n + 0) * 32 := Nat.mul_le_mul_left _ this; omega) hbase ?_
      intro v' w' h1 h2 h3 h4
      rw [ownBlock_slice] at h2 h4
      rcases h1.2 with ⟨rfl, hn0⟩ | ⟨g, cap, cur, rfl, _, _, _, _⟩
      · have h5 := h3.1 rfl
        obtain ⟨h5, _⟩ := h5
        injection h5 with h5 h6 h7
        subst h5 h6 h7
        exact hK none 0 w' ⟨by simpa using h1, by omega⟩ h2 (.inl rfl)
      · refine hK _ _ _ ⟨by simpa using h1, hn⟩ h2 ?_
        rw [ownBlock_slice] at h4; exact h4
  · obtain ⟨b, off, rfl, hc⟩ := hr.2.2 h0
    have hl := hr.1
    refine wpList_append_own_at _ hg s x S ho base E i z 1 bytes et.und hi hz hsz hby (by rw [et.one]; rfl) (by omega) (.slice ao n c) n xs hs hown.1 ⟨b, off, none⟩ m mc news hx (by simp [hl])
      (by
        intro j u hu
        rw [Addr.add_lit]; exact hc j u hu)
      h1 (by simp [maxLen]; omega) (by have := et.small; have : (n + m) * bytes ≤ (n + m) * 32 := Nat.mul_le_mul_left _ this; omega) hbase ?_
    intro v' w' h1 h2 _ h4
    rw [ownBlock_slice] at h2 h4
    obtain ⟨g, cap, rfl, hb, hlt⟩ := h1.form (by omega)
    refine hK _ _ _ ⟨h1, hn⟩ h2 ?_
    rw [ownBlock_slice] at h4
    simpa using h4
/-- append(s, y...), y a slice that reads as integers -/
theorem wpList_apN {S E : TypeId} {z : Value} {bytes : Nat} (et : ET P S E z bytes) (w : World) (hg : o.guard = none) (s x : Operand) (ho : o.op = .call { callee := .builtin .append, args := #[s, x], argTypes := #[S, S] })
    (base : Nat) (ao : Option Addr) (n c : Nat) (xs : List Value) (hs : a.eval s = .slice ao n c) (hown : Own w base E ao n c xs) (ad : Option Addr) (m mc : Nat) (zs : List Int)
    (hx : a.eval x = .slice ad m mc) (hr : Ints w ad m zs) (hn : n + m ≤ 4398046511104) (hbase : base ≤ w.heap.size)
    (hK : ∀ ao' c' w', Own w' base E ao' (n + m) c' (xs ++ zs.map (Value.int .i64)) → w.grownBy w' (bk ao) → (bk ao' = bk ao ∨ bk ao' = some w.heap.size) → wpList P ops Q rest (a.put o.dst (.slice ao' (n + m) c')) w') :
    wpList P ops Q (o :: rest) a w :=
  wpList_apV et w hg s x ho base ao n c xs hs hown ad m mc (zs.map (Value.int .i64)) hx hr.vals (ints_oneCell _ _) hn hbase hK
end

/-- only blocks from lo to below hi, and new ones, may have turned -/
structure Only (lo hi : Nat) (w w' : World) : Prop where
  os : w'.os = w.os
  tape : w'.tape = w.tape
  output : w'.output = w.output
  size : w.heap.size ≤ w'.heap.size
  block : ∀ k, k < w.heap.size → (k < lo ∨ hi ≤ k) → w'.heap[k]? = w.heap[k]?
theorem Only.below {lo hi : Nat} {w w' : World} (h : Only lo hi w w') {B : Nat} (hB : B ≤ lo) (hw : B ≤ w.heap.size) : Below B w w' := ⟨h.os, h.tape, h.output, h.size, fun k hk => h.block k (by omega) (.inl (by omega))⟩
theorem Only.refl (lo hi : Nat) (w : World) : Only lo hi w w := ⟨rfl, rfl, rfl, Nat.le_refl _, fun _ _ _ => rfl⟩
theorem Only.trans {lo hi : Nat} {a b c : World} (h : Only lo hi a b) (k : Only lo hi b c) : Only lo hi a c :=
  ⟨k.os.trans h.os, k.tape.trans h.tape, k.output.trans h.output, Nat.le_trans h.size k.size, fun i hi hd => (k.block i (Nat.lt_of_lt_of_le hi h.size) hd).trans (h.block i hi hd)⟩
theorem Own.only {w w' : World} {base E : Nat} {ao : Option Addr} {n c : Nat} {xs : List Value} {lo hi lo' hi' : Nat} (h : Own w base E ao n c xs) (ho : Only lo hi w w') (hl : ∀ g, bk ao = some g → lo' ≤ g ∧ g < hi') (hd : hi' ≤ lo ∨ hi ≤ lo') : Own w' base E ao n c xs :=
  h.same fun g hg => ho.block g (h.lt g hg).2 (by have := hl g hg; omega)

theorem ret_int {k : IntKind} {a b : Int} (h : a = b) : Ending.returned (.int k a) = .returned (.int k b) := by rw [h]
theorem ret_bool {a b : Bool} (h : a = b) : Ending.returned (.bool a) = .returned (.bool b) := by rw [h]
end Go.Proofs.YtljimlejcecleaaGreatDoor

/- From a walk to the row: what 'post' asks where below the old heap nothing has turned; arguments opened to the words of Base. -/
namespace Go.Proofs.YtljimlejcecleaaGreatDoor
open Go.ChangeShapes Go.WideShapes Go.ChangeAt Go.RowKit Go.Deep

section
variable {H : Type} {enc : TypeId × Value → H} {P : Program}
theorem post_of_below {f : Func} {s : ChangeSpec} {apart fresh handsOn again : Bool} {W W' : World} {args : Array Value} {v : Value} {ds gs : List (DataW H)} {before pa pv : List MemPlace}
    (hW : DataW.Whole enc P f.params.toList s.vars apart W args.toList ds gs before)
    (hres : ∀ (b : Nat) (sp : Nat → Bool) (hd : Bool), DataW.TrodAll enc P W' b sp hd f.resultTypes.toList (v.resultList f.resultTypes.size) (s.fn H (ds ++ gs)).results [])
    (hargs : ∀ sp : Nat → Bool, (∀ p ∈ before, sp p.block = true) → DataW.TrodAll enc P W' 0 sp true f.params.toList args.toList (s.fn H (ds ++ gs)).args pa)
    (hvars : ∀ sp : Nat → Bool, (∀ p ∈ before, sp p.block = true) → DataW.TrodVars enc P W' sp s.vars (s.fn H (ds ++ gs)).vars pv)
    (hps : before = pa ++ pv) (hb : Below W.heap.size W W')
    (hok : ∀ (j : Nat) (t : TypeId) (r : Value), f.resultTypes[j]? = some t → (v.resultList f.resultTypes.size)[j]? = some r → Value.okWide P W' .any 0 t r) :
    s.post enc P f apart fresh handsOn again W args v W' := by
  have hlt : ∀ p ∈ before, p.block < W.heap.size := fun p hp => hW.lt p hp
  have hold : ∀ p ∈ before, (fun b => decide (b < W.heap.size)) p.block = true := fun p hp => by simpa using hlt p hp
  refine ⟨ds, gs, before, [], pa, pv, hW, hres _ _ _, hargs _ hold, hvars _ hold, World.keptBut_mono (fun p hp => ⟨hp, ?_⟩) (hb.frame (· ∈ before)), fun _ => ?_⟩
  · rw [hps, List.mem_append] at hp
    exact Or.inr hp
  · obtain ⟨_, _, _, _, _, hz, hn⟩ := hW
    refine ⟨hok, _, _, ([] ++ pa) ++ pv, ⟨[] ++ pa, pv, trodAll_append (hargs _ (fun _ _ => rfl)) (hres _ _ _), hvars _ (fun _ _ => rfl), rfl, ?_, ?_⟩, ?_⟩
    · intro b off hp
      have hin : MemPlace.cell b off ∈ before := by rw [hps]; simpa using hp
      rw [hb.frozen (hlt _ hin)]
      exact hz b off hin
    · intro ha
      have := hn ha
      rw [hps] at this
      simpa using this
    · intro p hp _
      rw [hps]
      simpa using hp

/-- all arguments read behind the call as before it -/
theorem trodAll_stays (hl : laidOutB P = true) {W W' : World} (hb : Below W.heap.size W W') {sp : Nat → Bool} : ∀ (ts : List TypeId) (vs : List Value) (ds : List (DataW H)) (ps : List MemPlace),
    (∀ t ∈ ts, P.readableRec t = true ∧ t < P.types.size) → (∀ p ∈ ps, p.block < W.heap.size) → (∀ p ∈ ps, sp p.block = true) →
    DataW.TrodAll enc P W 0 (fun _ => true) true ts vs ds ps → DataW.TrodAll enc P W' 0 sp true ts vs ds ps
  | [], vs, ds, ps, _, _, _, h => by
    obtain ⟨rfl, rfl, rfl⟩ := trodAll_nil h
    exact trodAll_mk0
  | t :: ts, vs, ds, ps, ht, hlt, hsp, h => by
    obtain ⟨v, vs', d, ds', p, q, rfl, rfl, rfl, h0, r0⟩ := trodAll_cons h
    exact trodAll_cons_mk (WideElems.Trod_stays hl (ht t (by simp)).1 (ht t (by simp)).2 h0 (fun x hx => hb.same (hlt x (by simp [hx]))) (fun x hx => hsp x (by simp [hx])))
      (trodAll_stays hl hb ts vs' ds' q (fun t' h' => ht t' (by simp [h'])) (fun p' hp => hlt p' (by simp [hp])) (fun p' hp => hsp p' (by simp [hp])) r0)

end
end Go.Proofs.YtljimlejcecleaaGreatDoor

/- Words for slices whose elements are slices: rows that are read, rows that a call owns, all in blocks of their own. No program in sight. -/
namespace Go.Proofs.YtljimlejcecleaaGreatDoor
open Go.RowKit

/-- the block of a value, if it has one, lies from lo to below hi -/
def In (lo hi : Nat) (u : Value) : Prop := ∀ g, u.ownBlock = some g → lo ≤ g ∧ g < hi
theorem In.mono {lo hi lo' hi' : Nat} {u : Value} (h : In lo hi u) (h1 : lo' ≤ lo) (h2 : hi ≤ hi') : In lo' hi' u := fun g hg => by have := h g hg; omega
theorem in_nil (lo hi : Nat) (n c : Nat) : In lo hi (.slice none n c) := fun g hg => by cases hg
theorem in_slice {lo hi : Nat} {ao : Option Addr} {n c : Nat} (h : ∀ g, bk ao = some g → lo ≤ g ∧ g < hi) : In lo hi (.slice ao n c) := fun g hg => h g (by rw [ownBlock_slice] at hg; exact hg)

/-- an element's predicate looks at the element's own block alone -/
structure Inner {D : Type} (Ow1 : World → Value → D → Prop) : Prop where
  loc : ∀ {w w' u d}, Ow1 w u d → (∀ g, u.ownBlock = some g → w'.heap[g]? = w.heap[g]?) → Ow1 w' u d
  lt : ∀ {w u d}, Ow1 w u d → ∀ g, u.ownBlock = some g → g < w.heap.size
  one : ∀ {w u d}, Ow1 w u d → u.oneCell' = true

/-- the slice at ao, of n elements us, is a row of the call's own; each element u owns d in a block of its own; all blocks lie from lo to below hi and are different -/
structure OwR {D : Type} (Ow1 : World → Value → D → Prop) (w : World) (lo hi E : Nat) (ao : Option Addr) (n c : Nat) (us : List Value) (ds : List D) : Prop where
  own : Own w lo E ao n c us
  top : ∀ g, bk ao = some g → g < hi
  len : ds.length = n
  el : ∀ (j : Nat) (u : Value) (d : D), us[j]? = some u → ds[j]? = some d → Ow1 w u d
  rng : ∀ (j : Nat) (u : Value), us[j]? = some u → In lo hi u
  out : ∀ (j : Nat) (u : Value) (g : Nat), us[j]? = some u → u.ownBlock = some g → bk ao ≠ some g
  apart : ∀ (i j : Nat) (u u' : Value) (g : Nat), i ≠ j → us[i]? = some u → us[j]? = some u' → u.ownBlock = some g → u'.ownBlock ≠ some g

section
variable {D : Type} {Ow1 : World → Value → D → Prop} {w w' : World} {lo hi E : Nat} {ao : Option Addr} {n c : Nat} {us : List Value} {ds : List D}

theorem OwR.ulen (h : OwR Ow1 w lo hi E ao n c us ds) : us.length = n := h.own.len
theorem OwR.get (h : OwR Ow1 w lo hi E ao n c us ds) {j : Nat} (hj : j < n) : ∃ u d, us[j]? = some u ∧ ds[j]? = some d ∧ Ow1 w u d ∧ In lo hi u :=
  have h1 : j < us.length := by rw [h.ulen]; exact hj
  have h2 : j < ds.length := by rw [h.len]; exact hj
  ⟨us[j], ds[j], List.getElem?_eq_getElem h1, List.getElem?_eq_getElem h2, h.el j _ _ (List.getElem?_eq_getElem h1) (List.getElem?_eq_getElem h2), h.rng j _ (List.getElem?_eq_getElem h1)⟩

/-- nothing in the range has turned -/
theorem OwR.same (I : Inner Ow1) (h : OwR Ow1 w lo hi E ao n c us ds) (hs : ∀ g, lo ≤ g → g < hi → g < w.heap.size → w'.heap[g]? = w.heap[g]?) : OwR Ow1 w' lo hi E ao n c us ds :=
  { own := h.own.same fun g hg => hs g (h.own.lt g hg).1 (h.top g hg) (h.own.lt g hg).2
    top := h.top, len := h.len, rng := h.rng, out := h.out, apart := h.apart
    el := fun j u d hu hd => I.loc (h.el j u d hu hd) fun g hg => hs g (h.rng j u hu g hg).1 (h.rng j u hu g hg).2 (I.lt (h.el j u d hu hd) g hg) }
theorem OwR.below (I : Inner Ow1) (h : OwR Ow1 w lo hi E ao n c us ds) (hb : Below w.heap.size w w') : OwR Ow1 w' lo hi E ao n c us ds := h.same I fun g _ _ hg => hb.block g hg
theorem OwR.only (I : Inner Ow1) (h : OwR Ow1 w lo hi E ao n c us ds) {l k : Nat} (ho : Only l k w w') (hd : hi ≤ l ∨ k ≤ lo) : OwR Ow1 w' lo hi E ao n c us ds :=
  h.same I fun g h1 h2 hg => ho.block g hg (by omega)
theorem OwR.mono (h : OwR Ow1 w lo hi E ao n c us ds) {lo' hi' : Nat} (h1 : lo' ≤ lo) (h2 : hi ≤ hi') : OwR Ow1 w lo' hi' E ao n c us ds :=
  { own := h.own.mono h1, top := fun g hg => Nat.lt_of_lt_of_le (h.top g hg) h2, len := h.len, el := h.el, out := h.out, apart := h.apart
    rng := fun j u hu => (h.rng j u hu).mono h1 h2 }

/-- element j is replaced: u' is new or in the block of the old one -/
theorem OwR.put (I : Inner Ow1) {g0 : Nat} (h : OwR Ow1 w lo hi E (some ⟨g0, 0, none⟩) n c us ds) {j : Nat} {u u' : Value} {d' : D} (hu : us[j]? = some u) (hg : w.grownBy w' u.ownBlock) (h' : Ow1 w' u' d')
    (hnew : u'.ownBlock = none ∨ u'.ownBlock = u.ownBlock ∨ ∃ g, u'.ownBlock = some g ∧ w.heap.size ≤ g) (hhi : hi ≤ w.heap.size) (hlo : lo ≤ w.heap.size) :
    OwR Ow1 (w'.setCell ⟨g0, j, none⟩ u') lo w'.heap.size E (some ⟨g0, 0, none⟩) n c (us.set j u') (ds.set j d') := by
  have hjl : j < us.length := (List.getElem?_eq_some_iff.1 hu).1
  have hown : Own w' lo E (some ⟨g0, 0, none⟩) n c us := h.own.kept hg (by
    cases hb : u.ownBlock with
    | none => exact .inr (by simp [bk])
    | some g => exact .inr (h.out j u g hu hb))
  have hlt' : ∀ g, u'.ownBlock = some g → g ≠ g0 := by
    intro g hgg e
    subst e
    rcases hnew with hn | hn | ⟨g', hn, hge⟩
    · rw [hn] at hgg; cases hgg
    · rw [hn] at hgg; exact h.out j u g hu hgg rfl
    · rw [hn] at hgg; obtain rfl := Option.some.inj hgg
      have := (h.own.lt g' rfl).2
      omega
  have hset : ∀ g, g ≠ g0 → (w'.setCell ⟨g0, j, none⟩ u').heap[g]? = w'.heap[g]? := fun g hne => Below.heap_setCell _ _ _ _ hne
  have hsz := hg.size
  refine { own := (hown.stored j u').1, top := fun g hgg => Nat.lt_of_lt_of_le (h.top g hgg) (Nat.le_trans hhi hsz), len := by rw [List.length_set]; exact h.len, el := ?_, rng := ?_, out := ?_, apart := ?_ }
  · intro i v d hv hd
    by_cases hij : j = i
    · subst hij
      rw [List.getElem?_set_self hjl] at hv
      obtain rfl := Option.some.inj hv
      rw [List.getElem?_set_self'] at hd
      cases hdd : ds[j]? with
      | none => rw [hdd] at hd; cases hd
      | some x =>
        rw [hdd] at hd; simp at hd; subst hd
        exact I.loc h' fun g hgg => hset g (hlt' g hgg)
    · rw [List.getElem?_set_ne hij] at hd hv
      have h1 : Ow1 w' v d := I.loc (h.el i v d hv hd) fun g hgg => hg.block g (I.lt (h.el i v d hv hd) g hgg) fun e => h.apart i j v u g (fun e => hij e.symm) hv hu hgg e.symm
      exact I.loc h1 fun g hgg => hset g fun e => by subst e; exact h.out i v g hv hgg rfl
  · intro i v hv
    by_cases hij : j = i
    · subst hij
      rw [List.getElem?_set_self hjl] at hv
      obtain rfl := Option.some.inj hv
      intro g hgg
      refine ⟨?_, I.lt h' g hgg⟩
      rcases hnew with hn | hn | ⟨g', hn, hge⟩
      · rw [hn] at hgg; cases hgg
      · rw [hn] at hgg; exact (h.rng j u hu g hgg).1
      · rw [hn] at hgg; obtain rfl := Option.some.inj hgg; omega
    · rw [List.getElem?_set_ne hij] at hv
      exact (h.rng i v hv).mono (Nat.le_refl _) (Nat.le_trans hhi hsz)
  · intro i v g hv hgg
    by_cases hij : j = i
    · subst hij
      rw [List.getElem?_set_self hjl] at hv
      obtain rfl := Option.some.inj hv
      intro e
      exact hlt' g hgg (Option.some.inj e).symm
    · rw [List.getElem?_set_ne hij] at hv
      exact h.out i v g hv hgg
  · intro i k v v' g hik hv hv' hgg
    have key : ∀ x vx, j ≠ x → us[x]? = some vx → ∀ g, u'.ownBlock = some g → vx.ownBlock ≠ some g := by
      intro x vx hx hvx g hgg' e
      rcases hnew with hn | hn | ⟨g', hn, hge⟩
      · rw [hn] at hgg'; cases hgg'
      · rw [hn] at hgg'; exact h.apart j x u vx g hx hu hvx hgg' e
      · rw [hn] at hgg'; obtain rfl := Option.some.inj hgg'
        have := (h.rng x vx hvx g' e).2
        omega
    by_cases hi' : j = i
    · subst hi'
      rw [List.getElem?_set_self hjl] at hv
      obtain rfl := Option.some.inj hv
      rw [List.getElem?_set_ne hik] at hv'
      exact key k v' hik hv' g hgg
    · rw [List.getElem?_set_ne hi'] at hv
      by_cases hk' : j = k
      · subst hk'
        rw [List.getElem?_set_self hjl] at hv'
        obtain rfl := Option.some.inj hv'
        exact fun e => key i v hi' hv g e hgg
      · rw [List.getElem?_set_ne hk'] at hv'
        exact h.apart i k v v' g hik hv hv' hgg

theorem OwR.empty_ (h : Own w lo E ao 0 c []) (hhi : ∀ g, bk ao = some g → g < hi) : OwR Ow1 w lo hi E ao 0 c [] [] :=
  { own := h, top := hhi, len := rfl, el := fun j u d hj _ => by simp at hj, rng := fun j u hj => by simp at hj, out := fun j u g hj => by simp at hj, apart := fun i j u u' g _ hi => by simp at hi }

/-- one element more: u is in a block of its own -/
theorem OwR.push (I : Inner Ow1) (h : OwR Ow1 w lo hi E ao n c us ds) {ao' : Option Addr} {c' hi' : Nat} {u : Value} {d : D} (hown : Own w' lo E ao' (n + 1) c' (us ++ [u])) (hg : w.grownBy w' (bk ao)) (hu : Ow1 w' u d) (hur : In lo hi' u)
    (hao : ∀ g, bk ao' = some g → g < hi') (hhi : hi ≤ hi') (hnew : ∀ g, bk ao' = some g → (bk ao = some g ∨ ∀ (j : Nat) (u : Value), us[j]? = some u → u.ownBlock ≠ some g))
    (hua : ∀ g, u.ownBlock = some g → bk ao' ≠ some g ∧ ∀ (j : Nat) (v : Value), us[j]? = some v → v.ownBlock ≠ some g) : OwR Ow1 w' lo hi' E ao' (n + 1) c' (us ++ [u]) (ds ++ [d]) := by
  have hul : us.length = n := h.ulen
  have split1 : ∀ {j v}, (us ++ [u])[j]? = some v → (us[j]? = some v ∧ j < n) ∨ (j = n ∧ v = u) := by
    intro j v hj
    rw [List.getElem?_append] at hj
    split at hj
    · exact .inl ⟨hj, by omega⟩
    · rw [hul] at hj
      cases hjn : j - n with
      | zero => rw [hjn] at hj; simp at hj; exact .inr ⟨by omega, hj.symm⟩
      | succ k => rw [hjn] at hj; simp at hj
  refine { own := hown, top := hao, len := by rw [List.length_append, h.len]; rfl, el := ?_, rng := ?_, out := ?_, apart := ?_ }
  · intro j v x hv hx
    rcases split1 hv with ⟨h1, hj⟩ | ⟨rfl, rfl⟩
    · rw [List.getElem?_append_left (by rw [h.len]; exact hj)] at hx
      refine I.loc (h.el j v x h1 hx) fun g hgg => hg.block g (I.lt (h.el j v x h1 hx) g hgg) fun e => h.out j v g h1 hgg e.symm
    · rw [List.getElem?_append_right (by rw [h.len]; exact Nat.le_refl _), h.len, Nat.sub_self] at hx
      simp at hx; subst hx; exact hu
  · intro j v hv
    rcases split1 hv with ⟨h1, hj⟩ | ⟨rfl, rfl⟩
    · exact (h.rng j v h1).mono (Nat.le_refl _) hhi
    · exact hur
  · intro j v g hv hgg
    rcases split1 hv with ⟨h1, hj⟩ | ⟨rfl, rfl⟩
    · intro e
      rcases hnew g e with h2 | h2
      · exact h.out j v g h1 hgg h2
      · exact h2 j v h1 hgg
    · exact (hua g hgg).1
  · intro i j v v' g hij hv hv' hgg
    rcases split1 hv with ⟨h1, hi1⟩ | ⟨rfl, rfl⟩
    · rcases split1 hv' with ⟨h2, hj1⟩ | ⟨rfl, rfl⟩
      · exact h.apart i j v v' g hij h1 h2 hgg
      · exact fun e => (hua g e).2 i v h1 hgg
    · rcases split1 hv' with ⟨h2, hj1⟩ | ⟨rfl, _⟩
      · exact (hua g hgg).2 j v' h2
      · exact absurd rfl hij

/-- a row that is written out: u0, u1, .. are owned already, in blocks of their own -/
theorem OwR.lit (I : Inner Ow1) (hlo : lo ≤ w.heap.size) (hhi : hi ≤ w.heap.size) (hl : us.length = n) (hd : ds.length = n) (hn : n ≤ 4398046511104) (hel : ∀ (j : Nat) (u : Value) (d : D), us[j]? = some u → ds[j]? = some d → Ow1 w u d) (hr : ∀ (j : Nat) (u : Value), us[j]? = some u → In lo hi u)
    (ha : ∀ (i j : Nat) (u u' : Value) (g : Nat), i ≠ j → us[i]? = some u → us[j]? = some u' → u.ownBlock = some g → u'.ownBlock ≠ some g) :
    OwR Ow1 (w.alloc (.cells us.toArray E)) lo (w.heap.size + 1) E (some ⟨w.heap.size, 0, none⟩) n n us ds :=
  { own := ⟨by simpa using World.ownsRow_lit (e := E) (size := 1) w us.toArray n hlo (by simp [maxLen]; omega) (by simpa using hl), hn⟩
    top := fun g hg => by simp [bk] at hg; omega
    len := hd
    el := fun j u d hu hdd => I.loc (hel j u d hu hdd) fun g hg => Below.heap_alloc w _ g (I.lt (hel j u d hu hdd) g hg)
    rng := fun j u hu => (hr j u hu).mono (Nat.le_refl _) (by omega)
    out := fun j u g hu hg e => by
      have := (hr j u hu g hg).2
      simp [bk] at e
      omega
    apart := ha }
/-- the cell of element j -/
theorem OwR.cell {g0 : Nat} (h : OwR Ow1 w lo hi E (some ⟨g0, 0, none⟩) n c us ds) {j : Nat} {u : Value} (hu : us[j]? = some u) : w.cell? ⟨g0, j, none⟩ = some u := by
  have hj : j < n := by have := (List.getElem?_eq_some_iff.1 hu).1; rw [h.ulen] at this; exact this
  obtain ⟨g', hg, _, _, _, hc, _⟩ := h.own.form (by omega)
  obtain rfl : g0 = g' := by injection hg with hg; injection hg
  rw [hc j hj, hu]
end

/-- element k of a list of lists, the empty one behind its end; closed to simp -/
def lget {α : Type} (zss : List (List α)) (k : Nat) : List α := zss.getD k []
theorem lget_lt {α : Type} {zss : List (List α)} {k : Nat} (h : k < zss.length) : lget zss k = zss[k] := by simp [lget, h]
theorem lget_get? {α : Type} {zss : List (List α)} {k : Nat} {z : List α} (h : zss[k]? = some z) : lget zss k = z := by simp [lget, h]
theorem lget_mem {α : Type} {zss : List (List α)} {k : Nat} (h : k < zss.length) : lget zss k ∈ zss := by rw [lget_lt h]; exact List.getElem_mem h

/-- v is a slice that reads as integers -/
def RdS (w : World) (v : Value) (zs : List Int) : Prop := ∃ ao n c, v = .slice ao n c ∧ Ints w ao n zs
/-- v is a slice that owns its integers -/
def OwS (E : Nat) (w : World) (v : Value) (zs : List Int) : Prop := ∃ ao n c, v = .slice ao n c ∧ Own w 0 E ao n c (zs.map (Value.int .i64))
theorem OwS.rd {E : Nat} {w : World} {v : Value} {zs : List Int} (h : OwS E w v zs) : RdS w v zs := by
  obtain ⟨ao, n, c, rfl, ho⟩ := h
  exact ⟨ao, n, c, rfl, ho.ints⟩
theorem innerS (E : Nat) : Inner (OwS E) :=
  { loc := fun {w w' u d} h hs => by
      obtain ⟨ao, n, c, rfl, ho⟩ := h
      exact ⟨ao, n, c, rfl, ho.same fun g hg => hs g (by rw [ownBlock_slice]; exact hg)⟩
    lt := fun {w u d} h g hg => by
      obtain ⟨ao, n, c, rfl, ho⟩ := h
      rw [ownBlock_slice] at hg
      exact (ho.lt g hg).2
    one := fun {w u d} h => by obtain ⟨ao, n, c, rfl, _⟩ := h; rfl }
theorem RdS.below {w w' : World} {v : Value} {zs : List Int} (h : RdS w v zs) (hb : Below w.heap.size w w') : RdS w' v zs := by
  obtain ⟨ao, n, c, rfl, hi⟩ := h
  exact ⟨ao, n, c, rfl, hi.below hb⟩

/-- the slice at ao, of n slices of integers, reads as zss -/
def Intss (w : World) (ao : Option Addr) (n : Nat) (zss : List (List Int)) : Prop :=
  zss.length = n ∧ n ≤ 17592186044416 ∧ (0 < n → ∃ b off, ao = some ⟨b, off, none⟩ ∧ ∀ j, j < n → ∃ u, w.cell? ⟨b, off + j, none⟩ = some u ∧ RdS w u (lget zss j))
theorem Intss.at_ {w : World} {ao : Option Addr} {n : Nat} {zss : List (List Int)} (h : Intss w ao n zss) {k : Nat} (hk : k < n) :
    ∃ b off a' n' c', ao = some ⟨b, off, none⟩ ∧ w.cell? ⟨b, off + k, none⟩ = some (.slice a' n' c') ∧ Ints w a' n' (lget zss k) := by
  obtain ⟨b, off, e, hc⟩ := h.2.2 (by omega)
  obtain ⟨u, h1, a', n', c', rfl, h2⟩ := hc k hk
  exact ⟨b, off, a', n', c', e, h1, h2⟩
theorem Intss.drewN {w : World} {ao : Option Addr} {n : Nat} {zss : List (List Int)} (h : Intss w ao n zss) (m : Nat) : Intss (w.drewN m) ao n zss := h
theorem Intss.below {w w' : World} {ao : Option Addr} {n : Nat} {zss : List (List Int)} (h : Intss w ao n zss) (hb : Below w.heap.size w w') : Intss w' ao n zss := by
  refine ⟨h.1, h.2.1, fun hn => ?_⟩
  obtain ⟨b, off, rfl, hc⟩ := h.2.2 hn
  refine ⟨b, off, rfl, fun j hj => ?_⟩
  obtain ⟨u, h1, h2⟩ := hc j hj
  exact ⟨u, (hb.cell (p := ⟨b, off + j, none⟩) (World.block_lt_of_cell? w _ h1)).trans h1, h2.below hb⟩
theorem Intss.nil_ (w : World) (ao : Option Addr) : Intss w ao 0 [] := ⟨rfl, by omega, fun h => absurd h (by omega)⟩
theorem OwR.intss {E1 : Nat} {w : World} {lo hi E : Nat} {ao : Option Addr} {n c : Nat} {us : List Value} {zss : List (List Int)} (h : OwR (OwS E1) w lo hi E ao n c us zss) : Intss w ao n zss := by
  refine ⟨h.len, by have := h.own.2; omega, fun hn => ?_⟩
  obtain ⟨g, rfl, _, _, _, _, _⟩ := h.own.form hn
  refine ⟨g, 0, rfl, fun j hj => ?_⟩
  obtain ⟨u, d, hu, hd, h1, _⟩ := h.get hj
  refine ⟨u, by rw [Nat.zero_add]; exact h.cell hu, ?_⟩
  rw [lget_get? hd]; exact h1.rd

/-- v is a slice that reads as lists of integers -/
def RdSS (w : World) (v : Value) (zss : List (List Int)) : Prop := ∃ ao n c, v = .slice ao n c ∧ Intss w ao n zss
/-- v is a slice that owns its lists of integers, in blocks from lo to below hi -/
def OwSS (E1 E : Nat) (w : World) (lo hi : Nat) (v : Value) (zss : List (List Int)) : Prop := ∃ ao n c us, v = .slice ao n c ∧ OwR (OwS E1) w lo hi E ao n c us zss
theorem OwSS.rd {E1 E : Nat} {w : World} {lo hi : Nat} {v : Value} {zss : List (List Int)} (h : OwSS E1 E w lo hi v zss) : RdSS w v zss := by
  obtain ⟨ao, n, c, us, rfl, ho⟩ := h
  exact ⟨ao, n, c, rfl, ho.intss⟩
theorem OwSS.below {E1 E : Nat} {w w' : World} {lo hi : Nat} {v : Value} {zss : List (List Int)} (h : OwSS E1 E w lo hi v zss) (hb : Below w.heap.size w w') : OwSS E1 E w' lo hi v zss := by
  obtain ⟨ao, n, c, us, rfl, ho⟩ := h
  exact ⟨ao, n, c, us, rfl, ho.below (innerS E1) hb⟩
theorem OwSS.only {E1 E : Nat} {w w' : World} {lo hi : Nat} {v : Value} {zss : List (List Int)} (h : OwSS E1 E w lo hi v zss) {l k : Nat} (ho : Only l k w w') (hd : hi ≤ l ∨ k ≤ lo) : OwSS E1 E w' lo hi v zss := by
  obtain ⟨ao, n, c, us, rfl, h1⟩ := h
  exact ⟨ao, n, c, us, rfl, h1.only (innerS E1) ho hd⟩
theorem OwSS.mono {E1 E : Nat} {w : World} {lo hi lo' hi' : Nat} {v : Value} {zss : List (List Int)} (h : OwSS E1 E w lo hi v zss) (h1 : lo' ≤ lo) (h2 : hi ≤ hi') : OwSS E1 E w lo' hi' v zss := by
  obtain ⟨ao, n, c, us, rfl, ho⟩ := h
  exact ⟨ao, n, c, us, rfl, ho.mono h1 h2⟩
theorem RdSS.below {w w' : World} {v : Value} {zss : List (List Int)} (h : RdSS w v zss) (hb : Below w.heap.size w w') : RdSS w' v zss := by
  obtain ⟨ao, n, c, rfl, hi⟩ := h
  exact ⟨ao, n, c, rfl, hi.below hb⟩
/-- v owns its integers in a block from lo to below hi -/
def OwnS (E : Nat) (w : World) (lo hi : Nat) (v : Value) (zs : List Int) : Prop := OwS E w v zs ∧ In lo hi v
theorem OwnS.rd {E : Nat} {w : World} {lo hi : Nat} {v : Value} {zs : List Int} (h : OwnS E w lo hi v zs) : RdS w v zs := h.1.rd
theorem OwnS.below {E : Nat} {w w' : World} {lo hi : Nat} {v : Value} {zs : List Int} (h : OwnS E w lo hi v zs) (hb : Below w.heap.size w w') : OwnS E w' lo hi v zs :=
  ⟨(innerS E).loc h.1 fun g hg => hb.block g ((innerS E).lt h.1 g hg), h.2⟩
theorem OwnS.only {E : Nat} {w w' : World} {lo hi : Nat} {v : Value} {zs : List Int} (h : OwnS E w lo hi v zs) {l k : Nat} (ho : Only l k w w') (hd : hi ≤ l ∨ k ≤ lo) : OwnS E w' lo hi v zs :=
  ⟨(innerS E).loc h.1 fun g hg => ho.block g ((innerS E).lt h.1 g hg) (by have := h.2 g hg; omega), h.2⟩
theorem OwnS.of {E : Nat} {w : World} {base : Nat} {ao : Option Addr} {n c : Nat} {zs : List Int} (h : Own w base E ao n c (zs.map (Value.int .i64))) : OwnS E w base w.heap.size (.slice ao n c) zs :=
  ⟨⟨ao, n, c, rfl, h.mono (Nat.zero_le _)⟩, in_slice h.lt⟩

/-- k, k + 1, .. : n numbers -/
def marks (k : Int) (n : Nat) : List Int := (List.range n).map fun j : Nat => k + (j : Int)
/-- a struct of one slice of slices, as a value: the mirror and the program's maniplex alike -/
def RdM (w : World) (v : Value) (zss : List (List Int)) : Prop := ∃ ao n c, v = .agg #[.slice ao n c] ∧ Intss w ao n zss
def OwM (E1 E : Nat) (w : World) (lo hi : Nat) (v : Value) (zss : List (List Int)) : Prop := ∃ ao n c us, v = .agg #[.slice ao n c] ∧ OwR (OwS E1) w lo hi E ao n c us zss
theorem OwM.rd {E1 E : Nat} {w : World} {lo hi : Nat} {v : Value} {zss : List (List Int)} (h : OwM E1 E w lo hi v zss) : RdM w v zss := by
  obtain ⟨ao, n, c, us, rfl, ho⟩ := h
  exact ⟨ao, n, c, rfl, ho.intss⟩
theorem OwM.below {E1 E : Nat} {w w' : World} {lo hi : Nat} {v : Value} {zss : List (List Int)} (h : OwM E1 E w lo hi v zss) (hb : Below w.heap.size w w') : OwM E1 E w' lo hi v zss := by
  obtain ⟨ao, n, c, us, rfl, ho⟩ := h
  exact ⟨ao, n, c, us, rfl, ho.below (innerS E1) hb⟩
theorem OwM.only {E1 E : Nat} {w w' : World} {lo hi : Nat} {v : Value} {zss : List (List Int)} (h : OwM E1 E w lo hi v zss) {l k : Nat} (ho : Only l k w w') (hd : hi ≤ l ∨ k ≤ lo) : OwM E1 E w' lo hi v zss := by
  obtain ⟨ao, n, c, us, rfl, h1⟩ := h
  exact ⟨ao, n, c, us, rfl, h1.only (innerS E1) ho hd⟩
theorem OwM.mono {E1 E : Nat} {w : World} {lo hi lo' hi' : Nat} {v : Value} {zss : List (List Int)} (h : OwM E1 E w lo hi v zss) (h1 : lo' ≤ lo) (h2 : hi ≤ hi') : OwM E1 E w lo' hi' v zss := by
  obtain ⟨ao, n, c, us, rfl, ho⟩ := h
  exact ⟨ao, n, c, us, rfl, ho.mono h1 h2⟩
theorem RdM.below {w w' : World} {v : Value} {zss : List (List Int)} (h : RdM w v zss) (hb : Below w.heap.size w w') : RdM w' v zss := by
  obtain ⟨ao, n, c, rfl, hi⟩ := h
  exact ⟨ao, n, c, rfl, hi.below hb⟩

/-- a struct of an integer and a slice of slices, as a value: a presentation -/
abbrev PresD : Type := Int × List (List Int)
def RdP (w : World) (v : Value) (d : PresD) : Prop := ∃ ao n c, v = .agg #[.int .i64 d.1, .slice ao n c] ∧ Intss w ao n d.2
def OwP (E1 E : Nat) (w : World) (lo hi : Nat) (v : Value) (d : PresD) : Prop := ∃ ao n c us, v = .agg #[.int .i64 d.1, .slice ao n c] ∧ OwR (OwS E1) w lo hi E ao n c us d.2
theorem OwP.rd {E1 E : Nat} {w : World} {lo hi : Nat} {v : Value} {d : PresD} (h : OwP E1 E w lo hi v d) : RdP w v d := by
  obtain ⟨ao, n, c, us, rfl, ho⟩ := h
  exact ⟨ao, n, c, rfl, ho.intss⟩
theorem OwP.below {E1 E : Nat} {w w' : World} {lo hi : Nat} {v : Value} {d : PresD} (h : OwP E1 E w lo hi v d) (hb : Below w.heap.size w w') : OwP E1 E w' lo hi v d := by
  obtain ⟨ao, n, c, us, rfl, ho⟩ := h
  exact ⟨ao, n, c, us, rfl, ho.below (innerS E1) hb⟩
theorem OwP.only {E1 E : Nat} {w w' : World} {lo hi : Nat} {v : Value} {d : PresD} (h : OwP E1 E w lo hi v d) {l k : Nat} (ho : Only l k w w') (hd : hi ≤ l ∨ k ≤ lo) : OwP E1 E w' lo hi v d := by
  obtain ⟨ao, n, c, us, rfl, h1⟩ := h
  exact ⟨ao, n, c, us, rfl, h1.only (innerS E1) ho hd⟩
theorem RdP.below {w w' : World} {v : Value} {d : PresD} (h : RdP w v d) (hb : Below w.heap.size w w') : RdP w' v d := by
  obtain ⟨ao, n, c, rfl, hi⟩ := h
  exact ⟨ao, n, c, rfl, hi.below hb⟩

theorem below_tr {w W W' : World} (k : Below W.heap.size W W') (h : Below w.heap.size w W) : Below w.heap.size w W' := h.trans (k.mono h.size)
theorem below_drew1 (w : World) : Below w.heap.size w w.drew := (Below.refl _ _).drew
theorem OwM.form {E1 E : Nat} {w : World} {lo hi : Nat} {v : Value} {zss : List (List Int)} (h : OwM E1 E w lo hi v zss) : ∃ ao n c, v = .agg #[.slice ao n c] := by
  obtain ⟨ao, n, c, us, rfl, _⟩ := h
  exact ⟨ao, n, c, rfl⟩
theorem OwP.form {E1 E : Nat} {w : World} {lo hi : Nat} {v : Value} {d : PresD} (h : OwP E1 E w lo hi v d) : ∃ ao n c, v = .agg #[.int .i64 d.1, .slice ao n c] := by
  obtain ⟨ao, n, c, us, rfl, _⟩ := h
  exact ⟨ao, n, c, rfl⟩
theorem below_alloc1 (w : World) (o : Obj) : Below w.heap.size w (w.alloc o) := (Below.refl _ _).alloc (Nat.le_refl _) o
/-- block g is just the cells cs of type t, none frozen -/
def Blk (w : World) (g : Nat) (t : TypeId) (cs : Array Value) : Prop := w.heap[g]? = some (.cells cs t (0, 0))
theorem Blk.lt {w : World} {g : Nat} {t : TypeId} {cs : Array Value} (h : Blk w g t cs) : g < w.heap.size := by
  rcases Nat.lt_or_ge g w.heap.size with hlt | hge
  · exact hlt
  · unfold Blk at h; rw [Array.getElem?_eq_none hge] at h; cases h
theorem Blk.cell {w : World} {g : Nat} {t : TypeId} {cs : Array Value} (h : Blk w g t cs) (i : Nat) : w.cell? ⟨g, i, none⟩ = cs[i]? := cell_of_row w g i cs t (0, 0) h
theorem Blk.frozen {w : World} {g : Nat} {t : TypeId} {cs : Array Value} (h : Blk w g t cs) (i : Nat) : w.frozen? ⟨g, i, none⟩ = false := by
  unfold Blk at h; simp [World.frozen?, h]
theorem Blk.new (w : World) (t : TypeId) (cs : Array Value) : Blk (w.alloc (.cells cs t)) w.heap.size t cs := heap_alloc_new w _
theorem blk_at {w : World} {t : TypeId} {cs : Array Value} {k : Nat} (h : w.heap.size = k) : Blk (w.alloc (.cells cs t)) k t cs := h ▸ Blk.new w t cs
theorem Blk.alloc {w : World} {g : Nat} {t : TypeId} {cs : Array Value} (h : Blk w g t cs) (o : Obj) : Blk (w.alloc o) g t cs := (Below.heap_alloc w o g h.lt).trans h
theorem Blk.set_ {w : World} {g : Nat} {t : TypeId} {cs : Array Value} (h : Blk w g t cs) (i : Nat) (u : Value) : Blk (w.setCell ⟨g, i, none⟩ u) g t (cs.setIfInBounds i u) := by
  unfold Blk at h ⊢
  simp [World.setCell, Array.getElem?_modify, h]
theorem Blk.far {w : World} {g : Nat} {t : TypeId} {cs : Array Value} (h : Blk w g t cs) {p : Addr} (hp : g ≠ p.block) (u : Value) : Blk (w.setCell p u) g t cs := (Below.heap_setCell w p u g hp).trans h
theorem Blk.below {w w' : World} {g : Nat} {t : TypeId} {cs : Array Value} {B : Nat} (h : Blk w g t cs) (hb : Below B w w') (hg : g < B) : Blk w' g t cs := (hb.block g hg).trans h
theorem Blk.belowS {w w' : World} {g : Nat} {t : TypeId} {cs : Array Value} (h : Blk w g t cs) (hb : Below w.heap.size w w') : Blk w' g t cs := h.below hb h.lt
theorem Blk.only {w w' : World} {g : Nat} {t : TypeId} {cs : Array Value} {lo hi : Nat} (h : Blk w g t cs) (ho : Only lo hi w w') (hg : g < lo ∨ hi ≤ g) : Blk w' g t cs := (ho.block g h.lt hg).trans h
theorem Blk.drewN {w : World} {g : Nat} {t : TypeId} {cs : Array Value} (h : Blk w g t cs) (m : Nat) : Blk (w.drewN m) g t cs := h
end Go.Proofs.YtljimlejcecleaaGreatDoor

/- The draws' source: l01From, l01Next. -/
namespace Go.Proofs.YtljimlejcecleaaGreatDoor
open Go.RowKit

/-- the slice at ao, of n bytes, can be read -/
def Bts (w : World) (ao : Option Addr) (n : Nat) (hi : Nat) : Prop := n ≤ 281474976710656 ∧ (0 < n → ∃ b off, ao = some ⟨b, off, none⟩ ∧ b < hi ∧ ∀ j, j < n → ∃ x : Nat, x < 256 ∧ w.cell? ⟨b, off + j, none⟩ = some (.int .u8 x))
/-- a source: its box, its code lies below it -/
structure Src (w : World) (sb : Nat) : Prop where
  box : ∃ (ao : Option Addr) (n c k h : Nat), Blk w sb 69 #[.slice ao n c, .int .i64 k, .int .u64 h] ∧ h < 18446744073709551616 ∧ k ≤ n ∧ Bts w ao n sb
theorem Bts.only {w w' : World} {ao : Option Addr} {n hi : Nat} {lo h2 : Nat} (h : Bts w ao n hi) (ho : Only lo h2 w w') (hl : hi ≤ lo) : Bts w' ao n hi := by
  refine ⟨h.1, fun hn => ?_⟩
  obtain ⟨b, off, e, hb, hc⟩ := h.2 hn
  refine ⟨b, off, e, hb, fun j hj => ?_⟩
  obtain ⟨x, hx, hcx⟩ := hc j hj
  exact ⟨x, hx, (World.cell?_of_block (ho.block b (World.block_lt_of_cell? w _ hcx) (.inl (by omega)))).trans hcx⟩
theorem Src.only {w w' : World} {sb lo hi : Nat} (h : Src w sb) (ho : Only lo hi w w') (hl : sb < lo) : Src w' sb := by
  obtain ⟨ao, n, c, k, hh, h1, h2, h3, h4⟩ := h.box
  exact ⟨ao, n, c, k, hh, h1.only ho (.inl hl), h2, h3, h4.only ho (by omega)⟩

theorem wrap_u64_of (a : Int) : ∃ H : Nat, H < 18446744073709551616 ∧ IntKind.u64.wrap a = (H : Int) := by
  rw [IntKind.wrap_u64]
  exact ⟨(a % 18446744073709551616).toNat, by omega, by omega⟩
theorem low24 (a : Int) : ∃ X : Nat, X ≤ 16777215 ∧ wrap64 (bits .and .u64 a 16777215) = (X : Int) := by
  refine ⟨(BitVec.ofInt 64 a &&& BitVec.ofInt 64 16777215).toNat, ?_, ?_⟩
  · rw [BitVec.toNat_and]
    exact Nat.le_trans Nat.and_le_right (by decide)
  · have h : (BitVec.ofInt 64 a &&& BitVec.ofInt 64 16777215).toNat ≤ 16777215 := by rw [BitVec.toNat_and]; exact Nat.le_trans Nat.and_le_right (by decide)
    show wrap64 (IntKind.u64.wrap ((BitVec.ofInt 64 a &&& BitVec.ofInt 64 16777215).toNat : Int)) = _
    rw [IntKind.wrap_u64]
    generalize (BitVec.ofInt 64 a &&& BitVec.ofInt 64 16777215).toNat = Y at *
    unfold wrap64
    omega
theorem only_set (w : World) (sb i : Nat) (v : Value) {w' : World} (h : w' = w.setCell ⟨sb, i, none⟩ v := by rfl) : Only sb (sb + 1) w w' := by
  subst h
  exact ⟨rfl, rfl, rfl, by simp [World.setCell], fun k hk hd => Below.heap_setCell _ _ _ _ (by show k ≠ sb; omega)⟩

set_option maxHeartbeats 3200000 in
theorem next_any (sb : Nat) (z : Int) (w : World) (h : Src w sb) (hz : -4611686018427387904 ≤ z ∧ z ≤ 4611686018427387904) :
    Calls Tryz.prog 29 #[.pointer (some ⟨sb, 0, none⟩), .int .i64 z] w fun e w' => ∃ r : Nat, e = .returned (.int .i64 r) ∧ (z < 1 → r = 0) ∧ (1 ≤ z → (r : Int) < z) ∧ Src w' sb ∧ Only sb (sb + 1) w w' := by
  obtain ⟨ao, n, c, k, hh, hB, h2, h3, h4⟩ := h.box
  have x0 := hB.cell 0
  have x1 := hB.cell 1
  have x2 := hB.cell 2
  have f1 := hB.frozen 1
  have f2 := hB.frozen 2
  simp at x0 x1 x2
  by_cases hz1 : z < 1
  · have e0 : decide (z < 1) = true := by simp [hz1]
    go_enter Tryz.func29, Tryz.ntmps29
    go_wp2
    go_ret
    exact ⟨0, rfl, fun _ => rfl, fun h => by omega, h, Only.refl _ _ _⟩
  · have e0 : decide (z < 1) = false := by simp; omega
    go_enter Tryz.func29, Tryz.ntmps29
    go_wp2_with fail
    obtain ⟨H, hH1, hH2⟩ := wrap_u64_of (IntKind.u64.wrap ((hh : Int) * 6364136223846793005) + 1442695040888963407)
    rw [hH2]
    obtain ⟨X, hX1, hX2⟩ := low24 ((H : Int) / 8589934592)
    rw [hX2]
    have B1 : Blk (w.setCell ⟨sb, 2, none⟩ (.int .u64 (H : Int))) sb 69 #[.slice ao n c, .int .i64 k, .int .u64 H] := hB.set_ 2 _
    have O1 : Only sb (sb + 1) w (w.setCell ⟨sb, 2, none⟩ (.int .u64 (H : Int))) := only_set _ _ 2 _
    generalize w.setCell ⟨sb, 2, none⟩ (.int .u64 (H : Int)) = w1 at *
    have h5 : Bts w1 ao n sb := h4.only O1 (Nat.le_refl _)
    have y0 := B1.cell 0
    have y1 := B1.cell 1
    have g1 := B1.frozen 1
    simp at y0 y1
    clear x0 x1 x2 f1 f2 hH2 hX2 h4 hB
    have hn := h5.1
    have hzz : (z == 0) = false := by simp; omega
    have fin : ∀ (Y k' : Nat) (w2 : World), Y ≤ 33554432 → k' ≤ n → Blk w2 sb 69 #[.slice ao n c, .int .i64 k', .int .u64 H] → Only sb (sb + 1) w1 w2 → ∃ r : Nat, Ending.returned (Value.int .i64 ((Y : Int) % z)) = Ending.returned (.int .i64 r) ∧ (z < 1 → r = 0) ∧ (1 ≤ z → (r : Int) < z) ∧ Src w2 sb ∧ Only sb (sb + 1) w w2 := fun Y k' w2 hY hk' hB2 hO2 => by
      have e2 := Int.emod_nonneg (Y : Int) (show z ≠ 0 by omega)
      have e3 := Int.emod_lt_of_pos (Y : Int) (show 0 < z by omega)
      exact ⟨((Y : Int) % z).toNat, by rw [Int.toNat_of_nonneg e2], fun h => by omega, fun _ => by omega, ⟨ao, n, c, k', H, hB2, hH1, hk', h5.only hO2 (Nat.le_refl _)⟩, O1.trans hO2⟩
    by_cases hk : k < n
    · obtain ⟨b, off, rfl, hb, hc⟩ := h5.2 (by omega)
      obtain ⟨x, hx, hcx⟩ := hc k hk
      go_quiet (fail)
      go_wp2_with fail
      go_quiet (fail)
      go_wp2
      go_ret
      have key := fin (X + x) (k + 1)
      rw [Int.natCast_add] at key
      exact key _ (by omega) (by omega) (B1.set_ 1 (.int .i64 ((k : Int) + 1))) ⟨rfl, rfl, rfl, by simp [World.setCell, World.drewN], fun a ha hd => Below.heap_setCell w1 ⟨sb, 1, none⟩ (.int .i64 ((k : Int) + 1)) a (by show a ≠ sb; omega)⟩
    · go_quiet (fail)
      go_wp2
      go_ret
      exact fin X k _ (by omega) h3 (B1.drewN _) ⟨rfl, rfl, rfl, Nat.le_refl _, fun _ _ _ => rfl⟩

theorem Bts.below {w w' : World} {ao : Option Addr} {n hi : Nat} (h : Bts w ao n hi) (hb : Below w.heap.size w w') : Bts w' ao n hi := by
  refine ⟨h.1, fun hn => ?_⟩
  obtain ⟨b, off, e, hlt, hc⟩ := h.2 hn
  refine ⟨b, off, e, hlt, fun j hj => ?_⟩
  obtain ⟨x, hx, hcx⟩ := hc j hj
  exact ⟨x, hx, (World.cell?_of_block (hb.block b (World.block_lt_of_cell? w _ hcx))).trans hcx⟩
set_option maxRecDepth 100000 in
set_option maxHeartbeats 3200000 in
theorem from_any (ao : Option Addr) (n c : Nat) (w : World) (h : Bts w ao n w.heap.size) :
    Calls Tryz.prog 27 #[.slice ao n c] w fun e w' => e = .returned (.pointer (some ⟨w.heap.size, 0, none⟩)) ∧ Src w' w.heap.size ∧ w.heap.size < w'.heap.size ∧ Below w.heap.size w w' := by
  have hn := h.1
  go_enter Tryz.func27, Tryz.ntmps27
  go_wp2
  go_loopw [4] (fun i wr => ∃ k hh : Nat, k ≤ n ∧ i = .int .i64 k ∧ hh < 18446744073709551616 ∧ Blk wr w.heap.size 69 #[.slice ao n c, .int .i64 0, .int .u64 hh] ∧ Below w.heap.size w wr ∧ w.heap.size < wr.heap.size) (fun i _ => n - (intOf i).toNat)
  case atStart => exact ⟨0, 8191 + n, Nat.zero_le _, rfl, by omega, blk_at rfl, below_alloc1 _ _, by simp⟩
  case round =>
    obtain ⟨k, hh, hk, rfl, hh1, hB, hb, hs⟩ := hrel
    have done : Src wr w.heap.size := ⟨ao, n, c, 0, hh, hB, hh1, Nat.zero_le _, h.below hb⟩
    by_cases hlt : k < n
    · by_cases hl4 : k < 4096
      · obtain ⟨b, off, rfl, hbb, hc⟩ := (h.below hb).2 (by omega)
        obtain ⟨x, hx, hcx⟩ := hc k hlt
        have x2 := hB.cell 2
        have f2 := hB.frozen 2
        simp at x2
        obtain ⟨A, hA1, hA2⟩ := wrap_u64_of ((hh : Int) * 1099511628211)
        obtain ⟨C, hC1, hC2⟩ := wrap_u64_of ((A : Int) + x)
        obtain ⟨D, hD1, hD2⟩ := wrap_u64_of ((C : Int) + 11)
        have e1 : IntKind.u64.wrap (x : Int) = (x : Int) := by rw [IntKind.wrap_u64]; omega
        have HB := Lib.hid hB
        clear hB hc done h
        go_wp2_with fail
        go_region_law (fail)
        all_goals
          have hb2 := hb.setCell (p := ⟨w.heap.size, 2, none⟩) (Nat.le_refl _) (.int .u64 (D : Int))
          go_wp2
          go_roundw
          case rel => exact ⟨k + 1, D, by omega, by go_num, hD1, HB.out.set_ 2 (.int .u64 (D : Int)), ⟨hb2.os, hb2.tape, hb2.output, hb2.size, hb2.block⟩, by simpa [World.setCell] using hs⟩
          case measure => simp [intOf]; omega
      · go_wp2
        go_ret
        exact ⟨rfl, done, hs, hb⟩
    · obtain rfl : k = n := by omega
      go_wp2
      go_ret
      exact ⟨rfl, done, hs, hb⟩
end Go.Proofs.YtljimlejcecleaaGreatDoor

/- From a walk to the row: an argument of bytes. -/
namespace Go.Proofs.YtljimlejcecleaaGreatDoor
open Go.ChangeShapes Go.WideShapes Go.ChangeAt Go.RowKit Go.Deep

section
variable {H : Type} {enc : TypeId × Value → H} {P : Program}
/-- an argument of type []byte -/
theorem openB {W : World} {base : Nat} {t e : TypeId} {v : Value} {d : DataW H} {p : List MemPlace} (ht : P.underlying t = some (.slice e)) (he : P.underlying e = some (.int .u8)) (hc : P.cellsOf e = 1) (hby : P.bytesOf e = 1)
    (hv : Value.okWide P W .any base t v) (h : DataW.Trod enc P W 0 (fun _ => true) true t v d p) (hs : ∀ elems spare, d = .slice elems spare → (elems.length + spare.length) * P.bytesOf e ≤ reachBytes) :
    ∃ ao n c, v = .slice ao n c ∧ Bts W ao n W.heap.size := by
  obtain ⟨a0, len, cap, rfl⟩ := okWide_slice ht hv
  obtain ⟨fuel, hf⟩ := h
  rcases open_ints ht he hc hf with ⟨hcs, hx⟩ | ⟨a, len', cap', zs, hcs, _, hl, hm, hz, hx, hcell, hwz⟩
  · simp [Value.cells] at hcs
    obtain ⟨rfl, rfl, rfl⟩ := hcs
    exact ⟨_, _, _, rfl, by omega, fun h => absurd h (by omega)⟩
  · simp [Value.cells] at hcs
    obtain ⟨rfl, rfl, rfl⟩ := hcs
    simp only [Prod.mk.injEq] at hx
    simp only [if_true] at hz
    have hr := hs _ _ hx.1
    rw [hby] at hr
    simp only [lits, List.length_map, List.length_take, List.length_drop, reachBytes] at hr
    refine ⟨_, _, _, rfl, by omega, fun hn => ?_⟩
    obtain ⟨b, off, spot⟩ := a
    have hspot : spot = none := by simpa [Addr.add] using World.cell?_spot (hcell 0 (by omega))
    subst hspot
    refine ⟨b, off, rfl, World.block_lt_of_cell? W _ (hcell 0 (by omega)), fun j hj => ?_⟩
    have h1 := hcell j (by omega)
    rw [Addr.add_lit] at h1
    have h2 := hwz (zs.getD j 0) (by rw [List.getD_eq_getElem?_getD, List.getElem?_eq_getElem (show j < zs.length by omega)]; exact List.getElem_mem _)
    have h3 := Go.bounds_u8 h2
    exact ⟨(zs.getD j 0).toNat, by omega, by rw [h1, Int.toNat_of_nonneg h3.1]⟩
end
end Go.Proofs.YtljimlejcecleaaGreatDoor

/- The laws' own helpers on []int64: the copy, the comparison, the marks. -/
namespace Go.Proofs.YtljimlejcecleaaGreatDoor
open Go.RowKit

theorem etI : ET Tryz.prog 24 2 (.int .i64 0) 8 := ⟨Tryz.underlying24, by kernel_rfl, rfl, by omega⟩

end Go.Proofs.YtljimlejcecleaaGreatDoor

/- Draws of words: l11DrawWord, l11Power. -/
namespace Go.Proofs.YtljimlejcecleaaGreatDoor
open Go.RowKit

theorem only_grown {lo hi : Nat} {a w w' : World} {row : Option Nat} (h : Only lo hi a w) (hg : w.grownBy w' row) (hr : ∀ g, row = some g → a.heap.size ≤ g) : Only lo hi a w' :=
  ⟨hg.os.trans h.os, hg.tape.trans h.tape, hg.output.trans h.output, Nat.le_trans h.size hg.size, fun k hk hd => (hg.block k (Nat.lt_of_lt_of_le hk h.size) (fun e => by have := hr k e.symm; omega)).trans (h.block k hk hd)⟩
theorem Src.grown {w w' : World} {sb : Nat} {row : Option Nat} (h : Src w sb) (hg : w.grownBy w' row) (hr : ∀ g, row = some g → sb < g) : Src w' sb := by
  obtain ⟨ao, n, c, k, hh, h1, h2, h3, h4⟩ := h.box
  have hlt := h1.lt
  refine ⟨ao, n, c, k, hh, (hg.block sb hlt (fun e => by have := hr sb e.symm; omega)).trans h1, h2, h3, h4.1, fun hn => ?_⟩
  obtain ⟨b, off, e, hb, hc⟩ := h4.2 hn
  refine ⟨b, off, e, hb, fun j hj => ?_⟩
  obtain ⟨x, hx, hcx⟩ := hc j hj
  exact ⟨x, hx, (World.cell?_of_block (hg.block b (World.block_lt_of_cell? w _ hcx) (fun e => by have := hr b e.symm; omega))).trans hcx⟩
set_option maxHeartbeats 3200000 in
theorem pick_any (sb : Nat) (ao : Option Addr) (n c : Nat) (zs : List Int) (w : World) (h : Src w sb) (hz : Ints w ao n zs) (hn : 1 ≤ n) (hn2 : n ≤ 100) (hne : bk ao ≠ some sb) :
    Calls Tryz.prog 48 #[.pointer (some ⟨sb, 0, none⟩), .slice ao n c] w fun e w' => ∃ r : Nat, r < n ∧ e = .returned (.int .i64 (iget zs r)) ∧ Src w' sb ∧ Only sb (sb + 1) w w' := by
  go_enter Tryz.func48, Tryz.ntmps48
  go_wp2_with fail
  refine (next_any sb _ _ h (by omega)).mono ?_
  rintro e w2 ⟨r, rfl, -, r2, s2, o2⟩
  have hr := r2 (by omega)
  have hr2 : r < n := by omega
  have hz2 : Ints w2 ao n zs := hz.same fun g hg hlt => o2.block g hlt (by
    have : g ≠ sb := fun e => by subst e; exact hne hg
    omega)
  obtain ⟨b, off, rfl, hc⟩ := hz2.at_ hr2
  clear r2 hz hz2
  go_wp2
  go_ret
  exact ⟨r, hr2, rfl, s2, o2⟩
end Go.Proofs.YtljimlejcecleaaGreatDoor

/- The reference's l01Own. -/
namespace Go.Proofs.YtljimlejcecleaaGreatDoor
open Go.RowKit

set_option maxRecDepth 100000 in
set_option maxHeartbeats 400000 in
theorem own_any (ao : Option Addr) (n c : Nat) (zs : List Int) (w : World) (h : Ints w ao n zs) (hn : n ≤ 1048576) :
    Calls Tryz.prog 47 #[.slice ao n c] w fun e w' => ∃ ao' c', e = .returned (.slice ao' n c') ∧ Own w' w.heap.size 2 ao' n c' (zs.map (Value.int .i64)) ∧ Below w.heap.size w w' := by
  have h2 : Ints (w.alloc (.cells #[] 2)) ao n zs := h.below (below_alloc1 _ _)
  have H2 := Lib.hid h2
  clear h2
  go_enter Tryz.func47, Tryz.ntmps47
  go_wp2_with (at_builtin; refine wpList_apN etI _ rfl _ _ rfl w.heap.size _ 0 0 [] rfl (Own.empty_ w _ (Nat.le_refl _)) ao n c zs rfl H2.out (by omega) (by simp) ?_; intro ao2 c2 w2 ho2 hg2 hblk)
  go_ret
  refine ⟨_, _, rfl, by simpa using ho2, (below_alloc1 w _).grown hg2 (by simp) (fun g hg => ?_)⟩
  simp [bk] at hg; omega

end Go.Proofs.YtljimlejcecleaaGreatDoor

/- within and its twin in the reference; slices.IndexFunc and slices.ContainsFunc at []int64, over any predicate that only reads or makes memory. -/
namespace Go.Proofs.YtljimlejcecleaaGreatDoor
open Go.RowKit

/-- n lies between lo and hi -/
def inB (n lo hi : Int) : Bool := decide (lo ≤ n) && decide (n ≤ hi)
theorem within_any (n lo hi : Int) (w : World) : Calls Tryz.prog 36 #[.int .i64 n, .int .i64 lo, .int .i64 hi] w fun e w' => e = .returned (.bool (inB n lo hi)) ∧ w' = w := by
  by_cases h : lo ≤ n
  · have h1 : decide (lo ≤ n) = true := by simpa using h
    go_enter Tryz.func36, Tryz.ntmps36
    go_wp2
    go_ret
    exact ⟨ret_bool (by simp [inB, h]), rfl⟩
  · have h1 : decide (lo ≤ n) = false := by simpa using h
    have h2 : inB n lo hi = false := by simp [inB, h1]
    have H2 := Lib.hid h2
    clear h2
    go_enter Tryz.func36, Tryz.ntmps36
    go_wp2
    go_ret
    exact ⟨ret_bool H2.out.symm, rfl⟩

theorem specIn_any (n lo hi : Int) (w : World) : Calls Tryz.prog 39 #[.int .i64 n, .int .i64 lo, .int .i64 hi] w fun e w' => e = .returned (.bool (inB n lo hi)) ∧ w' = w := by
  by_cases h : lo ≤ n
  · have h1 : decide (lo ≤ n) = true := by simpa using h
    go_enter Tryz.func39, Tryz.ntmps39
    go_wp2
    go_ret
    exact ⟨ret_bool (by simp [inB, h]), rfl⟩
  · have h1 : decide (lo ≤ n) = false := by simpa using h
    have h2 : inB n lo hi = false := by simp [inB, h1]
    have H2 := Lib.hid h2
    clear h2
    go_enter Tryz.func39, Tryz.ntmps39
    go_wp2
    go_ret
    exact ⟨ret_bool H2.out.symm, rfl⟩

/-- the first index at which p holds, or -1 -/
def findI (p : Int → Bool) (zs : List Int) : Int := match zs.findIdx? p with | some i => i | none => -1
theorem findI_none {p : Int → Bool} {zs : List Int} (h : zs.any p = false) : findI p zs = -1 := by
  have : zs.findIdx? p = none := by rw [List.findIdx?_eq_none_iff]; intro x hx; have := (List.any_eq_false.1 h) x hx; simpa using this
  simp [findI, this]
theorem findI_some {p : Int → Bool} {zs : List Int} {k : Nat} (hk : k < zs.length) (hn : (zs.take k).any p = false) (hp : p (iget zs k) = true) : findI p zs = k := by
  have : zs.findIdx? p = some k := by
    rw [List.findIdx?_eq_some_iff_getElem]
    refine ⟨hk, by rw [← iget_lt hk]; exact hp, fun j hj => ?_⟩
    have hx : zs[j]'(by omega) ∈ zs.take k := by rw [List.mem_take_iff_getElem]; exact ⟨j, by omega, rfl⟩
    have := (List.any_eq_false.1 hn) _ hx
    simpa using this
  simp [findI, this]
theorem findI_any (p : Int → Bool) (zs : List Int) : decide (0 ≤ findI p zs) = zs.any p := by
  cases h : zs.any p with
  | false => rw [findI_none h]; rfl
  | true =>
    rw [decide_eq_true_iff]
    unfold findI
    cases h2 : zs.findIdx? p with
    | some i => exact Int.natCast_nonneg i
    | none =>
      rw [List.findIdx?_eq_none_iff] at h2
      obtain ⟨x, hx, hp⟩ := List.any_eq_true.1 h
      have := h2 x hx
      simp [hp] at this

set_option maxHeartbeats 400000 in
theorem indexFunc_any (fn : Nat) (cap : Array Value) (p : Int → Bool) (ao : Option Addr) (n c : Nat) (zs : List Int) (w : World) (h : Ints w ao n zs)
    (hcf : ∀ (args : Array Value) (w : World), (callFunc fn args).run Tryz.prog w = .ok (.enter fn args) w)
    (hf : ∀ j, j < n → ∀ w', Below w.heap.size w w' → Calls Tryz.prog fn (#[.int .i64 (iget zs j)] ++ cap) w' fun e w'' => e = .returned (.bool (p (iget zs j))) ∧ Below w'.heap.size w' w'') :
    Calls Tryz.prog 49 #[.slice ao n c, .func (.func fn) #[] cap] w fun e w' => e = .returned (.int .i64 (findI p zs)) ∧ Below w.heap.size w w' := by
  have hn := h.2.1
  have HF := Lib.hid hf
  clear hf
  go_enter Tryz.func49, Tryz.ntmps49
  go_wp2
  go_loopw [8] (fun i wr => ∃ k : Nat, k ≤ n ∧ i = .int .i64 k ∧ (zs.take k).any p = false ∧ Below w.heap.size w wr) (fun i _ => n - (intOf i).toNat)
  case atStart => exact ⟨0, Nat.zero_le _, rfl, by simp, Below.refl _ _⟩
  case round =>
    obtain ⟨k, hk, rfl, hpre, hb⟩ := hrel
    have HP := Lib.hid hpre
    clear hpre
    by_cases hlt : k < n
    · obtain ⟨b, off, rfl, hc⟩ := (h.below hb).at_ hlt
      have HH := Lib.hid h
      clear h
      cases hp : p (iget zs k) with
      | true =>
        have HX := Lib.hid hp
        clear hp
        go_wp2_with fail
        refine (HF.out k hlt _ hb).mono ?_
        rintro e w1 ⟨rfl, hb1⟩
        rw [HX.out]
        go_wp2
        go_ret
        exact ⟨ret_int (findI_some (by rw [HH.out.1]; exact hlt) HP.out HX.out).symm, hb.trans (hb1.mono hb.size)⟩
      | false =>
        have HX := Lib.hid hp
        clear hp
        go_wp2_with fail
        refine (HF.out k hlt _ hb).mono ?_
        rintro e w1 ⟨rfl, hb1⟩
        rw [HX.out]
        go_wp2
        go_roundw
        case rel => exact ⟨k + 1, by omega, by go_num, by rw [any_take_iget (by rw [HH.out.1]; exact hlt), HP.out, HX.out]; rfl, hb.trans (hb1.mono hb.size)⟩
        case measure => simp [intOf]; omega
    · obtain rfl : k = n := by omega
      have hl := h.1
      have HL := Lib.hid hl
      clear hl
      go_wp2
      go_ret
      exact ⟨ret_int (findI_none (by have := HP.out; rwa [List.take_of_length_le (Nat.le_of_eq HL.out)] at this)).symm, hb⟩

theorem containsFunc_any (fn : Nat) (cap : Array Value) (p : Int → Bool) (ao : Option Addr) (n c : Nat) (zs : List Int) (w : World) (h : Ints w ao n zs)
    (hcf : ∀ (args : Array Value) (w : World), (callFunc fn args).run Tryz.prog w = .ok (.enter fn args) w)
    (hf : ∀ j, j < n → ∀ w', Below w.heap.size w w' → Calls Tryz.prog fn (#[.int .i64 (iget zs j)] ++ cap) w' fun e w'' => e = .returned (.bool (p (iget zs j))) ∧ Below w'.heap.size w' w'') :
    Calls Tryz.prog 34 #[.slice ao n c, .func (.func fn) #[] cap] w fun e w' => e = .returned (.bool (zs.any p)) ∧ Below w.heap.size w w' := by
  have HF := Lib.hid hf
  clear hf
  go_enter Tryz.func34, Tryz.ntmps34
  go_wp2_with fail
  refine (indexFunc_any fn cap p ao n c zs w h hcf HF.out).mono ?_
  rintro e w1 ⟨rfl, hb1⟩
  go_wp2
  go_ret
  exact ⟨ret_bool (findI_any p zs), hb1⟩
end Go.Proofs.YtljimlejcecleaaGreatDoor

/- IsDiagram, the program's and the reference's. -/
namespace Go.Proofs.YtljimlejcecleaaGreatDoor
open Go.RowKit

/-- a label: 0, or 2 to 32 -/
def isLabel (z : Int) : Bool := z == 0 || inB z 2 32
/-- a diagram: fewer than 5 labels -/
def isDiag (zs : List Int) : Bool := zs.all isLabel && decide (zs.length < 5)

set_option maxHeartbeats 400000 in
theorem spec12Is_any (ao : Option Addr) (n c : Nat) (zs : List Int) (w : World) (h : Ints w ao n zs) :
    Calls Tryz.prog 18 #[.slice ao n c] w fun e w' => e = .returned (.bool (isDiag zs)) ∧ w' = w := by
  have hn := h.2.1
  go_enter Tryz.func18, Tryz.ntmps18
  go_wp2
  go_loop [3] (fun i => ∃ k : Nat, k ≤ n ∧ i = .int .i64 k ∧ (zs.take k).all isLabel = true) (fun i => n - (intOf i).toNat)
  case atStart => exact ⟨0, Nat.zero_le _, rfl, by simp⟩
  case round =>
    obtain ⟨k, hk, rfl, hpre⟩ := hrel
    have HP := Lib.hid hpre
    clear hpre
    by_cases hlt : k < n
    · obtain ⟨b, off, rfl, hc⟩ := h.at_ hlt
      have hl := h.1
      have HL := Lib.hid hl
      clear hl h
      cases hp : isLabel (iget zs k) with
      | true =>
        have HX := Lib.hid hp
        by_cases h0 : iget zs k = 0
        · have h1 : (iget zs k != 0) = false := by simp [h0]
          clear hp h0
          go_wp2
          go_round
          case rel => exact ⟨k + 1, by omega, by go_num, by rw [all_take_iget (by rw [HL.out]; exact hlt), HP.out, HX.out]; rfl⟩
          case measure => simp [intOf]; omega
        · have h1 : (iget zs k != 0) = true := by simp [h0]
          have h2 : inB (iget zs k) 2 32 = true := by unfold isLabel at hp; simpa [h0] using hp
          have H2 := Lib.hid h2
          clear hp h0 h2
          go_wp2_with (go_at_call 39; refine (specIn_any _ _ _ _).mono ?_; rintro e w' ⟨rfl, rfl⟩; rw [H2.out])
          go_round
          case rel => exact ⟨k + 1, by omega, by go_num, by rw [all_take_iget (by rw [HL.out]; exact hlt), HP.out, HX.out]; rfl⟩
          case measure => simp [intOf]; omega
      | false =>
        have HX := Lib.hid hp
        have h1 : (iget zs k != 0) = true := by
          rw [bne_iff_ne]; intro e; unfold isLabel at hp; simp [e] at hp
        have h2 : inB (iget zs k) 2 32 = false := by unfold isLabel at hp; simp only [Bool.or_eq_false_iff] at hp; exact hp.2
        have H2 := Lib.hid h2
        clear hp h2
        go_wp2_with (go_at_call 39; refine (specIn_any _ _ _ _).mono ?_; rintro e w' ⟨rfl, rfl⟩; rw [H2.out])
        go_ret
        exact ⟨ret_bool (by unfold isDiag; rw [all_false_at (by rw [HL.out]; exact hlt) HX.out]; rfl), rfl⟩
    · obtain rfl : k = n := by omega
      have hl := h.1
      have HL := Lib.hid hl
      clear hl
      go_wp2
      go_ret
      exact ⟨ret_bool (by have := HP.out; rw [List.take_of_length_le (Nat.le_of_eq HL.out)] at this; unfold isDiag; rw [this, HL.out]; simp; omega), rfl⟩

theorem isDiagramFn_any (z : Int) (w : World) :
    Calls Tryz.prog 35 #[.int .i64 z] w fun e w' => e = .returned (.bool (!isLabel z)) ∧ w' = w := by
  by_cases h0 : z = 0
  · have h1 : (z != 0) = false := by simp [h0]
    have h2 : isLabel z = true := by simp [isLabel, h0]
    have H2 := Lib.hid h2
    clear h0 h2
    go_enter Tryz.func35, Tryz.ntmps35
    go_wp2
    go_ret
    exact ⟨ret_bool (by rw [H2.out]; rfl), rfl⟩
  · have h1 : (z != 0) = true := by simp [h0]
    have h2 : isLabel z = inB z 2 32 := by simp [isLabel, h0]
    have H2 := Lib.hid h2
    clear h0 h2
    go_enter Tryz.func35, Tryz.ntmps35
    go_wp2_with (go_at_call 36; refine (within_any _ _ _ _).mono ?_; rintro e w' ⟨rfl, rfl⟩)
    go_ret
    exact ⟨ret_bool (by rw [H2.out]), rfl⟩

set_option maxRecDepth 100000 in
theorem isDiagramImpl_any (ao : Option Addr) (n c : Nat) (zs : List Int) (w : World) (h : Ints w ao n zs) :
    Calls Tryz.prog 16 #[.slice ao n c] w fun e w' => e = .returned (.bool (isDiag zs)) ∧ Below w.heap.size w w' := by
  have hl := h.1
  have HL := Lib.hid hl
  clear hl
  have hany : zs.any (fun z => !isLabel z) = !(zs.all isLabel) := by rw [List.any_eq_not_all_not]; simp
  have HA := Lib.hid hany
  clear hany
  by_cases hs : n < 5
  · have h1 : decide ((n : Int) < 5) = true := by simp; omega
    go_enter Tryz.func16, Tryz.ntmps16
    go_wp2_with fail
    refine (containsFunc_any 35 #[] (fun z => !isLabel z) ao n c zs w h (fun _ _ => by rfl) (fun j hj w' hb => (isDiagramFn_any _ w').mono ?_)).mono ?_
    · rintro e w1 ⟨rfl, rfl⟩; exact ⟨rfl, Below.refl _ _⟩
    rintro e w1 ⟨rfl, hb⟩
    go_wp2
    go_ret
    exact ⟨ret_bool (by rw [HA.out]; unfold isDiag; rw [HL.out]; simp [hs]), hb⟩
  · have h1 : decide ((n : Int) < 5) = false := by simp; omega
    go_enter Tryz.func16, Tryz.ntmps16
    go_wp2
    go_ret
    exact ⟨ret_bool (by unfold isDiag; rw [HL.out]; simp; intro _; omega), Below.refl _ _⟩

end Go.Proofs.YtljimlejcecleaaGreatDoor

/- The laws' helpers on []int64 in the words of Nest. -/
namespace Go.Proofs.YtljimlejcecleaaGreatDoor
open Go.RowKit

end Go.Proofs.YtljimlejcecleaaGreatDoor

/- The laws' helpers on [][]int64. -/
namespace Go.Proofs.YtljimlejcecleaaGreatDoor
open Go.RowKit

end Go.Proofs.YtljimlejcecleaaGreatDoor

/- Draws of diagrams. Written by gen_12dr.py. -/
namespace Go.Proofs.YtljimlejcecleaaGreatDoor
open Go.RowKit

theorem Src.farD {w w' : World} {sb : Nat} (h : Src w sb) (hs : ∀ g, g ≤ sb → w'.heap[g]? = w.heap[g]?) : Src w' sb := by
  obtain ⟨ao, n, c, k, hh, h1, h2, h3, h4⟩ := h.box
  refine ⟨ao, n, c, k, hh, (hs sb (Nat.le_refl _)).trans h1, h2, h3, h4.1, fun hn => ?_⟩
  obtain ⟨b, off, e, hb, hc⟩ := h4.2 hn
  refine ⟨b, off, e, hb, fun j hj => ?_⟩
  obtain ⟨x, hx, hcx⟩ := hc j hj
  exact ⟨x, hx, (World.cell?_of_block (hs b (by omega))).trans hcx⟩
theorem Own.onlyD {w w' : World} {base E n c lo hi : Nat} {ao : Option Addr} {xs : List Value} (h : Own w base E ao n c xs) (ho : Only lo hi w w') (hb : hi ≤ base) : Own w' base E ao n c xs :=
  h.same fun g hg => ho.block g (h.lt g hg).2 (.inr (by have := (h.lt g hg).1; omega))
theorem below_only {w w' : World} {lo hi : Nat} (h : Below w.heap.size w w') : Only lo hi w w' := ⟨h.os, h.tape, h.output, h.size, fun k hk _ => h.block k hk⟩
/-- objects laid one after the other -/
def allocs (w : World) : List Obj → World
  | [] => w
  | o :: r => allocs (w.alloc o) r
theorem allocs_below : ∀ (os : List Obj) (w : World), Below w.heap.size w (allocs w os)
  | [], w => Below.refl _ _
  | o :: r, w => (below_alloc1 w o).trans ((allocs_below r (w.alloc o)).mono (by simp))
theorem allocs_get : ∀ (os : List Obj) (w : World) (j : Nat), j < os.length → (allocs w os).heap[w.heap.size + j]? = os[j]?
  | [], w, j, h => by simp at h
  | o :: r, w, 0, h => by
    rw [allocs, Nat.add_zero, (allocs_below r (w.alloc o)).block w.heap.size (by simp)]
    exact heap_alloc_new w o
  | o :: r, w, j + 1, h => by
    have := allocs_get r (w.alloc o) j (by simpa using h)
    rw [allocs, show w.heap.size + (j + 1) = (w.alloc o).heap.size + j by simp; omega, this]
    simp
/-- a list of lists as a literal lays it -/
def litObjs (h : Nat) (LL : List (List Int)) : List Obj :=
  LL.map (fun zs => Obj.cells (zs.map (Value.int .i64)).toArray 2) ++ [Obj.cells ((List.range LL.length).map fun j => Value.slice (some ⟨h + j, 0, none⟩) (lget LL j).length (lget LL j).length).toArray 24]
structure Lits (w wr : World) (g0 : Nat) (LL : List (List Int)) : Prop where
  cell : ∀ j, j < LL.length → wr.cell? ⟨g0, j, none⟩ = some (.slice (some ⟨w.heap.size + j, 0, none⟩) (lget LL j).length (lget LL j).length)
  row : ∀ j, j < LL.length → Ints wr (some ⟨w.heap.size + j, 0, none⟩) (lget LL j).length (lget LL j)
  bel : Below w.heap.size w wr
theorem lits_of {w W : World} {LL : List (List Int)} (hW : W = allocs w (litObjs w.heap.size LL)) (hs : ∀ zs ∈ LL, zs.length ≤ 100) : Lits w W (w.heap.size + LL.length) LL := by
  subst hW
  have hl : (litObjs w.heap.size LL).length = LL.length + 1 := by simp [litObjs]
  refine ⟨fun j hj => ?_, fun j hj => ?_, allocs_below _ _⟩
  · have h1 := allocs_get (litObjs w.heap.size LL) w LL.length (by omega)
    have h2 : (litObjs w.heap.size LL)[LL.length]? = some (Obj.cells ((List.range LL.length).map fun j => Value.slice (some ⟨w.heap.size + j, 0, none⟩) (lget LL j).length (lget LL j).length).toArray 24) := by
      unfold litObjs
      rw [List.getElem?_append_right (by simp)]; simp
    rw [h2] at h1
    rw [cell_of_row _ _ _ _ _ (0, 0) h1]
    simp [hj]
  · have h1 := allocs_get (litObjs w.heap.size LL) w j (by omega)
    have h2 : (litObjs w.heap.size LL)[j]? = some (Obj.cells ((lget LL j).map (Value.int .i64)).toArray 2) := by
      unfold litObjs
      rw [List.getElem?_append_left (by simpa using hj), List.getElem?_map, List.getElem?_eq_getElem hj, lget_lt hj]; rfl
    rw [h2] at h1
    refine ⟨rfl, by have := hs _ (lget_mem hj); omega, fun _ => ⟨_, 0, rfl, fun i hi => ?_⟩⟩
    rw [Nat.zero_add, cell_of_row _ _ _ _ _ (0, 0) h1]
    simp [List.getElem?_eq_getElem hi, iget_lt hi]
theorem Lits.only {w wr w' : World} {g0 sb : Nat} {LL : List (List Int)} (h : Lits w wr g0 LL) (hsb : sb < w.heap.size) (hg : w.heap.size ≤ g0) (ho : Only sb (sb + 1) wr w') : (∀ j, j < LL.length → w'.cell? ⟨g0, j, none⟩ = some (.slice (some ⟨w.heap.size + j, 0, none⟩) (lget LL j).length (lget LL j).length)) ∧ (∀ j, j < LL.length → Ints w' (some ⟨w.heap.size + j, 0, none⟩) (lget LL j).length (lget LL j)) := by
  refine ⟨fun j hj => ?_, fun j hj => ?_⟩
  · have := h.cell j hj
    rw [World.cell?_of_block (ho.block g0 (World.block_lt_of_cell? _ _ this) (.inr (by omega)))]; exact this
  · exact (h.row j hj).same fun g hg hl => ho.block g hl (.inr (by simp [bk] at hg; omega))
theorem ints_lit (w : World) (zs : List Int) (hn : zs.length ≤ 100) : Ints (w.alloc (.cells (zs.map (Value.int .i64)).toArray 2)) (some ⟨w.heap.size, 0, none⟩) zs.length zs :=
  ⟨rfl, by omega, fun _ => ⟨_, 0, rfl, fun j hj => by
    rw [Nat.zero_add, cell_of_row _ _ _ _ _ (0, 0) (heap_alloc_new w _)]
    simp [List.getElem?_eq_getElem hj, iget_lt hj]⟩⟩
theorem gen_world {P : World → Prop} {w0 : World} {Q : World → Prop} (h : Q w0) (k : ∀ W, Q W → P W) : P w0 := k w0 h
def smallL : List (List Int) := [[], [3], [4], [5], [3, 3], [4, 3], [3, 4], [5, 3], [3, 5], [2], [2, 3], [3, 2], [6, 2], [3, 3, 3], [2, 2], [7], [3, 2, 3], [4, 2, 3], [3, 3, 4], [4, 3, 3], [2, 3, 3], [3, 3, 2], [2, 2, 2, 2], [3, 2, 2]]
def otherL : List (List Int) := [[0], [4, 4], [3, 6], [6, 3], [4, 3, 4], [3, 4, 3], [3, 4, 3, 3], [3, 3, 5], [5, 3, 3], [3, 3, 3, 3], [4, 3, 3, 4], [3, 3, 3, 4], [5, 5], [3, 7], [0, 3], [5, 3, 3, 3], [2, 0], [4, 4, 2], [5, 3, 2]]
theorem smallL_ok : ∀ zs ∈ smallL, isDiag zs = true := by decide +kernel
theorem otherL_ok : ∀ zs ∈ otherL, isDiag zs = true := by decide +kernel
theorem isDiag_snoc {zs : List Int} {z : Int} (h : zs.all isLabel = true) (hz : isLabel z = true) : (zs ++ [z]).all isLabel = true := by rw [List.all_append, h]; simp [hz]
theorem isDiag_few {zs : List Int} (h : isDiag zs = true) : zs.length ≤ 4 := by unfold isDiag at h; rw [Bool.and_eq_true] at h; have := of_decide_eq_true h.2; omega
/-- what a draw of a diagram leaves -/
def DrawnD (w : World) (sb : Nat) (e : Ending) (w' : World) : Prop := ∃ (ao : Option Addr) (n c : Nat) (zs : List Int), e = .returned (.slice ao n c) ∧ isDiag zs = true ∧ Own w' w.heap.size 2 ao n c (zs.map (Value.int .i64)) ∧ Src w' sb ∧ Only sb (sb + 1) w w'
set_option maxRecDepth 100000 in
set_option maxHeartbeats 6400000 in
theorem drawDiag_any (sb : Nat) (w : World) (h : Src w sb) (hsb : sb < w.heap.size) : Calls Tryz.prog 28 #[.pointer (some ⟨sb, 0, none⟩)] w (DrawnD w sb) := by
  go_enter Tryz.func28, Tryz.ntmps28
  go_upto_region 2 with fail
  refine gen_world (P := fun W => Code.wp _ _ _ _ W) (Q := fun W => Lits w W (w.heap.size + 24) smallL) (lits_of (LL := smallL) rfl (by decide)) fun W hW => ?_
  have hW : Lits w W (w.heap.size + 1 + 1 + 1 + 1 + 1 + 1 + 1 + 1 + 1 + 1 + 1 + 1 + 1 + 1 + 1 + 1 + 1 + 1 + 1 + 1 + 1 + 1 + 1 + 1) smallL := hW
  have hb := hW.bel
  have hbs := hb.size
  have h1 : Src W sb := h.farD fun g hg => hb.block g (by omega)
  have hg0 : w.heap.size ≤ w.heap.size + 1 + 1 + 1 + 1 + 1 + 1 + 1 + 1 + 1 + 1 + 1 + 1 + 1 + 1 + 1 + 1 + 1 + 1 + 1 + 1 + 1 + 1 + 1 + 1 := by omega
  have hgl : w.heap.size + 1 + 1 + 1 + 1 + 1 + 1 + 1 + 1 + 1 + 1 + 1 + 1 + 1 + 1 + 1 + 1 + 1 + 1 + 1 + 1 + 1 + 1 + 1 + 1 < W.heap.size := World.block_lt_of_cell? _ _ (hW.cell 0 (by decide))
  have hlen : smallL.length = 24 := rfl
  generalize w.heap.size + 1 + 1 + 1 + 1 + 1 + 1 + 1 + 1 + 1 + 1 + 1 + 1 + 1 + 1 + 1 + 1 + 1 + 1 + 1 + 1 + 1 + 1 + 1 + 1 = g0 at *
  have hO0 : Only sb (sb + 1) w W := ⟨hb.os, hb.tape, hb.output, hb.size, fun k hk _ => hb.block k hk⟩
  go_wp2_with fail
  refine (next_any sb _ _ h1 (by omega)).mono ?_
  rintro e w2 ⟨r, rfl, -, r2, s2, o2⟩
  have hr := r2 (by omega)
  obtain ⟨c2, i2⟩ := hW.only hsb hg0 o2
  have O2 := hO0.trans o2
  clear r2 hW hb h1 hO0
  have cases6 : r = 0 ∨ r = 1 ∨ (2 ≤ r ∧ r < 6) := by omega
  rcases cases6 with rfl | rfl | ⟨hr2, hr6⟩
  · have z2 := O2.size
    clear c2 i2 hlen
    go_upto_region 5 with fail
    refine gen_world (P := fun W => Code.wp _ _ _ _ W) (Q := fun W => Lits w2 W (w2.heap.size + 19) otherL) (lits_of (LL := otherL) rfl (by decide)) fun W5 hW => ?_
    have hW : Lits w2 W5 (w2.heap.size + 1 + 1 + 1 + 1 + 1 + 1 + 1 + 1 + 1 + 1 + 1 + 1 + 1 + 1 + 1 + 1 + 1 + 1 + 1) otherL := hW
    have hb := hW.bel
    have hbs5 := hb.size
    have h5 : Src W5 sb := s2.farD fun g hg => hb.block g (by omega)
    have hg5 : w2.heap.size ≤ w2.heap.size + 1 + 1 + 1 + 1 + 1 + 1 + 1 + 1 + 1 + 1 + 1 + 1 + 1 + 1 + 1 + 1 + 1 + 1 + 1 := by omega
    have hgl5 : w2.heap.size + 1 + 1 + 1 + 1 + 1 + 1 + 1 + 1 + 1 + 1 + 1 + 1 + 1 + 1 + 1 + 1 + 1 + 1 + 1 < W5.heap.size := World.block_lt_of_cell? _ _ (hW.cell 0 (by decide))
    have hlen : otherL.length = 19 := rfl
    generalize w2.heap.size + 1 + 1 + 1 + 1 + 1 + 1 + 1 + 1 + 1 + 1 + 1 + 1 + 1 + 1 + 1 + 1 + 1 + 1 + 1 = g5 at *
    have O5 := O2.trans (below_only hb)
    clear hb
    go_wp2_with fail
    refine (next_any sb _ _ h5 (by omega)).mono ?_
    rintro e w3 ⟨q, rfl, -, q2, s3, o3⟩
    have hq := q2 (by omega)
    obtain ⟨c2, i2⟩ := hW.only (by omega) hg5 o3
    have c3 := c2 q (by omega)
    have i3 := i2 q (by omega)
    have hd := otherL_ok _ (lget_mem (zss := otherL) (k := q) (by omega))
    have hln : (lget otherL q).length ≤ 1048576 := by have := isDiag_few hd; omega
    have O3 := O5.trans o3
    have s30 := O3.size
    clear q2 c2 i2 o3 O5 O2 s2 hW
    generalize lget otherL q = zs at *
    go_wp2_with fail
    refine (own_any _ _ _ zs _ i3 hln).mono ?_
    rintro e w4 ⟨a4, c4, rfl, o4, b4⟩
    go_wp2
    go_ret
    exact ⟨_, _, _, zs, rfl, hd, o4.mono s30, s3.farD fun g hg => b4.block g (by omega), O3.trans (below_only b4)⟩
  · have z2 := O2.size
    clear c2 i2 hlen
    have s2' : Src (w2.alloc (.cells #[] 2)) sb := s2.farD fun g hg => Below.heap_alloc w2 _ g (by omega)
    have P2 : Own (w2.alloc (.cells #[] 2)) w.heap.size 2 (some ⟨w2.heap.size, 0, none⟩) 0 0 [] := Own.empty_ w2 2 z2
    have O2' : Only sb (sb + 1) w (w2.alloc (.cells #[] 2)) := O2.trans (below_only (below_alloc1 _ _))
    clear O2 s2
    go_wp2_with fail
    refine (next_any sb _ _ s2' (by omega)).mono ?_
    rintro e w3 ⟨m, rfl, -, q2, s3, o3⟩
    have hm := q2 (by omega)
    have P3 := P2.onlyD o3 (by omega)
    have O3 := O2'.trans o3
    clear q2 s2' P2 o3 O2'
    go_wp2_with fail
    go_loopw [5, 6] (fun ov kv wr => ∃ (k a : Nat) (ao : Option Addr) (c : Nat) (zs : List Int), kv = .int .i64 k ∧ ov = .slice ao a c ∧ a + k ≤ 3 ∧ zs.all isLabel = true ∧ Own wr w.heap.size 2 ao a c (zs.map (Value.int .i64)) ∧ Src wr sb ∧ Only sb (sb + 1) w wr) (fun _ kv _ => (intOf kv).toNat)
    case atStart => exact ⟨m, 0, _, _, [], rfl, rfl, by omega, rfl, P3, s3, O3⟩
    case round =>
      clear P3 s3 O3
      obtain ⟨k, a, ao, c, zs, rfl, rfl, hak, hz, ho, hs, hO⟩ := hrel
      have hsz := hO.size
      have hol := ho.lt
      by_cases hk : 0 < k
      · have pick : ∀ r, r < 7 → isLabel (iget [2, 3, 3, 4, 5, 6, 0] r) = true := by decide
        have iL : Ints (wr.alloc (.cells #[.int .i64 2, .int .i64 3, .int .i64 3, .int .i64 4, .int .i64 5, .int .i64 6, .int .i64 0] 2)) (some ⟨wr.heap.size, 0, none⟩) 7 [2, 3, 3, 4, 5, 6, 0] := ints_lit wr [2, 3, 3, 4, 5, 6, 0] (by decide)
        have s4 : Src (wr.alloc (.cells #[.int .i64 2, .int .i64 3, .int .i64 3, .int .i64 4, .int .i64 5, .int .i64 6, .int .i64 0] 2)) sb := hs.farD fun g hg => Below.heap_alloc wr _ g (by omega)
        have P4 := ho.alloc (.cells #[.int .i64 2, .int .i64 3, .int .i64 3, .int .i64 4, .int .i64 5, .int .i64 6, .int .i64 0] 2)
        have O4 := hO.trans (below_only (lo := sb) (hi := sb + 1) (below_alloc1 wr (.cells #[.int .i64 2, .int .i64 3, .int .i64 3, .int .i64 4, .int .i64 5, .int .i64 6, .int .i64 0] 2)))
        have HP := Lib.hid pick
        clear pick hs ho hO
        go_wp2_with (first | (go_at_call 48; refine (pick_any sb _ 7 _ _ _ s4 iL (by omega) (by omega) (by simp [bk]; omega)).mono ?_; rintro e w5 ⟨q, hq, rfl, s5, o5⟩; have P5 := Lib.hid (P4.onlyD o5 (by omega)); have O5 := O4.trans o5; have z5 := O5.size) | (at_builtin; refine wpList_ap1 etI _ rfl _ _ rfl w.heap.size ao a c _ rfl P5.out (.int .i64 (iget [2, 3, 3, 4, 5, 6, 0] q)) rfl rfl (by omega) (by omega) ?_; intro ao2 c2 w6 ho2 hg2 hblk))
        have HO := Lib.hid ho2
        have s6 := s5.grown hg2 (fun g hg => by have := (hol g hg).1; omega)
        have O6 := only_grown O5 hg2 (fun g hg => (hol g hg).1)
        have HL := Lib.hid (isDiag_snoc hz (HP.out q hq))
        clear ho2 hblk s5 O5 hg2 hz
        generalize iget [2, 3, 3, 4, 5, 6, 0] q = z at *
        go_wp2
        go_roundw
        case rel => exact ⟨k - 1, a + 1, ao2, c2, zs ++ [z], by go_num, rfl, by omega, HL.out, by rw [List.map_append]; exact HO.out, s6, O6⟩
        case measure => simp [intOf]; omega
      · obtain rfl : k = 0 := by omega
        have hl : zs.length = a := by have := ho.len; simpa using this
        have hdg : isDiag zs = true := by unfold isDiag; rw [hz]; simp; omega
        go_wp2
        go_ret
        exact ⟨_, _, _, zs, rfl, hdg, ho, hs, hO⟩
  · have e0 : ((r : Int) == 0) = false := by rw [beq_eq_false_iff_ne]; omega
    have e1 : ((r : Int) == 1) = false := by rw [beq_eq_false_iff_ne]; omega
    go_wp2_with fail
    refine (next_any sb _ _ s2 (by omega)).mono ?_
    rintro e w3 ⟨q, rfl, -, q2, s3, o3⟩
    have hq := q2 (by omega)
    have c3 : w3.cell? ⟨g0, q, none⟩ = some (.slice (some ⟨w.heap.size + q, 0, none⟩) (lget smallL q).length (lget smallL q).length) := by
      have := c2 q (by omega)
      rw [World.cell?_of_block (o3.block g0 (World.block_lt_of_cell? _ _ this) (.inr (by omega)))]; exact this
    have i3 : Ints w3 (some ⟨w.heap.size + q, 0, none⟩) (lget smallL q).length (lget smallL q) := (i2 q (by omega)).same fun g hg hl => o3.block g hl (.inr (by simp [bk] at hg; omega))
    have hd := smallL_ok _ (lget_mem (zss := smallL) (k := q) (by omega))
    have hln : (lget smallL q).length ≤ 1048576 := by have := isDiag_few hd; omega
    have O3 := O2.trans o3
    have s30 := O3.size
    clear q2 c2 i2 o3 o2 O2 s2
    generalize lget smallL q = zs at *
    go_wp2_with fail
    refine (own_any _ _ _ zs _ i3 hln).mono ?_
    rintro e w4 ⟨a4, c4, rfl, o4, b4⟩
    go_wp2
    go_ret
    exact ⟨_, _, _, zs, rfl, hd, o4.mono s30, s3.farD fun g hg => b4.block g (by omega), O3.trans ⟨b4.os, b4.tape, b4.output, b4.size, fun k hk _ => b4.block k hk⟩⟩
end Go.Proofs.YtljimlejcecleaaGreatDoor

/- The text of a diagram, in plain Lean. -/
namespace Go.Proofs.YtljimlejcecleaaGreatDoor
open Go.RowKit

/-- a label's word -/
def dgL (z : Int) : List UInt8 := if z = 0 then [105, 110, 102] else Lib.decDigits z.toNat
/-- the text ahead of the closing bracket -/
def dgT (zs : List Int) : List UInt8 := 123 :: Lib.join (zs.map dgL) [44]
def dgS (zs : List Int) : ByteArray := ⟨(dgT zs ++ [125]).toArray⟩
theorem dec_lo {k : Nat} (h : k < 10) : Lib.decDigits k = [UInt8.ofNat (48 + k)] := by
  rw [Lib.decDigits, dif_pos h]
theorem dec_hi {k : Nat} (h0 : 10 ≤ k) (h : k < 100) : Lib.decDigits k = [UInt8.ofNat (48 + k / 10), UInt8.ofNat (48 + k % 10)] := by
  rw [Lib.decDigits, dif_neg (by omega), dec_lo (by omega)]; rfl
theorem dgL_len {z : Int} (h : isLabel z = true) : (dgL z).length ≤ 3 := by
  unfold dgL
  split
  · simp
  · have : 2 ≤ z ∧ z ≤ 32 := by
      unfold isLabel inB at h
      simp at h
      omega
    by_cases h2 : z.toNat < 10
    · rw [dec_lo h2]; simp
    · rw [dec_hi (by omega) (by omega)]; simp
theorem joinTail_app (s x : List UInt8) (r : List (List UInt8)) : Lib.joinTail s (r ++ [x]) = Lib.joinTail s r ++ s ++ x := by simp [Lib.joinTail]
theorem join_snoc (s x : List UInt8) (r : List (List UInt8)) : Lib.join (r ++ [x]) s = if r = [] then x else Lib.join r s ++ s ++ x := by
  cases r with
  | nil => simp [Lib.join_one]
  | cons y r =>
    rw [List.cons_append, Lib.join_cons, Lib.join_cons, joinTail_app]; simp
theorem dgT_snoc {zs : List Int} {k : Nat} (h : k < zs.length) : dgT (zs.take (k + 1)) = if k = 0 then dgT (zs.take k) ++ dgL (iget zs k) else dgT (zs.take k) ++ [44] ++ dgL (iget zs k) := by
  unfold dgT
  rw [take_iget h, List.map_append, List.map_cons, List.map_nil, join_snoc]
  by_cases hk : k = 0
  · subst hk; simp [Lib.join_nil]
  · rw [if_neg hk, if_neg (by rw [List.map_eq_nil_iff, List.take_eq_nil_iff]; rintro (e | e); exact hk e; subst e; simp at h)]; simp
theorem bytes_ext {a b : ByteArray} (h : a.data.toList = b.data.toList) : a = b := by
  cases a; cases b; simp_all [← Array.toList_inj]

/-- a label's word, as a string -/
def dgB (z : Int) : ByteArray := ⟨(dgL z).toArray⟩
theorem dgB_size {z : Int} (h : isLabel z = true) : (dgB z).size ≤ 3 := dgL_len h

theorem dgB_pos {z : Int} (h0 : ¬z = 0) (h : isLabel z = true) : z = (z.toNat : Int) ∧ z.toNat < 100 ∧ dgB z = ⟨(Lib.decDigits z.toNat).toArray⟩ := by
  have : 2 ≤ z ∧ z ≤ 32 := by
    unfold isLabel inB at h
    simp [h0] at h
    omega
  exact ⟨by omega, by omega, by unfold dgB dgL; rw [if_neg h0]⟩

theorem join_len {xs : List ByteArray} (h : ∀ x ∈ xs, x.size ≤ 3) (hn : xs.length < 5) : (Lib.join (xs.map (·.data.toList)) [44]).length ≤ 20 := by
  cases xs with
  | nil => simp [Lib.join_nil]
  | cons x r =>
    rw [List.map_cons, Lib.join_cons, List.length_append, Lib.joinTail_length]
    have h1 : x.data.toList.length ≤ 3 := h x (by simp)
    have h2 : ∀ r : List ByteArray, (∀ y ∈ r, y.size ≤ 3) → Lib.lens (r.map (·.data.toList)) ≤ 3 * r.length := by
      intro r hr
      induction r with
      | nil => simp [Lib.lens]
      | cons y r ih =>
        have a1 : y.data.toList.length ≤ 3 := hr y (by simp)
        have a2 := ih (fun z hz => hr z (by simp [hz]))
        simp only [Lib.lens, List.map_cons, List.sum_cons, List.length_cons] at a2 ⊢
        omega
    have h3 := h2 r (fun y hy => h y (by simp [hy]))
    simp only [List.length_map, List.length_cons, List.length_nil] at hn ⊢
    omega
theorem join_dg (zs : List Int) : Lib.join ((zs.map dgB).map (·.data.toList)) [44] = Lib.join (zs.map dgL) [44] := by
  congr 1
  rw [List.map_map]
  apply List.map_congr_left
  intro z _; rfl

/-- the labels' words, joined -/
def dgJ (zs : List Int) : ByteArray := ⟨(Lib.join (zs.map dgL) [44]).toArray⟩
theorem dgJ_size {zs : List Int} (h : ∀ z ∈ zs, isLabel z = true) (hn : zs.length < 5) : (dgJ zs).size ≤ 20 := by
  have := join_len (xs := zs.map dgB) (by intro x hx; rw [List.mem_map] at hx; obtain ⟨z, hz, rfl⟩ := hx; exact dgB_size (h z hz)) (by rw [List.length_map]; exact hn)
  rw [join_dg] at this
  exact this
theorem dgS_join (zs : List Int) : (⟨#[123]⟩ ++ dgJ zs ++ ⟨#[125]⟩ : ByteArray) = dgS zs := bytes_ext (by simp [dgS, dgT, dgJ])
end Go.Proofs.YtljimlejcecleaaGreatDoor

/- The words of the laws' marks on strings: laws.markText. -/
namespace Go.Proofs.YtljimlejcecleaaGreatDoor
open Go.RowKit

/-- string([]byte{x}) -/
theorem conv1 (w : World) (z : Int) : (convert 22 9 (.slice (some ⟨w.heap.size, 0, none⟩) 1 1)).run Tryz.prog (w.alloc (.cells #[.int .u8 z] 5)) = .ok (.string ⟨#[UInt8.ofNat z.toNat]⟩) (w.alloc (.cells #[.int .u8 z] 5)) := by
  refine (run_convert_bytes_string _ 22 9 5 _ 1 1 Tryz.underlying22 Tryz.underlying5 Tryz.underlying9).trans ?_
  refine (run_bytesToString _ _ 1 1 [z] ?_).trans rfl
  refine run_loadCells_list _ ⟨w.heap.size, 0, none⟩ [.int .u8 z] fun j v hv => ?_
  match j, hv with
  | 0, hv => simp at hv; subst hv; simp [Addr.add]

end Go.Proofs.YtljimlejcecleaaGreatDoor

/- The laws' helpers on []string, slices.Clone at []string, and the two functions that tell the names. -/
namespace Go.Proofs.YtljimlejcecleaaGreatDoor
open Go.RowKit

theorem etStr : ET Tryz.prog 53 9 (.string ⟨#[]⟩) 16 := ⟨Tryz.underlying53, by kernel_rfl, rfl, by omega⟩
/-- string k of a list -/
def sget (ss : List ByteArray) (k : Nat) : ByteArray := ss.getD k ⟨#[]⟩
/-- the slice at ao, of n strings, reads as ss -/
def Strs (w : World) (ao : Option Addr) (n : Nat) (ss : List ByteArray) : Prop := Vals w ao n (ss.map Value.string)
theorem Strs.at_ {w : World} {ao : Option Addr} {n : Nat} {ss : List ByteArray} (h : Strs w ao n ss) {k : Nat} (hk : k < n) :
    ∃ b off, ao = some ⟨b, off, none⟩ ∧ w.cell? ⟨b, off + k, none⟩ = some (.string (sget ss k)) := by
  obtain ⟨b, off, e, hc⟩ := h.2.2 (by omega)
  have hl : ss.length = n := by have := h.1; simpa using this
  exact ⟨b, off, e, hc k _ (by rw [List.getElem?_map, List.getElem?_eq_getElem (by omega)]; simp [sget, hl, hk])⟩
theorem Strs.len {w : World} {ao : Option Addr} {n : Nat} {ss : List ByteArray} (h : Strs w ao n ss) : ss.length = n := by have := h.1; simpa using this
theorem Strs.below {w w' : World} {ao : Option Addr} {n : Nat} {ss : List ByteArray} (h : Strs w ao n ss) (hb : Below w.heap.size w w') : Strs w' ao n ss := by
  refine ⟨h.1, h.2.1, fun hn => ?_⟩
  obtain ⟨b, off, rfl, hc⟩ := h.2.2 hn
  refine ⟨b, off, rfl, fun j u hu => ?_⟩
  have := hc j u hu
  exact (World.cell?_of_block (hb.block b (World.block_lt_of_cell? w _ this))).trans this
end Go.Proofs.YtljimlejcecleaaGreatDoor

/- Contracts of Go's library at this program, out of the kit's shelf (written by its tools lay-shelf and lay-plain, cut to what is used by shelf.py). -/
namespace Go.Proofs
open Go.Shelf
def Tryz.lays156_ren : Go.Shelf.Ren := ⟨fun | 156 => 38 | 165 => 51 | 166 => 52 | 169 => 53 | 240 => 58 | 241 => 59 | 276 => 71 | 277 => 72 | n => n, fun | 31 => 53 | 9 => 9 | 3 => 3 | 4 => 4 | 0 => 0 | 20 => 20 | 72 => 77 | 76 => 81 | 70 => 75 | 37 => 22 | 75 => 80 | 127 => 89 | 164 => 104 | 5 => 5 | 80 => 83 | n => n, fun | n => n⟩
theorem Tryz.lays156 : Go.Proofs.Lays.n156 Tryz.prog Tryz.lays156_ren := {
  mixed := by kernel_rfl
  f156 := Tryz.func38.trans (congrArg some (by kernel_rfl))
  f165 := Tryz.func51.trans (congrArg some (by kernel_rfl))
  f166 := Tryz.func52.trans (congrArg some (by kernel_rfl))
  f169 := Tryz.func53.trans (congrArg some (by kernel_rfl))
  f240 := Tryz.func58.trans (congrArg some (by kernel_rfl))
  f241 := Tryz.func59.trans (congrArg some (by kernel_rfl))
  f276 := Tryz.func71.trans (congrArg some (by kernel_rfl))
  f277 := Tryz.func72.trans (congrArg some (by kernel_rfl))
  t0 := Tryz.underlying0
  a0 := Tryz.isAgg0
  z0 := Tryz.sizeOf0
  v0 := Tryz.zeroValue0
  t3 := Tryz.underlying3
  a3 := Tryz.isAgg3
  z3 := Tryz.sizeOf3
  v3 := Tryz.zeroValue3
  t4 := Tryz.underlying4
  a4 := Tryz.isAgg4
  z4 := Tryz.sizeOf4
  v4 := Tryz.zeroValue4
  t9 := Tryz.underlying9
  a9 := Tryz.isAgg9
  z9 := Tryz.sizeOf9
  v9 := Tryz.zeroValue9
  t20 := Tryz.underlying20
  a20 := Tryz.isAgg20
  z20 := Tryz.sizeOf20
  v20 := Tryz.zeroValue20
  t31 := Tryz.underlying53
  a31 := Tryz.isAgg53
  z31 := Tryz.sizeOf53
  v31 := Tryz.zeroValue53
  t37 := Tryz.underlying22
  a37 := Tryz.isAgg22
  z37 := Tryz.sizeOf22
  v37 := Tryz.zeroValue22
  t70 := Tryz.underlying75
  a70 := Tryz.isAgg75
  z70 := Tryz.sizeOf75
  v70 := Tryz.zeroValue75
  t72 := Tryz.underlying77
  a72 := Tryz.isAgg77
  z72 := Tryz.sizeOf77
  v72 := Tryz.zeroValue77
  t75 := Tryz.underlying80
  a75 := Tryz.isAgg80
  z75 := Tryz.sizeOf80
  v75 := Tryz.zeroValue80
  t76 := Tryz.underlying81
  a76 := Tryz.isAgg81
  z76 := Tryz.sizeOf81
  v76 := Tryz.zeroValue81
  t127 := Tryz.underlying89
  a127 := Tryz.isAgg89
  z127 := Tryz.sizeOf89
  v127 := Tryz.zeroValue89
  t164 := Tryz.underlying104
  a164 := Tryz.isAgg104
  z164 := Tryz.sizeOf104
  v164 := Tryz.zeroValue104 }
theorem Tryz.Builder_Extra_156 : Builder.Extra Tryz.prog Tryz.lays156_ren := {
  sizeBuilder := by kernel_rfl
  liesBuilder := by kernel_rfl
  t5 := Tryz.underlying5
  a5 := Tryz.isAgg5
  z5 := Tryz.sizeOf5
  v5 := Tryz.zeroValue5
  infoByte := by kernel_rfl
  cellsByte := by kernel_rfl
  sizeByte := by kernel_rfl
  neB5 := by decide }
open Go.RowKit in
/-- No element: the empty string; the world is as it was. (Whatever the slice's address and capacity: a nil slice too.) (LAID: no walk: one application.) -/
theorem Tryz.strings_Join_none (a : Option Addr) (c : Nat) (sep : ByteArray) (w : World) :
    Calls Tryz.prog 38 #[.slice a 0 c, .string sep] w fun e w' => e = .returned (.string ⟨#[]⟩) ∧ w' = w := Any.strings_Join_none Tryz.lays156 Tryz.Builder_Extra_156 a c sep w
open Go.RowKit in
/-- strings.Join: "Join concatenates the elements of its first argument to create a single string. The separator string sep is placed between elements in the resulting string.": HOWEVER MANY ELEMENTS. Below the heap's end the world is as it was. (LAID: no walk: one application.) -/
theorem Tryz.strings_Join (bk o c : Nat) (xs : List ByteArray) (sep : ByteArray) (w : World) (hcells : ∀ (j : Nat) x, xs[j]? = some x → w.cell? ⟨bk, o + j, none⟩ = some (.string x)) (hbk : bk < w.heap.size) (hN : xs.length ≤ 140737488355328) (hcap : xs.length ≤ c) (hlen : (Lib.join (xs.map (·.data.toList)) sep.data.toList).length ≤ 140737488355328) :
    Calls Tryz.prog 38 #[.slice (some ⟨bk, o, none⟩) xs.length c, .string sep] w fun e w' => e = .returned (.string ⟨(Lib.join (xs.map (·.data.toList)) sep.data.toList).toArray⟩) ∧ Below w.heap.size w w' := Any.strings_Join Tryz.lays156 Tryz.Builder_Extra_156 bk o c xs sep w hcells hbk hN hcap hlen
def Tryz.laysM173_ren : Go.Shelf.Ren := ⟨fun | 173 => 50 | 246 => 57 | 283 => 67 | 284 => 68 | 285 => 69 | 286 => 70 | 129 => 83 | 317 => 82 | 318 => 84 | 319 => 85 | 320 => 86 | 337 => 97 | 338 => 98 | n => n, fun | 2 => 2 | 3 => 3 | 9 => 9 | 4 => 4 | 171 => 99 | 0 => 0 | 53 => 67 | 37 => 22 | 5 => 5 | 173 => 102 | 212 => 119 | 51 => 93 | 20 => 20 | 213 => 120 | 46 => 72 | 232 => 138 | 233 => 139 | n => n, fun | 17 => 0 | 18 => 6 | 19 => 7 | n => n⟩
theorem Tryz.laysM173 : Go.Proofs.LaysM.n173 Tryz.prog Tryz.laysM173_ren := {
  mixed := by kernel_rfl
  f129 := Tryz.func83.trans (congrArg some (by kernel_rfl))
  f173 := Tryz.func50.trans (congrArg some (by kernel_rfl))
  f246 := Tryz.func57.trans (congrArg some (by kernel_rfl))
  f283 := Tryz.func67.trans (congrArg some (by kernel_rfl))
  f284 := Tryz.func68.trans (congrArg some (by kernel_rfl))
  f285 := Tryz.func69.trans (congrArg some (by kernel_rfl))
  f286 := Tryz.func70.trans (congrArg some (by kernel_rfl))
  f317 := Tryz.func82.trans (congrArg some (by kernel_rfl))
  f318 := Tryz.func84.trans (congrArg some (by kernel_rfl))
  f319 := Tryz.func85.trans (congrArg some (by kernel_rfl))
  f320 := Tryz.func86.trans (congrArg some (by kernel_rfl))
  f337 := Tryz.func97.trans (congrArg some (by kernel_rfl))
  f338 := Tryz.func98.trans (congrArg some (by kernel_rfl))
  t0 := Tryz.underlying0
  a0 := Tryz.isAgg0
  z0 := Tryz.sizeOf0
  v0 := Tryz.zeroValue0
  t2 := Tryz.underlying2
  a2 := Tryz.isAgg2
  z2 := Tryz.sizeOf2
  v2 := Tryz.zeroValue2
  t3 := Tryz.underlying3
  a3 := Tryz.isAgg3
  z3 := Tryz.sizeOf3
  v3 := Tryz.zeroValue3
  t4 := Tryz.underlying4
  a4 := Tryz.isAgg4
  z4 := Tryz.sizeOf4
  v4 := Tryz.zeroValue4
  t5 := Tryz.underlying5
  a5 := Tryz.isAgg5
  z5 := Tryz.sizeOf5
  v5 := Tryz.zeroValue5
  t9 := Tryz.underlying9
  a9 := Tryz.isAgg9
  z9 := Tryz.sizeOf9
  v9 := Tryz.zeroValue9
  t20 := Tryz.underlying20
  a20 := Tryz.isAgg20
  z20 := Tryz.sizeOf20
  v20 := Tryz.zeroValue20
  t37 := Tryz.underlying22
  a37 := Tryz.isAgg22
  z37 := Tryz.sizeOf22
  v37 := Tryz.zeroValue22
  t46 := Tryz.underlying72
  a46 := Tryz.isAgg72
  z46 := Tryz.sizeOf72
  v46 := Tryz.zeroValue72
  t51 := Tryz.underlying93
  a51 := Tryz.isAgg93
  z51 := Tryz.sizeOf93
  v51 := Tryz.zeroValue93
  t53 := Tryz.underlying67
  a53 := Tryz.isAgg67
  z53 := Tryz.sizeOf67
  v53 := Tryz.zeroValue67
  t171 := Tryz.underlying99
  a171 := Tryz.isAgg99
  z171 := Tryz.sizeOf99
  v171 := Tryz.zeroValue99
  t173 := Tryz.underlying102
  a173 := Tryz.isAgg102
  z173 := Tryz.sizeOf102
  v173 := Tryz.zeroValue102
  t212 := Tryz.underlying119
  a212 := Tryz.isAgg119
  z212 := Tryz.sizeOf119
  v212 := Tryz.zeroValue119
  t213 := Tryz.underlying120
  a213 := Tryz.isAgg120
  z213 := Tryz.sizeOf120
  t232 := Tryz.underlying138
  a232 := Tryz.isAgg138
  z232 := Tryz.sizeOf138
  v232 := Tryz.zeroValue138
  t233 := Tryz.underlying139
  a233 := Tryz.isAgg139
  z233 := Tryz.sizeOf139
  v233 := Tryz.zeroValue139
  g17 := by kernel_rfl
  g18 := by kernel_rfl
  g19 := by kernel_rfl
  i0 := by kernel_rfl
  i2 := by kernel_rfl
  i3 := by kernel_rfl
  i4 := by kernel_rfl
  i5 := by kernel_rfl
  i9 := by kernel_rfl
  i20 := by kernel_rfl
  i37 := by kernel_rfl
  i46 := by kernel_rfl
  i51 := by kernel_rfl
  i53 := by kernel_rfl
  i171 := by kernel_rfl
  i173 := by kernel_rfl
  i212 := by kernel_rfl
  i232 := by kernel_rfl
  i233 := by kernel_rfl
  m17 := by kernel_rfl
  m18 := by kernel_rfl
  m19 := by kernel_rfl }
open Go.RowKit Go.Sort Go.Lib in
/-- strconv.FormatInt: "FormatInt returns the string representation of i in the given base": AT BASE 10: i's decimal numeral, for every int64. (LAID: no walk: one application.) -/
theorem Tryz.strconv_FormatInt_10 (n : Int) (h0 : -9223372036854775808 ≤ n) (h1 : n ≤ 9223372036854775807) (w : World) (htab : Lib.TabIs Tryz.prog w "internal/strconv.uint64pow10" .u64 Lib.pow10Tab) :
    Calls Tryz.prog 50 #[.int .i64 n, .int .i64 10] w fun e w' => e = .returned (.string ⟨(Lib.itoa n).toArray⟩) ∧ ∃ k os, w' = grow (w.drewN k) os := Any.strconv_FormatInt_10 Tryz.laysM173 n h0 h1 w htab
def Tryz.lays173_ren : Go.Shelf.Ren := ⟨fun | 173 => 50 | 246 => 57 | 283 => 67 | 284 => 68 | 285 => 69 | 286 => 70 | 129 => 83 | 317 => 82 | 318 => 84 | 319 => 85 | 320 => 86 | 337 => 97 | 338 => 98 | n => n, fun | 2 => 2 | 3 => 3 | 9 => 9 | 4 => 4 | 171 => 99 | 0 => 0 | 53 => 67 | 37 => 22 | 5 => 5 | 173 => 102 | 212 => 119 | 51 => 93 | 20 => 20 | 213 => 120 | 46 => 72 | 232 => 138 | 233 => 139 | n => n, fun | 17 => 0 | 18 => 6 | 19 => 7 | n => n⟩
theorem Tryz.lays173 : Go.Proofs.Lays.n173 Tryz.prog Tryz.lays173_ren := {
  mixed := by kernel_rfl
  f129 := Tryz.func83.trans (congrArg some (by kernel_rfl))
  f173 := Tryz.func50.trans (congrArg some (by kernel_rfl))
  f246 := Tryz.func57.trans (congrArg some (by kernel_rfl))
  f283 := Tryz.func67.trans (congrArg some (by kernel_rfl))
  f284 := Tryz.func68.trans (congrArg some (by kernel_rfl))
  f285 := Tryz.func69.trans (congrArg some (by kernel_rfl))
  f286 := Tryz.func70.trans (congrArg some (by kernel_rfl))
  f317 := Tryz.func82.trans (congrArg some (by kernel_rfl))
  f318 := Tryz.func84.trans (congrArg some (by kernel_rfl))
  f319 := Tryz.func85.trans (congrArg some (by kernel_rfl))
  f320 := Tryz.func86.trans (congrArg some (by kernel_rfl))
  f337 := Tryz.func97.trans (congrArg some (by kernel_rfl))
  f338 := Tryz.func98.trans (congrArg some (by kernel_rfl))
  t0 := Tryz.underlying0
  a0 := Tryz.isAgg0
  z0 := Tryz.sizeOf0
  v0 := Tryz.zeroValue0
  t2 := Tryz.underlying2
  a2 := Tryz.isAgg2
  z2 := Tryz.sizeOf2
  v2 := Tryz.zeroValue2
  t3 := Tryz.underlying3
  a3 := Tryz.isAgg3
  z3 := Tryz.sizeOf3
  v3 := Tryz.zeroValue3
  t4 := Tryz.underlying4
  a4 := Tryz.isAgg4
  z4 := Tryz.sizeOf4
  v4 := Tryz.zeroValue4
  t5 := Tryz.underlying5
  a5 := Tryz.isAgg5
  z5 := Tryz.sizeOf5
  v5 := Tryz.zeroValue5
  t9 := Tryz.underlying9
  a9 := Tryz.isAgg9
  z9 := Tryz.sizeOf9
  v9 := Tryz.zeroValue9
  t20 := Tryz.underlying20
  a20 := Tryz.isAgg20
  z20 := Tryz.sizeOf20
  v20 := Tryz.zeroValue20
  t37 := Tryz.underlying22
  a37 := Tryz.isAgg22
  z37 := Tryz.sizeOf22
  v37 := Tryz.zeroValue22
  t46 := Tryz.underlying72
  a46 := Tryz.isAgg72
  z46 := Tryz.sizeOf72
  v46 := Tryz.zeroValue72
  t51 := Tryz.underlying93
  a51 := Tryz.isAgg93
  z51 := Tryz.sizeOf93
  v51 := Tryz.zeroValue93
  t53 := Tryz.underlying67
  a53 := Tryz.isAgg67
  z53 := Tryz.sizeOf67
  v53 := Tryz.zeroValue67
  t171 := Tryz.underlying99
  a171 := Tryz.isAgg99
  z171 := Tryz.sizeOf99
  v171 := Tryz.zeroValue99
  t173 := Tryz.underlying102
  a173 := Tryz.isAgg102
  z173 := Tryz.sizeOf102
  v173 := Tryz.zeroValue102
  t212 := Tryz.underlying119
  a212 := Tryz.isAgg119
  z212 := Tryz.sizeOf119
  v212 := Tryz.zeroValue119
  t213 := Tryz.underlying120
  a213 := Tryz.isAgg120
  z213 := Tryz.sizeOf120
  t232 := Tryz.underlying138
  a232 := Tryz.isAgg138
  z232 := Tryz.sizeOf138
  v232 := Tryz.zeroValue138
  t233 := Tryz.underlying139
  a233 := Tryz.isAgg139
  z233 := Tryz.sizeOf139
  v233 := Tryz.zeroValue139
  g17 := by kernel_rfl
  g18 := by kernel_rfl
  g19 := by kernel_rfl }
open Go.RowKit Go.Sort Go.Lib in
/-- THE ROAD WITHOUT THE TABLE: 0 <= i < 100. (LAID: no walk: one application.) -/
theorem Tryz.strconv_FormatInt_10_small (i : Nat) (hi : i < 100) (w : World) :
    Calls Tryz.prog 50 #[.int .i64 i, .int .i64 10] w fun e w' => e = .returned (.string ⟨(Lib.decDigits i).toArray⟩) ∧ w' = w := Any.strconv_FormatInt_10_small Tryz.lays173 i hi w
def Tryz.laysC174_ren : Go.Shelf.Ren := ⟨fun | 174 => 55 | 247 => 63 | 245 => 64 | 287 => 77 | 279 => 78 | 280 => 79 | 281 => 80 | 282 => 81 | 321 => 92 | 322 => 93 | 316 => 94 | 171 => 96 | 205 => 95 | 243 => 101 | 246 => 57 | 283 => 67 | 284 => 68 | 285 => 69 | 286 => 70 | 129 => 83 | 317 => 82 | 318 => 84 | 319 => 85 | 320 => 86 | 337 => 97 | 338 => 98 | n => n, fun | 9 => 9 | 3 => 3 | 2 => 2 | 75 => 80 | 85 => 85 | 4 => 4 | 167 => 111 | 5 => 5 | 53 => 67 | 175 => 112 | 46 => 72 | 168 => 114 | 37 => 22 | 0 => 0 | 210 => 127 | 21 => 21 | 127 => 89 | 145 => 137 | 143 => 135 | 171 => 99 | 173 => 102 | 212 => 119 | 51 => 93 | 20 => 20 | 213 => 120 | 232 => 138 | 233 => 139 | 80 => 83 | n => n, fun | 15 => 2 | 16 => 3 | 17 => 0 | 18 => 6 | 19 => 7 | n => n⟩
theorem Tryz.laysC174 : Go.Proofs.LaysC.n174 Tryz.prog Tryz.laysC174_ren := {
  mixed := by kernel_rfl
  f129 := Tryz.func83.trans (congrArg some (by kernel_rfl))
  f171 := Tryz.func96.trans (congrArg some (by kernel_rfl))
  f174 := Tryz.func55.trans (congrArg some (by kernel_rfl))
  f205 := Tryz.func95.trans (congrArg some (by kernel_rfl))
  f243 := Tryz.func101.trans (congrArg some (by kernel_rfl))
  f245 := Tryz.func64.trans (congrArg some (by kernel_rfl))
  f246 := Tryz.func57.trans (congrArg some (by kernel_rfl))
  f247 := Tryz.func63.trans (congrArg some (by kernel_rfl))
  f279 := Tryz.func78.trans (congrArg some (by kernel_rfl))
  f280 := Tryz.func79.trans (congrArg some (by kernel_rfl))
  f281 := Tryz.func80.trans (congrArg some (by kernel_rfl))
  f282 := Tryz.func81.trans (congrArg some (by kernel_rfl))
  f283 := Tryz.func67.trans (congrArg some (by kernel_rfl))
  f284 := Tryz.func68.trans (congrArg some (by kernel_rfl))
  f285 := Tryz.func69.trans (congrArg some (by kernel_rfl))
  f286 := Tryz.func70.trans (congrArg some (by kernel_rfl))
  f287 := Tryz.func77.trans (congrArg some (by kernel_rfl))
  f316 := Tryz.func94.trans (congrArg some (by kernel_rfl))
  f317 := Tryz.func82.trans (congrArg some (by kernel_rfl))
  f318 := Tryz.func84.trans (congrArg some (by kernel_rfl))
  f319 := Tryz.func85.trans (congrArg some (by kernel_rfl))
  f320 := Tryz.func86.trans (congrArg some (by kernel_rfl))
  f321 := Tryz.func92.trans (congrArg some (by kernel_rfl))
  f322 := Tryz.func93.trans (congrArg some (by kernel_rfl))
  f337 := Tryz.func97.trans (congrArg some (by kernel_rfl))
  f338 := Tryz.func98.trans (congrArg some (by kernel_rfl))
  t0 := Tryz.underlying0
  a0 := Tryz.isAgg0
  z0 := Tryz.sizeOf0
  v0 := Tryz.zeroValue0
  t2 := Tryz.underlying2
  a2 := Tryz.isAgg2
  z2 := Tryz.sizeOf2
  v2 := Tryz.zeroValue2
  t3 := Tryz.underlying3
  a3 := Tryz.isAgg3
  z3 := Tryz.sizeOf3
  v3 := Tryz.zeroValue3
  t4 := Tryz.underlying4
  a4 := Tryz.isAgg4
  z4 := Tryz.sizeOf4
  v4 := Tryz.zeroValue4
  t5 := Tryz.underlying5
  a5 := Tryz.isAgg5
  z5 := Tryz.sizeOf5
  v5 := Tryz.zeroValue5
  t9 := Tryz.underlying9
  a9 := Tryz.isAgg9
  z9 := Tryz.sizeOf9
  v9 := Tryz.zeroValue9
  t20 := Tryz.underlying20
  a20 := Tryz.isAgg20
  z20 := Tryz.sizeOf20
  v20 := Tryz.zeroValue20
  t21 := Tryz.underlying21
  a21 := Tryz.isAgg21
  z21 := Tryz.sizeOf21
  v21 := Tryz.zeroValue21
  t37 := Tryz.underlying22
  a37 := Tryz.isAgg22
  z37 := Tryz.sizeOf22
  v37 := Tryz.zeroValue22
  t46 := Tryz.underlying72
  a46 := Tryz.isAgg72
  z46 := Tryz.sizeOf72
  v46 := Tryz.zeroValue72
  t51 := Tryz.underlying93
  a51 := Tryz.isAgg93
  z51 := Tryz.sizeOf93
  v51 := Tryz.zeroValue93
  t53 := Tryz.underlying67
  a53 := Tryz.isAgg67
  z53 := Tryz.sizeOf67
  v53 := Tryz.zeroValue67
  t75 := Tryz.underlying80
  a75 := Tryz.isAgg80
  z75 := Tryz.sizeOf80
  v75 := Tryz.zeroValue80
  t85 := Tryz.underlying85
  a85 := Tryz.isAgg85
  z85 := Tryz.sizeOf85
  v85 := Tryz.zeroValue85
  t127 := Tryz.underlying89
  a127 := Tryz.isAgg89
  z127 := Tryz.sizeOf89
  v127 := Tryz.zeroValue89
  t143 := Tryz.underlying135
  a143 := Tryz.isAgg135
  z143 := Tryz.sizeOf135
  v143 := Tryz.zeroValue135
  t145 := Tryz.underlying137
  a145 := Tryz.isAgg137
  z145 := Tryz.sizeOf137
  v145 := Tryz.zeroValue137
  t167 := Tryz.underlying111
  a167 := Tryz.isAgg111
  z167 := Tryz.sizeOf111
  v167 := Tryz.zeroValue111
  t168 := Tryz.underlying114
  a168 := Tryz.isAgg114
  z168 := Tryz.sizeOf114
  v168 := Tryz.zeroValue114
  t171 := Tryz.underlying99
  a171 := Tryz.isAgg99
  z171 := Tryz.sizeOf99
  v171 := Tryz.zeroValue99
  t173 := Tryz.underlying102
  a173 := Tryz.isAgg102
  z173 := Tryz.sizeOf102
  v173 := Tryz.zeroValue102
  t175 := Tryz.underlying112
  a175 := Tryz.isAgg112
  z175 := Tryz.sizeOf112
  v175 := Tryz.zeroValue112
  t210 := Tryz.underlying127
  a210 := Tryz.isAgg127
  z210 := Tryz.sizeOf127
  v210 := Tryz.zeroValue127
  t212 := Tryz.underlying119
  a212 := Tryz.isAgg119
  z212 := Tryz.sizeOf119
  v212 := Tryz.zeroValue119
  t213 := Tryz.underlying120
  a213 := Tryz.isAgg120
  z213 := Tryz.sizeOf120
  t232 := Tryz.underlying138
  a232 := Tryz.isAgg138
  z232 := Tryz.sizeOf138
  v232 := Tryz.zeroValue138
  t233 := Tryz.underlying139
  a233 := Tryz.isAgg139
  z233 := Tryz.sizeOf139
  v233 := Tryz.zeroValue139
  g15 := by kernel_rfl
  g16 := by kernel_rfl
  g17 := by kernel_rfl
  g18 := by kernel_rfl
  g19 := by kernel_rfl
  t80 := Tryz.underlying83
  a80 := Tryz.isAgg83
  z80 := Tryz.sizeOf83
  v80 := Tryz.zeroValue83
  i0 := by kernel_rfl
  i2 := by kernel_rfl
  i3 := by kernel_rfl
  i4 := by kernel_rfl
  i5 := by kernel_rfl
  i9 := by kernel_rfl
  i20 := by kernel_rfl
  i21 := by kernel_rfl
  i37 := by kernel_rfl
  i46 := by kernel_rfl
  i51 := by kernel_rfl
  i53 := by kernel_rfl
  i75 := by kernel_rfl
  i80 := by kernel_rfl
  i85 := by kernel_rfl
  i127 := by kernel_rfl
  i143 := by kernel_rfl
  i145 := by kernel_rfl
  i167 := by kernel_rfl
  i168 := by kernel_rfl
  i171 := by kernel_rfl
  i173 := by kernel_rfl
  i175 := by kernel_rfl
  i210 := by kernel_rfl
  i212 := by kernel_rfl
  i232 := by kernel_rfl
  i233 := by kernel_rfl
  m15 := by kernel_rfl
  m16 := by kernel_rfl
  m17 := by kernel_rfl
  m18 := by kernel_rfl
  m19 := by kernel_rfl
  c0 := by kernel_rfl
  c2 := by kernel_rfl
  c3 := by kernel_rfl
  c4 := by kernel_rfl
  c5 := by kernel_rfl
  c9 := by kernel_rfl
  c20 := by kernel_rfl
  c21 := by kernel_rfl
  c37 := by kernel_rfl
  c46 := by kernel_rfl
  c51 := by kernel_rfl
  c53 := by kernel_rfl
  c75 := by kernel_rfl
  c80 := by kernel_rfl
  c85 := by kernel_rfl
  c127 := by kernel_rfl
  c143 := by kernel_rfl
  c145 := by kernel_rfl
  c167 := by kernel_rfl
  c168 := by kernel_rfl
  c171 := by kernel_rfl
  c173 := by kernel_rfl
  c175 := by kernel_rfl
  c210 := by kernel_rfl
  c212 := by kernel_rfl
  c213 := by kernel_rfl
  c232 := by kernel_rfl
  c233 := by kernel_rfl }
open Go.RowKit in
/-- strconv.ParseInt(s, 10, 64), AT EVERY STRING THAT SPELLS AN int64 ('Lib.parseIntB 64 s.data.toList = .ok v'): v, AND NO ERROR. (LAID: no walk: one application.) -/
theorem Tryz.strconv_ParseInt_10_at64_ok (s : ByteArray) (hmax : s.size ≤ 9223372036854775806) (v : Int) (h : Lib.parseIntB 64 s.data.toList = .ok v) (w : World) :
    Calls Tryz.prog 55 #[.string s, .int .i64 10, .int .i64 64] w fun e w' => e = .returned (.tuple #[.int .i64 v, .nilIface]) ∧ (w' = w ∨ ∃ t, w' = Lib.bytesWorld w 5 t) := Any.strconv_ParseInt_10_at64_ok Tryz.laysC174 s hmax v h w
def Tryz.laysM146_ren : Go.Shelf.Ren := ⟨fun | 146 => 41 | 221 => 54 | 268 => 60 | 138 => 61 | 143 => 62 | 195 => 73 | 197 => 74 | 218 => 75 | 219 => 76 | 260 => 87 | 217 => 88 | 225 => 89 | 224 => 90 | 267 => 91 | 266 => 99 | 314 => 100 | n => n, fun | 9 => 9 | 31 => 53 | 3 => 3 | 4 => 4 | 0 => 0 | 105 => 108 | 21 => 21 | 5 => 5 | 46 => 72 | 119 => 130 | 139 => 133 | 138 => 132 | 146 => 94 | 51 => 93 | n => n, fun | 1 => 1 | 3 => 4 | 4 => 5 | n => n⟩
theorem Tryz.laysM146 : Go.Proofs.LaysM.n146 Tryz.prog Tryz.laysM146_ren := {
  mixed := by kernel_rfl
  f138 := Tryz.func61.trans (congrArg some (by kernel_rfl))
  f143 := Tryz.func62.trans (congrArg some (by kernel_rfl))
  f146 := Tryz.func41.trans (congrArg some (by kernel_rfl))
  f195 := Tryz.func73.trans (congrArg some (by kernel_rfl))
  f197 := Tryz.func74.trans (congrArg some (by kernel_rfl))
  f217 := Tryz.func88.trans (congrArg some (by kernel_rfl))
  f218 := Tryz.func75.trans (congrArg some (by kernel_rfl))
  f219 := Tryz.func76.trans (congrArg some (by kernel_rfl))
  f221 := Tryz.func54.trans (congrArg some (by kernel_rfl))
  f224 := Tryz.func90.trans (congrArg some (by kernel_rfl))
  f225 := Tryz.func89.trans (congrArg some (by kernel_rfl))
  f260 := Tryz.func87.trans (congrArg some (by kernel_rfl))
  f266 := Tryz.func99.trans (congrArg some (by kernel_rfl))
  f267 := Tryz.func91.trans (congrArg some (by kernel_rfl))
  f268 := Tryz.func60.trans (congrArg some (by kernel_rfl))
  f314 := Tryz.func100.trans (congrArg some (by kernel_rfl))
  t0 := Tryz.underlying0
  a0 := Tryz.isAgg0
  z0 := Tryz.sizeOf0
  v0 := Tryz.zeroValue0
  t3 := Tryz.underlying3
  a3 := Tryz.isAgg3
  z3 := Tryz.sizeOf3
  v3 := Tryz.zeroValue3
  t4 := Tryz.underlying4
  a4 := Tryz.isAgg4
  z4 := Tryz.sizeOf4
  v4 := Tryz.zeroValue4
  t5 := Tryz.underlying5
  a5 := Tryz.isAgg5
  z5 := Tryz.sizeOf5
  v5 := Tryz.zeroValue5
  t9 := Tryz.underlying9
  a9 := Tryz.isAgg9
  z9 := Tryz.sizeOf9
  v9 := Tryz.zeroValue9
  t21 := Tryz.underlying21
  a21 := Tryz.isAgg21
  z21 := Tryz.sizeOf21
  v21 := Tryz.zeroValue21
  t31 := Tryz.underlying53
  a31 := Tryz.isAgg53
  z31 := Tryz.sizeOf53
  v31 := Tryz.zeroValue53
  t46 := Tryz.underlying72
  a46 := Tryz.isAgg72
  z46 := Tryz.sizeOf72
  v46 := Tryz.zeroValue72
  t51 := Tryz.underlying93
  a51 := Tryz.isAgg93
  z51 := Tryz.sizeOf93
  v51 := Tryz.zeroValue93
  t105 := Tryz.underlying108
  a105 := Tryz.isAgg108
  z105 := Tryz.sizeOf108
  v105 := Tryz.zeroValue108
  t119 := Tryz.underlying130
  a119 := Tryz.isAgg130
  z119 := Tryz.sizeOf130
  t138 := Tryz.underlying132
  a138 := Tryz.isAgg132
  z138 := Tryz.sizeOf132
  v138 := Tryz.zeroValue132
  t139 := Tryz.underlying133
  a139 := Tryz.isAgg133
  z139 := Tryz.sizeOf133
  v139 := Tryz.zeroValue133
  t146 := Tryz.underlying94
  a146 := Tryz.isAgg94
  z146 := Tryz.sizeOf94
  v146 := Tryz.zeroValue94
  g1 := by kernel_rfl
  g3 := by kernel_rfl
  g4 := by kernel_rfl
  i0 := by kernel_rfl
  i3 := by kernel_rfl
  i4 := by kernel_rfl
  i5 := by kernel_rfl
  i9 := by kernel_rfl
  i21 := by kernel_rfl
  i31 := by kernel_rfl
  i46 := by kernel_rfl
  i51 := by kernel_rfl
  i105 := by kernel_rfl
  i138 := by kernel_rfl
  i139 := by kernel_rfl
  i146 := by kernel_rfl
  m1 := by kernel_rfl
  s1_3 := fun w h => Go.Proofs.cell_of_shapedOpen_int (zero := #[.int .i64 0]) (t := 3) h (of_decide_eq_true (by kernel_rfl)) (by kernel_rfl) rfl (by kernel_rfl) (by kernel_rfl) Tryz.underlying3
  m3 := by kernel_rfl
  m4 := by kernel_rfl }
end Go.Proofs

/- DiagramText, the program's and the reference's. -/
namespace Go.Proofs.YtljimlejcecleaaGreatDoor
open Go.RowKit

theorem convC (z : Int) (w : World) (g : Nat) (h : w.cell? ⟨g, 0, none⟩ = some (.int .u8 z)) : (convert 22 9 (.slice (some ⟨g, 0, none⟩) 1 1)).run Tryz.prog w = .ok (.string ⟨#[UInt8.ofNat z.toNat]⟩) w := by
  refine (run_convert_bytes_string _ 22 9 5 _ 1 1 Tryz.underlying22 Tryz.underlying5 Tryz.underlying9).trans ?_
  refine (run_bytesToString _ _ 1 1 [z] ?_).trans rfl
  refine run_loadCells_list _ ⟨g, 0, none⟩ [.int .u8 z] fun j v hv => ?_
  match j, hv with
  | 0, hv => simp at hv; subst hv; simpa [Addr.add] using h

set_option maxHeartbeats 1600000 in
theorem specDec_lo (z : Int) (k : Nat) (w : World) (hz : z = k) (hk : k < 10) : Calls Tryz.prog 40 #[.int .i64 z] w fun e w' => e = .returned (.string ⟨#[UInt8.ofNat (48 + k)]⟩) ∧ Below w.heap.size w w' := by
  subst hz
  have h1 : decide ((k : Int) < 10) = true := by simp; omega
  have hc := conv1 w (48 + k)
  go_enter Tryz.func40, Tryz.ntmps40
  go_wp2
  go_ret
  exact ⟨rfl, below_alloc1 _ _⟩
set_option maxHeartbeats 1600000 in
theorem specDec_any (z : Int) (k : Nat) (w : World) (hz : z = k) (hk : k < 100) : Calls Tryz.prog 40 #[.int .i64 z] w fun e w' => e = .returned (.string ⟨(Lib.decDigits k).toArray⟩) ∧ Below w.heap.size w w' := by
  by_cases h : k < 10
  · rw [dec_lo h]; exact specDec_lo z k w hz h
  · subst hz
    rw [dec_hi (by omega) hk]
    have h1 : decide ((k : Int) < 10) = false := by simp; omega
    have hc := convC (48 + k % 10)
    have e1 : IntKind.i64.wrap ((k : Int) / 10) = (k : Int) / 10 := IntWalk.i64_in _ (by omega)
    have e2 : (k : Int).tmod 10 = (k : Int) % 10 := Int.tmod_eq_emod_of_nonneg (by omega)
    have e3 : IntKind.i64.wrap (48 + (k : Int) % 10) = 48 + (k : Int) % 10 := IntWalk.i64_in _ (by omega)
    have e4 : IntKind.u8.wrap (48 + (k : Int) % 10) = 48 + (k : Int) % 10 := by unfold IntKind.wrap; simp [IntKind.bits, IntKind.signed]; omega
    go_enter Tryz.func40, Tryz.ntmps40
    go_wp2_with fail
    go_region_law (go_simp; go_at_call 40; refine (specDec_lo _ (k / 10) _ (by omega) (by omega)).mono ?_; rintro e w2 ⟨rfl, b2⟩; have bX : Below w.heap.size w w2 := below_tr b2 (by first | exact below_drew1 _ | exact (below_alloc1 _ _).drew | exact below_alloc1 _ _); (try have kx : Blk w2 w.heap.size 5 #[.int .u8 (48 + (k : Int) % 10)] := Blk.belowS (w := (w.alloc (.cells #[.int .u8 (48 + (k : Int) % 10)] 5)).drew) (blk_at (w := w) rfl :) b2); (try have kx0 := kx.cell 0); (try simp at kx0))
    all_goals
      have e5 : (48 + (k : Int) % 10).toNat = 48 + k % 10 := by omega
      go_wp2
      go_ret
      refine ⟨?_, ?_⟩
    all_goals first
      | exact bX
      | exact bX.alloc bX.size _
      | exact bX.drew
      | exact (bX.alloc bX.size _).drew
      | skip
    all_goals
      show Ending.returned (Value.string (⟨#[48 + UInt8.ofNat (k / 10)]⟩ ++ ⟨#[UInt8.ofNat (48 + (k : Int) % 10).toNat]⟩)) = _
      rw [e5, UInt8.ofNat_add 48 (k / 10)]
      rfl

set_option maxHeartbeats 3200000 in
theorem specText_any (ao : Option Addr) (n c : Nat) (zs : List Int) (w : World) (h : Ints w ao n zs) (hd : isDiag zs = true) : Calls Tryz.prog 19 #[.slice ao n c] w fun e w' => e = .returned (.string (dgS zs)) ∧ Below w.heap.size w w' := by
  have hl := h.1
  have hn : n < 5 := by unfold isDiag at hd; simp at hd; omega
  have hlab : ∀ k, k < n → isLabel (iget zs k) = true := fun k hk => by
    unfold isDiag at hd
    rw [Bool.and_eq_true, List.all_eq_true] at hd
    exact hd.1 _ (iget_mem (by omega))
  have HL := Lib.hid hl
  have HB := Lib.hid hlab
  clear hl hlab hd
  go_enter Tryz.func19, Tryz.ntmps19
  go_wp2
  go_loopw [3, 4] (fun ov i wr => ∃ (k : Nat) (o : ByteArray), k ≤ n ∧ i = .int .i64 k ∧ ov = .string o ∧ o.data.toList = dgT (zs.take k) ∧ o.size ≤ 1 + 4 * k ∧ Below w.heap.size w wr) (fun _ i _ => n - (intOf i).toNat)
  case atStart => exact ⟨0, _, Nat.zero_le _, rfl, rfl, rfl, by decide, Below.refl _ _⟩
  case round =>
    obtain ⟨k, o, hk, rfl, rfl, ho, hs, hb⟩ := hrel
    have HO := Lib.hid ho
    clear ho
    by_cases hlt : k < n
    · obtain ⟨b, off, rfl, hc⟩ := (h.below hb).at_ hlt
      have hT := dgT_snoc (zs := zs) (k := k) (by rw [HL.out]; exact hlt)
      have hL := HB.out k hlt
      have h3 := dgB_size hL
      have HT := Lib.hid hT
      have HLb := Lib.hid hL
      clear hT hL
      have hbl := World.block_lt_of_cell? _ _ hc
      by_cases h0 : 0 < k
      · by_cases hz : iget zs k = 0
        · have hz1 : (iget zs k == 0) = true := by simp [hz]
          have hw : dgL (iget zs k) = [105, 110, 102] := by unfold dgL; rw [if_pos hz]
          have HW := Lib.hid hw
          clear hw
          go_wp2
          go_roundw
          case rel => exact ⟨k + 1, _, by omega, by go_num, rfl, by rw [HT.out, if_neg (by omega), HW.out, ← HO.out]; simp, by rw [ByteArray.size_append, ByteArray.size_append]; show o.size + 1 + 3 ≤ _; omega, hb⟩
          case measure => simp [intOf]; omega
        · have hz1 : (iget zs k == 0) = false := by simp [hz]
          have HW := Lib.hid (dgB_pos hz HLb.out)
          clear hz
          go_wp2_with fail
          refine (specDec_any _ (iget zs k).toNat _ HW.out.1 HW.out.2.1).mono ?_
          rintro e w2 ⟨rfl, b2⟩
          rw [← HW.out.2.2]
          go_wp2
          go_roundw
          case rel => exact ⟨k + 1, _, by omega, by go_num, rfl, by rw [HT.out, if_neg (by omega), ← HO.out]; simp [dgB], by rw [ByteArray.size_append, ByteArray.size_append]; show o.size + 1 + _ ≤ _; omega, hb.trans (b2.mono hb.size)⟩
          case measure => simp [intOf]; omega
      · obtain rfl : k = 0 := by omega
        rw [Nat.add_zero] at hc
        by_cases hz : iget zs 0 = 0
        · have hz1 : (iget zs 0 == 0) = true := by simp [hz]
          have hw : dgL (iget zs 0) = [105, 110, 102] := by unfold dgL; rw [if_pos hz]
          have HW := Lib.hid hw
          clear hw
          go_wp2
          go_roundw
          case rel => exact ⟨1, _, by omega, by go_num, rfl, by rw [HT.out, if_pos rfl, HW.out, ← HO.out]; simp, by rw [ByteArray.size_append]; show o.size + 3 ≤ _; omega, hb⟩
          case measure => simp [intOf]; omega
        · have hz1 : (iget zs 0 == 0) = false := by simp [hz]
          have HW := Lib.hid (dgB_pos hz HLb.out)
          clear hz
          go_wp2_with fail
          refine (specDec_any _ (iget zs 0).toNat _ HW.out.1 HW.out.2.1).mono ?_
          rintro e w2 ⟨rfl, b2⟩
          rw [← HW.out.2.2]
          go_wp2
          go_roundw
          case rel => exact ⟨1, _, by omega, by go_num, rfl, by rw [HT.out, if_pos trivial, ← HO.out]; simp [dgB], by rw [ByteArray.size_append]; omega, hb.trans (b2.mono hb.size)⟩
          case measure => simp [intOf]; omega
    · obtain rfl : k = n := by omega
      rw [List.take_of_length_le (Nat.le_of_eq HL.out)] at HO
      go_wp2
      go_ret
      exact ⟨by show Ending.returned (Value.string (o ++ ⟨#[125]⟩)) = _; refine congrArg Ending.returned (congrArg Value.string (bytes_ext ?_)); unfold dgS; rw [← HO.out]; simp, hb⟩

theorem joined_any {w : World} {base : Nat} {ao : Option Addr} {n c : Nat} {zs : List Int} (ho : Own w base 9 ao n c ((zs.map dgB).map Value.string)) (h : ∀ z ∈ zs, isLabel z = true) (hn : n < 5) :
    Calls Tryz.prog 38 #[.slice ao n c, .string ⟨#[44]⟩] w fun e w' => e = .returned (.string (dgJ zs)) ∧ Below w.heap.size w w' := by
  have hlen : zs.length = n := by have := ho.len; simpa using this
  rcases Nat.eq_zero_or_pos n with h0 | h0
  · subst h0
    have hz : zs = [] := List.eq_nil_of_length_eq_zero hlen
    subst hz
    refine (Tryz.strings_Join_none ao c ⟨#[44]⟩ w).mono ?_
    rintro e w' ⟨rfl, rfl⟩
    exact ⟨rfl, Below.refl _ _⟩
  · obtain ⟨g, rfl, _, hgl, hnc, hcell, _⟩ := ho.form h0
    have hjl := join_len (xs := zs.map dgB) (by intro x hx; rw [List.mem_map] at hx; obtain ⟨z, hz, rfl⟩ := hx; exact dgB_size (h z hz)) (by rw [List.length_map, hlen]; exact hn)
    have hxl : (zs.map dgB).length = n := by rw [List.length_map, hlen]
    have hJ := Tryz.strings_Join g 0 c (zs.map dgB) ⟨#[44]⟩ w (by
      intro j x hx
      have hj : j < n := by have := (List.getElem?_eq_some_iff.1 hx).1; omega
      rw [Nat.zero_add, hcell j hj, List.getElem?_map, hx]; rfl) hgl (by omega) (by omega) (Nat.le_trans hjl (by omega))
    rw [hxl] at hJ
    refine hJ.mono ?_
    rintro e w' ⟨rfl, hb⟩
    refine ⟨?_, hb⟩
    have := join_dg zs
    exact congrArg Ending.returned (congrArg Value.string (by unfold dgJ; rw [← this]))

theorem implDec_any (z : Int) (k : Nat) (w : World) (hz : z = k) (hk : k < 100) : Calls Tryz.prog 37 #[.int .i64 z] w fun e w' => e = .returned (.string ⟨(Lib.decDigits k).toArray⟩) ∧ w' = w := by
  subst hz
  go_enter Tryz.func37, Tryz.ntmps37
  go_wp2_with fail
  refine (Tryz.strconv_FormatInt_10_small k hk w).mono ?_
  rintro e w' ⟨rfl, rfl⟩
  go_wp2
  go_ret
  exact ⟨rfl, rfl⟩

set_option maxHeartbeats 3200000 in
theorem implText_any (ao : Option Addr) (n c : Nat) (zs : List Int) (w : World) (h : Ints w ao n zs) (hd : isDiag zs = true) : Calls Tryz.prog 17 #[.slice ao n c] w fun e w' => e = .returned (.string (dgS zs)) ∧ Below w.heap.size w w' := by
  have hl := h.1
  have hn : n < 5 := by unfold isDiag at hd; simp at hd; omega
  have hlab : ∀ z ∈ zs, isLabel z = true := by
    unfold isDiag at hd
    rw [Bool.and_eq_true, List.all_eq_true] at hd
    exact hd.1
  have HL := Lib.hid hl
  have HB := Lib.hid hlab
  clear hl hlab hd
  go_enter Tryz.func17, Tryz.ntmps17
  go_wp2
  go_loopw [3, 8] (fun wv i wr => ∃ (k : Nat) (ao' : Option Addr) (c' : Nat), k ≤ n ∧ i = .int .i64 k ∧ wv = .slice ao' k c' ∧ Own wr w.heap.size 9 ao' k c' (((zs.take k).map dgB).map Value.string) ∧ Below w.heap.size w wr) (fun _ i _ => n - (intOf i).toNat)
  case atStart => exact ⟨0, none, 0, Nat.zero_le _, rfl, rfl, Own.nil_ _ _ _, Below.refl _ _⟩
  case round =>
    obtain ⟨k, ao', c', hk, rfl, rfl, ho, hb⟩ := hrel
    by_cases hlt : k < n
    · obtain ⟨b, off, rfl, hc⟩ := (h.below hb).at_ hlt
      have hbs := hb.size
      have hol := ho.lt
      have hT : ((zs.take (k + 1)).map dgB).map Value.string = ((zs.take k).map dgB).map Value.string ++ [.string (dgB (iget zs k))] := by rw [take_iget (by rw [HL.out]; exact hlt)]; simp
      have HT := Lib.hid hT
      have HO := Lib.hid ho
      have HLb := Lib.hid (HB.out _ (iget_mem (by rw [HL.out]; exact hlt)))
      clear hT ho
      by_cases hz : iget zs k = 0
      · have hz1 : (iget zs k == 0) = true := by simp [hz]
        have hw : dgB (iget zs k) = ⟨#[105, 110, 102]⟩ := by unfold dgB dgL; rw [if_pos hz]
        have HW := Lib.hid hw
        clear hw
        go_wp2_with (at_builtin; refine wpList_ap1 etStr _ rfl _ _ rfl w.heap.size ao' k c' _ rfl HO.out (.string ⟨#[105, 110, 102]⟩) rfl rfl (by omega) hbs ?_; intro ao2 c2 w2 ho2 hg2 hblk)
        have HO2 := Lib.hid ho2
        clear ho2 hblk
        go_wp2
        go_roundw
        case rel => exact ⟨k + 1, ao2, c2, by omega, by go_num, rfl, by rw [HT.out, HW.out]; exact HO2.out, hb.grown hg2 hbs (fun g hg => (hol g hg).1)⟩
        case measure => simp [intOf]; omega
      · have hz1 : (iget zs k == 0) = false := by simp [hz]
        have HW := Lib.hid (dgB_pos hz HLb.out)
        clear hz
        go_wp2_with fail
        refine (implDec_any _ (iget zs k).toNat _ HW.out.1 HW.out.2.1).mono ?_
        rintro e w2 ⟨rfl, rfl⟩
        rw [← HW.out.2.2]
        go_wp2_with (at_builtin; refine wpList_ap1 etStr _ rfl _ _ rfl w.heap.size ao' k c' _ rfl HO.out (.string (dgB (iget zs k))) rfl rfl (by omega) hbs ?_; intro ao2 c2 w2 ho2 hg2 hblk)
        have HO2 := Lib.hid ho2
        clear ho2 hblk
        go_wp2
        go_roundw
        case rel => exact ⟨k + 1, ao2, c2, by omega, by go_num, rfl, by rw [HT.out]; exact HO2.out, hb.grown hg2 hbs (fun g hg => (hol g hg).1)⟩
        case measure => simp [intOf]; omega
    · obtain rfl : k = n := by omega
      rw [List.take_of_length_le (Nat.le_of_eq HL.out)] at ho
      have hjs := dgJ_size HB.out (by rw [HL.out]; exact hn)
      have hbs := hb.size
      go_wp2_with fail
      refine (joined_any ho HB.out hn).mono ?_
      rintro e w2 ⟨rfl, b2⟩
      go_wp2
      go_ret
      exact ⟨congrArg Ending.returned (congrArg Value.string (dgS_join zs)), hb.trans (b2.mono hbs)⟩

/-- what DiagramText returns -/
def dgR (zs : List Int) : ByteArray := if isDiag zs then dgS zs else ⟨#[]⟩
def dgC (zs : List Int) : Int := if isDiag zs then 0 else 1
theorem dgR_yes {zs : List Int} (h : isDiag zs = true) : dgR zs = dgS zs ∧ dgC zs = 0 := by unfold dgR dgC; rw [if_pos h, if_pos h]; exact ⟨rfl, rfl⟩
theorem dgR_no {zs : List Int} (h : isDiag zs = false) : dgR zs = ⟨#[]⟩ ∧ dgC zs = 1 := by unfold dgR dgC; simp [h]

set_option maxHeartbeats 1600000 in
theorem specDiagramText_any (ao : Option Addr) (n c : Nat) (zs : List Int) (w : World) (h : Ints w ao n zs) : Calls Tryz.prog 7 #[.slice ao n c] w fun e w' => e = .returned (.tuple #[.string (dgR zs), .int .i64 (dgC zs)]) ∧ Below w.heap.size w w' := by
  cases hd : isDiag zs with
  | true =>
    rw [(dgR_yes hd).1, (dgR_yes hd).2]
    have HD := Lib.hid hd
    go_enter Tryz.func7, Tryz.ntmps7
    go_wp2_with fail
    refine (spec12Is_any ao n c zs w h).mono ?_
    rintro e w1 ⟨rfl, rfl⟩
    go_wp2_with fail
    refine (specText_any ao n c zs w1 h HD.out).mono ?_
    rintro e w2 ⟨rfl, b2⟩
    go_wp2
    exact bodyPost_ret (v := (.tuple #[.string (dgS zs), .int .i64 0])) (by simp [results, Tryz.f7, go_sem]) rfl ⟨rfl, b2⟩
  | false =>
    rw [(dgR_no hd).1, (dgR_no hd).2]
    go_enter Tryz.func7, Tryz.ntmps7
    go_wp2_with fail
    refine (spec12Is_any ao n c zs w h).mono ?_
    rintro e w1 ⟨rfl, rfl⟩
    go_wp2
    exact bodyPost_ret (v := (.tuple #[.string ⟨#[]⟩, .int .i64 1])) (by simp [results, Tryz.f7, go_sem]) rfl ⟨rfl, Below.refl _ _⟩
set_option maxHeartbeats 1600000 in
theorem implDiagramText_any (ao : Option Addr) (n c : Nat) (zs : List Int) (w : World) (h : Ints w ao n zs) : Calls Tryz.prog 6 #[.slice ao n c] w fun e w' => e = .returned (.tuple #[.string (dgR zs), .int .i64 (dgC zs)]) ∧ Below w.heap.size w w' := by
  cases hd : isDiag zs with
  | true =>
    rw [(dgR_yes hd).1, (dgR_yes hd).2]
    have HD := Lib.hid hd
    go_enter Tryz.func6, Tryz.ntmps6
    go_wp2_with fail
    refine (isDiagramImpl_any ao n c zs w h).mono ?_
    rintro e w1 ⟨rfl, b1⟩
    go_wp2_with fail
    refine (implText_any ao n c zs w1 (h.below b1) HD.out).mono ?_
    rintro e w2 ⟨rfl, b2⟩
    go_wp2
    exact bodyPost_ret (v := (.tuple #[.string (dgS zs), .int .i64 0])) (by simp [results, Tryz.f6, go_sem]) rfl ⟨rfl, b1.trans (b2.mono b1.size)⟩
  | false =>
    rw [(dgR_no hd).1, (dgR_no hd).2]
    go_enter Tryz.func6, Tryz.ntmps6
    go_wp2_with fail
    refine (isDiagramImpl_any ao n c zs w h).mono ?_
    rintro e w1 ⟨rfl, b1⟩
    go_wp2
    exact bodyPost_ret (v := (.tuple #[.string ⟨#[]⟩, .int .i64 1])) (by simp [results, Tryz.f6, go_sem]) rfl ⟨rfl, b1⟩

end Go.Proofs.YtljimlejcecleaaGreatDoor

/- Reading a diagram's text back: pieces, their numbers. No program in sight. -/
namespace Go.Proofs.YtljimlejcecleaaGreatDoor
open Go.RowKit

/-- a list of bytes cut at its commas -/
def splL : List UInt8 → List (List UInt8)
  | [] => [[]]
  | c :: r => if c = 44 then [] :: splL r else match splL r with
    | [] => [[c]]
    | a :: t => (c :: a) :: t
theorem splL_ne : ∀ l, splL l ≠ []
  | [] => by simp [splL]
  | c :: r => by
    unfold splL
    split
    · simp
    · split <;> simp
theorem splL_none : ∀ {x : List UInt8}, (44 : UInt8) ∉ x → splL x = [x]
  | [], _ => rfl
  | c :: r, h => by
    have hr := splL_none (x := r) (by simp at h; exact h.2)
    unfold splL
    rw [if_neg (by simp at h; exact fun e => h.1 e.symm), hr]
theorem splL_at : ∀ {x : List UInt8} (r : List UInt8), (44 : UInt8) ∉ x → splL (x ++ 44 :: r) = x :: splL r
  | [], r, _ => by rw [List.nil_append, splL, if_pos rfl]
  | c :: x, r, h => by
    have hr := splL_at (x := x) r (by simp at h; exact h.2)
    rw [List.cons_append, splL, if_neg (by simp at h; exact fun e => h.1 e.symm), hr]
theorem splL_small : ∀ (l : List UInt8), ∀ x ∈ splL l, x.length ≤ l.length
  | [], x, hx => by simp [splL] at hx; subst hx; simp
  | c :: r, x, hx => by
    have ih := splL_small r
    unfold splL at hx
    split at hx
    · rcases List.mem_cons.1 hx with h | h
      · subst h; simp
      · have := ih x h; simp; omega
    · cases hs : splL r with
      | nil => exact absurd hs (splL_ne r)
      | cons a t =>
        rw [hs] at hx ih
        rcases List.mem_cons.1 hx with h | h
        · subst h
          have := ih a (by simp)
          simp; omega
        · have := ih x (by simp [h])
          simp; omega
theorem splL_join : ∀ {ws : List (List UInt8)}, ws ≠ [] → (∀ w ∈ ws, (44 : UInt8) ∉ w) → splL (Lib.join ws [44]) = ws
  | [], h, _ => absurd rfl h
  | [w], _, h => by rw [Lib.join_one]; exact splL_none (h w (by simp))
  | w :: v :: r, _, h => by
    have ih := splL_join (ws := v :: r) (by simp) fun x hx => h x (by simp at hx ⊢; exact .inr hx)
    have e : Lib.join (w :: v :: r) [44] = w ++ 44 :: Lib.join (v :: r) [44] := by
      rw [Lib.join_cons, Lib.join_cons]; simp [Lib.joinTail]
    rw [e, splL_at _ (h w (by simp)), ih]
/-- the library's pieces -/
theorem index44 : ∀ (l : List UInt8), (Lib.index l [44] = -1 ∧ (44 : UInt8) ∉ l) ∨ ∃ (i : Nat) (x r : List UInt8), Lib.index l [44] = i ∧ x.length = i ∧ (44 : UInt8) ∉ x ∧ l = x ++ 44 :: r
  | [] => .inl ⟨by simp [Lib.index], by simp⟩
  | b :: l => by
    by_cases hb : b = 44
    · subst hb
      exact .inr ⟨0, [], l, by simp [Lib.index, List.isPrefixOf], rfl, by simp, rfl⟩
    · have hp : ([44] : List UInt8).isPrefixOf (b :: l) = false := by simp [List.isPrefixOf]; exact fun e => hb e.symm
      rcases index44 l with ⟨h1, h2⟩ | ⟨i, x, r, h1, h2, h3, h4⟩
      · refine .inl ⟨by unfold Lib.index; rw [if_neg (by rw [hp]; simp), h1]; rfl, by simp; exact ⟨fun e => hb e.symm, h2⟩⟩
      · refine .inr ⟨i + 1, b :: x, r, ?_, by simp [h2], by simp; exact ⟨fun e => hb e.symm, h3⟩, by rw [h4]; rfl⟩
        unfold Lib.index
        rw [if_neg (by rw [hp]; simp), h1, if_neg (by simp)]
        simp
theorem split44 : ∀ (n : Nat) (l : List UInt8), l.length ≤ n → Lib.splitK [44] 0 (Lib.count l [44]) l = splL l
  | n, l, hn => by
    rcases index44 l with ⟨h1, h2⟩ | ⟨i, x, r, h1, h2, h3, h4⟩
    · rw [Lib.count_miss h1, splL_none h2]; rfl
    · rw [Lib.count_hit (by decide) h1, Nat.add_comm]
      have hd : l.drop (i + ([44] : List UInt8).length) = r := by rw [h4, ← h2, show x.length + ([44] : List UInt8).length = (x ++ [44]).length by simp, show x ++ 44 :: r = (x ++ [44]) ++ r by simp, List.drop_left]
      have ht : l.take (i + 0) = x := by rw [h4, ← h2, Nat.add_zero, List.take_left]
      unfold Lib.splitK
      rw [h1, if_neg (by simp), Int.toNat_natCast, ht, hd]
      have hl : r.length < l.length := by rw [h4]; simp; omega
      cases n with
      | zero => omega
      | succ n => rw [split44 n r (by omega), h4, splL_at _ h3]

/-- the number of a word, the program's -/
def pvL (l : List UInt8) : Int :=
  match Lib.parseIntB 64 l with
  | .ok v => v
  | .range => Lib.intSat 64 l
  | _ => 0
/-- the number of a word, the reference's: digits alone, at most nine, no zero ahead -/
def svF (acc : Int) : List UInt8 → Int
  | [] => acc
  | c :: r => if 48 ≤ c.toNat ∧ c.toNat ≤ 57 then svF (acc * 10 + ((c.toNat : Int) - 48)) r else -1
def svL (l : List UInt8) : Int := if l.length = 0 ∨ 9 < l.length ∨ 1 < l.length ∧ l[0]? = some 48 then -1 else svF 0 l
def swL (l : List UInt8) : Int := if l = [105, 110, 102] then 0 else svL l
theorem label_lt {z : Int} (h : isLabel z = true) : z = 0 ∨ 2 ≤ z ∧ z ≤ 32 := by
  unfold isLabel inB at h; simp at h; omega
theorem label_cases {z : Int} (h : isLabel z = true) : z ∈ ([0, 2, 3, 4, 5, 6, 7, 8, 9, 10, 11, 12, 13, 14, 15, 16, 17, 18, 19, 20, 21, 22, 23, 24, 25, 26, 27, 28, 29, 30, 31, 32] : List Int) := by
  simp only [List.mem_cons, List.not_mem_nil, or_false]
  have := label_lt h
  omega
theorem dgL_word {z : Int} (h : isLabel z = true) : dgL z ≠ [] ∧ (44 : UInt8) ∉ dgL z ∧ pvL (dgL z) = z ∧ swL (dgL z) = z := by
  have hm := label_cases h
  clear h
  revert hm
  revert z
  have key : ∀ z ∈ ([0, 2, 3, 4, 5, 6, 7, 8, 9, 10, 11, 12, 13, 14, 15, 16, 17, 18, 19, 20, 21, 22, 23, 24, 25, 26, 27, 28, 29, 30, 31, 32] : List Int), (dgL z ≠ [] ∧ (44 : UInt8) ∉ dgL z ∧ pvL (dgL z) = z ∧ swL (dgL z) = z) := by decide +kernel
  exact fun {z} hm => key z hm
/-- the numbers of a text between the brackets -/
def pnL (l : List UInt8) : List Int := ((splL l).filter fun w => !w.isEmpty).map pvL
def snL (l : List UInt8) : List Int := if l = [] then [] else (splL l).map swL
theorem pnL_join {zs : List Int} (h : ∀ z ∈ zs, isLabel z = true) : pnL (Lib.join (zs.map dgL) [44]) = zs := by
  cases zs with
  | nil => rfl
  | cons z r =>
    unfold pnL
    rw [splL_join (by simp) fun w hw => by rw [List.mem_map] at hw; obtain ⟨x, hx, rfl⟩ := hw; exact (dgL_word (h x hx)).2.1]
    rw [List.filter_eq_self.2 fun w hw => by rw [List.mem_map] at hw; obtain ⟨x, hx, rfl⟩ := hw; have := (dgL_word (h x hx)).1; simpa using this]
    rw [List.map_map]
    conv => rhs; rw [← List.map_id (z :: r)]
    exact List.map_congr_left fun x hx => (dgL_word (h x hx)).2.2.1
theorem snL_join {zs : List Int} (h : ∀ z ∈ zs, isLabel z = true) : snL (Lib.join (zs.map dgL) [44]) = zs := by
  cases zs with
  | nil => rfl
  | cons z r =>
    unfold snL
    have hne : Lib.join ((z :: r).map dgL) [44] ≠ [] := by
      rw [List.map_cons, Lib.join_cons]
      have := (dgL_word (h z (by simp))).1
      intro e
      exact this (List.append_eq_nil_iff.1 e).1
    rw [if_neg hne, splL_join (by simp) fun w hw => by rw [List.mem_map] at hw; obtain ⟨x, hx, rfl⟩ := hw; exact (dgL_word (h x hx)).2.1]
    rw [List.map_map]
    conv => rhs; rw [← List.map_id (z :: r)]
    exact List.map_congr_left fun x hx => (dgL_word (h x hx)).2.2.2
/-- what lies between the first byte and the last one -/
def midL (l : List UInt8) : List UInt8 := (l.drop 1).take (l.length - 2)
theorem midL_dgS (zs : List Int) : midL (dgS zs).data.toList = Lib.join (zs.map dgL) [44] := by
  unfold midL dgS dgT
  simp
theorem diag_labels {zs : List Int} (h : isDiag zs = true) : ∀ z ∈ zs, isLabel z = true := by
  unfold isDiag at h
  rw [Bool.and_eq_true, List.all_eq_true] at h
  exact h.1
/-- the diagram of a text -/
def prR (t : ByteArray) : List Int := if isDiag (pnL (midL t.data.toList)) = true ∧ dgS (pnL (midL t.data.toList)) = t then pnL (midL t.data.toList) else []
def prC (t : ByteArray) : Int := if isDiag (pnL (midL t.data.toList)) = true ∧ dgS (pnL (midL t.data.toList)) = t then 0 else 6
theorem pr_of {t : ByteArray} {zs : List Int} (h : isDiag zs = true) (e : dgS zs = t) : pnL (midL t.data.toList) = zs ∧ snL (midL t.data.toList) = zs := by
  subst e
  rw [midL_dgS]
  exact ⟨pnL_join (diag_labels h), snL_join (diag_labels h)⟩
/-- the reference's answer is the same -/
theorem pr_spec (t : ByteArray) : (isDiag (snL (midL t.data.toList)) = true ∧ dgS (snL (midL t.data.toList)) = t) ↔ (isDiag (pnL (midL t.data.toList)) = true ∧ dgS (pnL (midL t.data.toList)) = t) := by
  constructor
  · rintro ⟨h1, h2⟩
    have := (pr_of h1 h2).1
    rw [this]; exact ⟨h1, h2⟩
  · rintro ⟨h1, h2⟩
    have := (pr_of h1 h2).2
    rw [this]; exact ⟨h1, h2⟩
theorem dgS_few {zs : List Int} (h : isDiag zs = true) : 2 ≤ (dgS zs).size ∧ (dgS zs).size ≤ 100 ∧ (dgS zs).data.toList[0]? = some 123 ∧ (dgS zs).data.toList[(dgS zs).size - 1]? = some 125 := by
  have hn : zs.length < 5 := by unfold isDiag at h; simp at h; omega
  have hj := dgJ_size (diag_labels h) hn
  have hs : (dgS zs).data.toList = 123 :: (Lib.join (zs.map dgL) [44] ++ [125]) := by unfold dgS dgT; simp
  have hl : (dgS zs).size = (Lib.join (zs.map dgL) [44]).length + 2 := by
    have : (dgS zs).size = (dgS zs).data.toList.length := rfl
    rw [this, hs, List.length_cons, List.length_append]; rfl
  have hjl : (Lib.join (zs.map dgL) [44]).length ≤ 20 := hj
  refine ⟨by omega, by omega, by rw [hs]; rfl, ?_⟩
  rw [hl, hs, show (Lib.join (zs.map dgL) [44]).length + 2 - 1 = (Lib.join (zs.map dgL) [44]).length + 1 by omega, List.getElem?_cons_succ, List.getElem?_append_right (Nat.le_refl _), Nat.sub_self]
  rfl
end Go.Proofs.YtljimlejcecleaaGreatDoor

/- l01Value, l01Split, the reference's. -/
namespace Go.Proofs.YtljimlejcecleaaGreatDoor
open Go.RowKit

theorem svF_step {c : UInt8} {r : List UInt8} {acc : Int} (h : 48 ≤ c.toNat ∧ c.toNat ≤ 57) : svF acc (c :: r) = svF (acc * 10 + ((c.toNat : Int) - 48)) r := by rw [svF, if_pos h]
theorem svF_bad {c : UInt8} {r : List UInt8} {acc : Int} (h : ¬ (48 ≤ c.toNat ∧ c.toNat ≤ 57)) : svF acc (c :: r) = -1 := by rw [svF, if_neg h]
set_option maxHeartbeats 1600000 in
theorem specValue_any (s : ByteArray) (w : World) (hs : s.size ≤ 1048576) : Calls Tryz.prog 32 #[.string s] w fun e w' => e = .returned (.int .i64 (svL s.data.toList)) ∧ w' = w := by
  by_cases h0 : s.size = 0
  · have e1 : ((s.size : Int) == 0) = true := by simp [h0]
    have hv : svL s.data.toList = -1 := by unfold svL; rw [if_pos (.inl h0)]
    rw [hv]
    clear hv h0
    go_enter Tryz.func32, Tryz.ntmps32
    go_wp2
    go_ret
    exact ⟨rfl, rfl⟩
  · have e1 : ((s.size : Int) == 0) = false := by simp [h0]
    by_cases h9 : 9 < s.size
    · have e2 : decide ((9 : Int) < s.size) = true := by simp; omega
      have hv : svL s.data.toList = -1 := by unfold svL; rw [if_pos (.inr (.inl h9))]
      rw [hv]
      clear hv h0 h9
      go_enter Tryz.func32, Tryz.ntmps32
      go_wp2
      go_ret
      exact ⟨rfl, rfl⟩
    · have e2 : decide ((9 : Int) < s.size) = false := by simp; omega
      have h00 : 0 < s.size := by omega
      have hget : ∀ (k : Nat) (h : k < s.size), s.data.toList[k]? = some s[k] := fun k h => by
        have h' : k < s.data.toList.length := h
        rw [List.getElem?_eq_getElem h']; rfl
      by_cases hz : 1 < s.size ∧ s[0].toNat = 48
      · have e3 : decide ((1 : Int) < s.size) = true := by simp; omega
        have e4 : ((s[0].toNat : Int) == 48) = true := by rw [hz.2]; rfl
        have hv : svL s.data.toList = -1 := by
          unfold svL
          have hq : s.data.toList[0]? = some 48 := by rw [hget 0 h00, UInt8.toNat_inj.1 (show s[0].toNat = (48 : UInt8).toNat from hz.2)]
          rw [if_pos (.inr (.inr ⟨hz.1, hq⟩))]
        rw [hv]
        clear hv h0 h9 hz hget
        go_enter Tryz.func32, Tryz.ntmps32
        go_wp2
        go_ret
        exact ⟨rfl, rfl⟩
      · have hv : svL s.data.toList = svF 0 s.data.toList := by
          unfold svL
          rw [if_neg]
          rintro (h | h | ⟨h, h2⟩)
          · exact h0 h
          · exact h9 h
          · rw [hget 0 h00] at h2
            exact hz ⟨h, by rw [Option.some.inj h2]; rfl⟩
        have hlen : s.data.toList.length = s.size := rfl
        rw [hv]
        have e5 : 1 < s.size → ((s[0].toNat : Int) == 48) = false := fun h => by
          rw [beq_eq_false_iff_ne]; intro e; exact hz ⟨h, by omega⟩
        have way : ∀ {P : Prop}, (decide ((1 : Int) < s.size) = true → ((s[0].toNat : Int) == 48) = false → P) → (decide ((1 : Int) < s.size) = false → P) → P := fun p q => by
          by_cases h : 1 < s.size
          · exact p (by simp; omega) (e5 h)
          · exact q (by simp; omega)
        clear hz hv e5
        have HG := Lib.hid hget
        have HL := Lib.hid hlen
        clear hget hlen
        refine way (fun e3 e4 => ?_) (fun e3 => ?_)
        all_goals
          clear way
          go_enter Tryz.func32, Tryz.ntmps32
          go_wp2
          go_loopw [3, 4] (fun nv iv wr => ∃ (k a : Nat), k ≤ s.size ∧ iv = .int .i64 k ∧ nv = .int .i64 a ∧ svF 0 s.data.toList = svF a (s.data.toList.drop k) ∧ a < 10 ^ k ∧ wr = w) (fun _ iv _ => s.size - (intOf iv).toNat)
          case atStart => exact ⟨0, 0, Nat.zero_le _, rfl, rfl, rfl, by decide, rfl⟩
          case round =>
            obtain ⟨k, a, hk, rfl, rfl, hF, ha, rfl⟩ := hrel
            have h10 : (10 : Nat) ^ k ≤ 10 ^ 9 := Nat.pow_le_pow_right (by omega) (by omega)
            by_cases hlt : k < s.size
            · have hd : s.data.toList.drop k = s[k] :: s.data.toList.drop (k + 1) := by
                have h1 := HG.out k hlt
                have h2 : k < s.data.toList.length := by rw [HL.out]; exact hlt
                rw [List.drop_eq_getElem_cons h2]
                rw [List.getElem?_eq_getElem h2] at h1
                rw [Option.some.inj h1]
              rw [hd] at hF
              clear hd
              have hb := s[k].toNat_lt
              have HC := Lib.hid hF
              clear hF
              by_cases hd1 : s[k].toNat < 48
              · have t1 : decide ((s[k].toNat : Int) < 48) = true := by simp; omega
                rw [svF_bad (by omega)] at HC
                go_wp2
                go_ret
                exact ⟨by rw [HC.out]; rfl, rfl⟩
              · have t1 : decide ((s[k].toNat : Int) < 48) = false := by simp; omega
                by_cases hd2 : 57 < s[k].toNat
                · have t2 : decide ((57 : Int) < (s[k].toNat : Int)) = true := by simp; omega
                  rw [svF_bad (by omega)] at HC
                  go_wp2
                  go_ret
                  exact ⟨by rw [HC.out]; rfl, rfl⟩
                · have t2 : decide ((57 : Int) < (s[k].toNat : Int)) = false := by simp; omega
                  rw [svF_step (by omega)] at HC
                  have w1 : IntKind.i64.wrap ((a : Int) * 10) = (a : Int) * 10 := IntWalk.i64_in _ (by omega)
                  have w2 : IntKind.u8.wrap ((s[k].toNat : Int) - 48) = (s[k].toNat : Int) - 48 := by unfold IntKind.wrap; simp [IntKind.bits, IntKind.signed]; omega
                  have w4 : IntKind.i64.wrap ((s[k].toNat : Int) - 48) = (s[k].toNat : Int) - 48 := IntWalk.i64_in _ (by omega)
                  have w3 : IntKind.i64.wrap ((a : Int) * 10 + ((s[k].toNat : Int) - 48)) = ((a * 10 + (s[k].toNat - 48) : Nat) : Int) := by rw [IntWalk.i64_in _ (by omega)]; omega
                  have e6 : (a : Int) * 10 + ((s[k].toNat : Int) - 48) = ((a * 10 + (s[k].toNat - 48) : Nat) : Int) := by omega
                  rw [e6] at HC
                  have hp : a * 10 + (s[k].toNat - 48) < 10 ^ (k + 1) := by rw [Nat.pow_succ]; omega
                  have HP := Lib.hid hp
                  have HE := Lib.hid e6
                  clear e6 hp
                  go_wp2
                  go_roundw
                  case rel => exact ⟨k + 1, a * 10 + (s[k].toNat - 48), by omega, by go_num, by first | rfl | rw [HE.out] | simp [HE.out], HC.out, HP.out, trivial⟩
                  case measure => simp [intOf]; omega
            · obtain rfl : k = s.size := by omega
              have HF := Lib.hid hF
              clear hF
              have hE : s.data.toList.drop s.size = [] := by rw [← HL.out]; exact List.drop_length
              rw [hE] at HF
              clear hE
              go_wp2
              go_ret
              exact ⟨by rw [HF.out]; rfl, rfl⟩
theorem ext_data (s : ByteArray) (a b : Nat) : (s.extract a b).data.toList = (s.data.toList.take b).drop a := by
  rw [Lib.extract_data, List.drop_take]
set_option maxHeartbeats 1600000 in
theorem specSplit_any (s : ByteArray) (w : World) (hs : s.size ≤ 1048576) : Calls Tryz.prog 31 #[.string s, .int .u8 44] w fun e w' => ∃ (ao : Option Addr) (c : Nat) (ws : List ByteArray), e = .returned (.slice ao ws.length c) ∧ Own w' w.heap.size 9 ao ws.length c (ws.map Value.string) ∧ ws.map (·.data.toList) = splL s.data.toList ∧ (∀ x ∈ ws, x.size ≤ s.size) ∧ Below w.heap.size w w' := by
  have hget : ∀ (k : Nat) (h : k < s.size), s.data.toList[k]? = some s[k] := fun k h => by
    have h' : k < s.data.toList.length := h
    rw [List.getElem?_eq_getElem h']; rfl
  have hlen : s.data.toList.length = s.size := rfl
  have HG := Lib.hid hget
  have HL := Lib.hid hlen
  clear hget hlen
  go_enter Tryz.func31, Tryz.ntmps31
  go_wp2
  go_loopw [5, 6, 7] (fun ov av iv wr => ∃ (k a : Nat) (ao : Option Addr) (c m : Nat) (ws : List ByteArray), k ≤ s.size ∧ a ≤ k ∧ m ≤ a ∧ ws.length = m ∧ iv = .int .i64 k ∧ av = .int .i64 a ∧ ov = .slice ao m c ∧ Own wr w.heap.size 9 ao m c (ws.map Value.string) ∧ splL s.data.toList = ws.map (·.data.toList) ++ splL (s.data.toList.drop a) ∧ (44 : UInt8) ∉ (s.data.toList.drop a).take (k - a) ∧ (∀ x ∈ ws, x.size ≤ s.size) ∧ Below w.heap.size w wr) (fun _ _ iv _ => s.size - (intOf iv).toNat)
  case atStart => exact ⟨0, 0, _, _, 0, [], Nat.zero_le _, Nat.le_refl _, Nat.le_refl _, rfl, rfl, rfl, rfl, Own.empty_ w _ (Nat.le_refl _), rfl, by simp, by simp, below_alloc1 _ _⟩
  case round =>
    obtain ⟨k, a, ao, c, m, ws, hk, hak, hma, hwl, rfl, rfl, rfl, ho, hS, hno, hsz, hb⟩ := hrel
    have HO := Lib.hid ho
    have HS := Lib.hid hS
    have HN := Lib.hid hno
    have HZ := Lib.hid hsz
    have HW := Lib.hid hwl
    have hol := ho.lt
    have hbs := hb.size
    clear ho hS hno hsz hwl
    by_cases hlt : k < s.size
    · have hb8 := s[k].toNat_lt
      by_cases hc : s[k].toNat = 44
      · have t1 : ((s[k].toNat : Int) == 44) = true := by rw [hc]; rfl
        have hN1 : splL s.data.toList = (ws ++ [s.extract a k]).map (·.data.toList) ++ splL (s.data.toList.drop (k + 1)) := by
          have h2 : k < s.data.toList.length := by rw [HL.out]; exact hlt
          have h1 := HG.out k hlt
          rw [UInt8.toNat_inj.1 (show s[k].toNat = (44 : UInt8).toNat from hc), List.getElem?_eq_getElem h2] at h1
          have h3 : s.data.toList.drop k = 44 :: s.data.toList.drop (k + 1) := by rw [List.drop_eq_getElem_cons h2, Option.some.inj h1]
          have h4 : s.data.toList.drop a = (s.data.toList.drop a).take (k - a) ++ 44 :: s.data.toList.drop (k + 1) := by
            rw [← h3]
            have : (s.data.toList.drop a).drop (k - a) = s.data.toList.drop k := by rw [List.drop_drop]; congr 1; omega
            rw [← this, List.take_append_drop]
          rw [HS.out, h4, splL_at _ HN.out, List.map_append, List.append_assoc]
          congr 1
          rw [List.map_cons, List.map_nil, ext_data, List.take_drop, show a + (k - a) = k by omega]
          rfl
        have HN1 := Lib.hid hN1
        have HT := Lib.hid (show (ws ++ [s.extract a k]).map Value.string = ws.map Value.string ++ [.string (s.extract a k)] by simp)
        have HX := Lib.hid (show (s.extract a k).size ≤ s.size by rw [ByteArray.size_extract]; omega)
        clear hN1 hc
        go_wp2_with (at_builtin; refine wpList_ap1 etStr _ rfl _ _ rfl w.heap.size ao m c _ rfl HO.out (.string (s.extract a k)) rfl rfl (by omega) hbs ?_; intro ao2 c2 w2 ho2 hg2 hblk)
        have HO2 := Lib.hid ho2
        clear ho2 hblk
        go_wp2
        go_roundw
        case rel => exact ⟨k + 1, k + 1, ao2, c2, m + 1, ws ++ [s.extract a k], by omega, Nat.le_refl _, by omega, by rw [List.length_append, HW.out]; rfl, by go_num, by go_num, rfl, by rw [HT.out]; exact HO2.out, HN1.out, by simp, fun x hx => by rw [List.mem_append] at hx; rcases hx with hx | hx; exact HZ.out x hx; simp at hx; subst hx; exact HX.out, hb.grown hg2 hbs (fun g hg => (hol g hg).1)⟩
        case measure => simp [intOf]; omega
      · have t1 : ((s[k].toNat : Int) == 44) = false := by rw [beq_eq_false_iff_ne]; omega
        have hN1 : (44 : UInt8) ∉ (s.data.toList.drop a).take (k + 1 - a) := by
          have h2 : k < s.data.toList.length := by rw [HL.out]; exact hlt
          have h1 := HG.out k hlt
          rw [show k + 1 - a = (k - a) + 1 by omega, List.take_add_one, List.getElem?_drop, show a + (k - a) = k by omega, h1]
          intro h
          rw [List.mem_append] at h
          rcases h with h | h
          · exact HN.out h
          · simp at h; exact hc (by rw [← h]; rfl)
        have HN1 := Lib.hid hN1
        clear hN1 hc
        go_wp2
        go_roundw
        case rel => exact ⟨k + 1, a, ao, c, m, ws, by omega, by omega, hma, HW.out, by go_num, rfl, rfl, HO.out, HS.out, HN1.out, HZ.out, hb⟩
        case measure => simp [intOf]; omega
    · obtain rfl : k = s.size := by omega
      have hF : (ws ++ [s.extract a s.size]).map (·.data.toList) = splL s.data.toList := by
        have h4 : (s.data.toList.drop a).take (s.size - a) = s.data.toList.drop a := List.take_of_length_le (by rw [List.length_drop, HL.out]; exact Nat.le_refl _)
        have hn := HN.out
        rw [h4] at hn
        rw [HS.out, splL_none hn, List.map_append, List.map_cons, List.map_nil, ext_data, List.take_of_length_le (by rw [HL.out]; exact Nat.le_refl _)]
      have HF := Lib.hid hF
      have HX := Lib.hid (show (s.extract a s.size).size ≤ s.size by rw [ByteArray.size_extract]; omega)
      clear hF
      go_wp2_with (at_builtin; refine wpList_ap1 etStr _ rfl _ _ rfl w.heap.size ao m c _ rfl HO.out (.string (s.extract a s.size)) rfl rfl (by omega) hbs ?_; intro ao2 c2 w2 ho2 hg2 hblk)
      have HO2 := Lib.hid ho2
      clear ho2 hblk
      go_wp2
      go_ret
      exact ⟨ao2, c2, ws ++ [s.extract a s.size], by rw [List.length_append, HW.out]; rfl, by rw [List.length_append, HW.out, List.map_append]; exact HO2.out, HF.out, fun x hx => by rw [List.mem_append] at hx; rcases hx with hx | hx; exact HZ.out x hx; simp at hx; subst hx; exact HX.out, hb.grown hg2 hbs (fun g hg => (hol g hg).1)⟩
end Go.Proofs.YtljimlejcecleaaGreatDoor

/- readNumber, the program's. -/
namespace Go.Proofs.YtljimlejcecleaaGreatDoor
open Go.RowKit

theorem parse_in {l : List UInt8} {v : Int} (h : Lib.parseIntB 64 l = .ok v) : -9223372036854775808 ≤ v ∧ v ≤ 9223372036854775807 := by
  unfold Lib.parseIntB at h
  split at h
  · cases h
  · rename_i c r
    dsimp only at h
    split at h
    · cases h
    · cases h
    · rename_i u _
      split at h
      · cases h
      · rename_i h1
        split at h
        · cases h
        · rename_i h2
          injection h with h
          subst h
          by_cases hn : c.toNat = 45
          · simp only [hn, not_true, false_and, if_true, true_and] at h1 h2 ⊢
            omega
          · simp only [hn, not_false_iff, true_and, if_false] at h1 h2 ⊢
            omega
/-- what the listed variables hold -/
structure LF (w : World) : Prop where
  mx : ∃ m : Int, w.cell? ⟨Tryz.laysM146_ren.g 1, 0, none⟩ = some (.int .i64 m)
  tab : Lib.TabIs Tryz.prog w "internal/strconv.uint64pow10" .u64 Lib.pow10Tab
  es : ∃ (tp : TypeId) (p : Value), w.var? Tryz.prog "strconv.ErrSyntax" = some #[.iface tp p]
  er : ∃ (tp : TypeId) (p : Value), w.var? Tryz.prog "strconv.ErrRange" = some #[.iface tp p]
theorem var_kept {P : Program} {w w' : World} {n : String} {cs : Array Value} (h : w.var? P n = some cs) (hb : Below w.heap.size w w') : w'.var? P n = some cs := by
  unfold World.var? at h ⊢
  cases hg : P.globalNamed n with
  | none => rw [hg] at h; exact h
  | some g =>
    rw [hg] at h
    simp only [Option.bind_some] at h ⊢
    have hlt : g < w.heap.size := by
      rcases Nat.lt_or_ge g w.heap.size with h1 | h1
      · exact h1
      · rw [Array.getElem?_eq_none h1] at h; simp at h
    rw [hb.block g hlt]
    exact h
theorem LF.below {w w' : World} (h : LF w) (hb : Below w.heap.size w w') : LF w' := by
  obtain ⟨⟨m, hm⟩, ht, ⟨t1, p1, h1⟩, t2, p2, h2⟩ := h
  exact ⟨⟨m, (World.cell?_of_block (hb.block _ (World.block_lt_of_cell? w _ hm))).trans hm⟩, var_kept ht hb, ⟨t1, p1, var_kept h1 hb⟩, t2, p2, var_kept h2 hb⟩
theorem decAll_any (z : Int) (w : World) (hL : LF w) (h0 : -9223372036854775808 ≤ z ∧ z ≤ 9223372036854775807) : Calls Tryz.prog 37 #[.int .i64 z] w fun e w' => e = .returned (.string ⟨(Lib.itoa z).toArray⟩) ∧ Below w.heap.size w w' := by
  go_enter Tryz.func37, Tryz.ntmps37
  go_wp2_with fail
  refine (Tryz.strconv_FormatInt_10 z h0.1 h0.2 w hL.tab).mono ?_
  rintro e w' ⟨rfl, hb⟩
  have hB : Below w.heap.size w w' := by
    obtain ⟨k, os, rfl⟩ := hb
    exact Lib.below_grow _ w (Nat.le_refl _) k os
  go_wp2
  go_ret
  exact ⟨rfl, hB⟩
set_option maxHeartbeats 1600000 in
theorem readNumber_any (s : ByteArray) (w : World) (hL : LF w) (hs : s.size ≤ 1048576) : Calls Tryz.prog 42 #[.string s] w fun e w' => ∃ b : Bool, e = .returned (.tuple #[.int .i64 (pvL s.data.toList), .bool b]) ∧ Below w.heap.size w w' := by
  have hu : pvL s.data.toList = (match Lib.parseIntB 64 s.data.toList with | .ok v => v | .range => Lib.intSat 64 s.data.toList | _ => 0) := rfl
  rcases h : Lib.parseIntB 64 s.data.toList with v | _ | _
  · rw [h] at hu
    rw [show pvL s.data.toList = v from hu]
    have hv := parse_in h
    have HK := Lib.hid (Tryz.strconv_ParseInt_10_at64_ok s (by omega) v h w)
    clear hu h
    go_enter Tryz.func42, Tryz.ntmps42
    go_wp2_with fail
    refine HK.out.mono ?_
    rintro e w1 ⟨rfl, hw1⟩
    have b1 : Below w.heap.size w w1 := by
      rcases hw1 with rfl | ⟨t, rfl⟩
      · exact Below.refl _ _
      · exact Lib.bytesWorld_below _ _ _
    clear hw1
    go_wp2_with fail
    refine (decAll_any v w1 (hL.below b1) hv).mono ?_
    rintro e w2 ⟨rfl, b2⟩
    go_wp2
    exact bodyPost_ret (v := .tuple #[.int .i64 v, .bool (Lib.itoa v == s.toList)]) (by simp [results, Tryz.f42, go_sem]) rfl ⟨_, rfl, b1.trans (b2.mono b1.size)⟩
  · rw [h] at hu
    rw [show pvL s.data.toList = 0 from hu]
    obtain ⟨tp, p, hes⟩ := hL.es
    have HK := Lib.hid (Any.strconv_ParseInt_10_at64_syntax_var Tryz.laysC174 s (by omega) h tp p w hes)
    clear hu h
    go_enter Tryz.func42, Tryz.ntmps42
    go_wp2_with fail
    refine HK.out.mono ?_
    rintro e w1 ⟨N, rfl, -, -, b1⟩
    go_wp2
    exact bodyPost_ret (v := .tuple #[.int .i64 0, .bool false]) (by simp [results, Tryz.f42, go_sem]) rfl ⟨_, rfl, b1⟩
  · rw [h] at hu
    rw [show pvL s.data.toList = Lib.intSat 64 s.data.toList from hu]
    obtain ⟨tp, p, her⟩ := hL.er
    have HK := Lib.hid (Any.strconv_ParseInt_10_at64_range_var Tryz.laysC174 s (by omega) h tp p w her)
    generalize Lib.intSat 64 s.data.toList = sat at *
    clear hu h
    go_enter Tryz.func42, Tryz.ntmps42
    go_wp2_with fail
    refine HK.out.mono ?_
    rintro e w1 ⟨N, rfl, -, -, b1⟩
    go_wp2
    exact bodyPost_ret (v := .tuple #[.int .i64 sat, .bool false]) (by simp [results, Tryz.f42, go_sem]) rfl ⟨_, rfl, b1⟩
end Go.Proofs.YtljimlejcecleaaGreatDoor

/- ParseDiagram, the reference's and the program's. -/
namespace Go.Proofs.YtljimlejcecleaaGreatDoor
open Go.RowKit

theorem prR_yes {t : ByteArray} (h : isDiag (pnL (midL t.data.toList)) = true ∧ dgS (pnL (midL t.data.toList)) = t) : prR t = pnL (midL t.data.toList) ∧ prC t = 0 := by unfold prR prC; rw [if_pos h, if_pos h]; exact ⟨rfl, rfl⟩
theorem prR_no {t : ByteArray} (h : ¬ (isDiag (pnL (midL t.data.toList)) = true ∧ dgS (pnL (midL t.data.toList)) = t)) : prR t = [] ∧ prC t = 6 := by unfold prR prC; rw [if_neg h, if_neg h]; exact ⟨rfl, rfl⟩
theorem pr_off {t : ByteArray} (h : t.size < 2 ∨ 100 < t.size ∨ t.data.toList[0]? ≠ some 123 ∨ t.data.toList[t.size - 1]? ≠ some 125) : prR t = [] ∧ prC t = 6 := prR_no fun ⟨h1, h2⟩ => by
  have := dgS_few h1
  rw [h2] at this
  rcases h with h | h | h | h
  · omega
  · omega
  · exact h this.2.2.1
  · exact h this.2.2.2
theorem midL_ext (t : ByteArray) : (t.extract 1 (t.size - 1)).data.toList = midL t.data.toList := by
  rw [Lib.extract_data]; unfold midL; rw [show t.data.toList.length = t.size from rfl, show t.size - 1 - 1 = t.size - 2 by omega]
theorem Own.typP {w : World} {lo E n c : Nat} {ao : Option Addr} {xs : List Value} (h : Own w lo E ao n c xs) {g : Nat} (hg : bk ao = some g) : ∃ cs, w.heap[g]? = some (.cells cs E (0, 0)) := by
  rcases h.1.2 with h2 | ⟨g', cap, cur, hv, _, hh, _⟩
  · have h2 := h2.1
    injection h2 with h3; subst h3; cases hg
  · injection hv with h3; subst h3
    obtain rfl := Option.some.inj hg
    exact ⟨cur, hh⟩
theorem Own.otherE {w : World} {lo lo' E E' n c n' c' : Nat} {ao ao' : Option Addr} {xs xs' : List Value} (h : Own w lo E ao n c xs) (h' : Own w lo' E' ao' n' c' xs') (hE : E ≠ E') : bk ao = none ∨ bk ao ≠ bk ao' := by
  cases hb : bk ao with
  | none => exact .inl rfl
  | some g =>
    refine .inr fun e => ?_
    obtain ⟨cs, h1⟩ := h.typP hb
    obtain ⟨cs', h2⟩ := h'.typP e.symm
    rw [h1] at h2
    injection h2 with h2
    injection h2 with _ h2
    exact hE h2
def wget (ws : List ByteArray) (k : Nat) : ByteArray := ws.getD k ⟨#[]⟩
theorem wget_lt {ws : List ByteArray} {k : Nat} (h : k < ws.length) : ws[k]? = some (wget ws k) := by simp [wget, h]
theorem snL_of {l : List UInt8} {ws : List ByteArray} (hl : l ≠ []) (hw : ws.map (·.data.toList) = splL l) : snL l = ws.map fun x => swL x.data.toList := by
  unfold snL
  rw [if_neg hl, ← hw, List.map_map]; rfl
def swN (ws : List ByteArray) (k : Nat) : List Int := (ws.take k).map fun x => swL x.data.toList
theorem swN_succ {ws : List ByteArray} {k : Nat} (h : k < ws.length) : swN ws (k + 1) = swN ws k ++ [swL (wget ws k).data.toList] := by
  unfold swN
  have h1 := wget_lt h
  rw [List.getElem?_eq_getElem h] at h1
  rw [List.take_succ_eq_append_getElem h, List.map_append, Option.some.inj h1]; rfl
set_option maxHeartbeats 1600000 in
theorem specParse_any (t : ByteArray) (w : World) (hs : t.size ≤ 1048576) : Calls Tryz.prog 14 #[.string t] w fun e w' => ∃ v, e = .returned (.tuple #[v, .int .i64 (prC t)]) ∧ OwnS 2 w' w.heap.size w'.heap.size v (prR t) ∧ Below w.heap.size w w' := by
  have hlen : t.data.toList.length = t.size := rfl
  have hget : ∀ (k : Nat) (h : k < t.size), t.data.toList[k]? = some t[k] := fun k h => by
    have h' : k < t.data.toList.length := h
    rw [List.getElem?_eq_getElem h']; rfl
  have no : prR t = [] ∧ prC t = 6 → Calls Tryz.prog 14 #[.string t] w (fun e w' => e = .returned (.tuple #[.slice none 0 0, .int .i64 6]) ∧ Below w.heap.size w w') → Calls Tryz.prog 14 #[.string t] w fun e w' => ∃ v, e = .returned (.tuple #[v, .int .i64 (prC t)]) ∧ OwnS 2 w' w.heap.size w'.heap.size v (prR t) ∧ Below w.heap.size w w' := fun h hc => hc.mono fun e w' ⟨h1, h2⟩ => by
    rw [h.1, h.2]; exact ⟨_, h1, ⟨⟨none, 0, 0, rfl, Own.nil_ _ _ _⟩, in_nil _ _ _ _⟩, h2⟩
  by_cases h2 : t.size < 2
  · refine no (pr_off (.inl h2)) ?_
    have e1 : decide ((t.size : Int) < 2) = true := by simp; omega
    clear no hget hlen
    go_enter Tryz.func14, Tryz.ntmps14
    go_wp2
    exact bodyPost_ret (v := .tuple #[.slice none 0 0, .int .i64 6]) (by simp [results, Tryz.f14, go_sem]) rfl ⟨rfl, Below.refl _ _⟩
  · have e1 : decide ((t.size : Int) < 2) = false := by simp; omega
    have h00 : 0 < t.size := by omega
    have h11 : t.size - 1 < t.size := by omega
    by_cases ha : t[0].toNat = 123
    · have e2 : ((t[0].toNat : Int) != 123) = false := by rw [ha]; rfl
      by_cases hz : t[t.size - 1].toNat = 125
      · have e3 : ((t[t.size - 1].toNat : Int) != 125) = false := by rw [hz]; rfl
        clear no
        obtain ⟨R, hR⟩ : ∃ R, prR t = R := ⟨_, rfl⟩
        obtain ⟨C, hC⟩ : ∃ C, prC t = C := ⟨_, rfl⟩
        rw [hR, hC]
        have hR := Lib.hid hR
        have hC := Lib.hid hC
        have HX := Lib.hid (midL_ext t)
        have HSZ := Lib.hid (show (t.extract 1 (t.size - 1)).size ≤ 1048576 by rw [ByteArray.size_extract]; omega)
        by_cases hem : (t.extract 1 (t.size - 1)).data.toList = []
        · have e4 : (t.extract 1 (t.size - 1)).toList.isEmpty = true := by rw [Lib.toList_data, hem]; rfl
          have HZ := Lib.hid (show snL (midL t.data.toList) = [] by rw [← HX.out, hem]; rfl)
          have hb := below_alloc1 w (.cells #[] 2)
          have ho := Own.empty_ w (base := w.heap.size) 2 (Nat.le_refl _)
          clear hem
          go_enter Tryz.func14, Tryz.ntmps14
          go_upto_region 13 with fail
          cases hd : isDiag [] with
          | false =>
            have hn := prR_no (t := t) fun h => by
              have := (pr_spec t).2 h
              rw [HZ.out, hd] at this; cases this.1
            obtain rfl := hn.1.symm.trans hR.out
            obtain rfl := hn.2.symm.trans hC.out
            have HD := Lib.hid hd
            clear hd hn
            go_wp2_with (go_at_call 18; refine (spec12Is_any (some ⟨w.heap.size, 0, none⟩) 0 0 [] _ (show Ints (w.alloc (.cells #[] 2)) (some ⟨w.heap.size, 0, none⟩) 0 [] from Ints.nil_ _ _)).mono ?_; rintro e w' ⟨rfl, rfl⟩; rw [HD.out])
            exact bodyPost_ret (v := .tuple #[.slice none 0 0, .int .i64 6]) (by simp [results, Tryz.f14, go_sem]) rfl ⟨_, rfl, ⟨⟨none, 0, 0, rfl, Own.nil_ _ _ _⟩, in_nil _ _ _ _⟩, hb⟩
          | true =>
            have HD := Lib.hid hd
            have HI := Lib.hid (show Ints (w.alloc (.cells #[] 2)) (some ⟨w.heap.size, 0, none⟩) 0 [] from Ints.nil_ _ _)
            by_cases ht : dgS [] = t
            · have hn := prR_yes (t := t) ((pr_spec t).1 (by rw [HZ.out]; exact ⟨hd, ht⟩))
              have hzz : pnL (midL t.data.toList) = [] := (pr_of hd ht).1
              rw [hzz] at hn
              obtain rfl := hn.1.symm.trans hR.out
              obtain rfl := hn.2.symm.trans hC.out
              have HT := Lib.hid (show ((dgS []).toList == t.toList) = true by rw [ht]; simp)
              clear hd hn hzz ht
              go_wp2_with (first | (go_at_call 18; refine (spec12Is_any (some ⟨w.heap.size, 0, none⟩) 0 0 [] _ HI.out).mono ?_; rintro e w' ⟨rfl, rfl⟩; rw [HD.out]) | (go_at_call 19; refine (specText_any (some ⟨w.heap.size, 0, none⟩) 0 0 [] _ HI.out HD.out).mono ?_; rintro e w9 ⟨rfl, b9⟩; have ht1 := HT.out))
              exact bodyPost_ret (v := .tuple #[.slice (some ⟨w.heap.size, 0, none⟩) 0 0, .int .i64 0]) (by simp [results, Tryz.f14, go_sem]) rfl ⟨_, rfl, ⟨⟨_, _, _, rfl, (ho.below b9).mono (Nat.zero_le _)⟩, in_slice fun g hg => ⟨(ho.lt g hg).1, Nat.lt_of_lt_of_le (ho.lt g hg).2 b9.size⟩⟩, hb.trans (b9.mono hb.size)⟩
            · have hn := prR_no (t := t) fun h => by
                have := (pr_spec t).2 h
                rw [HZ.out] at this; exact ht this.2
              obtain rfl := hn.1.symm.trans hR.out
              obtain rfl := hn.2.symm.trans hC.out
              have HT := Lib.hid (show ((dgS []).toList == t.toList) = false by rw [beq_eq_false_iff_ne, Lib.toList_data, Lib.toList_data]; exact fun e => ht (bytes_ext e))
              clear hd hn ht
              go_wp2_with (first | (go_at_call 18; refine (spec12Is_any (some ⟨w.heap.size, 0, none⟩) 0 0 [] _ HI.out).mono ?_; rintro e w' ⟨rfl, rfl⟩; rw [HD.out]) | (go_at_call 19; refine (specText_any (some ⟨w.heap.size, 0, none⟩) 0 0 [] _ HI.out HD.out).mono ?_; rintro e w9 ⟨rfl, b9⟩; have ht1 := HT.out))
              exact bodyPost_ret (v := .tuple #[.slice none 0 0, .int .i64 6]) (by simp [results, Tryz.f14, go_sem]) rfl ⟨_, rfl, ⟨⟨none, 0, 0, rfl, Own.nil_ _ _ _⟩, in_nil _ _ _ _⟩, hb.trans (b9.mono hb.size)⟩
        · have e4 : (t.extract 1 (t.size - 1)).toList.isEmpty = false := by
            rw [Lib.toList_data]
            cases h : (t.extract 1 (t.size - 1)).data.toList with
            | nil => exact absurd h hem
            | cons a r => rfl
          go_enter Tryz.func14, Tryz.ntmps14
          go_wp2_with (go_at_call 31; refine (specSplit_any _ _ HSZ.out).mono ?_; rintro e w1 ⟨aw, cw, ws, rfl, hw, hws, hwz, b1⟩)
          rw [HX.out] at hws hem
          have HZ := Lib.hid (snL_of hem hws)
          have HWZ := Lib.hid hwz
          have ha := below_alloc1 w (.cells #[] 2)
          have hb1 : Below w.heap.size w w1 := ha.trans (b1.mono (by simp))
          have ho := (Own.empty_ w (base := w.heap.size) 2 (Nat.le_refl _)).below b1
          have hbig := hw.2
          clear hwz hws hem b1 ha
          go_loopw [4, 7] (fun ov iv wr => ∃ (k : Nat) (ao : Option Addr) (c : Nat), k ≤ ws.length ∧ iv = .int .i64 k ∧ ov = .slice ao k c ∧ Own wr w.heap.size 2 ao k c ((swN ws k).map (Value.int .i64)) ∧ Own wr 0 9 aw ws.length cw (ws.map Value.string) ∧ Below w.heap.size w wr) (fun _ iv _ => ws.length - (intOf iv).toNat)
          case atStart => exact ⟨0, _, _, Nat.zero_le _, rfl, rfl, ho, hw.mono (Nat.zero_le _), hb1⟩
          case round =>
            clear ho hw hb1
            obtain ⟨k, ao, c, hk, rfl, rfl, ho, hw, hb⟩ := hrel
            have hbs := hb.size
            have hol := ho.lt
            by_cases hlt : k < ws.length
            · obtain ⟨g, rfl, -, hgl, -, hcl, -⟩ := hw.form (by omega)
              have hc : wr.cell? ⟨g, k, none⟩ = some (.string (wget ws k)) := by rw [hcl k hlt, List.getElem?_map, wget_lt hlt]; rfl
              have hT : (swN ws (k + 1)).map (Value.int .i64) = (swN ws k).map (Value.int .i64) ++ [.int .i64 (swL (wget ws k).data.toList)] := by rw [swN_succ hlt]; simp
              have HT := Lib.hid hT
              have hxs := HWZ.out (wget ws k) (List.mem_of_getElem? (wget_lt hlt))
              have HXS := Lib.hid (Nat.le_trans hxs HSZ.out)
              have hne := hw.otherE ho (by decide)
              have HO := Lib.hid ho
              have HW := Lib.hid hw
              clear hT hxs hcl ho hw
              by_cases hq : (wget ws k).data.toList = [105, 110, 102]
              · have e5 : ((wget ws k).toList == [105, 110, 102]) = true := by rw [Lib.toList_data, hq]; rfl
                have HV := Lib.hid (show swL (wget ws k).data.toList = 0 by unfold swL; rw [if_pos hq])
                clear hq
                go_wp2_with (at_builtin; refine wpList_ap1 etI _ rfl _ _ rfl w.heap.size ao k c _ rfl HO.out (.int .i64 0) rfl rfl (by omega) hbs ?_; intro ao2 c2 w2 ho2 hg2 hblk)
                have HO2 := Lib.hid ho2
                have HW2 := Lib.hid (HW.out.kept hg2 hne)
                clear ho2 hblk hne
                go_wp2
                go_roundw
                case rel => exact ⟨k + 1, ao2, c2, by omega, by go_num, rfl, by rw [HT.out, HV.out]; exact HO2.out, HW2.out, hb.grown hg2 hbs (fun g hg => (hol g hg).1)⟩
                case measure => simp [intOf]; omega
              · have e5 : ((wget ws k).toList == [105, 110, 102]) = false := by rw [Lib.toList_data, beq_eq_false_iff_ne]; exact hq
                have HV := Lib.hid (show swL (wget ws k).data.toList = svL (wget ws k).data.toList by unfold swL; rw [if_neg hq])
                clear hq
                go_wp2_with (first | (go_at_call 32; refine (specValue_any _ _ HXS.out).mono ?_; rintro e w' ⟨rfl, rfl⟩) | (at_builtin; refine wpList_ap1 etI _ rfl _ _ rfl w.heap.size ao k c _ rfl HO.out (.int .i64 (svL (wget ws k).data.toList)) rfl rfl (by omega) hbs ?_; intro ao2 c2 w2 ho2 hg2 hblk))
                have HO2 := Lib.hid ho2
                have HW2 := Lib.hid (HW.out.kept hg2 hne)
                clear ho2 hblk hne
                go_wp2
                go_roundw
                case rel => exact ⟨k + 1, ao2, c2, by omega, by go_num, rfl, by rw [HT.out, HV.out]; exact HO2.out, HW2.out, hb.grown hg2 hbs (fun g hg => (hol g hg).1)⟩
                case measure => simp [intOf]; omega
            · obtain rfl : k = ws.length := by omega
              have hN : swN ws ws.length = ws.map fun x => swL x.data.toList := by unfold swN; rw [List.take_length]
              rw [hN] at ho
              generalize (ws.map fun x => swL x.data.toList) = zs at *
              generalize ws.length = n at *
              clear hw hN hlt hk HWZ hbig
              go_upto_region 13 with fail
              cases hd : isDiag zs with
              | false =>
                have hn := prR_no (t := t) fun h => by
                  have := (pr_spec t).2 h
                  rw [HZ.out, hd] at this; cases this.1
                obtain rfl := hn.1.symm.trans hR.out
                obtain rfl := hn.2.symm.trans hC.out
                have HD := Lib.hid hd
                clear hd hn
                go_wp2_with (go_at_call 18; refine (spec12Is_any ao n c zs _ ho.ints).mono ?_; rintro e w' ⟨rfl, rfl⟩; rw [HD.out])
                exact bodyPost_ret (v := .tuple #[.slice none 0 0, .int .i64 6]) (by simp [results, Tryz.f14, go_sem]) rfl ⟨_, rfl, ⟨⟨none, 0, 0, rfl, Own.nil_ _ _ _⟩, in_nil _ _ _ _⟩, hb⟩
              | true =>
                have HD := Lib.hid hd
                have HI := Lib.hid ho.ints
                by_cases ht : dgS zs = t
                · have hn := prR_yes (t := t) ((pr_spec t).1 (by rw [HZ.out]; exact ⟨hd, ht⟩))
                  have hzz : pnL (midL t.data.toList) = zs := (pr_of hd ht).1
                  rw [hzz] at hn
                  obtain rfl := hn.1.symm.trans hR.out
                  obtain rfl := hn.2.symm.trans hC.out
                  have HT := Lib.hid (show ((dgS zs).toList == t.toList) = true by rw [ht]; simp)
                  clear hd hn hzz ht
                  go_wp2_with (first | (go_at_call 18; refine (spec12Is_any ao n c zs _ HI.out).mono ?_; rintro e w' ⟨rfl, rfl⟩; rw [HD.out]) | (go_at_call 19; refine (specText_any ao n c zs _ HI.out HD.out).mono ?_; rintro e w9 ⟨rfl, b9⟩; have ht1 := HT.out))
                  exact bodyPost_ret (v := .tuple #[.slice ao n c, .int .i64 0]) (by simp [results, Tryz.f14, go_sem]) rfl ⟨_, rfl, ⟨⟨_, _, _, rfl, (ho.below b9).mono (Nat.zero_le _)⟩, in_slice fun g hg => ⟨(ho.lt g hg).1, Nat.lt_of_lt_of_le (ho.lt g hg).2 b9.size⟩⟩, hb.trans (b9.mono hb.size)⟩
                · have hn := prR_no (t := t) fun h => by
                    have := (pr_spec t).2 h
                    rw [HZ.out] at this; exact ht this.2
                  obtain rfl := hn.1.symm.trans hR.out
                  obtain rfl := hn.2.symm.trans hC.out
                  have HT := Lib.hid (show ((dgS zs).toList == t.toList) = false by rw [beq_eq_false_iff_ne, Lib.toList_data, Lib.toList_data]; exact fun e => ht (bytes_ext e))
                  clear hd hn ht
                  go_wp2_with (first | (go_at_call 18; refine (spec12Is_any ao n c zs _ HI.out).mono ?_; rintro e w' ⟨rfl, rfl⟩; rw [HD.out]) | (go_at_call 19; refine (specText_any ao n c zs _ HI.out HD.out).mono ?_; rintro e w9 ⟨rfl, b9⟩; have ht1 := HT.out))
                  exact bodyPost_ret (v := .tuple #[.slice none 0 0, .int .i64 6]) (by simp [results, Tryz.f14, go_sem]) rfl ⟨_, rfl, ⟨⟨none, 0, 0, rfl, Own.nil_ _ _ _⟩, in_nil _ _ _ _⟩, hb.trans (b9.mono hb.size)⟩
      · have e3 : ((t[t.size - 1].toNat : Int) != 125) = true := by rw [bne_iff_ne]; omega
        refine no (pr_off (.inr (.inr (.inr fun h => ?_)))) ?_
        · rw [hget _ h11] at h
          exact hz (by rw [Option.some.inj h]; rfl)
        · clear no hget hlen
          go_enter Tryz.func14, Tryz.ntmps14
          go_wp2
          exact bodyPost_ret (v := .tuple #[.slice none 0 0, .int .i64 6]) (by simp [results, Tryz.f14, go_sem]) rfl ⟨rfl, Below.refl _ _⟩
    · have e2 : ((t[0].toNat : Int) != 123) = true := by rw [bne_iff_ne]; omega
      refine no (pr_off (.inr (.inr (.inl fun h => ?_)))) ?_
      · rw [hget 0 h00] at h
        exact ha (by rw [Option.some.inj h]; rfl)
      · clear no hget hlen
        go_enter Tryz.func14, Tryz.ntmps14
        go_wp2
        exact bodyPost_ret (v := .tuple #[.slice none 0 0, .int .i64 6]) (by simp [results, Tryz.f14, go_sem]) rfl ⟨rfl, Below.refl _ _⟩
end Go.Proofs.YtljimlejcecleaaGreatDoor
