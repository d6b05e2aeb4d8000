/- Words for the walks of this seat: integer slices that are read, rows that a call owns, and the walk's laws on make and append in those words. No program in sight. -/
import Derived.WalkKit
import Derived.WalkSpells
import Derived.WalkLawsBesides
import Derived.Lib.Hide
import Derived.BigQuiet
import Derived.Deep.QuietTactic
import Derived.Deep.Draws
import Derived.Deep.AppendLies
import Derived.Maps.AppendAt
import Derived.Test.YtnfkhgamnapgmaaRows
import Derived.ProofKit
import Derived.OpenShut
import Derived.SizedLaws
import Derived.ChangeSame
import Derived.Deep.Slices
import Derived.Test.YtnfkhgamnapgmaaProg
import Derived.RegionTactic
namespace Go.Proofs.Ytnfkhgamnapgmaa
open Go.RowKit

/-- element k of a list of integers, 0 behind its end; closed to the walk's simp -/
def iget (zs : List Int) (k : Nat) : Int := zs.getD k 0
theorem iget_lt {zs : List Int} {k : Nat} (h : k < zs.length) : iget zs k = zs[k] := by simp [iget, h]
theorem iget_mem {zs : List Int} {k : Nat} (h : k < zs.length) : iget zs k ∈ zs := by rw [iget_lt h]; exact List.getElem_mem h
theorem take_iget {zs : List Int} {k : Nat} (h : k < zs.length) : zs.take (k + 1) = zs.take k ++ [iget zs k] := by
  rw [List.take_succ_eq_append_getElem h, iget_lt h]
theorem iget_of_get? {zs : List Int} {k : Nat} {z : Int} (h : zs[k]? = some z) : iget zs k = z := by simp [iget, h]
theorem iget_ext {za zb : List Int} (hl : za.length = zb.length) (h : ∀ k, k < za.length → iget za k = iget zb k) : za = zb := by
  apply List.ext_getElem hl
  intro k h1 h2
  rw [← iget_lt h1, ← iget_lt h2]; exact h k h1
theorem all_take_iget {zs : List Int} {p : Int → Bool} {k : Nat} (h : k < zs.length) : (zs.take (k + 1)).all p = ((zs.take k).all p && p (iget zs k)) := by
  rw [take_iget h, List.all_append]; simp
theorem any_take_iget {zs : List Int} {p : Int → Bool} {k : Nat} (h : k < zs.length) : (zs.take (k + 1)).any p = ((zs.take k).any p || p (iget zs k)) := by
  rw [take_iget h, List.any_append]; simp
theorem all_of_take {zs : List Int} {p : Int → Bool} {k : Nat} (h : zs.length ≤ k) : (zs.take k).all p = zs.all p := by rw [List.take_of_length_le h]
theorem all_false_at {zs : List Int} {p : Int → Bool} {k : Nat} (h : k < zs.length) (hp : p (iget zs k) = false) : zs.all p = false := by
  rw [List.all_eq_false]; exact ⟨_, iget_mem h, by simp [hp]⟩

/-- the block of a slice's address -/
def bk (ao : Option Addr) : Option Nat := ao.map (·.block)
theorem ownBlock_slice (ao : Option Addr) (n c : Nat) : (Value.slice ao n c).ownBlock = bk ao := by cases ao <;> rfl

/-- the slice at ao, of n cells, holds xs -/
def Vals (w : World) (ao : Option Addr) (n : Nat) (xs : List Value) : Prop :=
  xs.length = n ∧ n ≤ 17592186044416 ∧ (0 < n → ∃ b off, ao = some ⟨b, off, none⟩ ∧ ∀ j u, xs[j]? = some u → w.cell? ⟨b, off + j, none⟩ = some u)

/-- the slice at ao, of n integers, reads as zs -/
def Ints (w : World) (ao : Option Addr) (n : Nat) (zs : List Int) : Prop :=
  zs.length = n ∧ n ≤ 17592186044416 ∧ (0 < n → ∃ b off, ao = some ⟨b, off, none⟩ ∧ ∀ j, j < n → w.cell? ⟨b, off + j, none⟩ = some (.int .i64 (iget zs j)))

theorem Ints.at_ {w : World} {ao : Option Addr} {n : Nat} {zs : List Int} (h : Ints w ao n zs) {k : Nat} (hk : k < n) :
    ∃ b off, ao = some ⟨b, off, none⟩ ∧ w.cell? ⟨b, off + k, none⟩ = some (.int .i64 (iget zs k)) := by
  obtain ⟨b, off, e, hc⟩ := h.2.2 (by omega)
  exact ⟨b, off, e, hc k hk⟩
theorem Ints.all_ {w : World} {ao : Option Addr} {n : Nat} {zs : List Int} (h : Ints w ao n zs) (hn : 0 < n) :
    ∃ b off, ao = some ⟨b, off, none⟩ ∧ b < w.heap.size ∧ ∀ j, j < n → w.cell? ⟨b, off + j, none⟩ = some (.int .i64 (iget zs j)) := by
  obtain ⟨b, off, e, hc⟩ := h.2.2 hn
  exact ⟨b, off, e, World.block_lt_of_cell? w _ (hc 0 hn), hc⟩
theorem Ints.vals {w : World} {ao : Option Addr} {n : Nat} {zs : List Int} (h : Ints w ao n zs) : Vals w ao n (zs.map (Value.int .i64)) := by
  refine ⟨by simpa using h.1, h.2.1, fun hn => ?_⟩
  obtain ⟨b, off, e, hc⟩ := h.2.2 hn
  refine ⟨b, off, e, fun j u hu => ?_⟩
  have hl := h.1
  have hj : j < zs.length := by have := (List.getElem?_eq_some_iff.1 hu).1; simpa using this
  rw [hc j (by omega), ← hu, List.getElem?_map, List.getElem?_eq_getElem hj, iget_lt hj]; rfl
theorem Ints.drewN {w : World} {ao : Option Addr} {n : Nat} {zs : List Int} (h : Ints w ao n zs) (m : Nat) : Ints (w.drewN m) ao n zs := h
theorem Ints.same {w w' : World} {ao : Option Addr} {n : Nat} {zs : List Int} (h : Ints w ao n zs) (hs : ∀ g, bk ao = some g → g < w.heap.size → w'.heap[g]? = w.heap[g]?) : Ints w' ao n zs := by
  refine ⟨h.1, h.2.1, fun hn => ?_⟩
  obtain ⟨b, off, rfl, hb, hc⟩ := h.all_ hn
  exact ⟨b, off, rfl, fun j hj => (World.cell?_of_block (hs b rfl hb)).trans (hc j hj)⟩
theorem Ints.below {w w' : World} {ao : Option Addr} {n : Nat} {zs : List Int} (h : Ints w ao n zs) (hb : Below w.heap.size w w') : Ints w' ao n zs :=
  h.same fun g _ hg => hb.block g hg
theorem Ints.of_none {w : World} {n : Nat} {zs : List Int} (h : Ints w none n zs) : n = 0 ∧ zs = [] := by
  rcases Nat.eq_zero_or_pos n with h0 | h0
  · exact ⟨h0, List.eq_nil_of_length_eq_zero (h.1.trans h0)⟩
  · obtain ⟨b, off, e, _⟩ := h.2.2 h0
    cases e
theorem Ints.nil_ (w : World) (ao : Option Addr) : Ints w ao 0 [] := ⟨rfl, by omega, fun h => absurd h (by omega)⟩

/-- the slice at ao, of n cells (one cell an element, of type E), owns the cells xs in a row of the call's own, from block 'base' on -/
def Own (w : World) (base E : Nat) (ao : Option Addr) (n c : Nat) (xs : List Value) : Prop :=
  w.ownsRow base E 1 (.slice ao n c) n xs ∧ n ≤ 4398046511104

section
variable {w w' : World} {base E : Nat} {ao : Option Addr} {n c : Nat} {xs : List Value} {row : Option Nat}
theorem Own.len (h : Own w base E ao n c xs) : xs.length = n := by have := h.1.1; omega
theorem Own.lt (h : Own w base E ao n c xs) : ∀ g, bk ao = some g → base ≤ g ∧ g < w.heap.size := by
  have := h.1.lt
  rw [ownBlock_slice] at this; exact this
theorem Own.drewN (h : Own w base E ao n c xs) (m : Nat) : Own (w.drewN m) base E ao n c xs := h
theorem Own.kept (h : Own w base E ao n c xs) (hg : w.grownBy w' row) (hne : bk ao = none ∨ bk ao ≠ row) : Own w' base E ao n c xs :=
  ⟨h.1.kept hg (by rw [ownBlock_slice]; exact hne), h.2⟩
theorem Own.same (h : Own w base E ao n c xs) (hs : ∀ g, bk ao = some g → w'.heap[g]? = w.heap[g]?) : Own w' base E ao n c xs := by
  refine ⟨⟨h.1.1, ?_⟩, h.2⟩
  rcases h.1.2 with h2 | ⟨g, cap, cur, hv, hg, hh, r⟩
  · exact Or.inl h2
  · refine Or.inr ⟨g, cap, cur, hv, hg, ?_, r⟩
    have : bk ao = some g := by injection hv with h1; subst h1; rfl
    rw [hs g this]; exact hh
theorem Own.below (h : Own w base E ao n c xs) (hb : Below w.heap.size w w') : Own w' base E ao n c xs :=
  h.same fun g hg => hb.block g (h.lt g hg).2
theorem Own.belowB {B : Nat} (h : Own w base E ao n c xs) (hb : Below B w w') (hlt : ∀ g, bk ao = some g → g < B) : Own w' base E ao n c xs :=
  h.same fun g hg => hb.block g (hlt g hg)
theorem Own.alloc (h : Own w base E ao n c xs) (o : Obj) : Own (w.alloc o) base E ao n c xs := ⟨h.1.alloc o, h.2⟩
theorem Own.mono (h : Own w base E ao n c xs) {base' : Nat} (hb : base' ≤ base) : Own w base' E ao n c xs := by
  refine ⟨⟨h.1.1, ?_⟩, h.2⟩
  rcases h.1.2 with h2 | ⟨g, cap, cur, hv, hg, r⟩
  · exact Or.inl h2
  · exact Or.inr ⟨g, cap, cur, hv, by omega, r⟩
/-- a slice that is not empty: the block, its cells, not frozen -/
theorem Own.form (h : Own w base E ao n c xs) (hn : 0 < n) : ∃ g, ao = some ⟨g, 0, none⟩ ∧ base ≤ g ∧ g < w.heap.size ∧ n ≤ c ∧ (∀ j, j < n → w.cell? ⟨g, j, none⟩ = xs[j]?) ∧ (∀ j, w.frozen? ⟨g, j, none⟩ = false) := by
  obtain ⟨g, cap, hv, hb, hlt⟩ := h.1.form hn
  injection hv with h1 _ h2
  subst h1 h2
  refine ⟨g, rfl, hb, hlt, ?_, fun j hj => h.1.cellAt j (by omega), fun j => h.1.frozenAt j⟩
  rcases h.1.2 with ⟨h2, _⟩ | ⟨g', cap', cur, hv, _, _, hnc, _⟩
  · cases h2
  · injection hv with _ _ h3; subst h3; exact hnc
theorem Own.stored {g : Nat} (h : Own w base E (some ⟨g, 0, none⟩) n c xs) (k : Nat) (u : Value) :
    Own (w.setCell ⟨g, k, none⟩ u) base E (some ⟨g, 0, none⟩) n c (xs.set k u) ∧ w.grownBy (w.setCell ⟨g, k, none⟩ u) (some g) :=
  ⟨⟨(h.1.stored k u).1, h.2⟩, (h.1.stored k u).2⟩
theorem Own.empty_ (w : World) {base : Nat} (E : Nat) (hb : base ≤ w.heap.size) : Own (w.alloc (.cells #[] E)) base E (some ⟨w.heap.size, 0, none⟩) 0 0 [] := ⟨World.ownsRow_made w #[] 0 hb (by simp [maxLen]) rfl, by omega⟩
theorem Own.nil_ (w : World) (base E : Nat) : Own w base E none 0 0 [] := ⟨World.ownsRow_nil w base E 1, by omega⟩
end

/-- what is owned and holds integers reads as them -/
theorem Own.ints {w : World} {base E : Nat} {ao : Option Addr} {n c : Nat} {zs : List Int} (h : Own w base E ao n c (zs.map (Value.int .i64))) : Ints w ao n zs := by
  have hl : zs.length = n := by have := h.len; simpa using this
  refine ⟨hl, by have := h.2; omega, fun hn => ?_⟩
  obtain ⟨g, rfl, _, _, _, hc, _⟩ := h.form hn
  refine ⟨g, 0, rfl, fun j hj => ?_⟩
  rw [Nat.zero_add, hc j hj, List.getElem?_map, List.getElem?_eq_getElem (by omega), iget_lt (by omega)]; rfl

/-- the row of the table of an element type of one cell -/
structure ET (P : Program) (S E : TypeId) (z : Value) (bytes : Nat) : Prop where
  und : P.underlying S = some (.slice E)
  info : (P.info? E).map (fun i => (i.zero, i.size, i.bytes)) = some (some z, 1, bytes)
  one : z.cells = #[z]
  small : bytes ≤ 32

theorem below_of_grown {B : Nat} {a w w' : World} {row : Option Nat} (h : Below B a w) (hg : w.grownBy w' row) (hB : B ≤ w.heap.size) (hr : ∀ k, row = some k → B ≤ k) : Below B a w' := h.grown hg hB hr
theorem grown_of_below {w w' : World} (h : Below w.heap.size w w') (row : Option Nat) : w.grownBy w' row := ⟨h.os, h.tape, h.output, h.size, fun i hi _ => h.block i hi⟩
theorem grown_tr {a b c : World} {row : Option Nat} (h : a.grownBy b row) (k : b.grownBy c row) : a.grownBy c row :=
  ⟨k.os.trans h.os, k.tape.trans h.tape, k.output.trans h.output, Nat.le_trans h.size k.size, fun i hi hne => (k.block i (Nat.lt_of_lt_of_le hi h.size) hne).trans (h.block i hi hne)⟩
theorem below_drewN {B : Nat} {a w : World} (h : Below B a w) (n : Nat) : Below B a (w.drewN n) := ⟨h.os, h.tape, h.output, h.size, h.block⟩
theorem below_of_quiet {B : Nat} {w w' : World} (h : ∃ m, w' = w.drewN m) : Below B w w' := by
  obtain ⟨m, rfl⟩ := h; exact below_drewN (Below.refl _ _) m

/-- make([]T, n) as an equation, for regions that draw their order -/
theorem run_mk {P : Program} {S E : TypeId} {z : Value} {bytes : Nat} (et : ET P S E z bytes) (kl kc : IntKind) (L : Int) (n : Nat) (hL : L = n) (hn : n ≤ 4398046511104) (w : World) :
    (Instr.makeSlice S (.int kl L) (.int kc L)).run P w = .ok (.slice (some ⟨w.heap.size, 0, none⟩) n n) (w.alloc (.cells (madeCells #[z] n) E)) := by
  obtain ⟨i, hi, hz, hs, hby⟩ := info_parts et.info
  have hr := run_make (P := P) w S E i z et.und hi hz kl kc (n : Int) (n : Int) (by omega) (by omega) (by have := et.small; rw [hby]; have : (bytes : Int) * n ≤ 32 * n := Int.mul_le_mul_of_nonneg_right (by omega) (by omega); omega) (by omega)
  simp only [Int.toNat_natCast] at hr
  rw [hL, hr, hs, Nat.mul_one, et.one]
theorem own_made {S E : TypeId} {P : Program} {z : Value} {bytes : Nat} (_et : ET P S E z bytes) {w : World} {base n g : Nat} (hg : w.heap.size = g) (hn : n ≤ 4398046511104) (hb : base ≤ w.heap.size) :
    Own (w.alloc (.cells (madeCells #[z] n) E)) base E (some ⟨g, 0, none⟩) n n (List.replicate n z) := by
  subst hg
  refine ⟨?_, hn⟩
  have := World.ownsRow_lit (e := E) (size := 1) w (madeCells #[z] n) n hb (by simp [maxLen]; omega) (by rw [size_madeCells, Nat.mul_one])
  rw [toList_madeCells_one] at this
  exact this

theorem own_lit {w : World} {base E g : Nat} {us : List Value} (hg : w.heap.size = g) (hb : base ≤ w.heap.size) (hn : us.length ≤ 4398046511104) : Own (w.alloc (.cells us.toArray E)) base E (some ⟨g, 0, none⟩) us.length us.length us := by
  subst hg
  exact ⟨by simpa using World.ownsRow_lit (e := E) (size := 1) w us.toArray us.length hb (by simp [maxLen]; omega) (by simp), hn⟩

section
variable {P : Program} {ops : Array Oper} {rest : List Oper} {o : Oper} {a : Act} {Q : Exit → Act → World → Prop}

/-- make([]T, n) -/
theorem wpList_mk {S E : TypeId} {z : Value} {bytes : Nat} (et : ET P S E z bytes) (w : World) (hg : o.guard = none) (l c : Operand) (hop : o.op = Op.makeSlice S l c) (base : Nat)
    (kl kc : IntKind) (L C : Int) (n : Nat) (hl : a.eval l = .int kl L) (hc : a.eval c = .int kc C) (hL : L = (n : Int)) (hC : C = (n : Int)) (hn : n ≤ 4398046511104) (hb : base ≤ w.heap.size)
    (hK : ∀ w', Own w' base E (some ⟨w.heap.size, 0, none⟩) n n (List.replicate n z) → w.grownBy w' none → w'.heap.size = w.heap.size + 1 → wpList P ops Q rest (a.put o.dst (.slice (some ⟨w.heap.size, 0, none⟩) n n)) w') :
    wpList P ops Q (o :: rest) a w := by
  obtain ⟨i, hi, hz, hs, hby⟩ := info_parts et.info
  refine wpList_plain hg fun K hK' => ?_
  have hr := run_make (P := P) w S E i z et.und hi hz kl kc (n : Int) (n : Int) (by omega) (by omega) (by have := et.small; rw [hby]; have : (bytes : Int) * n ≤ 32 * n := Int.mul_le_mul_of_nonneg_right (by omega) (by omega); omega) (by omega)
  simp only [Int.toNat_natCast] at hr
  subst hL; subst hC
  unfold Oper.wp
  simp [execOp, hop, hl, hc, hr, Result.andThen]
  refine hK' _ _ (hK _ ⟨?_, hn⟩ (World.grownBy_alloc w _ none) (by simp))
  have := World.ownsRow_lit (e := E) (size := i.size) w (madeCells z.cells (n * i.size)) n hb (by simp [maxLen]; omega) (size_madeCells _ _)
  rw [hs, et.one, Nat.mul_one, toList_madeCells_one] at this
  rw [et.one, hs, Nat.mul_one]
  exact this

/-- append(s, x) of one element: x lies in a block of its own, just laid -/
theorem wpList_ap1 {S E : TypeId} {z : Value} {bytes : Nat} (et : ET P S E z bytes) (w : World) (hg : o.guard = none) (s x : Operand) (ho : o.op = .call { callee := .builtin .append, args := #[s, x], argTypes := #[S, S] })
    (base : Nat) (ao : Option Addr) (n c : Nat) (xs : List Value) (hs : a.eval s = .slice ao n c) (hown : Own w base E ao n c xs) (u : Value)
    (hx : a.eval x = .slice (some ⟨w.heap.size, 0, none⟩) 1 1) (hu : u.oneCell' = true) (hn : n + 1 ≤ 4398046511104) (hbase : base ≤ w.heap.size)
    (hK : ∀ ao' c' w', Own w' base E ao' (n + 1) c' (xs ++ [u]) → w.grownBy w' (bk ao) → (bk ao' = bk ao ∨ bk ao' = some (w.heap.size + 1)) → wpList P ops Q rest (a.put o.dst (.slice ao' (n + 1) c')) w') :
    wpList P ops Q (o :: rest) a (w.alloc (.cells #[u] E)) := by
  obtain ⟨i, hi, hz, hsz, hby⟩ := info_parts et.info
  refine wpList_append_own_at _ hg s x S ho base E i z 1 bytes et.und hi hz hsz hby (by rw [et.one]; rfl) (by omega) (.slice ao n c) n xs hs (hown.1.alloc _) ⟨w.heap.size, 0, none⟩ 1 1 [u] hx rfl (cell_one_new _ _ _)
    (by intro v hv; simp at hv; subst hv; exact hu) (by simp [maxLen]; omega) (by have := et.small; have : (n + 1) * bytes ≤ (n + 1) * 32 := Nat.mul_le_mul_left _ this; omega) (by simp; omega) ?_
  intro v' w' h1 h2 _ h4
  rw [ownBlock_slice] at h2 h4
  obtain ⟨g, cap, rfl, hb, hlt⟩ := h1.form (by omega)
  refine hK _ _ _ ⟨h1, hn⟩ (grown_tr (World.grownBy_alloc w _ _) h2) ?_
  rw [ownBlock_slice] at h4
  simpa using h4

/-- append(s, y...), y a slice whose cells hold news -/
theorem wpList_apV {S E : TypeId} {z : Value} {bytes : Nat} (et : ET P S E z bytes) (w : World) (hg : o.guard = none) (s x : Operand) (ho : o.op = .call { callee := .builtin .append, args := #[s, x], argTypes := #[S, S] })
    (base : Nat) (ao : Option Addr) (n c : Nat) (xs : List Value) (hs : a.eval s = .slice ao n c) (hown : Own w base E ao n c xs) (ad : Option Addr) (m mc : Nat) (news : List Value)
    (hx : a.eval x = .slice ad m mc) (hr : Vals w ad m news) (h1 : ∀ u ∈ news, u.oneCell' = true) (hn : n + m ≤ 4398046511104) (hbase : base ≤ w.heap.size)
    (hK : ∀ ao' c' w', Own w' base E ao' (n + m) c' (xs ++ news) → w.grownBy w' (bk ao) → (bk ao' = bk ao ∨ bk ao' = some w.heap.size) → wpList P ops Q rest (a.put o.dst (.slice ao' (n + m) c')) w') :
    wpList P ops Q (o :: rest) a w := by
  obtain ⟨i, hi, hz, hsz, hby⟩ := info_parts et.info
  rcases Nat.eq_zero_or_pos m with h0 | h0
  · subst h0
    have hz0 : news = [] := List.eq_nil_of_length_eq_zero hr.1
    subst hz0
    cases ad with
    | none =>
      have hrun : (Builtin.append_ #[S, S] o.type #[.slice ao n c, .slice none 0 mc]).run P w = .ok (.slice ao n c) w := by
        rcases hown.1.2 with ⟨hv, rfl⟩ | ⟨g, cap, cur, hv, _, _, hnc, _⟩
        · rw [hv]; simp [Builtin.append_, run_underlying et.und, sizeOf, typeInfo, hi, Builtin.lenOf, Builtin.firstCells]
        · rw [hv]; simp [Builtin.append_, run_underlying et.und, sizeOf, typeInfo, hi, Builtin.lenOf, Builtin.firstCells, hnc, storeCells]
      refine wpList_plain hg fun K hK' => ?_
      unfold Oper.wp execOp
      simp only [ho, resolve, invoke, builtin, Sem.run_bind, Sem.run_pure, Result.andThen_ok, List.map_toArray, List.map_cons, List.map_nil, hs, hx, hrun]
      exact hK' _ _ (hK ao c w (by simpa using hown) (World.grownBy.refl w _) (.inl rfl))
    | some ad =>
      refine wpList_append_own_at _ hg s x S ho base E i z 1 bytes et.und hi hz hsz hby (by rw [et.one]; rfl) (by omega) (.slice ao n c) n xs hs hown.1 ad 0 mc [] hx rfl (by intro j u hu; simp at hu)
        (by intro v hv; simp at hv) (by simp [maxLen]; omega) (by have := et.small; have : (n + 0) * bytes ≤ (n + 0) * 32 := Nat.mul_le_mul_left _ this; omega) hbase ?_
      intro v' w' h1 h2 h3 h4
      rw [ownBlock_slice] at h2 h4
      rcases h1.2 with ⟨rfl, hn0⟩ | ⟨g, cap, cur, rfl, _, _, _, _⟩
      · have h5 := h3.1 rfl
        obtain ⟨h5, _⟩ := h5
        injection h5 with h5 h6 h7
        subst h5 h6 h7
        exact hK none 0 w' ⟨by simpa using h1, by omega⟩ h2 (.inl rfl)
      · refine hK _ _ _ ⟨by simpa using h1, hn⟩ h2 ?_
        rw [ownBlock_slice] at h4; exact h4
  · obtain ⟨b, off, rfl, hc⟩ := hr.2.2 h0
    have hl := hr.1
    refine wpList_append_own_at _ hg s x S ho base E i z 1 bytes et.und hi hz hsz hby (by rw [et.one]; rfl) (by omega) (.slice ao n c) n xs hs hown.1 ⟨b, off, none⟩ m mc news hx (by simp [hl])
      (by
        intro j u hu
        rw [Addr.add_lit]; exact hc j u hu)
      h1 (by simp [maxLen]; omega) (by have := et.small; have : (n + m) * bytes ≤ (n + m) * 32 := Nat.mul_le_mul_left _ this; omega) hbase ?_
    intro v' w' h1 h2 _ h4
    rw [ownBlock_slice] at h2 h4
    obtain ⟨g, cap, rfl, hb, hlt⟩ := h1.form (by omega)
    refine hK _ _ _ ⟨h1, hn⟩ h2 ?_
    rw [ownBlock_slice] at h4
    simpa using h4
/-- append(s, y...), y a slice that reads as integers -/
theorem wpList_apN {S E : TypeId} {z : Value} {bytes : Nat} (et : ET P S E z bytes) (w : World) (hg : o.guard = none) (s x : Operand) (ho : o.op = .call { callee := .builtin .append, args := #[s, x], argTypes := #[S, S] })
    (base : Nat) (ao : Option Addr) (n c : Nat) (xs : List Value) (hs : a.eval s = .slice ao n c) (hown : Own w base E ao n c xs) (ad : Option Addr) (m mc : Nat) (zs : List Int)
    (hx : a.eval x = .slice ad m mc) (hr : Ints w ad m zs) (hn : n + m ≤ 4398046511104) (hbase : base ≤ w.heap.size)
    (hK : ∀ ao' c' w', Own w' base E ao' (n + m) c' (xs ++ zs.map (Value.int .i64)) → w.grownBy w' (bk ao) → (bk ao' = bk ao ∨ bk ao' = some w.heap.size) → wpList P ops Q rest (a.put o.dst (.slice ao' (n + m) c')) w') :
    wpList P ops Q (o :: rest) a w :=
  wpList_apV et w hg s x ho base ao n c xs hs hown ad m mc (zs.map (Value.int .i64)) hx hr.vals (ints_oneCell _ _) hn hbase hK
end

/-- only blocks from lo to below hi, and new ones, may have turned -/
structure Only (lo hi : Nat) (w w' : World) : Prop where
  os : w'.os = w.os
  tape : w'.tape = w.tape
  output : w'.output = w.output
  size : w.heap.size ≤ w'.heap.size
  block : ∀ k, k < w.heap.size → (k < lo ∨ hi ≤ k) → w'.heap[k]? = w.heap[k]?
theorem Only.below {lo hi : Nat} {w w' : World} (h : Only lo hi w w') {B : Nat} (hB : B ≤ lo) (hw : B ≤ w.heap.size) : Below B w w' := ⟨h.os, h.tape, h.output, h.size, fun k hk => h.block k (by omega) (.inl (by omega))⟩
theorem Only.of_grown {lo hi : Nat} {w w' : World} {row : Option Nat} (h : w.grownBy w' row) (hr : ∀ g, row = some g → lo ≤ g ∧ g < hi) : Only lo hi w w' :=
  ⟨h.os, h.tape, h.output, h.size, fun k hk hd => h.block k hk (fun e => by have := hr k e.symm; omega)⟩
theorem Only.refl (lo hi : Nat) (w : World) : Only lo hi w w := ⟨rfl, rfl, rfl, Nat.le_refl _, fun _ _ _ => rfl⟩
theorem Only.trans {lo hi : Nat} {a b c : World} (h : Only lo hi a b) (k : Only lo hi b c) : Only lo hi a c :=
  ⟨k.os.trans h.os, k.tape.trans h.tape, k.output.trans h.output, Nat.le_trans h.size k.size, fun i hi hd => (k.block i (Nat.lt_of_lt_of_le hi h.size) hd).trans (h.block i hi hd)⟩
theorem Own.only {w w' : World} {base E : Nat} {ao : Option Addr} {n c : Nat} {xs : List Value} {lo hi lo' hi' : Nat} (h : Own w base E ao n c xs) (ho : Only lo hi w w') (hl : ∀ g, bk ao = some g → lo' ≤ g ∧ g < hi') (hd : hi' ≤ lo ∨ hi ≤ lo') : Own w' base E ao n c xs :=
  h.same fun g hg => ho.block g (h.lt g hg).2 (by have := hl g hg; omega)

theorem ret_int {k : IntKind} {a b : Int} (h : a = b) : Ending.returned (.int k a) = .returned (.int k b) := by rw [h]
theorem ret_bool {a b : Bool} (h : a = b) : Ending.returned (.bool a) = .returned (.bool b) := by rw [h]
end Go.Proofs.Ytnfkhgamnapgmaa

/- From a walk to the row: what 'post' asks where below the old heap nothing has turned; arguments opened to the words of Base. -/
namespace Go.Proofs.Ytnfkhgamnapgmaa
open Go.ChangeShapes Go.WideShapes Go.ChangeAt Go.RowKit Go.Deep

section
variable {H : Type} {enc : TypeId × Value → H} {P : Program}
theorem post_of_below {f : Func} {s : ChangeSpec} {apart fresh handsOn again : Bool} {W W' : World} {args : Array Value} {v : Value} {ds gs : List (DataW H)} {before pa pv : List MemPlace}
    (hW : DataW.Whole enc P f.params.toList s.vars apart W args.toList ds gs before)
    (hres : ∀ (b : Nat) (sp : Nat → Bool) (hd : Bool), DataW.TrodAll enc P W' b sp hd f.resultTypes.toList (v.resultList f.resultTypes.size) (s.fn H (ds ++ gs)).results [])
    (hargs : ∀ sp : Nat → Bool, (∀ p ∈ before, sp p.block = true) → DataW.TrodAll enc P W' 0 sp true f.params.toList args.toList (s.fn H (ds ++ gs)).args pa)
    (hvars : ∀ sp : Nat → Bool, (∀ p ∈ before, sp p.block = true) → DataW.TrodVars enc P W' sp s.vars (s.fn H (ds ++ gs)).vars pv)
    (hps : before = pa ++ pv) (hb : Below W.heap.size W W')
    (hok : ∀ (j : Nat) (t : TypeId) (r : Value), f.resultTypes[j]? = some t → (v.resultList f.resultTypes.size)[j]? = some r → Value.okWide P W' .any 0 t r) :
    s.post enc P f apart fresh handsOn again W args v W' := by
  have hlt : ∀ p ∈ before, p.block < W.heap.size := fun p hp => hW.lt p hp
  have hold : ∀ p ∈ before, (fun b => decide (b < W.heap.size)) p.block = true := fun p hp => by simpa using hlt p hp
  refine ⟨ds, gs, before, [], pa, pv, hW, hres _ _ _, hargs _ hold, hvars _ hold, World.keptBut_mono (fun p hp => ⟨hp, ?_⟩) (hb.frame (· ∈ before)), fun _ => ?_⟩
  · rw [hps, List.mem_append] at hp
    exact Or.inr hp
  · obtain ⟨_, _, _, _, _, hz, hn⟩ := hW
    refine ⟨hok, _, _, ([] ++ pa) ++ pv, ⟨[] ++ pa, pv, trodAll_append (hargs _ (fun _ _ => rfl)) (hres _ _ _), hvars _ (fun _ _ => rfl), rfl, ?_, ?_⟩, ?_⟩
    · intro b off hp
      have hin : MemPlace.cell b off ∈ before := by rw [hps]; simpa using hp
      rw [hb.frozen (hlt _ hin)]
      exact hz b off hin
    · intro ha
      have := hn ha
      rw [hps] at this
      simpa using this
    · intro p hp _
      rw [hps]
      simpa using hp

/-- all arguments read behind the call as before it -/
theorem trodAll_stays (hl : laidOutB P = true) {W W' : World} (hb : Below W.heap.size W W') {sp : Nat → Bool} : ∀ (ts : List TypeId) (vs : List Value) (ds : List (DataW H)) (ps : List MemPlace),
    (∀ t ∈ ts, P.readableRec t = true ∧ t < P.types.size) → (∀ p ∈ ps, p.block < W.heap.size) → (∀ p ∈ ps, sp p.block = true) →
    DataW.TrodAll enc P W 0 (fun _ => true) true ts vs ds ps → DataW.TrodAll enc P W' 0 sp true ts vs ds ps
  | [], vs, ds, ps, _, _, _, h => by
    obtain ⟨rfl, rfl, rfl⟩ := trodAll_nil h
    exact trodAll_mk0
  | t :: ts, vs, ds, ps, ht, hlt, hsp, h => by
    obtain ⟨v, vs', d, ds', p, q, rfl, rfl, rfl, h0, r0⟩ := trodAll_cons h
    exact trodAll_cons_mk (WideElems.Trod_stays hl (ht t (by simp)).1 (ht t (by simp)).2 h0 (fun x hx => hb.same (hlt x (by simp [hx]))) (fun x hx => hsp x (by simp [hx])))
      (trodAll_stays hl hb ts vs' ds' q (fun t' h' => ht t' (by simp [h'])) (fun p' hp => hlt p' (by simp [hp])) (fun p' hp => hsp p' (by simp [hp])) r0)

/-- an argument of type []int64 -/
theorem openI {W : World} {base : Nat} {t e : TypeId} {v : Value} {d : DataW H} {p : List MemPlace} (ht : P.underlying t = some (.slice e)) (he : P.underlying e = some (.int .i64)) (hc : P.cellsOf e = 1) (hby : P.bytesOf e = 8)
    (hv : Value.okWide P W .any base t v) (h : DataW.Trod enc P W 0 (fun _ => true) true t v d p) (hs : ∀ elems spare, d = .slice elems spare → (elems.length + spare.length) * P.bytesOf e ≤ reachBytes) :
    ∃ ao n c zs, v = .slice ao n c ∧ Ints W ao n zs ∧ (∀ z ∈ zs, (Lit.int .i64 z).wf = true) := by
  obtain ⟨a0, len, cap, rfl⟩ := okWide_slice ht hv
  obtain ⟨fuel, hf⟩ := h
  rcases open_ints ht he hc hf with ⟨hcs, hx⟩ | ⟨a, len', cap', zs, hcs, _, hl, hm, hz, hx, hcell, hwz⟩
  · simp [Value.cells] at hcs
    obtain ⟨rfl, rfl, rfl⟩ := hcs
    exact ⟨_, _, _, [], rfl, Ints.nil_ _ _, by simp⟩
  · simp [Value.cells] at hcs
    obtain ⟨rfl, rfl, rfl⟩ := hcs
    simp only [Prod.mk.injEq] at hx
    simp only [if_true] at hz
    have hr := hs _ _ hx.1
    rw [hby] at hr
    simp only [lits, List.length_map, List.length_take, List.length_drop, reachBytes] at hr
    refine ⟨_, _, _, zs.take len, rfl, ⟨by simp; omega, by omega, fun hn => ?_⟩, fun z h' => hwz z (List.mem_of_mem_take h')⟩
    obtain ⟨b, off, spot⟩ := a
    have hspot : spot = none := by simpa [Addr.add] using World.cell?_spot (hcell 0 (by omega))
    subst hspot
    refine ⟨b, off, rfl, fun j hj => ?_⟩
    have := hcell j (by omega)
    rw [Addr.add_lit] at this
    rw [this, iget]
    simp [hj]
end
end Go.Proofs.Ytnfkhgamnapgmaa

/- Words for slices whose elements are slices: rows that are read, rows that a call owns, all in blocks of their own. No program in sight. -/
namespace Go.Proofs.Ytnfkhgamnapgmaa
open Go.RowKit

/-- the block of a value, if it has one, lies from lo to below hi -/
def In (lo hi : Nat) (u : Value) : Prop := ∀ g, u.ownBlock = some g → lo ≤ g ∧ g < hi
theorem In.mono {lo hi lo' hi' : Nat} {u : Value} (h : In lo hi u) (h1 : lo' ≤ lo) (h2 : hi ≤ hi') : In lo' hi' u := fun g hg => by have := h g hg; omega
theorem in_nil (lo hi : Nat) (n c : Nat) : In lo hi (.slice none n c) := fun g hg => by cases hg
theorem in_slice {lo hi : Nat} {ao : Option Addr} {n c : Nat} (h : ∀ g, bk ao = some g → lo ≤ g ∧ g < hi) : In lo hi (.slice ao n c) := fun g hg => h g (by rw [ownBlock_slice] at hg; exact hg)

/-- an element's predicate looks at the element's own block alone -/
structure Inner {D : Type} (Ow1 : World → Value → D → Prop) : Prop where
  loc : ∀ {w w' u d}, Ow1 w u d → (∀ g, u.ownBlock = some g → w'.heap[g]? = w.heap[g]?) → Ow1 w' u d
  lt : ∀ {w u d}, Ow1 w u d → ∀ g, u.ownBlock = some g → g < w.heap.size
  one : ∀ {w u d}, Ow1 w u d → u.oneCell' = true

/-- the slice at ao, of n elements us, is a row of the call's own; each element u owns d in a block of its own; all blocks lie from lo to below hi and are different -/
structure OwR {D : Type} (Ow1 : World → Value → D → Prop) (w : World) (lo hi E : Nat) (ao : Option Addr) (n c : Nat) (us : List Value) (ds : List D) : Prop where
  own : Own w lo E ao n c us
  top : ∀ g, bk ao = some g → g < hi
  len : ds.length = n
  el : ∀ (j : Nat) (u : Value) (d : D), us[j]? = some u → ds[j]? = some d → Ow1 w u d
  rng : ∀ (j : Nat) (u : Value), us[j]? = some u → In lo hi u
  out : ∀ (j : Nat) (u : Value) (g : Nat), us[j]? = some u → u.ownBlock = some g → bk ao ≠ some g
  apart : ∀ (i j : Nat) (u u' : Value) (g : Nat), i ≠ j → us[i]? = some u → us[j]? = some u' → u.ownBlock = some g → u'.ownBlock ≠ some g

section
variable {D : Type} {Ow1 : World → Value → D → Prop} {w w' : World} {lo hi E : Nat} {ao : Option Addr} {n c : Nat} {us : List Value} {ds : List D}

theorem OwR.ulen (h : OwR Ow1 w lo hi E ao n c us ds) : us.length = n := h.own.len
theorem OwR.get (h : OwR Ow1 w lo hi E ao n c us ds) {j : Nat} (hj : j < n) : ∃ u d, us[j]? = some u ∧ ds[j]? = some d ∧ Ow1 w u d ∧ In lo hi u :=
  have h1 : j < us.length := by rw [h.ulen]; exact hj
  have h2 : j < ds.length := by rw [h.len]; exact hj
  ⟨us[j], ds[j], List.getElem?_eq_getElem h1, List.getElem?_eq_getElem h2, h.el j _ _ (List.getElem?_eq_getElem h1) (List.getElem?_eq_getElem h2), h.rng j _ (List.getElem?_eq_getElem h1)⟩

/-- nothing in the range has turned -/
theorem OwR.same (I : Inner Ow1) (h : OwR Ow1 w lo hi E ao n c us ds) (hs : ∀ g, lo ≤ g → g < hi → g < w.heap.size → w'.heap[g]? = w.heap[g]?) : OwR Ow1 w' lo hi E ao n c us ds :=
  { own := h.own.same fun g hg => hs g (h.own.lt g hg).1 (h.top g hg) (h.own.lt g hg).2
    top := h.top, len := h.len, rng := h.rng, out := h.out, apart := h.apart
    el := fun j u d hu hd => I.loc (h.el j u d hu hd) fun g hg => hs g (h.rng j u hu g hg).1 (h.rng j u hu g hg).2 (I.lt (h.el j u d hu hd) g hg) }
theorem OwR.below (I : Inner Ow1) (h : OwR Ow1 w lo hi E ao n c us ds) (hb : Below w.heap.size w w') : OwR Ow1 w' lo hi E ao n c us ds := h.same I fun g _ _ hg => hb.block g hg
theorem OwR.only (I : Inner Ow1) (h : OwR Ow1 w lo hi E ao n c us ds) {l k : Nat} (ho : Only l k w w') (hd : hi ≤ l ∨ k ≤ lo) : OwR Ow1 w' lo hi E ao n c us ds :=
  h.same I fun g h1 h2 hg => ho.block g hg (by omega)
theorem OwR.mono (h : OwR Ow1 w lo hi E ao n c us ds) {lo' hi' : Nat} (h1 : lo' ≤ lo) (h2 : hi ≤ hi') : OwR Ow1 w lo' hi' E ao n c us ds :=
  { own := h.own.mono h1, top := fun g hg => Nat.lt_of_lt_of_le (h.top g hg) h2, len := h.len, el := h.el, out := h.out, apart := h.apart
    rng := fun j u hu => (h.rng j u hu).mono h1 h2 }

/-- an element's own block has been written (and new ones laid): element j is now d' -/
theorem OwR.upd (I : Inner Ow1) (h : OwR Ow1 w lo hi E ao n c us ds) {j : Nat} {u : Value} {d' : D} (hu : us[j]? = some u) (hg : w.grownBy w' u.ownBlock) (h' : Ow1 w' u d') : OwR Ow1 w' lo hi E ao n c us (ds.set j d') := by
  refine { own := h.own.kept hg ?_, top := h.top, len := by rw [List.length_set]; exact h.len, rng := h.rng, out := h.out, apart := h.apart, el := ?_ }
  · cases hb : u.ownBlock with
    | none => exact (Option.eq_none_or_eq_some (bk ao)).imp id (fun ⟨g, e⟩ => by rw [e]; simp)
    | some g => exact .inr (h.out j u g hu hb)
  · intro i v d hv hd
    by_cases hij : j = i
    · subst hij
      rw [hu] at hv
      obtain rfl := Option.some.inj hv
      rw [List.getElem?_set_self'] at hd
      cases hdd : ds[j]? with
      | none => rw [hdd] at hd; cases hd
      | some x => rw [hdd] at hd; simp at hd; subst hd; exact h'
    · rw [List.getElem?_set_ne hij] at hd
      refine I.loc (h.el i v d hv hd) fun g hgg => hg.block g (I.lt (h.el i v d hv hd) g hgg) fun e => ?_
      exact h.apart i j v u g (fun e => hij e.symm) hv hu hgg e.symm

/-- element j is replaced: u' is new or in the block of the old one -/
theorem OwR.put (I : Inner Ow1) {g0 : Nat} (h : OwR Ow1 w lo hi E (some ⟨g0, 0, none⟩) n c us ds) {j : Nat} {u u' : Value} {d' : D} (hu : us[j]? = some u) (hg : w.grownBy w' u.ownBlock) (h' : Ow1 w' u' d')
    (hnew : u'.ownBlock = none ∨ u'.ownBlock = u.ownBlock ∨ ∃ g, u'.ownBlock = some g ∧ w.heap.size ≤ g) (hhi : hi ≤ w.heap.size) (hlo : lo ≤ w.heap.size) :
    OwR Ow1 (w'.setCell ⟨g0, j, none⟩ u') lo w'.heap.size E (some ⟨g0, 0, none⟩) n c (us.set j u') (ds.set j d') := by
  have hjl : j < us.length := (List.getElem?_eq_some_iff.1 hu).1
  have hown : Own w' lo E (some ⟨g0, 0, none⟩) n c us := h.own.kept hg (by
    cases hb : u.ownBlock with
    | none => exact .inr (by simp [bk])
    | some g => exact .inr (h.out j u g hu hb))
  have hlt' : ∀ g, u'.ownBlock = some g → g ≠ g0 := by
    intro g hgg e
    subst e
    rcases hnew with hn | hn | ⟨g', hn, hge⟩
    · rw [hn] at hgg; cases hgg
    · rw [hn] at hgg; exact h.out j u g hu hgg rfl
    · rw [hn] at hgg; obtain rfl := Option.some.inj hgg
      have := (h.own.lt g' rfl).2
      omega
  have hset : ∀ g, g ≠ g0 → (w'.setCell ⟨g0, j, none⟩ u').heap[g]? = w'.heap[g]? := fun g hne => Below.heap_setCell _ _ _ _ hne
  have hsz := hg.size
  refine { own := (hown.stored j u').1, top := fun g hgg => Nat.lt_of_lt_of_le (h.top g hgg) (Nat.le_trans hhi hsz), len := by rw [List.length_set]; exact h.len, el := ?_, rng := ?_, out := ?_, apart := ?_ }
  · intro i v d hv hd
    by_cases hij : j = i
    · subst hij
      rw [List.getElem?_set_self hjl] at hv
      obtain rfl := Option.some.inj hv
      rw [List.getElem?_set_self'] at hd
      cases hdd : ds[j]? with
      | none => rw [hdd] at hd; cases hd
      | some x =>
        rw [hdd] at hd; simp at hd; subst hd
        exact I.loc h' fun g hgg => hset g (hlt' g hgg)
    · rw [List.getElem?_set_ne hij] at hd hv
      have h1 : Ow1 w' v d := I.loc (h.el i v d hv hd) fun g hgg => hg.block g (I.lt (h.el i v d hv hd) g hgg) fun e => h.apart i j v u g (fun e => hij e.symm) hv hu hgg e.symm
      exact I.loc h1 fun g hgg => hset g fun e => by subst e; exact h.out i v g hv hgg rfl
  · intro i v hv
    by_cases hij : j = i
    · subst hij
      rw [List.getElem?_set_self hjl] at hv
      obtain rfl := Option.some.inj hv
      intro g hgg
      refine ⟨?_, I.lt h' g hgg⟩
      rcases hnew with hn | hn | ⟨g', hn, hge⟩
      · rw [hn] at hgg; cases hgg
      · rw [hn] at hgg; exact (h.rng j u hu g hgg).1
      · rw [hn] at hgg; obtain rfl := Option.some.inj hgg; omega
    · rw [List.getElem?_set_ne hij] at hv
      exact (h.rng i v hv).mono (Nat.le_refl _) (Nat.le_trans hhi hsz)
  · intro i v g hv hgg
    by_cases hij : j = i
    · subst hij
      rw [List.getElem?_set_self hjl] at hv
      obtain rfl := Option.some.inj hv
      intro e
      exact hlt' g hgg (Option.some.inj e).symm
    · rw [List.getElem?_set_ne hij] at hv
      exact h.out i v g hv hgg
  · intro i k v v' g hik hv hv' hgg
    have key : ∀ x vx, j ≠ x → us[x]? = some vx → ∀ g, u'.ownBlock = some g → vx.ownBlock ≠ some g := by
      intro x vx hx hvx g hgg' e
      rcases hnew with hn | hn | ⟨g', hn, hge⟩
      · rw [hn] at hgg'; cases hgg'
      · rw [hn] at hgg'; exact h.apart j x u vx g hx hu hvx hgg' e
      · rw [hn] at hgg'; obtain rfl := Option.some.inj hgg'
        have := (h.rng x vx hvx g' e).2
        omega
    by_cases hi' : j = i
    · subst hi'
      rw [List.getElem?_set_self hjl] at hv
      obtain rfl := Option.some.inj hv
      rw [List.getElem?_set_ne hik] at hv'
      exact key k v' hik hv' g hgg
    · rw [List.getElem?_set_ne hi'] at hv
      by_cases hk' : j = k
      · subst hk'
        rw [List.getElem?_set_self hjl] at hv'
        obtain rfl := Option.some.inj hv'
        exact fun e => key i v hi' hv g e hgg
      · rw [List.getElem?_set_ne hk'] at hv'
        exact h.apart i k v v' g hik hv hv' hgg

/-- a row that holds nothing yet: n nil slices -/
theorem OwR.blank {dz : D} {v : Value} (hv : v.ownBlock = none) (h : Own w lo E ao n c (List.replicate n v)) (h0 : Ow1 w v dz) (hhi : ∀ g, bk ao = some g → g < hi) : OwR Ow1 w lo hi E ao n c (List.replicate n v) (List.replicate n dz) :=
  have hu : ∀ {j u}, (List.replicate n v)[j]? = some u → u = v := fun {j u} hu => by
    rw [List.getElem?_replicate] at hu; split at hu
    · exact (Option.some.inj hu).symm
    · cases hu
  { own := h, top := hhi, len := by simp
    el := fun j u d hj hd => by
      obtain rfl := hu hj
      rw [List.getElem?_replicate] at hd; split at hd
      · obtain rfl := Option.some.inj hd; exact h0
      · cases hd
    rng := fun j u hj g hg => by obtain rfl := hu hj; rw [hv] at hg; cases hg
    out := fun j u g hj hg => by obtain rfl := hu hj; rw [hv] at hg; cases hg
    apart := fun i j u u' g _ hi _ hg => by obtain rfl := hu hi; rw [hv] at hg; cases hg }

theorem OwR.empty_ (h : Own w lo E ao 0 c []) (hhi : ∀ g, bk ao = some g → g < hi) : OwR Ow1 w lo hi E ao 0 c [] [] :=
  { own := h, top := hhi, len := rfl, el := fun j u d hj _ => by simp at hj, rng := fun j u hj => by simp at hj, out := fun j u g hj => by simp at hj, apart := fun i j u u' g _ hi => by simp at hi }

/-- one element more: u is in a block of its own -/
theorem OwR.push (I : Inner Ow1) (h : OwR Ow1 w lo hi E ao n c us ds) {ao' : Option Addr} {c' hi' : Nat} {u : Value} {d : D} (hown : Own w' lo E ao' (n + 1) c' (us ++ [u])) (hg : w.grownBy w' (bk ao)) (hu : Ow1 w' u d) (hur : In lo hi' u)
    (hao : ∀ g, bk ao' = some g → g < hi') (hhi : hi ≤ hi') (hnew : ∀ g, bk ao' = some g → (bk ao = some g ∨ ∀ (j : Nat) (u : Value), us[j]? = some u → u.ownBlock ≠ some g))
    (hua : ∀ g, u.ownBlock = some g → bk ao' ≠ some g ∧ ∀ (j : Nat) (v : Value), us[j]? = some v → v.ownBlock ≠ some g) : OwR Ow1 w' lo hi' E ao' (n + 1) c' (us ++ [u]) (ds ++ [d]) := by
  have hul : us.length = n := h.ulen
  have split1 : ∀ {j v}, (us ++ [u])[j]? = some v → (us[j]? = some v ∧ j < n) ∨ (j = n ∧ v = u) := by
    intro j v hj
    rw [List.getElem?_append] at hj
    split at hj
    · exact .inl ⟨hj, by omega⟩
    · rw [hul] at hj
      cases hjn : j - n with
      | zero => rw [hjn] at hj; simp at hj; exact .inr ⟨by omega, hj.symm⟩
      | succ k => rw [hjn] at hj; simp at hj
  refine { own := hown, top := hao, len := by rw [List.length_append, h.len]; rfl, el := ?_, rng := ?_, out := ?_, apart := ?_ }
  · intro j v x hv hx
    rcases split1 hv with ⟨h1, hj⟩ | ⟨rfl, rfl⟩
    · rw [List.getElem?_append_left (by rw [h.len]; exact hj)] at hx
      refine I.loc (h.el j v x h1 hx) fun g hgg => hg.block g (I.lt (h.el j v x h1 hx) g hgg) fun e => h.out j v g h1 hgg e.symm
    · rw [List.getElem?_append_right (by rw [h.len]; exact Nat.le_refl _), h.len, Nat.sub_self] at hx
      simp at hx; subst hx; exact hu
  · intro j v hv
    rcases split1 hv with ⟨h1, hj⟩ | ⟨rfl, rfl⟩
    · exact (h.rng j v h1).mono (Nat.le_refl _) hhi
    · exact hur
  · intro j v g hv hgg
    rcases split1 hv with ⟨h1, hj⟩ | ⟨rfl, rfl⟩
    · intro e
      rcases hnew g e with h2 | h2
      · exact h.out j v g h1 hgg h2
      · exact h2 j v h1 hgg
    · exact (hua g hgg).1
  · intro i j v v' g hij hv hv' hgg
    rcases split1 hv with ⟨h1, hi1⟩ | ⟨rfl, rfl⟩
    · rcases split1 hv' with ⟨h2, hj1⟩ | ⟨rfl, rfl⟩
      · exact h.apart i j v v' g hij h1 h2 hgg
      · exact fun e => (hua g e).2 i v h1 hgg
    · rcases split1 hv' with ⟨h2, hj1⟩ | ⟨rfl, _⟩
      · exact (hua g hgg).2 j v' h2
      · exact absurd rfl hij

/-- a row that is written out: u0, u1, .. are owned already, in blocks of their own -/
theorem OwR.lit (I : Inner Ow1) (hlo : lo ≤ w.heap.size) (hhi : hi ≤ w.heap.size) (hl : us.length = n) (hd : ds.length = n) (hn : n ≤ 4398046511104) (hel : ∀ (j : Nat) (u : Value) (d : D), us[j]? = some u → ds[j]? = some d → Ow1 w u d) (hr : ∀ (j : Nat) (u : Value), us[j]? = some u → In lo hi u)
    (ha : ∀ (i j : Nat) (u u' : Value) (g : Nat), i ≠ j → us[i]? = some u → us[j]? = some u' → u.ownBlock = some g → u'.ownBlock ≠ some g) :
    OwR Ow1 (w.alloc (.cells us.toArray E)) lo (w.heap.size + 1) E (some ⟨w.heap.size, 0, none⟩) n n us ds :=
  { own := ⟨by simpa using World.ownsRow_lit (e := E) (size := 1) w us.toArray n hlo (by simp [maxLen]; omega) (by simpa using hl), hn⟩
    top := fun g hg => by simp [bk] at hg; omega
    len := hd
    el := fun j u d hu hdd => I.loc (hel j u d hu hdd) fun g hg => Below.heap_alloc w _ g (I.lt (hel j u d hu hdd) g hg)
    rng := fun j u hu => (hr j u hu).mono (Nat.le_refl _) (by omega)
    out := fun j u g hu hg e => by
      have := (hr j u hu g hg).2
      simp [bk] at e
      omega
    apart := ha }
theorem OwR.lit2 (I : Inner Ow1) {u0 u1 : Value} {d0 d1 : D} (hlo : lo ≤ w.heap.size) (hhi : hi ≤ w.heap.size) (h0 : Ow1 w u0 d0) (h1 : Ow1 w u1 d1) (r0 : In lo hi u0) (r1 : In lo hi u1) (ha : ∀ g, u0.ownBlock = some g → u1.ownBlock ≠ some g) :
    OwR Ow1 (w.alloc (.cells #[u0, u1] E)) lo (w.heap.size + 1) E (some ⟨w.heap.size, 0, none⟩) 2 2 [u0, u1] [d0, d1] := by
  refine OwR.lit (us := [u0, u1]) (ds := [d0, d1]) I hlo hhi rfl rfl (by omega) ?_ ?_ ?_
  · intro j u d hu hd
    match j, hu, hd with
    | 0, hu, hd => simp at hu hd; subst hu hd; exact h0
    | 1, hu, hd => simp at hu hd; subst hu hd; exact h1
  · intro j u hu
    match j, hu with
    | 0, hu => simp at hu; subst hu; exact r0
    | 1, hu => simp at hu; subst hu; exact r1
  · intro i j u u' g hij hu hu' hg
    match i, j, hu, hu' with
    | 0, 0, _, _ => exact absurd rfl hij
    | 1, 1, _, _ => exact absurd rfl hij
    | 0, 1, hu, hu' => simp at hu hu'; subst hu hu'; exact ha g hg
    | 1, 0, hu, hu' => simp at hu hu'; subst hu hu'; exact fun e => ha g e hg

theorem OwR.of2 (_I : Inner Ow1) {u0 u1 : Value} {d0 d1 : D} (h : Own w lo E ao 2 c [u0, u1]) (htop : ∀ g, bk ao = some g → g < hi) (h0 : Ow1 w u0 d0) (h1 : Ow1 w u1 d1) (r0 : In lo hi u0) (r1 : In lo hi u1) (ha : ∀ g, u0.ownBlock = some g → u1.ownBlock ≠ some g)
    (ho : ∀ g, bk ao = some g → u0.ownBlock ≠ some g ∧ u1.ownBlock ≠ some g) : OwR Ow1 w lo hi E ao 2 c [u0, u1] [d0, d1] := by
  refine { own := h, top := htop, len := rfl, el := ?_, rng := ?_, out := ?_, apart := ?_ }
  · intro j u d hu hd
    match j, hu, hd with
    | 0, hu, hd => simp at hu hd; subst hu hd; exact h0
    | 1, hu, hd => simp at hu hd; subst hu hd; exact h1
  · intro j u hu
    match j, hu with
    | 0, hu => simp at hu; subst hu; exact r0
    | 1, hu => simp at hu; subst hu; exact r1
  · intro j u g hu hg e
    match j, hu with
    | 0, hu => simp at hu; subst hu; exact (ho g e).1 hg
    | 1, hu => simp at hu; subst hu; exact (ho g e).2 hg
  · intro i j u u' g hij hu hu' hg
    match i, j, hu, hu' with
    | 0, 0, _, _ => exact absurd rfl hij
    | 1, 1, _, _ => exact absurd rfl hij
    | 0, 1, hu, hu' => simp at hu hu'; subst hu hu'; exact ha g hg
    | 1, 0, hu, hu' => simp at hu hu'; subst hu hu'; exact fun e => ha g e hg

/-- the cell of element j -/
theorem OwR.cell {g0 : Nat} (h : OwR Ow1 w lo hi E (some ⟨g0, 0, none⟩) n c us ds) {j : Nat} {u : Value} (hu : us[j]? = some u) : w.cell? ⟨g0, j, none⟩ = some u := by
  have hj : j < n := by have := (List.getElem?_eq_some_iff.1 hu).1; rw [h.ulen] at this; exact this
  obtain ⟨g', hg, _, _, _, hc, _⟩ := h.own.form (by omega)
  obtain rfl : g0 = g' := by injection hg with hg; injection hg
  rw [hc j hj, hu]
end

/-- element k of a list of lists, the empty one behind its end; closed to simp -/
def lget {α : Type} (zss : List (List α)) (k : Nat) : List α := zss.getD k []
theorem lget_lt {α : Type} {zss : List (List α)} {k : Nat} (h : k < zss.length) : lget zss k = zss[k] := by simp [lget, h]
theorem lget_get? {α : Type} {zss : List (List α)} {k : Nat} {z : List α} (h : zss[k]? = some z) : lget zss k = z := by simp [lget, h]
theorem get?_lget {α : Type} {zss : List (List α)} {k : Nat} (h : k < zss.length) : zss[k]? = some (lget zss k) := by rw [lget_lt h, List.getElem?_eq_getElem h]
theorem take_lget {α : Type} {zss : List (List α)} {k : Nat} (h : k < zss.length) : zss.take (k + 1) = zss.take k ++ [lget zss k] := by rw [List.take_succ_eq_append_getElem h, lget_lt h]
theorem drop_lget {α : Type} {zss : List (List α)} {k : Nat} (h : k < zss.length) : zss.drop k = lget zss k :: zss.drop (k + 1) := by rw [List.drop_eq_getElem_cons h, lget_lt h]
theorem lget_mem {α : Type} {zss : List (List α)} {k : Nat} (h : k < zss.length) : lget zss k ∈ zss := by rw [lget_lt h]; exact List.getElem_mem h

/-- v is a slice that reads as integers -/
def RdS (w : World) (v : Value) (zs : List Int) : Prop := ∃ ao n c, v = .slice ao n c ∧ Ints w ao n zs
/-- v is a slice that owns its integers -/
def OwS (E : Nat) (w : World) (v : Value) (zs : List Int) : Prop := ∃ ao n c, v = .slice ao n c ∧ Own w 0 E ao n c (zs.map (Value.int .i64))
theorem OwS.rd {E : Nat} {w : World} {v : Value} {zs : List Int} (h : OwS E w v zs) : RdS w v zs := by
  obtain ⟨ao, n, c, rfl, ho⟩ := h
  exact ⟨ao, n, c, rfl, ho.ints⟩
theorem innerS (E : Nat) : Inner (OwS E) :=
  { loc := fun {w w' u d} h hs => by
      obtain ⟨ao, n, c, rfl, ho⟩ := h
      exact ⟨ao, n, c, rfl, ho.same fun g hg => hs g (by rw [ownBlock_slice]; exact hg)⟩
    lt := fun {w u d} h g hg => by
      obtain ⟨ao, n, c, rfl, ho⟩ := h
      rw [ownBlock_slice] at hg
      exact (ho.lt g hg).2
    one := fun {w u d} h => by obtain ⟨ao, n, c, rfl, _⟩ := h; rfl }
theorem RdS.below {w w' : World} {v : Value} {zs : List Int} (h : RdS w v zs) (hb : Below w.heap.size w w') : RdS w' v zs := by
  obtain ⟨ao, n, c, rfl, hi⟩ := h
  exact ⟨ao, n, c, rfl, hi.below hb⟩

/-- the slice at ao, of n slices of integers, reads as zss -/
def Intss (w : World) (ao : Option Addr) (n : Nat) (zss : List (List Int)) : Prop :=
  zss.length = n ∧ n ≤ 17592186044416 ∧ (0 < n → ∃ b off, ao = some ⟨b, off, none⟩ ∧ ∀ j, j < n → ∃ u, w.cell? ⟨b, off + j, none⟩ = some u ∧ RdS w u (lget zss j))
theorem Intss.at_ {w : World} {ao : Option Addr} {n : Nat} {zss : List (List Int)} (h : Intss w ao n zss) {k : Nat} (hk : k < n) :
    ∃ b off a' n' c', ao = some ⟨b, off, none⟩ ∧ w.cell? ⟨b, off + k, none⟩ = some (.slice a' n' c') ∧ Ints w a' n' (lget zss k) := by
  obtain ⟨b, off, e, hc⟩ := h.2.2 (by omega)
  obtain ⟨u, h1, a', n', c', rfl, h2⟩ := hc k hk
  exact ⟨b, off, a', n', c', e, h1, h2⟩
theorem Intss.drewN {w : World} {ao : Option Addr} {n : Nat} {zss : List (List Int)} (h : Intss w ao n zss) (m : Nat) : Intss (w.drewN m) ao n zss := h
theorem Intss.below {w w' : World} {ao : Option Addr} {n : Nat} {zss : List (List Int)} (h : Intss w ao n zss) (hb : Below w.heap.size w w') : Intss w' ao n zss := by
  refine ⟨h.1, h.2.1, fun hn => ?_⟩
  obtain ⟨b, off, rfl, hc⟩ := h.2.2 hn
  refine ⟨b, off, rfl, fun j hj => ?_⟩
  obtain ⟨u, h1, h2⟩ := hc j hj
  exact ⟨u, (hb.cell (p := ⟨b, off + j, none⟩) (World.block_lt_of_cell? w _ h1)).trans h1, h2.below hb⟩
theorem Intss.nil_ (w : World) (ao : Option Addr) : Intss w ao 0 [] := ⟨rfl, by omega, fun h => absurd h (by omega)⟩
theorem OwR.intss {E1 : Nat} {w : World} {lo hi E : Nat} {ao : Option Addr} {n c : Nat} {us : List Value} {zss : List (List Int)} (h : OwR (OwS E1) w lo hi E ao n c us zss) : Intss w ao n zss := by
  refine ⟨h.len, by have := h.own.2; omega, fun hn => ?_⟩
  obtain ⟨g, rfl, _, _, _, _, _⟩ := h.own.form hn
  refine ⟨g, 0, rfl, fun j hj => ?_⟩
  obtain ⟨u, d, hu, hd, h1, _⟩ := h.get hj
  refine ⟨u, by rw [Nat.zero_add]; exact h.cell hu, ?_⟩
  rw [lget_get? hd]; exact h1.rd

/-- v is a slice that reads as lists of integers -/
def RdSS (w : World) (v : Value) (zss : List (List Int)) : Prop := ∃ ao n c, v = .slice ao n c ∧ Intss w ao n zss
/-- v is a slice that owns its lists of integers, in blocks from lo to below hi -/
def OwSS (E1 E : Nat) (w : World) (lo hi : Nat) (v : Value) (zss : List (List Int)) : Prop := ∃ ao n c us, v = .slice ao n c ∧ OwR (OwS E1) w lo hi E ao n c us zss
theorem OwSS.rd {E1 E : Nat} {w : World} {lo hi : Nat} {v : Value} {zss : List (List Int)} (h : OwSS E1 E w lo hi v zss) : RdSS w v zss := by
  obtain ⟨ao, n, c, us, rfl, ho⟩ := h
  exact ⟨ao, n, c, rfl, ho.intss⟩
theorem OwSS.below {E1 E : Nat} {w w' : World} {lo hi : Nat} {v : Value} {zss : List (List Int)} (h : OwSS E1 E w lo hi v zss) (hb : Below w.heap.size w w') : OwSS E1 E w' lo hi v zss := by
  obtain ⟨ao, n, c, us, rfl, ho⟩ := h
  exact ⟨ao, n, c, us, rfl, ho.below (innerS E1) hb⟩
theorem OwSS.only {E1 E : Nat} {w w' : World} {lo hi : Nat} {v : Value} {zss : List (List Int)} (h : OwSS E1 E w lo hi v zss) {l k : Nat} (ho : Only l k w w') (hd : hi ≤ l ∨ k ≤ lo) : OwSS E1 E w' lo hi v zss := by
  obtain ⟨ao, n, c, us, rfl, h1⟩ := h
  exact ⟨ao, n, c, us, rfl, h1.only (innerS E1) ho hd⟩
theorem OwSS.mono {E1 E : Nat} {w : World} {lo hi lo' hi' : Nat} {v : Value} {zss : List (List Int)} (h : OwSS E1 E w lo hi v zss) (h1 : lo' ≤ lo) (h2 : hi ≤ hi') : OwSS E1 E w lo' hi' v zss := by
  obtain ⟨ao, n, c, us, rfl, ho⟩ := h
  exact ⟨ao, n, c, us, rfl, ho.mono h1 h2⟩
theorem RdSS.below {w w' : World} {v : Value} {zss : List (List Int)} (h : RdSS w v zss) (hb : Below w.heap.size w w') : RdSS w' v zss := by
  obtain ⟨ao, n, c, rfl, hi⟩ := h
  exact ⟨ao, n, c, rfl, hi.below hb⟩
theorem set_padL {α : Type} {pre : List α} {k n : Nat} {z : α} (hk : pre.length = k) (h : k < n) (x : α) : (pre ++ List.replicate (n - k) z).set k x = (pre ++ [x]) ++ List.replicate (n - (k + 1)) z := by
  rw [List.set_append_right _ _ (by omega), hk, Nat.sub_self, show n - k = (n - (k + 1)) + 1 by omega, List.replicate_succ]; simp

/-- v owns its integers in a block from lo to below hi -/
def OwnS (E : Nat) (w : World) (lo hi : Nat) (v : Value) (zs : List Int) : Prop := OwS E w v zs ∧ In lo hi v
theorem OwnS.rd {E : Nat} {w : World} {lo hi : Nat} {v : Value} {zs : List Int} (h : OwnS E w lo hi v zs) : RdS w v zs := h.1.rd
theorem OwnS.below {E : Nat} {w w' : World} {lo hi : Nat} {v : Value} {zs : List Int} (h : OwnS E w lo hi v zs) (hb : Below w.heap.size w w') : OwnS E w' lo hi v zs :=
  ⟨(innerS E).loc h.1 fun g hg => hb.block g ((innerS E).lt h.1 g hg), h.2⟩
theorem OwnS.only {E : Nat} {w w' : World} {lo hi : Nat} {v : Value} {zs : List Int} (h : OwnS E w lo hi v zs) {l k : Nat} (ho : Only l k w w') (hd : hi ≤ l ∨ k ≤ lo) : OwnS E w' lo hi v zs :=
  ⟨(innerS E).loc h.1 fun g hg => ho.block g ((innerS E).lt h.1 g hg) (by have := h.2 g hg; omega), h.2⟩
theorem OwnS.of {E : Nat} {w : World} {base : Nat} {ao : Option Addr} {n c : Nat} {zs : List Int} (h : Own w base E ao n c (zs.map (Value.int .i64))) : OwnS E w base w.heap.size (.slice ao n c) zs :=
  ⟨⟨ao, n, c, rfl, h.mono (Nat.zero_le _)⟩, in_slice h.lt⟩

/-- k, k + 1, .. : n numbers -/
def marks (k : Int) (n : Nat) : List Int := (List.range n).map fun j : Nat => k + (j : Int)
theorem length_marks (k : Int) (n : Nat) : (marks k n).length = n := by simp [marks]
theorem marks_succ (k : Int) (n : Nat) : marks k (n + 1) = marks k n ++ [k + n] := by simp [marks, List.range_succ]
theorem iget_marks (k : Int) (n j : Nat) (h : j < n) : iget (marks k n) j = k + j := by
  rw [iget_lt (by rw [length_marks]; exact h)]; simp [marks]
/-- what the laws' marks leave in lists of lists: k, k + 1, .. through all of them -/
def marksSS (k : Int) : List (List Int) → List (List Int)
  | [] => []
  | zs :: r => marks k zs.length :: marksSS (k + zs.length) r
def lenSS (zss : List (List Int)) : Nat := (zss.map List.length).sum
theorem lenSS_take {zss : List (List Int)} {k : Nat} (h : k < zss.length) : lenSS (zss.take (k + 1)) = lenSS (zss.take k) + (lget zss k).length := by
  unfold lenSS; rw [take_lget h, List.map_append, List.sum_append]; simp
theorem lenSS_take_le (zss : List (List Int)) (k : Nat) : lenSS (zss.take k) ≤ lenSS zss := by
  conv => rhs; rw [← List.take_append_drop k zss]
  unfold lenSS; rw [List.map_append, List.sum_append]; omega
theorem len_le_lenSS {zss : List (List Int)} {k : Nat} (h : k < zss.length) : (lget zss k).length ≤ lenSS zss := by
  have h1 := lenSS_take h
  have h2 := lenSS_take_le zss (k + 1)
  omega
theorem length_marksSS (k : Int) (zss : List (List Int)) : (marksSS k zss).length = zss.length := by
  induction zss generalizing k with
  | nil => rfl
  | cons z r ih => simp [marksSS, ih]
theorem lget_marksSS {k : Int} {zss : List (List Int)} {j : Nat} (h : j < zss.length) : lget (marksSS k zss) j = marks (k + lenSS (zss.take j)) (lget zss j).length := by
  induction zss generalizing k j with
  | nil => simp at h
  | cons z r ih =>
    cases j with
    | zero => simp [marksSS, lget, lenSS]
    | succ j =>
      have := ih (k := k + z.length) (j := j) (by simpa using h)
      simp only [marksSS, lget, List.getD_cons_succ, List.take_succ_cons] at this ⊢
      rw [this]
      congr 1
      simp [lenSS]; omega
theorem marksSS_take {k : Int} {zss : List (List Int)} {j : Nat} (h : j < zss.length) : (marksSS k zss).take (j + 1) = (marksSS k zss).take j ++ [marks (k + lenSS (zss.take j)) (lget zss j).length] := by
  rw [take_lget (by rw [length_marksSS]; exact h), lget_marksSS h]

/-- a struct of one slice of slices, as a value: the mirror and the program's maniplex alike -/
def RdM (w : World) (v : Value) (zss : List (List Int)) : Prop := ∃ ao n c, v = .agg #[.slice ao n c] ∧ Intss w ao n zss
def OwM (E1 E : Nat) (w : World) (lo hi : Nat) (v : Value) (zss : List (List Int)) : Prop := ∃ ao n c us, v = .agg #[.slice ao n c] ∧ OwR (OwS E1) w lo hi E ao n c us zss
theorem OwM.rd {E1 E : Nat} {w : World} {lo hi : Nat} {v : Value} {zss : List (List Int)} (h : OwM E1 E w lo hi v zss) : RdM w v zss := by
  obtain ⟨ao, n, c, us, rfl, ho⟩ := h
  exact ⟨ao, n, c, rfl, ho.intss⟩
theorem OwM.below {E1 E : Nat} {w w' : World} {lo hi : Nat} {v : Value} {zss : List (List Int)} (h : OwM E1 E w lo hi v zss) (hb : Below w.heap.size w w') : OwM E1 E w' lo hi v zss := by
  obtain ⟨ao, n, c, us, rfl, ho⟩ := h
  exact ⟨ao, n, c, us, rfl, ho.below (innerS E1) hb⟩
theorem OwM.only {E1 E : Nat} {w w' : World} {lo hi : Nat} {v : Value} {zss : List (List Int)} (h : OwM E1 E w lo hi v zss) {l k : Nat} (ho : Only l k w w') (hd : hi ≤ l ∨ k ≤ lo) : OwM E1 E w' lo hi v zss := by
  obtain ⟨ao, n, c, us, rfl, h1⟩ := h
  exact ⟨ao, n, c, us, rfl, h1.only (innerS E1) ho hd⟩
theorem OwM.mono {E1 E : Nat} {w : World} {lo hi lo' hi' : Nat} {v : Value} {zss : List (List Int)} (h : OwM E1 E w lo hi v zss) (h1 : lo' ≤ lo) (h2 : hi ≤ hi') : OwM E1 E w lo' hi' v zss := by
  obtain ⟨ao, n, c, us, rfl, ho⟩ := h
  exact ⟨ao, n, c, us, rfl, ho.mono h1 h2⟩
theorem RdM.below {w w' : World} {v : Value} {zss : List (List Int)} (h : RdM w v zss) (hb : Below w.heap.size w w') : RdM w' v zss := by
  obtain ⟨ao, n, c, rfl, hi⟩ := h
  exact ⟨ao, n, c, rfl, hi.below hb⟩

/-- a struct of an integer and a slice of slices, as a value: a presentation -/
abbrev PresD : Type := Int × List (List Int)
def RdP (w : World) (v : Value) (d : PresD) : Prop := ∃ ao n c, v = .agg #[.int .i64 d.1, .slice ao n c] ∧ Intss w ao n d.2
def OwP (E1 E : Nat) (w : World) (lo hi : Nat) (v : Value) (d : PresD) : Prop := ∃ ao n c us, v = .agg #[.int .i64 d.1, .slice ao n c] ∧ OwR (OwS E1) w lo hi E ao n c us d.2
theorem OwP.rd {E1 E : Nat} {w : World} {lo hi : Nat} {v : Value} {d : PresD} (h : OwP E1 E w lo hi v d) : RdP w v d := by
  obtain ⟨ao, n, c, us, rfl, ho⟩ := h
  exact ⟨ao, n, c, rfl, ho.intss⟩
theorem OwP.below {E1 E : Nat} {w w' : World} {lo hi : Nat} {v : Value} {d : PresD} (h : OwP E1 E w lo hi v d) (hb : Below w.heap.size w w') : OwP E1 E w' lo hi v d := by
  obtain ⟨ao, n, c, us, rfl, ho⟩ := h
  exact ⟨ao, n, c, us, rfl, ho.below (innerS E1) hb⟩
theorem OwP.only {E1 E : Nat} {w w' : World} {lo hi : Nat} {v : Value} {d : PresD} (h : OwP E1 E w lo hi v d) {l k : Nat} (ho : Only l k w w') (hd : hi ≤ l ∨ k ≤ lo) : OwP E1 E w' lo hi v d := by
  obtain ⟨ao, n, c, us, rfl, h1⟩ := h
  exact ⟨ao, n, c, us, rfl, h1.only (innerS E1) ho hd⟩
theorem RdP.below {w w' : World} {v : Value} {d : PresD} (h : RdP w v d) (hb : Below w.heap.size w w') : RdP w' v d := by
  obtain ⟨ao, n, c, rfl, hi⟩ := h
  exact ⟨ao, n, c, rfl, hi.below hb⟩

theorem below_tr {w W W' : World} (k : Below W.heap.size W W') (h : Below w.heap.size w W) : Below w.heap.size w W' := h.trans (k.mono h.size)
theorem below_drew1 (w : World) : Below w.heap.size w w.drew := (Below.refl _ _).drew
theorem OwM.form {E1 E : Nat} {w : World} {lo hi : Nat} {v : Value} {zss : List (List Int)} (h : OwM E1 E w lo hi v zss) : ∃ ao n c, v = .agg #[.slice ao n c] := by
  obtain ⟨ao, n, c, us, rfl, _⟩ := h
  exact ⟨ao, n, c, rfl⟩
theorem OwP.form {E1 E : Nat} {w : World} {lo hi : Nat} {v : Value} {d : PresD} (h : OwP E1 E w lo hi v d) : ∃ ao n c, v = .agg #[.int .i64 d.1, .slice ao n c] := by
  obtain ⟨ao, n, c, us, rfl, _⟩ := h
  exact ⟨ao, n, c, rfl⟩
theorem below_alloc1 (w : World) (o : Obj) : Below w.heap.size w (w.alloc o) := (Below.refl _ _).alloc (Nat.le_refl _) o
theorem below_alloc2 (w : World) (o o' : Obj) : Below w.heap.size w ((w.alloc o).alloc o') := (below_alloc1 w o).alloc (by simp) o'
theorem below_alloc3 (w : World) (o o' o'' : Obj) : Below w.heap.size w (((w.alloc o).alloc o').alloc o'') := (below_alloc2 w o o').alloc (by simp; omega) o''
/-- block g is just the cells cs of type t, none frozen -/
def Blk (w : World) (g : Nat) (t : TypeId) (cs : Array Value) : Prop := w.heap[g]? = some (.cells cs t (0, 0))
theorem Blk.lt {w : World} {g : Nat} {t : TypeId} {cs : Array Value} (h : Blk w g t cs) : g < w.heap.size := by
  rcases Nat.lt_or_ge g w.heap.size with hlt | hge
  · exact hlt
  · unfold Blk at h; rw [Array.getElem?_eq_none hge] at h; cases h
theorem Blk.cell {w : World} {g : Nat} {t : TypeId} {cs : Array Value} (h : Blk w g t cs) (i : Nat) : w.cell? ⟨g, i, none⟩ = cs[i]? := cell_of_row w g i cs t (0, 0) h
theorem Blk.frozen {w : World} {g : Nat} {t : TypeId} {cs : Array Value} (h : Blk w g t cs) (i : Nat) : w.frozen? ⟨g, i, none⟩ = false := by
  unfold Blk at h; simp [World.frozen?, h]
theorem Blk.new (w : World) (t : TypeId) (cs : Array Value) : Blk (w.alloc (.cells cs t)) w.heap.size t cs := heap_alloc_new w _
theorem blk_at {w : World} {t : TypeId} {cs : Array Value} {k : Nat} (h : w.heap.size = k) : Blk (w.alloc (.cells cs t)) k t cs := h ▸ Blk.new w t cs
theorem Blk.alloc {w : World} {g : Nat} {t : TypeId} {cs : Array Value} (h : Blk w g t cs) (o : Obj) : Blk (w.alloc o) g t cs := (Below.heap_alloc w o g h.lt).trans h
theorem Blk.set_ {w : World} {g : Nat} {t : TypeId} {cs : Array Value} (h : Blk w g t cs) (i : Nat) (u : Value) : Blk (w.setCell ⟨g, i, none⟩ u) g t (cs.setIfInBounds i u) := by
  unfold Blk at h ⊢
  simp [World.setCell, Array.getElem?_modify, h]
theorem Blk.far {w : World} {g : Nat} {t : TypeId} {cs : Array Value} (h : Blk w g t cs) {p : Addr} (hp : g ≠ p.block) (u : Value) : Blk (w.setCell p u) g t cs := (Below.heap_setCell w p u g hp).trans h
theorem Blk.below {w w' : World} {g : Nat} {t : TypeId} {cs : Array Value} {B : Nat} (h : Blk w g t cs) (hb : Below B w w') (hg : g < B) : Blk w' g t cs := (hb.block g hg).trans h
theorem Blk.belowS {w w' : World} {g : Nat} {t : TypeId} {cs : Array Value} (h : Blk w g t cs) (hb : Below w.heap.size w w') : Blk w' g t cs := h.below hb h.lt
theorem Blk.only {w w' : World} {g : Nat} {t : TypeId} {cs : Array Value} {lo hi : Nat} (h : Blk w g t cs) (ho : Only lo hi w w') (hg : g < lo ∨ hi ≤ g) : Blk w' g t cs := (ho.block g h.lt hg).trans h
theorem Blk.drewN {w : World} {g : Nat} {t : TypeId} {cs : Array Value} (h : Blk w g t cs) (m : Nat) : Blk (w.drewN m) g t cs := h
end Go.Proofs.Ytnfkhgamnapgmaa

/- The laws' own helpers on []int64: the copy, the comparison, the marks. -/
namespace Go.Proofs.Ytnfkhgamnapgmaa
open Go.RowKit

theorem etI : ET Try.prog 22 2 (.int .i64 0) 8 := ⟨Try.underlying22, by kernel_rfl, rfl, by omega⟩

theorem get_pad {pre : List Int} {k n : Nat} (hk : pre.length = k) (h : k < n) : ((pre ++ List.replicate (n - k) 0).map (Value.int .i64))[k]? = some (.int .i64 0) := by
  rw [List.getElem?_map, List.getElem?_append_right (by omega), hk, Nat.sub_self, List.getElem?_replicate, if_pos (by omega)]; rfl
theorem set_pad {pre : List Int} {k n : Nat} (hk : pre.length = k) (h : k < n) (x : Int) : (pre ++ List.replicate (n - k) 0).set k x = (pre ++ [x]) ++ List.replicate (n - (k + 1)) 0 := by
  rw [List.set_append_right _ _ (by omega), hk, Nat.sub_self, show n - k = (n - (k + 1)) + 1 by omega, List.replicate_succ]; simp

set_option maxHeartbeats 400000 in
theorem toInts_any (ao : Option Addr) (n c : Nat) (zs : List Int) (w : World) (h : Ints w ao n zs) (hn : n ≤ 4398046511104) :
    Calls Try.prog 16 #[.slice ao n c] w fun e w' => ∃ ao' c', e = .returned (.slice ao' n c') ∧ Own w' w.heap.size 2 ao' n c' (zs.map (Value.int .i64)) ∧ Below w.heap.size w w' := by
  have hlen := h.1
  go_enter Try.func16, Try.ntmps16
  go_wp2_with (at_make; refine wpList_mk etI _ rfl _ _ rfl w.heap.size _ _ _ _ n rfl rfl rfl rfl hn (Nat.le_refl _) ?_; intro w1 hown hgrow hsz)
  have hb1 : Below w.heap.size w w1 := (Below.refl _ _).grown hgrow (Nat.le_refl _) (by simp)
  clear hgrow
  go_loopw [4] (fun i wr => ∃ k : Nat, k ≤ n ∧ i = .int .i64 k ∧ Own wr w.heap.size 2 (some ⟨w.heap.size, 0, none⟩) n n ((zs.take k ++ List.replicate (n - k) 0).map (Value.int .i64)) ∧ Below w.heap.size w wr) (fun i _ => n - (intOf i).toNat)
  case atStart => exact ⟨0, Nat.zero_le _, rfl, by simpa using hown, hb1⟩
  case round =>
    obtain ⟨k, hk, rfl, ho, hb⟩ := hrel
    clear hown hb1 hsz
    by_cases hlt : k < n
    · obtain ⟨b, off, rfl, hc⟩ := (h.below hb).at_ hlt
      obtain ⟨g, hg, _, hgl, _, hcell, hfr⟩ := ho.form (by omega)
      obtain rfl : g = w.heap.size := by injection hg with hg; injection hg with hg; exact hg.symm
      have hc2 : wr.cell? ⟨w.heap.size, k, none⟩ = some (.int .i64 0) := by
        rw [hcell k hlt]; exact get_pad (by simp; omega) hlt
      have hf := hfr k
      obtain ⟨st1, st2⟩ := ho.stored k (.int .i64 (iget zs k))
      have HS1 := Lib.hid st1
      have HS2 := Lib.hid st2
      clear st1 st2 hg hcell hfr
      go_wp2
      go_roundw
      case rel =>
        refine ⟨k + 1, by omega, by go_num, ?_, ?_⟩
        · have h1 := HS1.out
          rw [← List.map_set, set_pad (by simp; omega) hlt] at h1
          rw [take_iget (by omega)]
          exact h1
        · exact hb.grown HS2.out hb.size (by intro g hg; injection hg with hg; omega)
      case measure => simp [intOf]; omega
    · obtain rfl : k = n := by omega
      go_wp2
      go_ret
      exact ⟨_, _, rfl, by simpa [List.take_of_length_le (Nat.le_of_eq hlen)] using ho, hb⟩

set_option maxHeartbeats 400000 in
theorem eqInts_any (a b : Option Addr) (na nb ca cb : Nat) (za zb : List Int) (w : World) (ha : Ints w a na za) (hb : Ints w b nb zb) :
    Calls Try.prog 19 #[.slice a na ca, .slice b nb cb] w fun e w' => e = .returned (.bool (decide (za = zb))) ∧ ∃ m, w' = w.drewN m := by
  have hla := ha.2.1
  have hlb := hb.2.1
  by_cases hl : na = nb
  · subst hl
    have hl' : ((na : Int) != (na:Int)) = false := by simp
    go_enter Try.func19, Try.ntmps19
    go_wp2
    go_loopw [5] (fun i wr => ∃ k : Nat, k ≤ na ∧ i = .int .i64 k ∧ za.take k = zb.take k ∧ ∃ m, wr = w.drewN m) (fun i _ => na - (intOf i).toNat)
    case atStart => exact ⟨0, Nat.zero_le _, rfl, rfl, 0, rfl⟩
    case round =>
      obtain ⟨k, hk, rfl, hpre, m, rfl⟩ := hrel
      have HP := Lib.hid hpre
      clear hpre
      by_cases hlt : k < na
      · obtain ⟨ba, oa, rfl, hca⟩ := ha.at_ hlt
        obtain ⟨bb, ob, rfl, hcb⟩ := hb.at_ hlt
        have h1 := ha.1
        have h2 := hb.1
        have H1 := Lib.hid h1
        have H2 := Lib.hid h2
        clear h1 h2
        by_cases he : iget za k = iget zb k
        · have he' : (iget za k != iget zb k) = false := by simp [he]
          have HE := Lib.hid he
          clear he
          go_wp2_with fail
          go_quiet (fail)
          go_wp2
          go_roundw
          case rel => exact ⟨k + 1, by omega, by go_num, by rw [take_iget (by rw [H1.out]; omega), take_iget (by rw [H2.out]; omega), HP.out, HE.out], _, rfl⟩
          case measure => simp [intOf]; omega
        · have he' : (iget za k != iget zb k) = true := by simp [he]
          have HE := Lib.hid he
          clear he
          go_wp2_with fail
          go_quiet (fail)
          go_wp2
          go_ret
          exact ⟨ret_bool (by symm; rw [decide_eq_false_iff_not]; intro e; exact HE.out (by rw [e])), _, World.drewN_drewN _ _ _⟩
      · obtain rfl : k = na := by omega
        have h1 := ha.1
        have h2 := hb.1
        have hab : za = zb := by have := HP.out; rwa [List.take_of_length_le (by omega), List.take_of_length_le (by omega)] at this
        have HA := Lib.hid hab
        clear h1 h2 hab
        go_wp2
        go_ret
        exact ⟨ret_bool (by symm; simpa using HA.out), _, rfl⟩
  · have hl' : ((na : Int) != (nb:Int)) = true := by simp; omega
    go_enter Try.func19, Try.ntmps19
    go_wp2
    go_ret
    refine ⟨ret_bool ?_, 0, rfl⟩
    symm
    rw [decide_eq_false_iff_not]
    intro e
    exact hl (by rw [← ha.1, ← hb.1, e])

set_option maxHeartbeats 400000 in
theorem markInts_any (ao : Option Addr) (n c : Nat) (zs : List Int) (k0 : Int) (w : World) (base : Nat) (h : Own w base 2 ao n c (zs.map (Value.int .i64))) (hk0 : 0 ≤ k0) (hk1 : k0 ≤ 1125899906842624) :
    Calls Try.prog 20 #[.slice ao n c, .int .i64 k0] w fun e w' => e = .returned (.int .i64 (k0 + n)) ∧ Own w' base 2 ao n c ((marks k0 n).map (Value.int .i64)) ∧ w.grownBy w' (bk ao) ∧ w'.heap.size = w.heap.size := by
  have hn := h.2
  have hlen : zs.length = n := by have := h.len; simpa using this
  go_enter Try.func20, Try.ntmps20
  go_wp2
  go_loopw [1, 5] (fun m i wr => ∃ k : Nat, k ≤ n ∧ i = .int .i64 k ∧ m = .int .i64 (k0 + k) ∧ Own wr base 2 ao n c ((marks k0 k ++ zs.drop k).map (Value.int .i64)) ∧ w.grownBy wr (bk ao) ∧ wr.heap.size = w.heap.size) (fun _ i _ => n - (intOf i).toNat)
  case atStart => exact ⟨0, Nat.zero_le _, rfl, by simp, by simpa [marks] using h, World.grownBy.refl _ _, rfl⟩
  case round =>
    obtain ⟨k, hk, rfl, rfl, ho, hg, hsz⟩ := hrel
    have HSZ := Lib.hid hsz
    clear hsz
    by_cases hlt : k < n
    · obtain ⟨g, rfl, _, hgl, _, hcell, hfr⟩ := ho.form (by omega)
      have hc2 : wr.cell? ⟨g, k, none⟩ = some (.int .i64 (iget zs k)) := by
        rw [hcell k hlt, List.getElem?_map, List.getElem?_append_right (by simp [length_marks])]
        simp [length_marks, iget, hlen, hlt]
      have hf := hfr k
      obtain ⟨st1, st2⟩ := ho.stored k (.int .i64 (k0 + k))
      have HS1 := Lib.hid st1
      have HS2 := Lib.hid st2
      have HL := Lib.hid hlen
      clear st1 st2 hcell hfr hlen
      go_wp2
      go_roundw
      case rel =>
        refine ⟨k + 1, by omega, by go_num, by congr 1; omega, ?_, grown_tr hg HS2.out, by have := HSZ.out; simpa [World.setCell] using this⟩
        have h1 := HS1.out
        rw [← List.map_set, List.set_append_right _ _ (by simp [length_marks])] at h1
        have e : (zs.drop k).set (k - (marks k0 k).length) (k0 + k) = (k0 + k) :: zs.drop (k + 1) := by
          rw [length_marks, Nat.sub_self, List.drop_eq_getElem_cons (by rw [HL.out]; omega)]; rfl
        rw [e] at h1
        rw [marks_succ, List.append_assoc]
        exact h1
      case measure => simp [intOf]; omega
    · obtain rfl : k = n := by omega
      have HL := Lib.hid hlen
      clear hlen
      go_wp2
      go_ret
      exact ⟨rfl, by simpa [List.drop_of_length_le (Nat.le_of_eq HL.out)] using ho, hg, HSZ.out⟩

set_option maxHeartbeats 400000 in
theorem heldInts_any (ao : Option Addr) (n c : Nat) (k0 : Int) (w : World) (h : Ints w ao n (marks k0 n)) (hk0 : 0 ≤ k0) (hk1 : k0 ≤ 1125899906842624) :
    Calls Try.prog 25 #[.slice ao n c, .int .i64 k0] w fun e w' => e = .returned (.int .i64 (k0 + n)) ∧ w' = w := by
  have hn := h.2.1
  go_enter Try.func25, Try.ntmps25
  go_wp2
  go_loop [1, 5] (fun m i => ∃ k : Nat, k ≤ n ∧ i = .int .i64 k ∧ m = .int .i64 (k0 + k)) (fun _ i => n - (intOf i).toNat)
  case atStart => exact ⟨0, Nat.zero_le _, rfl, by simp⟩
  case round =>
    obtain ⟨k, hk, rfl, rfl⟩ := hrel
    by_cases hlt : k < n
    · obtain ⟨b, off, rfl, hc⟩ := h.at_ hlt
      rw [iget_marks _ _ _ hlt] at hc
      have he : ((k0 + k : Int) != (k0 + k : Int)) = false := by simp
      go_wp2
      go_round
      case rel => exact ⟨k + 1, by omega, by go_num, by congr 1; omega⟩
      case measure => simp [intOf]; omega
    · obtain rfl : k = n := by omega
      go_wp2
      go_ret
      exact ⟨rfl, rfl⟩
end Go.Proofs.Ytnfkhgamnapgmaa

/- The laws' helpers on []int64 in the words of Nest. -/
namespace Go.Proofs.Ytnfkhgamnapgmaa
open Go.RowKit

theorem law_toS {v : Value} {zs : List Int} (w : World) (h : RdS w v zs) (hn : zs.length ≤ 1048576) :
    Calls Try.prog 16 #[v] w fun e w' => ∃ v', e = .returned v' ∧ OwnS 2 w' w.heap.size w'.heap.size v' zs ∧ Below w.heap.size w w' := by
  obtain ⟨ao, n, c, rfl, hi⟩ := h
  have hl := hi.1
  refine (toInts_any ao n c zs w hi (by omega)).mono ?_
  rintro e w' ⟨a', c', rfl, ho, hb⟩
  exact ⟨_, rfl, OwnS.of ho, hb⟩
theorem law_eqS {v v' : Value} {zs : List Int} (w : World) (h : RdS w v zs) (h' : RdS w v' zs) :
    Calls Try.prog 19 #[v, v'] w fun e w' => e = .returned (.bool true) ∧ Below w.heap.size w w' := by
  obtain ⟨ao, n, c, rfl, hi⟩ := h
  obtain ⟨ao', n', c', rfl, hi'⟩ := h'
  refine (eqInts_any ao ao' n n' c c' zs zs w hi hi').mono ?_
  rintro e w' ⟨rfl, hq⟩
  exact ⟨ret_bool (by simp), below_of_quiet hq⟩
theorem law_markS {v : Value} {zs : List Int} {lo hi : Nat} (k : Int) (w : World) (h : OwnS 2 w lo hi v zs) (hk0 : 0 ≤ k) (hk1 : k ≤ 1125899906842624) :
    Calls Try.prog 20 #[v, .int .i64 k] w fun e w' => e = .returned (.int .i64 (k + zs.length)) ∧ OwnS 2 w' lo hi v (marks k zs.length) ∧ Only lo hi w w' := by
  obtain ⟨⟨ao, n, c, rfl, ho⟩, hin⟩ := h
  have hl : zs.length = n := by have := ho.len; simpa using this
  refine (markInts_any ao n c zs k w 0 ho hk0 hk1).mono ?_
  rintro e w' ⟨rfl, ho', hg, _⟩
  exact ⟨ret_int (by rw [hl]), ⟨⟨ao, n, c, rfl, by rw [hl]; exact ho'⟩, hin⟩, Only.of_grown hg (fun g hg => hin g (by rw [ownBlock_slice]; exact hg))⟩
theorem law_heldS {v : Value} {n : Nat} (k : Int) (w : World) (h : RdS w v (marks k n)) (hk0 : 0 ≤ k) (hk1 : k ≤ 1125899906842624) :
    Calls Try.prog 25 #[v, .int .i64 k] w fun e w' => e = .returned (.int .i64 (k + n)) ∧ Below w.heap.size w w' := by
  obtain ⟨ao, n', c, rfl, hi⟩ := h
  obtain rfl : n = n' := by have := hi.1; rwa [length_marks] at this
  refine (heldInts_any ao n c k w hi hk0 hk1).mono ?_
  rintro e w' ⟨rfl, rfl⟩
  exact ⟨rfl, Below.refl _ _⟩
end Go.Proofs.Ytnfkhgamnapgmaa

/- within and its twin in the reference; slices.IndexFunc and slices.ContainsFunc at []int64, over any predicate that only reads or makes memory. -/
namespace Go.Proofs.Ytnfkhgamnapgmaa
open Go.RowKit

/-- n lies between lo and hi -/
def inB (n lo hi : Int) : Bool := decide (lo ≤ n) && decide (n ≤ hi)
theorem inB_true {n lo hi : Int} : inB n lo hi = true ↔ lo ≤ n ∧ n ≤ hi := by simp [inB]
theorem inB_false {n lo hi : Int} : inB n lo hi = false ↔ ¬ (lo ≤ n ∧ n ≤ hi) := by rw [← Bool.not_eq_true, inB_true]

theorem within_any (n lo hi : Int) (w : World) : Calls Try.prog 84 #[.int .i64 n, .int .i64 lo, .int .i64 hi] w fun e w' => e = .returned (.bool (inB n lo hi)) ∧ w' = w := by
  by_cases h : lo ≤ n
  · have h1 : decide (lo ≤ n) = true := by simpa using h
    go_enter Try.func84, Try.ntmps84
    go_wp2
    go_ret
    exact ⟨ret_bool (by simp [inB, h]), rfl⟩
  · have h1 : decide (lo ≤ n) = false := by simpa using h
    have h2 : inB n lo hi = false := by simp [inB, h1]
    have H2 := Lib.hid h2
    clear h2
    go_enter Try.func84, Try.ntmps84
    go_wp2
    go_ret
    exact ⟨ret_bool H2.out.symm, rfl⟩

theorem specIn_any (n lo hi : Int) (w : World) : Calls Try.prog 76 #[.int .i64 n, .int .i64 lo, .int .i64 hi] w fun e w' => e = .returned (.bool (inB n lo hi)) ∧ w' = w := by
  by_cases h : lo ≤ n
  · have h1 : decide (lo ≤ n) = true := by simpa using h
    go_enter Try.func76, Try.ntmps76
    go_wp2
    go_ret
    exact ⟨ret_bool (by simp [inB, h]), rfl⟩
  · have h1 : decide (lo ≤ n) = false := by simpa using h
    have h2 : inB n lo hi = false := by simp [inB, h1]
    have H2 := Lib.hid h2
    clear h2
    go_enter Try.func76, Try.ntmps76
    go_wp2
    go_ret
    exact ⟨ret_bool H2.out.symm, rfl⟩

/-- the first index at which p holds, or -1 -/
def findI (p : Int → Bool) (zs : List Int) : Int := match zs.findIdx? p with | some i => i | none => -1
theorem findI_none {p : Int → Bool} {zs : List Int} (h : zs.any p = false) : findI p zs = -1 := by
  have : zs.findIdx? p = none := by rw [List.findIdx?_eq_none_iff]; intro x hx; have := (List.any_eq_false.1 h) x hx; simpa using this
  simp [findI, this]
theorem findI_some {p : Int → Bool} {zs : List Int} {k : Nat} (hk : k < zs.length) (hn : (zs.take k).any p = false) (hp : p (iget zs k) = true) : findI p zs = k := by
  have : zs.findIdx? p = some k := by
    rw [List.findIdx?_eq_some_iff_getElem]
    refine ⟨hk, by rw [← iget_lt hk]; exact hp, fun j hj => ?_⟩
    have hx : zs[j]'(by omega) ∈ zs.take k := by rw [List.mem_take_iff_getElem]; exact ⟨j, by omega, rfl⟩
    have := (List.any_eq_false.1 hn) _ hx
    simpa using this
  simp [findI, this]
theorem findI_any (p : Int → Bool) (zs : List Int) : decide (0 ≤ findI p zs) = zs.any p := by
  cases h : zs.any p with
  | false => rw [findI_none h]; rfl
  | true =>
    rw [decide_eq_true_iff]
    unfold findI
    cases h2 : zs.findIdx? p with
    | some i => exact Int.natCast_nonneg i
    | none =>
      rw [List.findIdx?_eq_none_iff] at h2
      obtain ⟨x, hx, hp⟩ := List.any_eq_true.1 h
      have := h2 x hx
      simp [hp] at this

set_option maxHeartbeats 400000 in
theorem indexFunc_any (fn : Nat) (cap : Array Value) (p : Int → Bool) (ao : Option Addr) (n c : Nat) (zs : List Int) (w : World) (h : Ints w ao n zs)
    (hcf : ∀ (args : Array Value) (w : World), (callFunc fn args).run Try.prog w = .ok (.enter fn args) w)
    (hf : ∀ j, j < n → ∀ w', Below w.heap.size w w' → Calls Try.prog fn (#[.int .i64 (iget zs j)] ++ cap) w' fun e w'' => e = .returned (.bool (p (iget zs j))) ∧ Below w'.heap.size w' w'') :
    Calls Try.prog 178 #[.slice ao n c, .func (.func fn) #[] cap] w fun e w' => e = .returned (.int .i64 (findI p zs)) ∧ Below w.heap.size w w' := by
  have hn := h.2.1
  have HF := Lib.hid hf
  clear hf
  go_enter Try.func178, Try.ntmps178
  go_wp2
  go_loopw [8] (fun i wr => ∃ k : Nat, k ≤ n ∧ i = .int .i64 k ∧ (zs.take k).any p = false ∧ Below w.heap.size w wr) (fun i _ => n - (intOf i).toNat)
  case atStart => exact ⟨0, Nat.zero_le _, rfl, by simp, Below.refl _ _⟩
  case round =>
    obtain ⟨k, hk, rfl, hpre, hb⟩ := hrel
    have HP := Lib.hid hpre
    clear hpre
    by_cases hlt : k < n
    · obtain ⟨b, off, rfl, hc⟩ := (h.below hb).at_ hlt
      have HH := Lib.hid h
      clear h
      cases hp : p (iget zs k) with
      | true =>
        have HX := Lib.hid hp
        clear hp
        go_wp2_with fail
        refine (HF.out k hlt _ hb).mono ?_
        rintro e w1 ⟨rfl, hb1⟩
        rw [HX.out]
        go_wp2
        go_ret
        exact ⟨ret_int (findI_some (by rw [HH.out.1]; exact hlt) HP.out HX.out).symm, hb.trans (hb1.mono hb.size)⟩
      | false =>
        have HX := Lib.hid hp
        clear hp
        go_wp2_with fail
        refine (HF.out k hlt _ hb).mono ?_
        rintro e w1 ⟨rfl, hb1⟩
        rw [HX.out]
        go_wp2
        go_roundw
        case rel => exact ⟨k + 1, by omega, by go_num, by rw [any_take_iget (by rw [HH.out.1]; exact hlt), HP.out, HX.out]; rfl, hb.trans (hb1.mono hb.size)⟩
        case measure => simp [intOf]; omega
    · obtain rfl : k = n := by omega
      have hl := h.1
      have HL := Lib.hid hl
      clear hl
      go_wp2
      go_ret
      exact ⟨ret_int (findI_none (by have := HP.out; rwa [List.take_of_length_le (Nat.le_of_eq HL.out)] at this)).symm, hb⟩

theorem containsFunc_any (fn : Nat) (cap : Array Value) (p : Int → Bool) (ao : Option Addr) (n c : Nat) (zs : List Int) (w : World) (h : Ints w ao n zs)
    (hcf : ∀ (args : Array Value) (w : World), (callFunc fn args).run Try.prog w = .ok (.enter fn args) w)
    (hf : ∀ j, j < n → ∀ w', Below w.heap.size w w' → Calls Try.prog fn (#[.int .i64 (iget zs j)] ++ cap) w' fun e w'' => e = .returned (.bool (p (iget zs j))) ∧ Below w'.heap.size w' w'') :
    Calls Try.prog 138 #[.slice ao n c, .func (.func fn) #[] cap] w fun e w' => e = .returned (.bool (zs.any p)) ∧ Below w.heap.size w w' := by
  have HF := Lib.hid hf
  clear hf
  go_enter Try.func138, Try.ntmps138
  go_wp2_with fail
  refine (indexFunc_any fn cap p ao n c zs w h hcf HF.out).mono ?_
  rintro e w1 ⟨rfl, hb1⟩
  go_wp2
  go_ret
  exact ⟨ret_bool (findI_any p zs), hb1⟩
end Go.Proofs.Ytnfkhgamnapgmaa

/- IsDiagram, the program's and the reference's. -/
namespace Go.Proofs.Ytnfkhgamnapgmaa
open Go.RowKit

/-- a label: 0, or 2 to 32 -/
def isLabel (z : Int) : Bool := z == 0 || inB z 2 32
/-- a diagram: fewer than 5 labels -/
def isDiag (zs : List Int) : Bool := zs.all isLabel && decide (zs.length < 5)

set_option maxHeartbeats 400000 in
theorem spec12Is_any (ao : Option Addr) (n c : Nat) (zs : List Int) (w : World) (h : Ints w ao n zs) :
    Calls Try.prog 75 #[.slice ao n c] w fun e w' => e = .returned (.bool (isDiag zs)) ∧ w' = w := by
  have hn := h.2.1
  go_enter Try.func75, Try.ntmps75
  go_wp2
  go_loop [3] (fun i => ∃ k : Nat, k ≤ n ∧ i = .int .i64 k ∧ (zs.take k).all isLabel = true) (fun i => n - (intOf i).toNat)
  case atStart => exact ⟨0, Nat.zero_le _, rfl, by simp⟩
  case round =>
    obtain ⟨k, hk, rfl, hpre⟩ := hrel
    have HP := Lib.hid hpre
    clear hpre
    by_cases hlt : k < n
    · obtain ⟨b, off, rfl, hc⟩ := h.at_ hlt
      have hl := h.1
      have HL := Lib.hid hl
      clear hl h
      cases hp : isLabel (iget zs k) with
      | true =>
        have HX := Lib.hid hp
        by_cases h0 : iget zs k = 0
        · have h1 : (iget zs k != 0) = false := by simp [h0]
          clear hp h0
          go_wp2
          go_round
          case rel => exact ⟨k + 1, by omega, by go_num, by rw [all_take_iget (by rw [HL.out]; exact hlt), HP.out, HX.out]; rfl⟩
          case measure => simp [intOf]; omega
        · have h1 : (iget zs k != 0) = true := by simp [h0]
          have h2 : inB (iget zs k) 2 32 = true := by unfold isLabel at hp; simpa [h0] using hp
          have H2 := Lib.hid h2
          clear hp h0 h2
          go_wp2_with (go_at_call 76; refine (specIn_any _ _ _ _).mono ?_; rintro e w' ⟨rfl, rfl⟩; rw [H2.out])
          go_round
          case rel => exact ⟨k + 1, by omega, by go_num, by rw [all_take_iget (by rw [HL.out]; exact hlt), HP.out, HX.out]; rfl⟩
          case measure => simp [intOf]; omega
      | false =>
        have HX := Lib.hid hp
        have h1 : (iget zs k != 0) = true := by
          rw [bne_iff_ne]; intro e; unfold isLabel at hp; simp [e] at hp
        have h2 : inB (iget zs k) 2 32 = false := by unfold isLabel at hp; simp only [Bool.or_eq_false_iff] at hp; exact hp.2
        have H2 := Lib.hid h2
        clear hp h2
        go_wp2_with (go_at_call 76; refine (specIn_any _ _ _ _).mono ?_; rintro e w' ⟨rfl, rfl⟩; rw [H2.out])
        go_ret
        exact ⟨ret_bool (by unfold isDiag; rw [all_false_at (by rw [HL.out]; exact hlt) HX.out]; rfl), rfl⟩
    · obtain rfl : k = n := by omega
      have hl := h.1
      have HL := Lib.hid hl
      clear hl
      go_wp2
      go_ret
      exact ⟨ret_bool (by have := HP.out; rw [List.take_of_length_le (Nat.le_of_eq HL.out)] at this; unfold isDiag; rw [this, HL.out]; simp; omega), rfl⟩

theorem isDiagramFn_any (z : Int) (w : World) :
    Calls Try.prog 139 #[.int .i64 z] w fun e w' => e = .returned (.bool (!isLabel z)) ∧ w' = w := by
  by_cases h0 : z = 0
  · have h1 : (z != 0) = false := by simp [h0]
    have h2 : isLabel z = true := by simp [isLabel, h0]
    have H2 := Lib.hid h2
    clear h0 h2
    go_enter Try.func139, Try.ntmps139
    go_wp2
    go_ret
    exact ⟨ret_bool (by rw [H2.out]; rfl), rfl⟩
  · have h1 : (z != 0) = true := by simp [h0]
    have h2 : isLabel z = inB z 2 32 := by simp [isLabel, h0]
    have H2 := Lib.hid h2
    clear h0 h2
    go_enter Try.func139, Try.ntmps139
    go_wp2_with (go_at_call 84; refine (within_any _ _ _ _).mono ?_; rintro e w' ⟨rfl, rfl⟩)
    go_ret
    exact ⟨ret_bool (by rw [H2.out]), rfl⟩

set_option maxRecDepth 100000 in
theorem isDiagramImpl_any (ao : Option Addr) (n c : Nat) (zs : List Int) (w : World) (h : Ints w ao n zs) :
    Calls Try.prog 82 #[.slice ao n c] w fun e w' => e = .returned (.bool (isDiag zs)) ∧ Below w.heap.size w w' := by
  have hl := h.1
  have HL := Lib.hid hl
  clear hl
  have hany : zs.any (fun z => !isLabel z) = !(zs.all isLabel) := by rw [List.any_eq_not_all_not]; simp
  have HA := Lib.hid hany
  clear hany
  by_cases hs : n < 5
  · have h1 : decide ((n : Int) < 5) = true := by simp; omega
    go_enter Try.func82, Try.ntmps82
    go_wp2_with fail
    refine (containsFunc_any 139 #[] (fun z => !isLabel z) ao n c zs w h (fun _ _ => by rfl) (fun j hj w' hb => (isDiagramFn_any _ w').mono ?_)).mono ?_
    · rintro e w1 ⟨rfl, rfl⟩; exact ⟨rfl, Below.refl _ _⟩
    rintro e w1 ⟨rfl, hb⟩
    go_wp2
    go_ret
    exact ⟨ret_bool (by rw [HA.out]; unfold isDiag; rw [HL.out]; simp [hs]), hb⟩
  · have h1 : decide ((n : Int) < 5) = false := by simp; omega
    go_enter Try.func82, Try.ntmps82
    go_wp2
    go_ret
    exact ⟨ret_bool (by unfold isDiag; rw [HL.out]; simp; intro _; omega), Below.refl _ _⟩

end Go.Proofs.Ytnfkhgamnapgmaa

/- ReverseDiagram: the reference's l12Turned, slices.Clone and slices.Reverse at []int64. -/
namespace Go.Proofs.Ytnfkhgamnapgmaa
open Go.RowKit

/-- a list the other way round; closed to simp -/
def turned (zs : List Int) : List Int := zs.reverse
theorem turned_drop {zs : List Int} {k : Nat} (h : k < zs.length) : turned (zs.drop k) = turned (zs.drop (k + 1)) ++ [iget zs k] := by
  unfold turned; rw [List.drop_eq_getElem_cons h, ← iget_lt h, List.reverse_cons]

set_option maxHeartbeats 400000 in
theorem spec12Turned_any (ao : Option Addr) (n c : Nat) (zs : List Int) (w : World) (h : Ints w ao n zs) (hn : n ≤ 1048576) :
    Calls Try.prog 210 #[.slice ao n c] w fun e w' => ∃ ao' c', e = .returned (.slice ao' n c') ∧ Own w' w.heap.size 2 ao' n c' ((turned zs).map (Value.int .i64)) ∧ Below w.heap.size w w' := by
  have hl := h.1
  have HL := Lib.hid hl
  clear hl
  go_enter Try.func210, Try.ntmps210
  go_wp2
  go_loopw [3, 4] (fun v i wr => ∃ (k a' : Nat) (ao' : Option Addr) (c' : Nat), k ≤ n ∧ i = .int .i64 ((k : Int) - 1) ∧ v = .slice ao' a' c' ∧ a' + k = n ∧ Own wr w.heap.size 2 ao' a' c' ((turned (zs.drop k)).map (Value.int .i64)) ∧ Below w.heap.size w wr) (fun _ i _ => (intOf i + 1).toNat)
  case atStart => exact ⟨n, 0, _, _, Nat.le_refl _, rfl, rfl, by omega, by rw [List.drop_of_length_le (Nat.le_of_eq HL.out)]; exact Own.empty_ w _ (Nat.le_refl _), (Below.refl _ _).alloc (Nat.le_refl _) _⟩
  case round =>
    obtain ⟨k, a', ao', c', hk, rfl, rfl, hak, ho, hb⟩ := hrel
    have HAK := Lib.hid hak
    clear hak
    by_cases hlt : 0 < k
    · obtain ⟨j, rfl⟩ : ∃ j, k = j + 1 := ⟨k - 1, by omega⟩
      have hj : j < n := by omega
      have ha' : a' ≤ 1048576 := by have := HAK.out; omega
      obtain ⟨b, off, rfl, hc⟩ := (h.below hb).at_ hj
      have HT : Hid (turned (zs.drop j) = turned (zs.drop (j + 1)) ++ [iget zs j]) := turned_drop (by rw [HL.out]; exact hj)
      have hbs := hb.size
      have ej : ((j + 1 : Nat) : Int) - 1 = j := by omega
      rw [ej]
      clear ej
      go_wp2_with (at_builtin; refine wpList_ap1 etI _ rfl _ _ rfl w.heap.size ao' a' c' _ rfl ho (.int .i64 (iget zs j)) rfl rfl (by omega) hbs ?_; intro ao2 c2 w2 ho2 hg2 hblk)
      have hol := ho.lt
      clear ho hc h
      go_wp2
      go_roundw
      case rel =>
        refine ⟨j, a' + 1, ao2, c2, by omega, rfl, rfl, by have := HAK.out; omega, ?_, hb.grown hg2 hbs (fun g hg => (hol g hg).1)⟩
        rw [HT.out, List.map_append]; exact ho2
      case measure => simp [intOf]
    · obtain rfl : k = 0 := by omega
      obtain rfl : a' = n := by have := HAK.out; omega
      go_wp2
      go_ret
      exact ⟨_, _, rfl, by simpa using ho, hb⟩

set_option maxHeartbeats 400000 in
theorem clone_any (ao : Option Addr) (n c : Nat) (zs : List Int) (w : World) (h : Ints w ao n zs) (hn : n ≤ 1048576) :
    Calls Try.prog 168 #[.slice ao n c] w fun e w' => ∃ ao' c', e = .returned (.slice ao' n c') ∧ Own w' w.heap.size 2 ao' n c' (zs.map (Value.int .i64)) ∧ Below w.heap.size w w' := by
  have he := fun (w : World) => Lib.run_eql_slice_nil (P := Try.prog) w 22 2 ao n c 0 0 Try.underlying22
  cases ao with
  | none =>
    obtain ⟨rfl, rfl⟩ := h.of_none
    go_enter Try.func168, Try.ntmps168
    go_wp2
    go_ret
    exact ⟨_, _, rfl, Own.nil_ _ _ _, Below.refl _ _⟩
  | some ad =>
    have h2 : Ints (w.alloc (.cells #[] 2)) (some ad) n zs := h.below ((Below.refl _ _).alloc (Nat.le_refl _) _)
    have H2 := Lib.hid h2
    clear h2
    go_enter Try.func168, Try.ntmps168
    go_wp2_with (at_builtin; refine wpList_apN etI _ rfl _ _ rfl w.heap.size _ 0 0 [] rfl (Own.empty_ w _ (Nat.le_refl _)) (some ad) n c zs rfl H2.out (by omega) (by simp) ?_; intro ao2 c2 w2 ho2 hg2 hblk)
    go_ret
    refine ⟨_, _, rfl, by simpa using ho2, ((Below.refl _ _).alloc (Nat.le_refl _) _).grown hg2 (by simp) (fun g hg => ?_)⟩
    simp [bk] at hg; omega
end Go.Proofs.Ytnfkhgamnapgmaa

/- slices.Reverse at []int64: it turns a row of the call's own round, in place. -/
namespace Go.Proofs.Ytnfkhgamnapgmaa
open Go.RowKit

theorem own_iget {w : World} {base E : Nat} {g n c : Nat} {zs : List Int} (h : Own w base E (some ⟨g, 0, none⟩) n c (zs.map (Value.int .i64))) {k : Nat} (hk : k < n) : w.cell? ⟨g, k, none⟩ = some (.int .i64 (iget zs k)) := by
  obtain ⟨g', hg, _, _, _, hc, _⟩ := h.form (by omega)
  obtain rfl : g = g' := by injection hg with hg; injection hg
  have hl : zs.length = n := by have := h.len; simpa using this
  rw [hc k hk, List.getElem?_map, List.getElem?_eq_getElem (by omega), iget_lt (by omega)]; rfl
theorem iget_set_eq {zs : List Int} {k : Nat} (h : k < zs.length) (x : Int) : iget (zs.set k x) k = x := by rw [iget_lt (by simpa using h)]; simp
theorem iget_set_ne {zs : List Int} {k j : Nat} (h : k ≠ j) (x : Int) : iget (zs.set k x) j = iget zs j := by simp [iget, h]

set_option maxHeartbeats 800000 in
theorem reverse_any (ao : Option Addr) (n c : Nat) (zs : List Int) (w : World) (base : Nat) (h : Own w base 2 ao n c (zs.map (Value.int .i64))) :
    Calls Try.prog 230 #[.slice ao n c] w fun e w' => e = .returned (.tuple #[]) ∧ Own w' base 2 ao n c ((turned zs).map (Value.int .i64)) ∧ w.grownBy w' (bk ao) := by
  have hn := h.2
  have hl : zs.length = n := by have := h.len; simpa using this
  have HL := Lib.hid hl
  clear hl
  go_enter Try.func230, Try.ntmps230
  go_wp2
  go_loopw [2, 3] (fun i j wr => ∃ (k : Nat) (cur : List Int), k ≤ n ∧ i = .int .i64 k ∧ j = .int .i64 ((n : Int) - 1 - k) ∧ cur.length = n ∧ (∀ x, x < n → iget cur x = if x < k ∨ n < x + 1 + k then iget zs (n - 1 - x) else iget zs x) ∧ Own wr base 2 ao n c (cur.map (Value.int .i64)) ∧ w.grownBy wr (bk ao)) (fun i _ _ => n - (intOf i).toNat)
  case atStart => exact ⟨0, zs, by omega, rfl, by simp, HL.out, fun x hx => by rw [if_neg (by omega)], h, World.grownBy.refl _ _⟩
  case round =>
    obtain ⟨k, cur, hk, rfl, rfl, hcl, hcur, ho, hg⟩ := hrel
    have HC := Lib.hid hcl
    have HU := Lib.hid hcur
    clear hcl hcur
    by_cases hlt : k + k + 1 < n
    · obtain ⟨j, hj⟩ : ∃ j : Nat, j + k + 1 = n := ⟨n - 1 - k, by omega⟩
      have HJ := Lib.hid hj
      have ej : (n : Int) - 1 - k = j := by omega
      have hjn : j < n := by omega
      have hkn : k < n := by omega
      have hkj : k < j := by omega
      rw [ej]
      clear hj ej
      obtain ⟨g, rfl, -, hgl, -, -, -⟩ := ho.form (by omega)
      have hc1 := own_iget ho hjn
      have hc2 := own_iget ho hkn
      have hf1 := ho.1.frozenAt j
      have hf2 := ho.1.frozenAt k
      have ho1 : Own wr.drew base 2 (some ⟨g, 0, none⟩) n c (cur.map (Value.int .i64)) := ho
      obtain ⟨s1, t1⟩ := ho1.stored k (.int .i64 (iget cur j))
      obtain ⟨s2, t2⟩ := s1.stored j (.int .i64 (iget cur k))
      have S2 := Lib.hid s2
      have T1 := Lib.hid t1
      have T2 := Lib.hid t2
      clear s1 t1 s2 t2 ho1 ho
      go_wp2
      go_region
      go_wp2
      go_roundw
      case rel =>
        refine ⟨k + 1, (cur.set k (iget cur j)).set j (iget cur k), by omega, by go_num, ?_, by simp [HC.out], ?_, by rw [List.map_set, List.map_set]; exact S2.out, grown_tr hg (grown_tr (⟨rfl, rfl, rfl, Nat.le_refl _, fun _ _ _ => rfl⟩ : wr.grownBy wr.drew _) (grown_tr T1.out T2.out))⟩
        · congr 1; have := HJ.out; omega
        · intro x hx
          have hcl := HC.out
          have hjn' := HJ.out
          by_cases h1 : x = j
          · subst h1
            rw [iget_set_eq (by simp; omega), if_pos (by omega), HU.out k (by omega), if_neg (by omega)]
            congr 1; omega
          · rw [iget_set_ne (fun e => h1 e.symm)]
            by_cases h2 : x = k
            · subst h2
              rw [iget_set_eq (by omega), if_pos (by omega), HU.out j (by omega), if_neg (by omega)]
              congr 1; omega
            · rw [iget_set_ne (fun e => h2 e.symm), HU.out x hx]
              by_cases h3 : x < k ∨ n < x + 1 + k
              · rw [if_pos h3, if_pos (by omega)]
              · rw [if_neg h3, if_neg (by omega)]
      case measure => simp [intOf]; omega
    · have hle : (n : Int) - 1 - k ≤ k := by omega
      go_wp2
      go_end0
      refine ⟨rfl, ?_, hg⟩
      have hcl := HC.out
      have hzl := HL.out
      have e : cur = turned zs := by
        apply iget_ext (by unfold turned; simp; omega)
        intro x hx
        have hr : iget (turned zs) x = iget zs (n - 1 - x) := by
          rw [iget_lt (by unfold turned; simp; omega), iget_lt (by omega)]
          unfold turned
          rw [List.getElem_reverse]
          congr 1; omega
        rw [hr, HU.out x (by omega)]
        by_cases h3 : x < k ∨ n < x + 1 + k
        · rw [if_pos h3]
        · rw [if_neg h3]; congr 1; omega
      rw [← e]; exact ho
end Go.Proofs.Ytnfkhgamnapgmaa

/- A region that draws its order, whose operations only read and whose callees make new memory alone: one walk, in the order of the text. (The steps are printed by fill.py out of the mark CALM.) -/
namespace Go.Proofs.Ytnfkhgamnapgmaa
open Go.RowKit

section
variable {P : Program} {ops : Array Oper} {C : World → Prop} {o : Oper} {a : Act} {K : Act → Prop}
theorem quiet_val {u : Value} (h : ∀ w, C w → (execOp a.eval o).run P w = .ok (.value u) w) (hk : K (a.put o.dst u)) : o.quiet P a C K :=
  ⟨u, fun w hw => by unfold Oper.quietAt; rw [h w hw]; exact ⟨rfl, rfl⟩, hk⟩
theorem quiet_call {f : FuncId} {args : Array Value} {v : Value} (h : ∀ w, C w → (execOp a.eval o).run P w = .ok (.enter f args) w) (hc : ∀ w, C w → Calls P f args w (fun e w'' => e = .returned v ∧ C w'')) (hk : K (a.put o.dst v)) : o.quiet P a C K :=
  ⟨v, fun w hw => by unfold Oper.quietAt; rw [h w hw]; exact ⟨rfl, hc w hw⟩, hk⟩
theorem wp_region_calm {id : Nat} {Q : Exit → Act → World → Prop} {w : World} {l : List Oper} (hm : P.follows .mixedOrders = true) (hB : Region.lexB .any l.toArray = true)
    (h : wpQuiet P l.toArray (fun w' => Below w.heap.size w w') (fun a' => ∀ w', Below w.heap.size w w' → Q .normal a' w') l a) : (Code.region id l.toArray true).wp P Q a w :=
  wp_region_quiet (C := fun w' => Below w.heap.size w w') hm hB (below_drew1 w) (by simpa using h)
end

end Go.Proofs.Ytnfkhgamnapgmaa

/- slices.Sort at []int64, a few elements: it sorts a row of the call's own in place. -/
namespace Go.Proofs.Ytnfkhgamnapgmaa
open Go.RowKit

theorem nan_any (x : Int) (w : World) : Calls Try.prog 247 #[.int .i64 x] w fun e w' => e = .returned (.bool false) ∧ w' = w := by
  have hx : (x != x) = false := by simp
  go_enter Try.func247, Try.ntmps247
  go_wp2
  go_ret
  exact ⟨rfl, rfl⟩

theorem less_any (x y : Int) (w : World) : Calls Try.prog 237 #[.int .i64 x, .int .i64 y] w fun e w' => e = .returned (.bool (decide (x < y))) ∧ w' = w := by
  go_enter Try.func237, Try.ntmps237
  go_wp2_with (go_at_call 247; refine (nan_any _ _).mono ?_; rintro e w' ⟨rfl, rfl⟩)
  go_ret
  exact ⟨rfl, rfl⟩

set_option maxRecDepth 100000 in
theorem len64_0 (w : World) : Calls Try.prog 241 #[.int .u64 0] w fun e w' => (∃ r : Int, e = .returned (.int .i64 r)) ∧ w' = w := by
  go_enter Try.func241, Try.ntmps241
  go_wp2
  go_ret
  exact ⟨⟨_, rfl⟩, rfl⟩
set_option maxRecDepth 100000 in
theorem len64_1 (w : World) : Calls Try.prog 241 #[.int .u64 1] w fun e w' => (∃ r : Int, e = .returned (.int .i64 r)) ∧ w' = w := by
  go_enter Try.func241, Try.ntmps241
  go_wp2
  go_ret
  exact ⟨⟨_, rfl⟩, rfl⟩
set_option maxRecDepth 100000 in
theorem len64_2 (w : World) : Calls Try.prog 241 #[.int .u64 2] w fun e w' => (∃ r : Int, e = .returned (.int .i64 r)) ∧ w' = w := by
  go_enter Try.func241, Try.ntmps241
  go_wp2
  go_ret
  exact ⟨⟨_, rfl⟩, rfl⟩
set_option maxRecDepth 100000 in
theorem len64_3 (w : World) : Calls Try.prog 241 #[.int .u64 3] w fun e w' => (∃ r : Int, e = .returned (.int .i64 r)) ∧ w' = w := by
  go_enter Try.func241, Try.ntmps241
  go_wp2
  go_ret
  exact ⟨⟨_, rfl⟩, rfl⟩
set_option maxRecDepth 100000 in
theorem len64_4 (w : World) : Calls Try.prog 241 #[.int .u64 4] w fun e w' => (∃ r : Int, e = .returned (.int .i64 r)) ∧ w' = w := by
  go_enter Try.func241, Try.ntmps241
  go_wp2
  go_ret
  exact ⟨⟨_, rfl⟩, rfl⟩
set_option maxRecDepth 100000 in
theorem len64_5 (w : World) : Calls Try.prog 241 #[.int .u64 5] w fun e w' => (∃ r : Int, e = .returned (.int .i64 r)) ∧ w' = w := by
  go_enter Try.func241, Try.ntmps241
  go_wp2
  go_ret
  exact ⟨⟨_, rfl⟩, rfl⟩
theorem len64_any (k : Nat) (hk : k ≤ 5) (w : World) : Calls Try.prog 241 #[.int .u64 k] w fun e w' => (∃ r : Int, e = .returned (.int .i64 r)) ∧ w' = w := by
  rcases (by omega : k = 0 ∨ k = 1 ∨ k = 2 ∨ k = 3 ∨ k = 4 ∨ k = 5) with rfl | rfl | rfl | rfl | rfl | rfl
  · exact len64_0 w
  · exact len64_1 w
  · exact len64_2 w
  · exact len64_3 w
  · exact len64_4 w
  · exact len64_5 w
theorem len_any (k : Nat) (hk : k ≤ 5) (w : World) : Calls Try.prog 225 #[.int .u64 k] w fun e w' => (∃ r : Int, e = .returned (.int .i64 r)) ∧ w' = w := by
  go_enter Try.func225, Try.ntmps225
  go_wp2_with fail
  refine (len64_any k hk _).mono ?_
  rintro e w' ⟨⟨r, rfl⟩, rfl⟩
  go_wp2
  go_ret
  exact ⟨⟨_, rfl⟩, rfl⟩

/-- ascending, but for what stands at j, up to i -/
def asc (cur : List Int) (i j : Nat) : Prop := ∀ x y, x < y → y ≤ i → y ≠ j → iget cur x ≤ iget cur y
theorem swap_perm : ∀ (l : List Int) (k : Nat), k + 1 < l.length → ((l.set (k + 1) (iget l k)).set k (iget l (k + 1))).Perm l
  | [], k, h => by simp at h
  | [a], k, h => by simp at h
  | a :: b :: r, 0, _ => by
    simp only [List.set_cons_succ, List.set_cons_zero]
    exact List.Perm.swap a b r
  | a :: b :: r, k + 1, h => by
    have := swap_perm (b :: r) k (by simpa using h)
    rw [show iget (a :: b :: r) (k + 1) = iget (b :: r) k by simp [iget], show iget (a :: b :: r) (k + 1 + 1) = iget (b :: r) (k + 1) by simp [iget], List.set_cons_succ, List.set_cons_succ]
    exact this.cons a
theorem asc_next {cur : List Int} {i : Nat} (h : asc cur i (i + 1)) : asc cur (i + 1) (i + 1) := fun x y h1 h2 h3 => h x y h1 (by omega) h3
theorem asc_stop {cur : List Int} {i j : Nat} (h : asc cur i j) (hs : j = 0 ∨ iget cur (j - 1) ≤ iget cur j) : ∀ x y, x < y → y ≤ i → iget cur x ≤ iget cur y := by
  intro x y h1 h2
  by_cases e : y = j
  · subst e
    rcases hs with h0 | h0
    · omega
    · by_cases e2 : x = y - 1
      · rw [e2]; exact h0
      · exact Int.le_trans (h x (y - 1) (by omega) (by omega) (by omega)) h0
  · exact h x y h1 h2 e
theorem asc_swap {cur : List Int} {i k : Nat} (hl : k + 1 < cur.length) (hk : k + 1 ≤ i) (h : asc cur i (k + 1)) (hlt : iget cur (k + 1) < iget cur k) : asc ((cur.set (k + 1) (iget cur k)).set k (iget cur (k + 1))) i k := by
  have e1 : iget ((cur.set (k + 1) (iget cur k)).set k (iget cur (k + 1))) k = iget cur (k + 1) := iget_set_eq (by simp; omega) _
  have e2 : iget ((cur.set (k + 1) (iget cur k)).set k (iget cur (k + 1))) (k + 1) = iget cur k := by rw [iget_set_ne (by omega), iget_set_eq hl]
  have e3 : ∀ z, z ≠ k → z ≠ k + 1 → iget ((cur.set (k + 1) (iget cur k)).set k (iget cur (k + 1))) z = iget cur z := fun z h1 h2 => by rw [iget_set_ne (fun e => h1 e.symm), iget_set_ne (fun e => h2 e.symm)]
  intro x y h1 h2 h3
  by_cases y1 : y = k + 1
  · subst y1
    rw [e2]
    by_cases x1 : x = k
    · subst x1; rw [e1]; omega
    · rw [e3 x x1 (by omega)]; exact h x k (by omega) (by omega) (by omega)
  · rw [e3 y h3 y1]
    by_cases x1 : x = k
    · subst x1; rw [e1]; exact h (x + 1) y (by omega) h2 y1
    · by_cases x2 : x = k + 1
      · subst x2; rw [e2]; exact h k y (by omega) h2 y1
      · rw [e3 x x1 x2]; exact h x y h1 h2 y1

/-- the list, in ascending order -/
def sortL (zs : List Int) : List Int := zs.mergeSort (fun a b => decide (a ≤ b))
theorem pair_of_iget {l : List Int} (h : ∀ x y, x < y → y < l.length → iget l x ≤ iget l y) : l.Pairwise (· ≤ ·) := by
  rw [List.pairwise_iff_getElem]
  intro i j hi hj hij
  have := h i j hij hj
  rwa [iget_lt hi, iget_lt hj] at this
theorem sortL_uniq {l zs : List Int} (hp : l.Perm zs) (ha : l.Pairwise (· ≤ ·)) : l = sortL zs := by
  have h1 : (sortL zs).Pairwise (· ≤ ·) := by
    have := List.pairwise_mergeSort (le := fun a b : Int => decide (a ≤ b)) (fun a b c h1 h2 => by simp at *; omega) (fun a b => by simp; omega) zs
    exact this.imp (by simp)
  exact List.Perm.eq_of_pairwise (fun a b _ _ h1 h2 => Int.le_antisymm h1 h2) ha h1 (hp.trans (List.mergeSort_perm zs _).symm)
theorem sortL_len (zs : List Int) : (sortL zs).length = zs.length := (List.mergeSort_perm zs _).length_eq
end Go.Proofs.Ytnfkhgamnapgmaa

/- slices.SortStableFunc: what its parts do, on lists. No program in sight. -/
namespace Go.Proofs.Ytnfkhgamnapgmaa
open Go.RowKit

/-- two elements change places -/
def swp (zs : List Int) (i j : Nat) : List Int := (zs.set i (iget zs j)).set j (iget zs i)
theorem swp_len (zs : List Int) (i j : Nat) : (swp zs i j).length = zs.length := by simp [swp]
theorem swp_get {zs : List Int} {i j : Nat} (hi : i < zs.length) (hj : j < zs.length) (k : Nat) :
    iget (swp zs i j) k = if k = j then iget zs i else if k = i then iget zs j else iget zs k := by
  unfold swp
  by_cases e : k = j
  · subst e; rw [if_pos rfl, iget_set_eq (by simpa using hj)]
  · rw [if_neg e, iget_set_ne (fun h => e h.symm)]
    by_cases e2 : k = i
    · subst e2; rw [if_pos rfl, iget_set_eq hi]
    · rw [if_neg e2, iget_set_ne (fun h => e2 h.symm)]
theorem swp_perm {zs : List Int} {i j : Nat} (hi : i < zs.length) (hj : j < zs.length) : (swp zs i j).Perm zs := by
  have := List.set_set_perm hi hj
  unfold swp
  rw [iget_lt hi, iget_lt hj]; exact this

/-- zs' has the elements of zs, and those of a .. b - 1 stay among themselves; the others stay where they are -/
structure Kept (zs zs' : List Int) (a b : Nat) : Prop where
  len : zs'.length = zs.length
  perm : zs'.Perm zs
  out : ∀ j, j < a ∨ b ≤ j → iget zs' j = iget zs j
  mem : ∀ j, a ≤ j → j < b → ∃ i, a ≤ i ∧ i < b ∧ iget zs' j = iget zs i
theorem Kept.refl (zs : List Int) (a b : Nat) : Kept zs zs a b := ⟨rfl, List.Perm.refl _, fun _ _ => rfl, fun j h1 h2 => ⟨j, h1, h2, rfl⟩⟩
theorem Kept.trans {x y z : List Int} {a b : Nat} (h : Kept x y a b) (h' : Kept y z a b) : Kept x z a b :=
  ⟨h'.len.trans h.len, h'.perm.trans h.perm, fun j hj => (h'.out j hj).trans (h.out j hj), fun j h1 h2 => by
    obtain ⟨i, i1, i2, i3⟩ := h'.mem j h1 h2
    obtain ⟨k, k1, k2, k3⟩ := h.mem i i1 i2
    exact ⟨k, k1, k2, i3.trans k3⟩⟩
theorem Kept.wide {x y : List Int} {a b a' b' : Nat} (h : Kept x y a b) (ha : a' ≤ a) (hb : b ≤ b') : Kept x y a' b' :=
  ⟨h.len, h.perm, fun j hj => h.out j (by omega), fun j h1 h2 => by
    by_cases e : a ≤ j ∧ j < b
    · obtain ⟨i, i1, i2, i3⟩ := h.mem j e.1 e.2
      exact ⟨i, by omega, by omega, i3⟩
    · exact ⟨j, h1, h2, h.out j (by omega)⟩⟩
theorem Kept.swp {zs : List Int} {i j a b : Nat} (hi : i < zs.length) (hj : j < zs.length) (h1 : a ≤ i) (h2 : i < b) (h3 : a ≤ j) (h4 : j < b) : Kept zs (swp zs i j) a b :=
  ⟨swp_len _ _ _, swp_perm hi hj, fun k hk => by rw [swp_get hi hj, if_neg (by omega), if_neg (by omega)], fun k k1 k2 => by
    rw [swp_get hi hj]
    by_cases e : k = j
    · rw [if_pos e]; exact ⟨i, h1, h2, rfl⟩
    · rw [if_neg e]
      by_cases e2 : k = i
      · rw [if_pos e2]; exact ⟨j, h3, h4, rfl⟩
      · rw [if_neg e2]; exact ⟨k, k1, k2, rfl⟩⟩

section
variable (key : Int → Nat) (less : Int → Int → Bool)
/-- in order, from a to b - 1 -/
def Asc (zs : List Int) (a b : Nat) : Prop := ∀ i j, a ≤ i → i < j → j < b → key (iget zs i) ≤ key (iget zs j)
/-- between the elements of a .. m - 1 and those of m .. b - 1, the comparison says what the keys say -/
def Agr (zs : List Int) (a m b : Nat) : Prop := ∀ i j, a ≤ i → i < m → m ≤ j → j < b → (less (iget zs j) (iget zs i) = true ↔ key (iget zs j) < key (iget zs i))
/-- the same between any two elements of a .. b - 1 -/
def AgrA (zs : List Int) (a b : Nat) : Prop := ∀ i j, a ≤ i → i < j → j < b → (less (iget zs j) (iget zs i) = true ↔ key (iget zs j) < key (iget zs i))
end
variable {key : Int → Nat} {less : Int → Int → Bool} {zs zs' zs1 : List Int} {a b m : Nat}

/-- what was taken out of its place a and put behind those up to i - 1 -/
structure Up (zs zs' : List Int) (a i : Nat) : Prop where
  kept : Kept zs zs' a (i + 1)
  lo : ∀ j, a ≤ j → j < i → iget zs' j = iget zs (j + 1)
  at_ : iget zs' i = iget zs a
theorem Up.refl (zs : List Int) (a : Nat) : Up zs zs a a := ⟨Kept.refl _ _ _, fun j h1 h2 => by omega, rfl⟩
theorem Up.step {k : Nat} (h : Up zs zs' a k) (ha : a ≤ k) (hk : k + 1 < zs.length) : Up zs (swp zs' k (k + 1)) a (k + 1) := by
  have hl := h.kept.len
  have g := swp_get (zs := zs') (i := k) (j := k + 1) (by omega) (by omega)
  refine ⟨(h.kept.wide (Nat.le_refl _) (by omega)).trans (Kept.swp (by omega) (by omega) ha (by omega) (by omega) (by omega)), fun j h1 h2 => ?_, ?_⟩
  · rw [g, if_neg (by omega)]
    by_cases e : j = k
    · subst e; rw [if_pos rfl]; exact h.kept.out _ (by omega)
    · rw [if_neg e]; exact h.lo j h1 (by omega)
  · rw [g, if_pos rfl]; exact h.at_
/-- what was taken out of its place b and put ahead of those from i on -/
structure Dn (zs zs' : List Int) (i b : Nat) : Prop where
  kept : Kept zs zs' i (b + 1)
  hi : ∀ j, i < j → j ≤ b → iget zs' j = iget zs (j - 1)
  at_ : iget zs' i = iget zs b
theorem Dn.refl (zs : List Int) (b : Nat) : Dn zs zs b b := ⟨Kept.refl _ _ _, fun j h1 h2 => by omega, rfl⟩
theorem Dn.step {k : Nat} (h : Dn zs zs' (k + 1) b) (hk : k + 1 ≤ b) (hb : b < zs.length) : Dn zs (swp zs' (k + 1) k) k b := by
  have hl := h.kept.len
  have g := swp_get (zs := zs') (i := k + 1) (j := k) (by omega) (by omega)
  refine ⟨(h.kept.wide (by omega) (Nat.le_refl _)).trans (Kept.swp (by omega) (by omega) (by omega) (by omega) (by omega) (by omega)), fun j h1 h2 => ?_, ?_⟩
  · rw [g, if_neg (by omega)]
    by_cases e : j = k + 1
    · subst e; rw [if_pos rfl]; exact h.kept.out _ (by omega)
    · rw [if_neg e]; exact h.hi j (by omega) h2
  · rw [g, if_pos rfl]; exact h.at_

/-- one element, put into the list behind it -/
theorem merge_up {i : Nat} (hR : Asc key zs (a + 1) b) (h1 : a + 1 ≤ i) (h2 : i ≤ b) (lo : ∀ h, a + 1 ≤ h → h < i → key (iget zs h) ≤ key (iget zs a)) (hi : ∀ h, i ≤ h → h < b → key (iget zs a) ≤ key (iget zs h))
    (hu : Up zs zs' a (i - 1)) : Kept zs zs' a b ∧ Asc key zs' a b := by
  refine ⟨hu.kept.wide (Nat.le_refl _) (by omega), fun x y hx hxy hy => ?_⟩
  have hx' : iget zs' x = if x < i - 1 then iget zs (x + 1) else if x = i - 1 then iget zs a else iget zs x := by
    split
    · exact hu.lo x hx ‹_›
    · split
      · rename_i e; rw [e]; exact hu.at_
      · exact hu.kept.out x (by omega)
  have hy' : iget zs' y = if y < i - 1 then iget zs (y + 1) else if y = i - 1 then iget zs a else iget zs y := by
    split
    · exact hu.lo y (by omega) ‹_›
    · split
      · rename_i e; rw [e]; exact hu.at_
      · exact hu.kept.out y (by omega)
  rw [hx', hy']
  split
  · split
    · exact hR _ _ (by omega) (by omega) (by omega)
    · split
      · exact lo _ (by omega) (by omega)
      · exact hR _ _ (by omega) (by omega) (by omega)
  · split
    · split
      · omega
      · split
        · omega
        · exact hi _ (by omega) hy
    · split
      · omega
      · split
        · omega
        · exact hR _ _ (by omega) (by omega) (by omega)
/-- one element, put into the list ahead of it -/
theorem merge_dn {i : Nat} (hL : Asc key zs a m) (h1 : a ≤ i) (h2 : i ≤ m) (lo : ∀ h, a ≤ h → h < i → key (iget zs h) ≤ key (iget zs m)) (hi : ∀ h, i ≤ h → h < m → key (iget zs m) ≤ key (iget zs h))
    (hd : Dn zs zs' i m) : Kept zs zs' a (m + 1) ∧ Asc key zs' a (m + 1) := by
  refine ⟨hd.kept.wide h1 (Nat.le_refl _), fun x y hx hxy hy => ?_⟩
  have hg : ∀ x, a ≤ x → x ≤ m → iget zs' x = if x < i then iget zs x else if x = i then iget zs m else iget zs (x - 1) := fun x hx hm => by
    split
    · exact hd.kept.out x (by omega)
    · split
      · rename_i e; rw [e]; exact hd.at_
      · exact hd.hi x (by omega) hm
  rw [hg x hx (by omega), hg y (by omega) (by omega)]
  split
  · split
    · exact hL _ _ (by omega) (by omega) (by omega)
    · split
      · exact lo _ (by omega) (by omega)
      · exact hL _ _ (by omega) (by omega) (by omega)
  · split
    · split
      · omega
      · split
        · omega
        · exact hi _ (by omega) (by omega)
    · split
      · omega
      · split
        · omega
        · exact hL _ _ (by omega) (by omega) (by omega)

/-- the two parts of a list are exchanged -/
structure Rot (zs zs' : List Int) (a m b : Nat) : Prop where
  kept : Kept zs zs' a b
  lo : ∀ j, a ≤ j → j < a + (b - m) → iget zs' j = iget zs (j + (m - a))
  hi : ∀ j, a + (b - m) ≤ j → j < b → iget zs' j = iget zs (j - (b - m))
/-- where to cut -/
structure Cut (key : Int → Nat) (zs : List Int) (a m b st en md : Nat) : Prop where
  sum : st + en = md + m
  s1 : a ≤ st
  s2 : st ≤ m
  e1 : m ≤ en
  e2 : en ≤ b
  mid : md = (a + b) / 2
  ad : ∀ i j, a ≤ i → i < st → en ≤ j → j < b → key (iget zs i) ≤ key (iget zs j)
  cb : ∀ i j, m ≤ i → i < en → st ≤ j → j < m → key (iget zs i) ≤ key (iget zs j)
theorem cut_of {st md : Nat} (hmd : md = (a + b) / 2) (ham : a + 2 ≤ m) (hmb : m + 2 ≤ b) (hL : Asc key zs a m) (hR : Asc key zs m b)
    (h1 : (if m > md then md + m - b else a) ≤ st) (h2 : st ≤ (if m > md then md else m))
    (lo : ∀ c, (if m > md then md + m - b else a) ≤ c → c < st → key (iget zs c) ≤ key (iget zs (md + m - 1 - c)))
    (hi : ∀ c, st ≤ c → c < (if m > md then md else m) → key (iget zs (md + m - 1 - c)) ≤ key (iget zs c)) :
    Cut key zs a m b st (md + m - st) md := by
  have hle : ∀ {x y}, (a ≤ x ∧ x ≤ y ∧ y < m) ∨ (m ≤ x ∧ x ≤ y ∧ y < b) → key (iget zs x) ≤ key (iget zs y) := fun {x y} h => by
    by_cases e : x = y
    · rw [e]; exact Nat.le_refl _
    · rcases h with h | h
      · exact hL _ _ h.1 (by omega) h.2.2
      · exact hR _ _ h.1 (by omega) h.2.2
  split at h1 <;> split at h2 <;> try omega
  · rename_i hm _
    rw [if_pos hm] at lo hi
    refine ⟨by omega, by omega, by omega, by omega, by omega, hmd, fun i j i1 i2 j1 j2 => ?_, fun i j i1 i2 j1 j2 => ?_⟩
    · have h3 := lo (st - 1) (by omega) (by omega)
      exact Nat.le_trans (hle (.inl ⟨i1, by omega, by omega⟩)) (Nat.le_trans h3 (hle (.inr ⟨by omega, by omega, by omega⟩)))
    · have h3 := hi st (by omega) (by omega)
      exact Nat.le_trans (hle (.inr ⟨i1, by omega, by omega⟩)) (Nat.le_trans h3 (hle (.inl ⟨by omega, by omega, by omega⟩)))
  · rename_i hm _
    rw [if_neg hm] at lo hi
    refine ⟨by omega, by omega, by omega, by omega, by omega, hmd, fun i j i1 i2 j1 j2 => ?_, fun i j i1 i2 j1 j2 => ?_⟩
    · have h3 := lo (st - 1) (by omega) (by omega)
      exact Nat.le_trans (hle (.inl ⟨i1, by omega, by omega⟩)) (Nat.le_trans h3 (hle (.inr ⟨by omega, by omega, by omega⟩)))
    · have h3 := hi st (by omega) (by omega)
      exact Nat.le_trans (hle (.inr ⟨i1, by omega, by omega⟩)) (Nat.le_trans h3 (hle (.inl ⟨by omega, by omega, by omega⟩)))
/-- where nothing has to be exchanged, the exchange does nothing -/
theorem Rot.none {st en : Nat} (h : ¬ (st < m ∧ m < en)) (h1 : st ≤ m) (h2 : m ≤ en) : Rot zs zs st m en :=
  ⟨Kept.refl _ _ _, fun j i1 i2 => by rw [show j + (m - st) = j by omega], fun j i1 i2 => by rw [show j - (en - m) = j by omega]⟩
/-- after the exchange: a .. st | m .. en | st .. m | en .. b -/
theorem Rot.at {st en md : Nat} (c : Cut key zs a m b st en md) (hr : Rot zs zs1 st m en) :
    ∀ j, a ≤ j → j < b → iget zs1 j = if j < st then iget zs j else if j < md then iget zs (j + (m - st)) else if j < en then iget zs (j - (en - m)) else iget zs j := fun j j1 j2 => by
  have hs := c.sum; have s2 := c.s2; have e1 := c.e1
  split
  · exact hr.kept.out j (by omega)
  · split
    · exact hr.lo j (by omega) (by omega)
    · split
      · exact hr.hi j (by omega) ‹_›
      · exact hr.kept.out j (by omega)
/-- the two halves, each of two lists in order, and all of the first ahead of all of the second -/
structure Halves (key : Int → Nat) (less : Int → Int → Bool) (zs1 : List Int) (a st md en b : Nat) : Prop where
  o1 : Asc key zs1 a st
  o2 : Asc key zs1 st md
  o3 : Asc key zs1 md en
  o4 : Asc key zs1 en b
  g1 : Agr key less zs1 a st md
  g2 : Agr key less zs1 md en b
  ac : ∀ i j, a ≤ i → i < md → md ≤ j → j < b → key (iget zs1 i) ≤ key (iget zs1 j)
theorem halves_of {st en md : Nat} (c : Cut key zs a m b st en md) (hL : Asc key zs a m) (hR : Asc key zs m b) (hg : Agr key less zs a m b) (hr : Rot zs zs1 st m en) : Halves key less zs1 a st md en b := by
  have H := Rot.at c hr
  have hs := c.sum; have s1 := c.s1; have s2 := c.s2; have e1 := c.e1; have e2 := c.e2; have hm := c.mid
  have A : ∀ j, a ≤ j → j < st → iget zs1 j = iget zs j := fun j j1 j2 => by rw [H j j1 (by omega), if_pos j2]
  have C : ∀ j, st ≤ j → j < md → iget zs1 j = iget zs (j + (m - st)) := fun j j1 j2 => by rw [H j (by omega) (by omega), if_neg (by omega), if_pos j2]
  have B : ∀ j, md ≤ j → j < en → iget zs1 j = iget zs (j - (en - m)) := fun j j1 j2 => by rw [H j (by omega) (by omega), if_neg (by omega), if_neg (by omega), if_pos j2]
  have D : ∀ j, en ≤ j → j < b → iget zs1 j = iget zs j := fun j j1 j2 => by rw [H j (by omega) j2, if_neg (by omega), if_neg (by omega), if_neg (by omega)]
  refine ⟨fun i j i1 i2 i3 => ?_, fun i j i1 i2 i3 => ?_, fun i j i1 i2 i3 => ?_, fun i j i1 i2 i3 => ?_, fun i j i1 i2 i3 i4 => ?_, fun i j i1 i2 i3 i4 => ?_, fun i j i1 i2 i3 i4 => ?_⟩
  · rw [A i i1 (by omega), A j (by omega) i3]; exact hL _ _ i1 i2 (by omega)
  · rw [C i i1 (by omega), C j (by omega) i3]; exact hR _ _ (by omega) (by omega) (by omega)
  · rw [B i i1 (by omega), B j (by omega) i3]; exact hL _ _ (by omega) (by omega) (by omega)
  · rw [D i i1 (by omega), D j (by omega) i3]; exact hR _ _ (by omega) i2 i3
  · rw [A i i1 i2, C j i3 i4]; exact hg _ _ i1 (by omega) (by omega) (by omega)
  · rw [B i i1 i2, D j i3 i4]; exact hg _ _ (by omega) (by omega) (by omega) i4
  · by_cases ei : i < st <;> by_cases ej : j < en
    · rw [A i i1 ei, B j i3 ej]; exact hL _ _ i1 (by omega) (by omega)
    · rw [A i i1 ei, D j (by omega) i4]; exact c.ad _ _ i1 ei (by omega) i4
    · rw [C i (by omega) i2, B j i3 ej]; exact c.cb _ _ (by omega) (by omega) (by omega) (by omega)
    · rw [C i (by omega) i2, D j (by omega) i4]; exact hR _ _ (by omega) (by omega) i4
/-- both halves in order: the whole is in order -/
theorem join_of {zs2 zs3 : List Int} {md : Nat} (ha : a ≤ md) (hb : md ≤ b) (k2 : Kept zs1 zs2 a md) (o2 : Asc key zs2 a md) (k3 : Kept zs2 zs3 md b) (o3 : Asc key zs3 md b)
    (ac : ∀ i j, a ≤ i → i < md → md ≤ j → j < b → key (iget zs1 i) ≤ key (iget zs1 j)) : Kept zs1 zs3 a b ∧ Asc key zs3 a b := by
  refine ⟨(k2.wide (Nat.le_refl _) hb).trans (k3.wide ha (Nat.le_refl _)), fun i j i1 i2 i3 => ?_⟩
  by_cases ei : i < md <;> by_cases ej : j < md
  · rw [k3.out i (.inl ei), k3.out j (.inl ej)]; exact o2 _ _ i1 i2 ej
  · obtain ⟨x, x1, x2, x3⟩ := k2.mem i i1 ei
    obtain ⟨y, y1, y2, y3⟩ := k3.mem j (by omega) i3
    rw [k3.out i (.inl ei), x3, y3, k2.out y (.inr y1)]
    exact ac _ _ x1 x2 y1 y2
  · omega
  · exact o3 _ _ (by omega) i2 i3
theorem Agr.keep {a' m' b' : Nat} (h : Agr key less zs a m b) (k : Kept zs zs' a' b') (hb : b' ≤ a ∨ b ≤ a') : Agr key less zs' a m b := fun i j i1 i2 i3 i4 => by
  rw [k.out i (by omega), k.out j (by omega)]; exact h i j i1 i2 i3 i4
theorem Asc.keep {a' b' : Nat} (h : Asc key zs a b) (k : Kept zs zs' a' b') (hb : b' ≤ a ∨ b ≤ a') : Asc key zs' a b := fun i j i1 i2 i3 => by
  rw [k.out i (by omega), k.out j (by omega)]; exact h i j i1 i2 i3
theorem Asc.short (h : b ≤ a + 1) : Asc key zs a b := fun i j i1 i2 i3 => by omega
/-- a half with an empty part is in order already -/
theorem Asc.glue {x : Nat} (h1 : Asc key zs a x) (h2 : Asc key zs x b) (h : x ≤ a ∨ b ≤ x) : Asc key zs a b := fun i j i1 i2 i3 => by
  rcases h with h | h
  · exact h2 i j (by omega) i2 i3
  · exact h1 i j i1 i2 (by omega)

/-- the row of a block, exchanged with another one as long -/
structure SwR (zs zs' : List Int) (a b n : Nat) : Prop where
  len : zs'.length = zs.length
  perm : zs'.Perm zs
  lo : ∀ j, a ≤ j → j < a + n → iget zs' j = iget zs (b + (j - a))
  hi : ∀ j, b ≤ j → j < b + n → iget zs' j = iget zs (a + (j - b))
  out : ∀ j, (j < a ∨ a + n ≤ j) → (j < b ∨ b + n ≤ j) → iget zs' j = iget zs j
theorem SwR.refl (zs : List Int) (a b : Nat) : SwR zs zs a b 0 := ⟨rfl, List.Perm.refl _, fun j h1 h2 => by omega, fun j h1 h2 => by omega, fun _ _ _ => rfl⟩
theorem SwR.step {k : Nat} (h : SwR zs zs' a b k) (hab : a + k < b) (hb : b + k < zs.length) : SwR zs (swp zs' (a + k) (b + k)) a b (k + 1) := by
  have hl := h.len
  have g := swp_get (zs := zs') (i := a + k) (j := b + k) (by omega) (by omega)
  refine ⟨(swp_len _ _ _).trans hl, (swp_perm (by omega) (by omega)).trans h.perm, fun j h1 h2 => ?_, fun j h1 h2 => ?_, fun j h1 h2 => ?_⟩
  · rw [g, if_neg (by omega)]
    by_cases e : j = a + k
    · rw [if_pos e, show b + (j - a) = b + k by omega]; exact h.out _ (by omega) (by omega)
    · rw [if_neg e]; exact h.lo j h1 (by omega)
  · rw [g]
    by_cases e : j = b + k
    · rw [if_pos e, show a + (j - b) = a + k by omega]; exact h.out _ (by omega) (by omega)
    · rw [if_neg e, if_neg (by omega)]; exact h.hi j h1 (by omega)
  · rw [g, if_neg (by omega), if_neg (by omega)]; exact h.out j (by omega) (by omega)
theorem SwR.kept {n p q : Nat} (h : SwR zs zs' a b n) (h1 : p ≤ a) (h2 : a + n ≤ q) (h3 : p ≤ b) (h4 : b + n ≤ q) : Kept zs zs' p q :=
  ⟨h.len, h.perm, fun j hj => h.out j (by omega) (by omega), fun j j1 j2 => by
    by_cases e : a ≤ j ∧ j < a + n
    · exact ⟨b + (j - a), by omega, by omega, h.lo j e.1 e.2⟩
    · by_cases e2 : b ≤ j ∧ j < b + n
      · exact ⟨a + (j - b), by omega, by omega, h.hi j e2.1 e2.2⟩
      · exact ⟨j, j1, j2, h.out j (by omega) (by omega)⟩⟩
/-- the exchange under way: what waits is i elements ahead of m, and j from m on; T is what shall stand at the end -/
structure RotB (T : Nat → Int) (cur : List Int) (m i j : Nat) : Prop where
  out : ∀ p, p < m - i ∨ m + j ≤ p → iget cur p = T p
  lo : ∀ p, m - i ≤ p → p < m - i + j → T p = iget cur (p + i)
  hi : ∀ p, m - i + j ≤ p → p < m + j → T p = iget cur (p - j)
def rotT (zs : List Int) (a m b p : Nat) : Int := if a ≤ p ∧ p < a + (b - m) then iget zs (p + (m - a)) else if a + (b - m) ≤ p ∧ p < b then iget zs (p - (b - m)) else iget zs p
theorem RotB.start (h1 : a ≤ m) (h2 : m ≤ b) : RotB (rotT zs a m b) zs m (m - a) (b - m) :=
  ⟨fun p hp => by unfold rotT; rw [if_neg (by omega), if_neg (by omega)], fun p p1 p2 => by unfold rotT; rw [if_pos (by omega)], fun p p1 p2 => by unfold rotT; rw [if_neg (by omega), if_pos (by omega)]⟩
variable {T : Nat → Int} {cur cur' : List Int} {i j : Nat}
theorem RotB.more (h : RotB T cur m i j) (hm : i ≤ m) (hij : j < i) (hs : SwR cur cur' (m - i) m j) : RotB T cur' m (i - j) j := by
  refine ⟨fun p hp => ?_, fun p p1 p2 => ?_, fun p p1 p2 => ?_⟩
  · by_cases e : m - i ≤ p ∧ p < m - i + j
    · rw [hs.lo p e.1 e.2, h.lo p e.1 e.2]; congr 1; omega
    · rw [hs.out p (by omega) (by omega)]; exact h.out p (by omega)
  · rw [h.hi p (by omega) (by omega), hs.hi _ (by omega) (by omega)]; congr 1; omega
  · rw [h.hi p (by omega) (by omega), hs.out _ (by omega) (by omega)]
theorem RotB.fewer (h : RotB T cur m i j) (hm : i ≤ m) (hij : i < j) (hs : SwR cur cur' (m - i) (m + j - i) i) : RotB T cur' m i (j - i) := by
  refine ⟨fun p hp => ?_, fun p p1 p2 => ?_, fun p p1 p2 => ?_⟩
  · by_cases e : m + j - i ≤ p ∧ p < m + j
    · rw [hs.hi p e.1 (by omega), h.hi p (by omega) (by omega)]; congr 1; omega
    · rw [hs.out p (by omega) (by omega)]; exact h.out p (by omega)
  · rw [h.lo p (by omega) (by omega), hs.out _ (by omega) (by omega)]
  · rw [h.lo p (by omega) (by omega), hs.lo _ (by omega) (by omega)]; congr 1; omega
theorem RotB.last (h : RotB T cur m i i) (hm : i ≤ m) (hs : SwR cur cur' (m - i) m i) : ∀ p, iget cur' p = T p := fun p => by
  by_cases e : m - i ≤ p ∧ p < m
  · rw [hs.lo p e.1 (by omega), h.lo p e.1 (by omega)]; congr 1; omega
  · by_cases e2 : m ≤ p ∧ p < m + i
    · rw [hs.hi p e2.1 e2.2, h.hi p (by omega) e2.2]; congr 1; omega
    · rw [hs.out p (by omega) (by omega)]; exact h.out p (by omega)
theorem Rot.ofT (k : Kept zs zs' a b) (h : ∀ p, iget zs' p = rotT zs a m b p) : Rot zs zs' a m b :=
  ⟨k, fun p p1 p2 => by rw [h]; unfold rotT; rw [if_pos ⟨p1, p2⟩], fun p p1 p2 => by rw [h]; unfold rotT; rw [if_neg (by omega), if_pos ⟨p1, p2⟩]⟩

/-- the insertion of the element at k under way: it stands at j -/
theorem ins_done {k : Nat} (hd : Dn zs zs' j k) (ha : a ≤ j) (hj : j ≤ k) (hA : Asc key zs a k) (lo : j = a ∨ key (iget zs (j - 1)) ≤ key (iget zs k)) (hi : ∀ h, j ≤ h → h < k → key (iget zs k) ≤ key (iget zs h)) :
    Kept zs zs' a (k + 1) ∧ Asc key zs' a (k + 1) :=
  merge_dn hA ha hj (fun h h1 h2 => by
    rcases lo with e | e
    · omega
    · by_cases e2 : h = j - 1
      · rw [e2]; exact e
      · exact Nat.le_trans (hA h (j - 1) h1 (by omega) (by omega)) e) hi hd
/-- the list is in order and has the same elements: it is this one -/
theorem asc_uniq {l zs : List Int} (hinj : ∀ x y, x ∈ zs → y ∈ zs → key x = key y → x = y) (hp : l.Perm zs) (ha : Asc key l 0 l.length) (zt : List Int) (hpt : zt.Perm zs) (hat : zt.Pairwise fun x y => key x ≤ key y) : l = zt := by
  have h1 : l.Pairwise fun x y => key x ≤ key y := by
    rw [List.pairwise_iff_getElem]
    intro i j hi hj hij
    have := ha i j (Nat.zero_le _) hij hj
    rwa [iget_lt hi, iget_lt hj] at this
  exact List.Perm.eq_of_pairwise (fun x y hx hy h1 h2 => hinj x y (hp.subset hx) (hpt.subset hy) (Nat.le_antisymm h1 h2)) h1 hat (hp.trans hpt.symm)
end Go.Proofs.Ytnfkhgamnapgmaa

/- The number of ones of a mask of at most five bits, and the comparison of two masks by it. -/
namespace Go.Proofs.Ytnfkhgamnapgmaa
open Go.RowKit

/-- how many of the five last bits are set -/
def pcN (k : Nat) : Nat := k % 2 + k / 2 % 2 + k / 4 % 2 + k / 8 % 2 + k / 16 % 2
theorem pcN_le (k : Nat) : pcN k ≤ 5 := by unfold pcN; omega
set_option maxRecDepth 100000 in
theorem ones_0 (w : World) : Calls Try.prog 87 #[.int .u64 0] w fun e w' => e = .returned (.int .i64 (pcN 0 : Nat)) ∧ w' = w := by
  go_enter Try.func87, Try.ntmps87
  go_wp2
  go_ret
  exact ⟨by kernel_rfl, rfl⟩
set_option maxRecDepth 100000 in
theorem ones_1 (w : World) : Calls Try.prog 87 #[.int .u64 1] w fun e w' => e = .returned (.int .i64 (pcN 1 : Nat)) ∧ w' = w := by
  go_enter Try.func87, Try.ntmps87
  go_wp2
  go_ret
  exact ⟨by kernel_rfl, rfl⟩
set_option maxRecDepth 100000 in
theorem ones_2 (w : World) : Calls Try.prog 87 #[.int .u64 2] w fun e w' => e = .returned (.int .i64 (pcN 2 : Nat)) ∧ w' = w := by
  go_enter Try.func87, Try.ntmps87
  go_wp2
  go_ret
  exact ⟨by kernel_rfl, rfl⟩
set_option maxRecDepth 100000 in
theorem ones_3 (w : World) : Calls Try.prog 87 #[.int .u64 3] w fun e w' => e = .returned (.int .i64 (pcN 3 : Nat)) ∧ w' = w := by
  go_enter Try.func87, Try.ntmps87
  go_wp2
  go_ret
  exact ⟨by kernel_rfl, rfl⟩
set_option maxRecDepth 100000 in
theorem ones_4 (w : World) : Calls Try.prog 87 #[.int .u64 4] w fun e w' => e = .returned (.int .i64 (pcN 4 : Nat)) ∧ w' = w := by
  go_enter Try.func87, Try.ntmps87
  go_wp2
  go_ret
  exact ⟨by kernel_rfl, rfl⟩
set_option maxRecDepth 100000 in
theorem ones_5 (w : World) : Calls Try.prog 87 #[.int .u64 5] w fun e w' => e = .returned (.int .i64 (pcN 5 : Nat)) ∧ w' = w := by
  go_enter Try.func87, Try.ntmps87
  go_wp2
  go_ret
  exact ⟨by kernel_rfl, rfl⟩
set_option maxRecDepth 100000 in
theorem ones_6 (w : World) : Calls Try.prog 87 #[.int .u64 6] w fun e w' => e = .returned (.int .i64 (pcN 6 : Nat)) ∧ w' = w := by
  go_enter Try.func87, Try.ntmps87
  go_wp2
  go_ret
  exact ⟨by kernel_rfl, rfl⟩
set_option maxRecDepth 100000 in
theorem ones_7 (w : World) : Calls Try.prog 87 #[.int .u64 7] w fun e w' => e = .returned (.int .i64 (pcN 7 : Nat)) ∧ w' = w := by
  go_enter Try.func87, Try.ntmps87
  go_wp2
  go_ret
  exact ⟨by kernel_rfl, rfl⟩
set_option maxRecDepth 100000 in
theorem ones_8 (w : World) : Calls Try.prog 87 #[.int .u64 8] w fun e w' => e = .returned (.int .i64 (pcN 8 : Nat)) ∧ w' = w := by
  go_enter Try.func87, Try.ntmps87
  go_wp2
  go_ret
  exact ⟨by kernel_rfl, rfl⟩
set_option maxRecDepth 100000 in
theorem ones_9 (w : World) : Calls Try.prog 87 #[.int .u64 9] w fun e w' => e = .returned (.int .i64 (pcN 9 : Nat)) ∧ w' = w := by
  go_enter Try.func87, Try.ntmps87
  go_wp2
  go_ret
  exact ⟨by kernel_rfl, rfl⟩
set_option maxRecDepth 100000 in
theorem ones_10 (w : World) : Calls Try.prog 87 #[.int .u64 10] w fun e w' => e = .returned (.int .i64 (pcN 10 : Nat)) ∧ w' = w := by
  go_enter Try.func87, Try.ntmps87
  go_wp2
  go_ret
  exact ⟨by kernel_rfl, rfl⟩
set_option maxRecDepth 100000 in
theorem ones_11 (w : World) : Calls Try.prog 87 #[.int .u64 11] w fun e w' => e = .returned (.int .i64 (pcN 11 : Nat)) ∧ w' = w := by
  go_enter Try.func87, Try.ntmps87
  go_wp2
  go_ret
  exact ⟨by kernel_rfl, rfl⟩
set_option maxRecDepth 100000 in
theorem ones_12 (w : World) : Calls Try.prog 87 #[.int .u64 12] w fun e w' => e = .returned (.int .i64 (pcN 12 : Nat)) ∧ w' = w := by
  go_enter Try.func87, Try.ntmps87
  go_wp2
  go_ret
  exact ⟨by kernel_rfl, rfl⟩
set_option maxRecDepth 100000 in
theorem ones_13 (w : World) : Calls Try.prog 87 #[.int .u64 13] w fun e w' => e = .returned (.int .i64 (pcN 13 : Nat)) ∧ w' = w := by
  go_enter Try.func87, Try.ntmps87
  go_wp2
  go_ret
  exact ⟨by kernel_rfl, rfl⟩
set_option maxRecDepth 100000 in
theorem ones_14 (w : World) : Calls Try.prog 87 #[.int .u64 14] w fun e w' => e = .returned (.int .i64 (pcN 14 : Nat)) ∧ w' = w := by
  go_enter Try.func87, Try.ntmps87
  go_wp2
  go_ret
  exact ⟨by kernel_rfl, rfl⟩
set_option maxRecDepth 100000 in
theorem ones_15 (w : World) : Calls Try.prog 87 #[.int .u64 15] w fun e w' => e = .returned (.int .i64 (pcN 15 : Nat)) ∧ w' = w := by
  go_enter Try.func87, Try.ntmps87
  go_wp2
  go_ret
  exact ⟨by kernel_rfl, rfl⟩
set_option maxRecDepth 100000 in
theorem ones_16 (w : World) : Calls Try.prog 87 #[.int .u64 16] w fun e w' => e = .returned (.int .i64 (pcN 16 : Nat)) ∧ w' = w := by
  go_enter Try.func87, Try.ntmps87
  go_wp2
  go_ret
  exact ⟨by kernel_rfl, rfl⟩
set_option maxRecDepth 100000 in
theorem ones_17 (w : World) : Calls Try.prog 87 #[.int .u64 17] w fun e w' => e = .returned (.int .i64 (pcN 17 : Nat)) ∧ w' = w := by
  go_enter Try.func87, Try.ntmps87
  go_wp2
  go_ret
  exact ⟨by kernel_rfl, rfl⟩
set_option maxRecDepth 100000 in
theorem ones_18 (w : World) : Calls Try.prog 87 #[.int .u64 18] w fun e w' => e = .returned (.int .i64 (pcN 18 : Nat)) ∧ w' = w := by
  go_enter Try.func87, Try.ntmps87
  go_wp2
  go_ret
  exact ⟨by kernel_rfl, rfl⟩
set_option maxRecDepth 100000 in
theorem ones_19 (w : World) : Calls Try.prog 87 #[.int .u64 19] w fun e w' => e = .returned (.int .i64 (pcN 19 : Nat)) ∧ w' = w := by
  go_enter Try.func87, Try.ntmps87
  go_wp2
  go_ret
  exact ⟨by kernel_rfl, rfl⟩
set_option maxRecDepth 100000 in
theorem ones_20 (w : World) : Calls Try.prog 87 #[.int .u64 20] w fun e w' => e = .returned (.int .i64 (pcN 20 : Nat)) ∧ w' = w := by
  go_enter Try.func87, Try.ntmps87
  go_wp2
  go_ret
  exact ⟨by kernel_rfl, rfl⟩
set_option maxRecDepth 100000 in
theorem ones_21 (w : World) : Calls Try.prog 87 #[.int .u64 21] w fun e w' => e = .returned (.int .i64 (pcN 21 : Nat)) ∧ w' = w := by
  go_enter Try.func87, Try.ntmps87
  go_wp2
  go_ret
  exact ⟨by kernel_rfl, rfl⟩
set_option maxRecDepth 100000 in
theorem ones_22 (w : World) : Calls Try.prog 87 #[.int .u64 22] w fun e w' => e = .returned (.int .i64 (pcN 22 : Nat)) ∧ w' = w := by
  go_enter Try.func87, Try.ntmps87
  go_wp2
  go_ret
  exact ⟨by kernel_rfl, rfl⟩
set_option maxRecDepth 100000 in
theorem ones_23 (w : World) : Calls Try.prog 87 #[.int .u64 23] w fun e w' => e = .returned (.int .i64 (pcN 23 : Nat)) ∧ w' = w := by
  go_enter Try.func87, Try.ntmps87
  go_wp2
  go_ret
  exact ⟨by kernel_rfl, rfl⟩
set_option maxRecDepth 100000 in
theorem ones_24 (w : World) : Calls Try.prog 87 #[.int .u64 24] w fun e w' => e = .returned (.int .i64 (pcN 24 : Nat)) ∧ w' = w := by
  go_enter Try.func87, Try.ntmps87
  go_wp2
  go_ret
  exact ⟨by kernel_rfl, rfl⟩
set_option maxRecDepth 100000 in
theorem ones_25 (w : World) : Calls Try.prog 87 #[.int .u64 25] w fun e w' => e = .returned (.int .i64 (pcN 25 : Nat)) ∧ w' = w := by
  go_enter Try.func87, Try.ntmps87
  go_wp2
  go_ret
  exact ⟨by kernel_rfl, rfl⟩
set_option maxRecDepth 100000 in
theorem ones_26 (w : World) : Calls Try.prog 87 #[.int .u64 26] w fun e w' => e = .returned (.int .i64 (pcN 26 : Nat)) ∧ w' = w := by
  go_enter Try.func87, Try.ntmps87
  go_wp2
  go_ret
  exact ⟨by kernel_rfl, rfl⟩
set_option maxRecDepth 100000 in
theorem ones_27 (w : World) : Calls Try.prog 87 #[.int .u64 27] w fun e w' => e = .returned (.int .i64 (pcN 27 : Nat)) ∧ w' = w := by
  go_enter Try.func87, Try.ntmps87
  go_wp2
  go_ret
  exact ⟨by kernel_rfl, rfl⟩
set_option maxRecDepth 100000 in
theorem ones_28 (w : World) : Calls Try.prog 87 #[.int .u64 28] w fun e w' => e = .returned (.int .i64 (pcN 28 : Nat)) ∧ w' = w := by
  go_enter Try.func87, Try.ntmps87
  go_wp2
  go_ret
  exact ⟨by kernel_rfl, rfl⟩
set_option maxRecDepth 100000 in
theorem ones_29 (w : World) : Calls Try.prog 87 #[.int .u64 29] w fun e w' => e = .returned (.int .i64 (pcN 29 : Nat)) ∧ w' = w := by
  go_enter Try.func87, Try.ntmps87
  go_wp2
  go_ret
  exact ⟨by kernel_rfl, rfl⟩
set_option maxRecDepth 100000 in
theorem ones_30 (w : World) : Calls Try.prog 87 #[.int .u64 30] w fun e w' => e = .returned (.int .i64 (pcN 30 : Nat)) ∧ w' = w := by
  go_enter Try.func87, Try.ntmps87
  go_wp2
  go_ret
  exact ⟨by kernel_rfl, rfl⟩
set_option maxRecDepth 100000 in
theorem ones_31 (w : World) : Calls Try.prog 87 #[.int .u64 31] w fun e w' => e = .returned (.int .i64 (pcN 31 : Nat)) ∧ w' = w := by
  go_enter Try.func87, Try.ntmps87
  go_wp2
  go_ret
  exact ⟨by kernel_rfl, rfl⟩
theorem ones_any (k : Nat) (hk : k < 32) (w : World) : Calls Try.prog 87 #[.int .u64 k] w fun e w' => e = .returned (.int .i64 (pcN k : Nat)) ∧ w' = w := by
  match k, hk with
  | 0, _ => exact ones_0 w
  | 1, _ => exact ones_1 w
  | 2, _ => exact ones_2 w
  | 3, _ => exact ones_3 w
  | 4, _ => exact ones_4 w
  | 5, _ => exact ones_5 w
  | 6, _ => exact ones_6 w
  | 7, _ => exact ones_7 w
  | 8, _ => exact ones_8 w
  | 9, _ => exact ones_9 w
  | 10, _ => exact ones_10 w
  | 11, _ => exact ones_11 w
  | 12, _ => exact ones_12 w
  | 13, _ => exact ones_13 w
  | 14, _ => exact ones_14 w
  | 15, _ => exact ones_15 w
  | 16, _ => exact ones_16 w
  | 17, _ => exact ones_17 w
  | 18, _ => exact ones_18 w
  | 19, _ => exact ones_19 w
  | 20, _ => exact ones_20 w
  | 21, _ => exact ones_21 w
  | 22, _ => exact ones_22 w
  | 23, _ => exact ones_23 w
  | 24, _ => exact ones_24 w
  | 25, _ => exact ones_25 w
  | 26, _ => exact ones_26 w
  | 27, _ => exact ones_27 w
  | 28, _ => exact ones_28 w
  | 29, _ => exact ones_29 w
  | 30, _ => exact ones_30 w
  | 31, _ => exact ones_31 w
  | k + 32, h => exact absurd h (by omega)
theorem cmp_any (x y : Nat) (hx : x < 32) (hy : y < 32) (w : World) : Calls Try.prog 136 #[.int .i64 x, .int .i64 y] w fun e w' => e = .returned (.int .i64 ((pcN x : Nat) - (pcN y : Nat))) ∧ w' = w := by
  have h1 : IntKind.u64.wrap (x : Int) = (x : Int) := by simp [IntKind.wrap, IntKind.bits, IntKind.signed]; omega
  have h2 : IntKind.u64.wrap (y : Int) = (y : Int) := by simp [IntKind.wrap, IntKind.bits, IntKind.signed]; omega
  have p1 := pcN_le x
  have p2 := pcN_le y
  have h3 : IntKind.i64.wrap ((pcN x : Nat) - (pcN y : Nat) : Int) = (pcN x : Nat) - (pcN y : Nat) := IntWalk.i64_in _ (by omega)
  go_enter Try.func136, Try.ntmps136
  go_wp2_with fail
  refine (ones_any x hx _).mono ?_
  rintro e w1 ⟨rfl, rfl⟩
  go_wp2_with fail
  refine (ones_any y hy _).mono ?_
  rintro e w1 ⟨rfl, rfl⟩
  go_wp2_with fail
  go_ret
  exact ⟨by kernel_rfl, rfl⟩
end Go.Proofs.Ytnfkhgamnapgmaa

/- slices.SortStableFunc at []int64 with the program's comparison of masks: its parts, in words. -/
namespace Go.Proofs.Ytnfkhgamnapgmaa
open Go.RowKit

/-- masks of five bits -/
def Rng (zs : List Int) : Prop := ∀ z ∈ zs, 0 ≤ z ∧ z < 32
theorem Rng.at_ {zs : List Int} (h : Rng zs) (j : Nat) : ∃ k : Nat, iget zs j = k ∧ k < 32 := by
  by_cases hj : j < zs.length
  · have h1 := h _ (iget_mem hj)
    exact ⟨(iget zs j).toNat, by omega, by omega⟩
  · exact ⟨0, by simp [iget, List.getElem?_eq_none (Nat.le_of_not_lt hj)], by omega⟩
theorem Rng.perm {zs zt : List Int} (h : Rng zs) (p : zt.Perm zs) : Rng zt := fun z hz => h z (p.subset hz)
/-- what the comparison says -/
def cmpZ (x y : Int) : Int := (pcN x.toNat : Nat) - (pcN y.toNat : Nat)
def lessZ (x y : Int) : Bool := decide (cmpZ x y < 0)
theorem cmp_at {zs : List Int} (h : Rng zs) (i j : Nat) (w : World) : Calls Try.prog 136 #[.int .i64 (iget zs i), .int .i64 (iget zs j)] w fun e w' => e = .returned (.int .i64 (cmpZ (iget zs i) (iget zs j))) ∧ w' = w := by
  obtain ⟨x, hx, hx2⟩ := h.at_ i
  obtain ⟨y, hy, hy2⟩ := h.at_ j
  have := cmp_any x y hx2 hy2 w
  rw [hx, hy]; unfold cmpZ; exact this

set_option maxHeartbeats 800000 in
theorem swapRange_any (ao : Option Addr) (n c a b k : Nat) (zs : List Int) (w : World) (base : Nat) (h : Own w base 2 ao n c (zs.map (Value.int .i64))) (hn : n ≤ 1000) (hab : a + k ≤ b) (hb : b + k ≤ n) (f : Value) :
    Calls Try.prog 229 #[.slice ao n c, .int .i64 a, .int .i64 b, .int .i64 k, f] w fun e w' => e = .returned (.tuple #[]) ∧ ∃ zt, SwR zs zt a b k ∧ Own w' base 2 ao n c (zt.map (Value.int .i64)) ∧ w.grownBy w' (bk ao) := by
  have hl : zs.length = n := by have := h.len; simpa using this
  have HL := Lib.hid hl
  clear hl
  go_enter Try.func229, Try.ntmps229
  go_wp2
  go_loopw [10] (fun i wr => ∃ (t : Nat) (cur : List Int), t ≤ k ∧ i = .int .i64 t ∧ SwR zs cur a b t ∧ Own wr base 2 ao n c (cur.map (Value.int .i64)) ∧ w.grownBy wr (bk ao)) (fun i _ => (k - intOf i).toNat)
  case atStart => exact ⟨0, zs, Nat.zero_le _, rfl, SwR.refl _ _ _, h, World.grownBy.refl _ _⟩
  case round =>
    obtain ⟨t, cur, ht, rfl, hsw, ho, hg⟩ := hrel
    have HS := Lib.hid hsw
    have HO := Lib.hid ho
    have HG := Lib.hid hg
    clear hsw ho hg
    by_cases hlt : t < k
    · obtain ⟨g, rfl, -, hgl, -, -, -⟩ := HO.out.form (by omega)
      have hin : a + t < n := by omega
      have hjn : b + t < n := by omega
      have e1 : IntKind.i64.wrap ((a : Int) + (t : Int)) = ((a + t : Nat) : Int) := by rw [IntWalk.i64_in _ (by omega)]; omega
      have e2 : IntKind.i64.wrap ((b : Int) + (t : Int)) = ((b + t : Nat) : Int) := by rw [IntWalk.i64_in _ (by omega)]; omega
      have hc1 := own_iget HO.out hin
      have hc2 := own_iget HO.out hjn
      have hf1 := HO.out.1.frozenAt (a + t)
      have hf2 := HO.out.1.frozenAt (b + t)
      have ho1 : Own wr.drew base 2 (some ⟨g, 0, none⟩) n c (cur.map (Value.int .i64)) := HO.out
      obtain ⟨s1, t1⟩ := ho1.stored (a + t) (.int .i64 (iget cur (b + t)))
      obtain ⟨s2, t2⟩ := s1.stored (b + t) (.int .i64 (iget cur (a + t)))
      have S2 := Lib.hid s2
      have T1 := Lib.hid t1
      have T2 := Lib.hid t2
      clear s1 t1 s2 t2 ho1
      go_wp2_with fail
      go_region
      go_wp2
      go_roundw
      case rel =>
        refine ⟨t + 1, swp cur (a + t) (b + t), by omega, by go_num, HS.out.step (by omega) (by have := HS.out.len; have := HL.out; omega), ?_, ?_⟩
        · unfold swp; rw [List.map_set, List.map_set]; exact S2.out
        · exact grown_tr HG.out (grown_tr (⟨rfl, rfl, rfl, Nat.le_refl _, fun _ _ _ => rfl⟩ : wr.grownBy wr.drew _) (grown_tr T1.out T2.out))
      case measure => simp [intOf]; omega
    · obtain rfl : t = k := by omega
      go_wp2
      go_end0
      exact ⟨rfl, cur, HS.out, HO.out, HG.out⟩

theorem sub_w {x y : Nat} (h : y ≤ x) (hx : x ≤ 1000000) : IntKind.i64.wrap ((x : Int) - (y : Int)) = ((x - y : Nat) : Int) := by rw [IntWalk.i64_in _ (by omega)]; omega
theorem add_w {x y : Nat} (hx : x ≤ 1000000) (hy : y ≤ 1000000) : IntKind.i64.wrap ((x : Int) + (y : Int)) = ((x + y : Nat) : Int) := by rw [IntWalk.i64_in _ (by omega)]; omega

set_option maxHeartbeats 800000 in
theorem rotate_any (ao : Option Addr) (n c a m b : Nat) (zs : List Int) (w : World) (base : Nat) (h : Own w base 2 ao n c (zs.map (Value.int .i64))) (hn : n ≤ 1000) (ham : a < m) (hmb : m < b) (hb : b ≤ n) (f : Value) :
    Calls Try.prog 221 #[.slice ao n c, .int .i64 a, .int .i64 m, .int .i64 b, f] w fun e w' => e = .returned (.tuple #[]) ∧ ∃ zt, Rot zs zt a m b ∧ Own w' base 2 ao n c (zt.map (Value.int .i64)) ∧ w.grownBy w' (bk ao) := by
  have hl : zs.length = n := by have := h.len; simpa using this
  have HL := Lib.hid hl
  clear hl
  have e1 : ((m : Int) - (a : Int)) = ((m - a : Nat) : Int) := by omega
  have e2 : ((b : Int) - (m : Int)) = ((b - m : Nat) : Int) := by omega
  go_enter Try.func221, Try.ntmps221
  go_wp2
  go_loopw [10, 11] (fun i j wr => ∃ (x y : Nat) (cur : List Int), 1 ≤ x ∧ x ≤ m - a ∧ 1 ≤ y ∧ y ≤ b - m ∧ i = .int .i64 x ∧ j = .int .i64 y ∧ Kept zs cur a b ∧ RotB (rotT zs a m b) cur m x y ∧ Own wr base 2 ao n c (cur.map (Value.int .i64)) ∧ w.grownBy wr (bk ao)) (fun i j _ => (intOf i + intOf j).toNat)
  case atStart => exact ⟨m - a, b - m, zs, by omega, Nat.le_refl _, by omega, Nat.le_refl _, rfl, rfl, Kept.refl _ _ _, RotB.start (by omega) (by omega), h, World.grownBy.refl _ _⟩
  case round =>
    clear e1 e2
    obtain ⟨x, y, cur, hx1, hx, hy1, hy, rfl, rfl, hk, hr, ho, hg⟩ := hrel
    have HK := Lib.hid hk
    have HR := Lib.hid hr
    have HO := Lib.hid ho
    have HG := Lib.hid hg
    clear hk hr ho hg
    have e1 : ((m : Int) - (x : Int)) = ((m - x : Nat) : Int) := by omega
    by_cases hxy : x = y
    · subst hxy
      go_wp2_with fail
      refine (swapRange_any ao n c (m - x) m x cur _ base HO.out hn (by omega) (by omega) f).mono ?_
      rintro e w1 ⟨rfl, zt, hs, ho, hg⟩
      go_wp2
      go_end0
      have hs' := HR.out.last (by omega) hs
      exact ⟨rfl, zt, Rot.ofT (HK.out.trans (hs.kept (by omega) (by omega) (by omega) (by omega))) hs', ho, grown_tr HG.out hg⟩
    · have hxy' : ¬ ((x : Int) = (y : Int)) := by omega
      by_cases hgt : y < x
      · have e2 : ((x : Int) - (y : Int)) = ((x - y : Nat) : Int) := by omega
        go_wp2_with fail
        refine (swapRange_any ao n c (m - x) m y cur _ base HO.out hn (by omega) (by omega) f).mono ?_
        rintro e w1 ⟨rfl, zt, hs, ho, hg⟩
        go_wp2
        go_roundw
        case rel => exact ⟨x - y, y, zt, by omega, by omega, hy1, hy, by go_num, rfl, HK.out.trans (hs.kept (by omega) (by omega) (by omega) (by omega)), HR.out.more (by omega) hgt hs, ho, grown_tr HG.out hg⟩
        case measure => simp [intOf]; omega
      · have e2 : ((y : Int) - (x : Int)) = ((y - x : Nat) : Int) := by omega
        have e3 : ((m : Int) + (y : Int)) - (x : Int) = ((m + y - x : Nat) : Int) := by omega
        go_wp2_with fail
        refine (swapRange_any ao n c (m - x) (m + y - x) x cur _ base HO.out hn (by omega) (by omega) f).mono ?_
        rintro e w1 ⟨rfl, zt, hs, ho, hg⟩
        go_wp2
        go_roundw
        case rel => exact ⟨x, y - x, zt, hx1, hx, by omega, by omega, rfl, by go_num, HK.out.trans (hs.kept (by omega) (by omega) (by omega) (by omega)), HR.out.fewer (by omega) (by omega) hs, ho, grown_tr HG.out hg⟩
        case measure => simp [intOf]; omega
end Go.Proofs.Ytnfkhgamnapgmaa

/- slices.SortStableFunc at []int64 with the program's comparison of masks: the insertion sort of a part, in words. -/
namespace Go.Proofs.Ytnfkhgamnapgmaa
open Go.RowKit

abbrev cmpF : Value := .func (.func 136) #[] #[]
set_option maxHeartbeats 1600000 in
theorem insertF_any (key : Int → Nat) (ao : Option Addr) (n c a b : Nat) (zs : List Int) (w : World) (base : Nat) (h : Own w base 2 ao n c (zs.map (Value.int .i64))) (hn : n ≤ 1000) (hab : a ≤ b) (hb : b ≤ n) (hr : Rng zs) (hag : AgrA key lessZ zs a b) :
    Calls Try.prog 203 #[.slice ao n c, .int .i64 a, .int .i64 b, cmpF] w fun e w' => e = .returned (.tuple #[]) ∧ ∃ zt, (Kept zs zt a b ∧ Asc key zt a b) ∧ Own w' base 2 ao n c (zt.map (Value.int .i64)) ∧ w.grownBy w' (bk ao) := by
  have hl : zs.length = n := by have := h.len; simpa using this
  have HL := Lib.hid hl
  have HRG := Lib.hid hr
  have HAG := Lib.hid hag
  clear hl hr hag
  have e0 : IntKind.i64.wrap ((a : Int) + 1) = ((a + 1 : Nat) : Int) := by rw [IntWalk.i64_in _ (by omega)]; omega
  go_enter Try.func203, Try.ntmps203
  go_wp2
  go_loopw [8] (fun i wr => ∃ (k : Nat) (cur : List Int), a + 1 ≤ k ∧ (cur = zs ∧ k = a + 1 ∨ k ≤ b) ∧ i = .int .i64 k ∧ Kept zs cur a k ∧ Asc key cur a k ∧ Own wr base 2 ao n c (cur.map (Value.int .i64)) ∧ w.grownBy wr (bk ao)) (fun i _ => (n - intOf i).toNat)
  case atStart => exact ⟨a + 1, zs, Nat.le_refl _, .inl ⟨rfl, rfl⟩, by go_num, Kept.refl _ _ _, Asc.short (Nat.le_refl _), h, World.grownBy.refl _ _⟩
  case round =>
    obtain ⟨k, cur0, hk1, hk, rfl, hkp, hca, ho, hg⟩ := hrel
    have HK := Lib.hid hkp
    have HA := Lib.hid hca
    have HO0 := Lib.hid ho
    have HG0 := Lib.hid hg
    have HKK := Lib.hid hk
    clear hkp hca ho hg hk e0
    by_cases hlt : k < b
    · go_wp2_with fail
      go_loopw [9] (fun i wr => ∃ (j : Nat) (cur : List Int), a ≤ j ∧ j ≤ k ∧ i = .int .i64 j ∧ Dn cur0 cur j k ∧ (∀ h, j ≤ h → h < k → key (iget cur0 k) ≤ key (iget cur0 h)) ∧ Own wr base 2 ao n c (cur.map (Value.int .i64)) ∧ w.grownBy wr (bk ao)) (fun i _ => (intOf i).toNat)
      case atStart => exact ⟨k, cur0, by omega, Nat.le_refl _, rfl, Dn.refl _ _, fun h h1 h2 => by omega, HO0.out, HG0.out⟩
      case round =>
        clear HO0 HG0
        obtain ⟨j, cur, hj1, hj, rfl, hd, hhi, ho, hg⟩ := hrel
        have HD := Lib.hid hd
        have HHI := Lib.hid hhi
        have HO := Lib.hid ho
        have HG := Lib.hid hg
        clear hd hhi ho hg
        have H0 : cur0.length = n := HK.out.len.trans HL.out
        have HC : cur.length = n := HD.out.kept.len.trans H0
        have HC := Lib.hid HC
        have H0 := Lib.hid H0
        have hr : Rng cur := (HRG.out.perm HK.out.perm).perm HD.out.kept.perm
        have HR := Lib.hid hr
        clear hr
        by_cases hj0 : a < j
        · obtain ⟨i, hij⟩ : ∃ i, j = i + 1 := ⟨j - 1, by omega⟩
          obtain ⟨g, rfl, -, hgl, -, -, -⟩ := HO.out.form (by omega)
          have hjn : j < n := by omega
          have hin : i < n := by omega
          have hc1 := own_iget HO.out hjn
          have hc2 := own_iget HO.out hin
          have hS : ∀ w', Below wr.heap.size wr w' → (w'.cell? ⟨g, j, none⟩ = some (.int .i64 (iget cur j)) ∧ w'.cell? ⟨g, i, none⟩ = some (.int .i64 (iget cur i))) := fun w' hb => ⟨(hb.cell (p := ⟨g, j, none⟩) (World.block_lt_of_cell? wr _ hc1)).trans hc1, (hb.cell (p := ⟨g, i, none⟩) (World.block_lt_of_cell? wr _ hc2)).trans hc2⟩
          have HS := Lib.hid hS
          clear hS
          have e1 : ((j : Int) - 1) = (i : Int) := by omega
          have e2 : IntKind.i64.wrap (i : Int) = (i : Int) := IntWalk.i64_in _ (by omega)
          have hkey : (lessZ (iget cur j) (iget cur i) = true ↔ key (iget cur0 k) < key (iget cur0 i)) := by
            rw [HD.out.at_, HD.out.kept.out i (by omega)]
            obtain ⟨y, y1, y2, y3⟩ := HK.out.mem i (by omega) (by omega)
            rw [HK.out.out k (by omega), y3]
            exact HAG.out y k y1 y2 hlt
          have HKEY := Lib.hid hkey
          have HIJ := Lib.hid hij
          obtain ⟨cz, hcz⟩ : ∃ cz, cmpZ (iget cur j) (iget cur i) = cz := ⟨_, rfl⟩
          have hlz : lessZ (iget cur j) (iget cur i) = decide (cz < 0) := by unfold lessZ; rw [hcz]
          have HCZ := Lib.hid hcz
          have HLZ := Lib.hid hlz
          clear hij hkey hcz hlz
          by_cases hlt2 : cz < 0
          · clear hc1 hc2
            go_wp2_with fail
            (refine wp_region_calm (by kernel_rfl) (by kernel_rfl) ?_; (repeat (first | go_big_quiet_skip | (go_big_quiet_want; first | (go_big_quiet_op; go_big_quiet_on) | (apply quiet_val; (· (intro _ hw; have f1 := (HS.out _ hw).1; have f0 := (HS.out _ hw).2; go_simp; exact rfl)); go_simp; go_big_quiet_on) | (apply quiet_call; (· (intro _ _; go_simp; exact ⟨rfl, rfl⟩)); (· (intro _ hw; go_at_call 136; refine (cmp_at HR.out j i _).mono ?_; rintro e w2 ⟨rfl, rfl⟩; rw [HCZ.out]; exact ⟨rfl, hw⟩)); go_simp; go_big_quiet_on)))); refine wpQuiet_nil ?_; intro wq bq)
            have b3 := bq
            clear bq
            have ho := HO.out.below b3
            have hg3 := grown_tr HG.out (grown_of_below b3 (bk (some ⟨g, 0, none⟩)))
            have HG3 := Lib.hid hg3
            have hc1 := own_iget ho hjn
            have hc2 := own_iget ho hin
            have hf1 := ho.1.frozenAt j
            have hf2 := ho.1.frozenAt i
            have ho1 : Own wq.drew base 2 (some ⟨g, 0, none⟩) n c (cur.map (Value.int .i64)) := ho
            obtain ⟨s1, t1⟩ := ho1.stored j (.int .i64 (iget cur i))
            obtain ⟨s2, t2⟩ := s1.stored i (.int .i64 (iget cur j))
            have S2 := Lib.hid s2
            have T1 := Lib.hid t1
            have T2 := Lib.hid t2
            clear s1 t1 s2 t2 ho1 ho hg3 b3
            go_wp2_with fail
            go_region
            go_wp2
            go_roundw
            case rel =>
              obtain rfl := HIJ.out
              have hky := HKEY.out.1 (by rw [HLZ.out]; exact decide_eq_true hlt2)
              refine ⟨i, swp cur (i + 1) i, by omega, by omega, by go_num, HD.out.step (by omega) (by have := H0.out; omega), fun h h1 h2 => ?_, ?_, ?_⟩
              · by_cases e : h = i
                · rw [e]; omega
                · exact HHI.out h (by omega) h2
              · unfold swp; rw [List.map_set, List.map_set]; exact S2.out
              · exact grown_tr HG3.out (grown_tr (⟨rfl, rfl, rfl, Nat.le_refl _, fun _ _ _ => rfl⟩ : wq.grownBy wq.drew _) (grown_tr T1.out T2.out))
            case measure => have := HIJ.out; simp [intOf]; omega
          · clear hc1 hc2
            go_wp2_with fail
            (refine wp_region_calm (by kernel_rfl) (by kernel_rfl) ?_; (repeat (first | go_big_quiet_skip | (go_big_quiet_want; first | (go_big_quiet_op; go_big_quiet_on) | (apply quiet_val; (· (intro _ hw; have f1 := (HS.out _ hw).1; have f0 := (HS.out _ hw).2; go_simp; exact rfl)); go_simp; go_big_quiet_on) | (apply quiet_call; (· (intro _ _; go_simp; exact ⟨rfl, rfl⟩)); (· (intro _ hw; go_at_call 136; refine (cmp_at HR.out j i _).mono ?_; rintro e w2 ⟨rfl, rfl⟩; rw [HCZ.out]; exact ⟨rfl, hw⟩)); go_simp; go_big_quiet_on)))); refine wpQuiet_nil ?_; intro wq bq)
            go_wp2_with fail
            go_roundw
            case rel =>
              obtain rfl := HIJ.out
              have hky : ¬ key (iget cur0 k) < key (iget cur0 i) := fun e => by
                have := HKEY.out.2 e
                rw [HLZ.out] at this
                have := of_decide_eq_true this; omega
              obtain ⟨d1, d2⟩ := ins_done HD.out hj1 hj HA.out (.inr (by rw [show i + 1 - 1 = i by omega]; omega)) HHI.out
              exact ⟨k + 1, cur, by omega, .inr (by omega), by go_num, (HK.out.wide (Nat.le_refl _) (by omega)).trans d1, d2, HO.out.below bq, grown_tr HG.out (grown_of_below bq _)⟩
            case measure => simp [intOf]; omega
        · obtain rfl : j = a := by omega
          go_wp2_with fail
          (refine wp_region_calm (by kernel_rfl) (by kernel_rfl) ?_; (repeat (first | go_big_quiet_skip | (go_big_quiet_want; first | (go_big_quiet_op; go_big_quiet_on) | (apply quiet_val; (· (intro _ hw; skip; go_simp; exact rfl)); go_simp; go_big_quiet_on) | (apply quiet_call; (· (intro _ _; go_simp; exact ⟨rfl, rfl⟩)); (· (intro _ hw; fail)); go_simp; go_big_quiet_on)))); refine wpQuiet_nil ?_; intro wq bq)
          go_wp2_with fail
          go_roundw
          case rel =>
            obtain ⟨d1, d2⟩ := ins_done HD.out hj1 hj HA.out (.inl rfl) HHI.out
            exact ⟨k + 1, cur, by omega, .inr (by omega), by go_num, (HK.out.wide (Nat.le_refl _) (by omega)).trans d1, d2, HO.out.below bq, grown_tr HG.out (grown_of_below bq _)⟩
          case measure => simp [intOf]; omega
    · go_wp2
      go_end0
      rcases HKK.out with ⟨rfl, e⟩ | e
      · exact ⟨rfl, cur0, ⟨Kept.refl _ _ _, Asc.short (by omega)⟩, HO0.out, HG0.out⟩
      · obtain rfl : k = b := by omega
        exact ⟨rfl, cur0, ⟨HK.out, HA.out⟩, HO0.out, HG0.out⟩
end Go.Proofs.Ytnfkhgamnapgmaa

/- slices.symMergeCmpFunc at []int64 with the program's comparison of masks: two lists in order become one, in words. (gen_stbm.py) -/
namespace Go.Proofs.Ytnfkhgamnapgmaa
open Go.RowKit

abbrev Merged (key : Int → Nat) (zs : List Int) (a b : Nat) (ao : Option Addr) (n c base : Nat) (w w' : World) : Prop :=
  ∃ zt, (Kept zs zt a b ∧ Asc key zt a b) ∧ Own w' base 2 ao n c (zt.map (Value.int .i64)) ∧ w.grownBy w' (bk ao)
set_option maxRecDepth 100000 in
set_option maxHeartbeats 3200000 in
theorem symL_any (key : Int → Nat) (g n c a b : Nat) (zs : List Int) (w : World) (base : Nat) (h : Own w base 2 (some ⟨g, 0, none⟩) n c (zs.map (Value.int .i64))) (hn : n ≤ 1000) (hmb : a + 1 < b) (hb : b ≤ n) (hr : Rng zs)
    (hB : Asc key zs (a + 1) b) (hag : Agr key lessZ zs a (a + 1) b) :
    Calls Try.prog 204 #[.slice (some ⟨g, 0, none⟩) n c, .int .i64 a, .int .i64 (a + 1 : Nat), .int .i64 b, cmpF] w fun e w' => e = .returned (.tuple #[]) ∧ Merged key zs a b (some ⟨g, 0, none⟩) n c base w w' := by
  have hl : zs.length = n := by have := h.len; simpa using this
  have HL := Lib.hid hl
  have HR := Lib.hid hr
  have HB := Lib.hid hB
  have HAG := Lib.hid hag
  clear hl hr hB hag
  have HB' := HB
  obtain ⟨m, hm⟩ : ∃ m, a + 1 = m := ⟨_, rfl⟩
  rw [hm]
  have e0 : (m : Int) - (a : Int) = 1 := by omega
  go_enter Try.func204, Try.ntmps204
  go_wp2_with fail
  go_loopw [10, 11] (fun x y wr => ∃ (i j : Nat), m ≤ i ∧ i ≤ j ∧ j ≤ b ∧ x = .int .i64 i ∧ y = .int .i64 j ∧ (∀ h, m ≤ h → h < i → key (iget zs h) ≤ key (iget zs a)) ∧ (∀ h, j ≤ h → h < b → key (iget zs a) ≤ key (iget zs h)) ∧ Own wr base 2 (some ⟨g, 0, none⟩) n c (zs.map (Value.int .i64)) ∧ w.grownBy wr (some g)) (fun x y _ => (intOf y - intOf x).toNat)
  case atStart => exact ⟨m, b, Nat.le_refl _, by omega, Nat.le_refl _, rfl, rfl, fun h h1 h2 => by omega, fun h h1 h2 => by omega, h, World.grownBy.refl _ _⟩
  case round =>
    obtain ⟨i, j, hi, hij, hj, rfl, rfl, hlo, hhi, ho, hg⟩ := hrel
    have HLO := Lib.hid hlo
    have HHI := Lib.hid hhi
    have HO := Lib.hid ho
    have HG := Lib.hid hg
    clear hlo hhi ho hg e0
    by_cases hlt : i < j
    · obtain ⟨h, hh⟩ : ∃ h, (i + j) / 2 = h := ⟨_, rfl⟩
      have hh1 : i ≤ h := by omega
      have hh2 : h < j := by omega
      have e1 : ((i : Int) + (j : Int)) / 2 = (h : Int) := by omega
      clear hh
      have hxn : h < n := by omega
      have hyn : a < n := by omega
      have hc1 := own_iget HO.out hxn
      have hc2 := own_iget HO.out hyn
      have hS : ∀ w', Below wr.heap.size wr w' → (w'.cell? ⟨g, h, none⟩ = some (.int .i64 (iget zs (h))) ∧ w'.cell? ⟨g, a, none⟩ = some (.int .i64 (iget zs (a)))) := fun w' hb => ⟨(hb.cell (p := ⟨g, h, none⟩) (World.block_lt_of_cell? wr _ hc1)).trans hc1, (hb.cell (p := ⟨g, a, none⟩) (World.block_lt_of_cell? wr _ hc2)).trans hc2⟩
      have HS := Lib.hid hS
      clear hS hc1 hc2
      obtain ⟨cz, hcz⟩ : ∃ cz, cmpZ (iget zs (h)) (iget zs (a)) = cz := ⟨_, rfl⟩
      have hlz : lessZ (iget zs (h)) (iget zs (a)) = decide (cz < 0) := by unfold lessZ; rw [hcz]
      have HCZ := Lib.hid hcz
      have HLZ := Lib.hid hlz
      clear hcz hlz
      have hk : (lessZ (iget zs h) (iget zs a) = true ↔ key (iget zs h) < key (iget zs a)) := HAG.out a h (Nat.le_refl _) (by omega) (by omega) (by omega)
      rw [HLZ.out, decide_eq_true_iff] at hk
      have HK := Lib.hid hk
      clear hk
      by_cases hlt2 : cz < 0
      · go_wp2_with fail
        (refine wp_region_calm (by kernel_rfl) (by kernel_rfl) ?_; (repeat (first | go_big_quiet_skip | (go_big_quiet_want; first | (go_big_quiet_op; go_big_quiet_on) | (apply quiet_val; (· (intro _ hw; have f1 := (HS.out _ hw).1; have f0 := (HS.out _ hw).2; go_simp; exact rfl)); go_simp; go_big_quiet_on) | (apply quiet_call; (· (intro _ _; go_simp; exact ⟨rfl, rfl⟩)); (· (intro _ hw; go_at_call 136; refine (cmp_at HR.out h a _).mono ?_; rintro e w2 ⟨rfl, rfl⟩; rw [HCZ.out]; exact ⟨rfl, hw⟩)); go_simp; go_big_quiet_on)))); refine wpQuiet_nil ?_; intro wq bq)
        go_wp2_with fail
        go_roundw
        case rel =>
          have hk := HK.out.1 hlt2
          refine ⟨h + 1, j, by omega, by omega, hj, by go_num, rfl, fun t t1 t2 => ?_, HHI.out, HO.out.below bq, grown_tr HG.out (grown_of_below bq _)⟩
          by_cases e : t = h
          · rw [e]; omega
          · exact Nat.le_trans (HB.out t h (by omega) (by omega) (by omega)) (Nat.le_of_lt hk)
        case measure => simp [intOf]; omega
      · go_wp2_with fail
        (refine wp_region_calm (by kernel_rfl) (by kernel_rfl) ?_; (repeat (first | go_big_quiet_skip | (go_big_quiet_want; first | (go_big_quiet_op; go_big_quiet_on) | (apply quiet_val; (· (intro _ hw; have f1 := (HS.out _ hw).1; have f0 := (HS.out _ hw).2; go_simp; exact rfl)); go_simp; go_big_quiet_on) | (apply quiet_call; (· (intro _ _; go_simp; exact ⟨rfl, rfl⟩)); (· (intro _ hw; go_at_call 136; refine (cmp_at HR.out h a _).mono ?_; rintro e w2 ⟨rfl, rfl⟩; rw [HCZ.out]; exact ⟨rfl, hw⟩)); go_simp; go_big_quiet_on)))); refine wpQuiet_nil ?_; intro wq bq)
        go_wp2_with fail
        go_roundw
        case rel =>
          have hk : key (iget zs a) ≤ key (iget zs h) := Nat.le_of_not_lt fun e => absurd (HK.out.2 e) (by omega)
          refine ⟨i, h, hi, by omega, by omega, rfl, rfl, HLO.out, fun t t1 t2 => ?_, HO.out.below bq, grown_tr HG.out (grown_of_below bq _)⟩
          by_cases e : t = h
          · rw [e]; exact hk
          · exact Nat.le_trans hk (HB.out h t (by omega) (by omega) (by omega))
        case measure => simp [intOf]; omega
    · obtain rfl : i = j := by omega
      obtain ⟨q, hq⟩ : ∃ q, i = q + 1 := ⟨i - 1, by omega⟩
      have e2 : (i : Int) - 1 = (q : Int) := by omega
      have haq : a ≤ q := by omega
      have hqn : q < n := by omega
      have HQ := Lib.hid hq
      clear hq
      have HO0 := HO
      have HG0 := HG
      clear HO HG
      go_wp2_with fail
      go_loopw [13] (fun x wr' => ∃ (k : Nat) (cur : List Int), a ≤ k ∧ k ≤ q ∧ x = .int .i64 k ∧ Up zs cur a k ∧ Own wr' base 2 (some ⟨g, 0, none⟩) n c (cur.map (Value.int .i64)) ∧ w.grownBy wr' (some g)) (fun x _ => (n - intOf x).toNat)
      case atStart => exact ⟨a, zs, Nat.le_refl _, haq, rfl, Up.refl _ _, HO0.out, HG0.out⟩
      case round =>
        clear HO0 HG0
        rename_i wr
        obtain ⟨k, cur, hk1, hk2, rfl, hu, ho, hg⟩ := hrel
        have HU := Lib.hid hu
        have HO := Lib.hid ho
        have HG := Lib.hid hg
        clear hu ho hg
        by_cases hlt2 : k < q
        · obtain ⟨k1, hkk⟩ : ∃ k1, k + 1 = k1 := ⟨_, rfl⟩
          have e3 : (k : Int) + 1 = (k1 : Int) := by omega
          have e4 : k1 < n := by omega
          have HKK := Lib.hid hkk
          clear hkk
          have ho1 : Own wr.drew base 2 (some ⟨g, 0, none⟩) n c (cur.map (Value.int .i64)) := HO.out
          obtain ⟨s1, t1⟩ := ho1.stored (k) (.int .i64 (iget cur (k1)))
          obtain ⟨s2, t2⟩ := s1.stored (k1) (.int .i64 (iget cur (k)))
          have hin : k < n := by omega
          have hjn : k1 < n := by first | assumption | omega
          have hc1 := own_iget HO.out hin
          have hc2 := own_iget HO.out hjn
          have hf1 := HO.out.1.frozenAt (k)
          have hf2 := HO.out.1.frozenAt (k1)
          have S2 := Lib.hid s2
          have T1 := Lib.hid t1
          have T2 := Lib.hid t2
          clear s1 t1 s2 t2 ho1
          go_wp2_with fail
          go_region
          go_wp2
          go_roundw
          case rel =>
            obtain rfl := HKK.out
            refine ⟨k + 1, swp cur k (k + 1), by omega, by omega, by go_num, HU.out.step hk1 (by have := HL.out; omega), ?_, ?_⟩
            · unfold swp; rw [List.map_set, List.map_set]; exact S2.out
            · exact grown_tr HG.out (grown_tr (⟨rfl, rfl, rfl, Nat.le_refl _, fun _ _ _ => rfl⟩ : wr.grownBy wr.drew _) (grown_tr T1.out T2.out))
          case measure => simp [intOf]; omega
        · obtain rfl : k = q := by omega
          go_wp2_with fail
          refine bodyPost_ret (results_none rfl _ _ _) rfl ?_
          have hqq := HQ.out
          have hm := merge_up (i := i) HB'.out (by omega) hj (fun h h1 h2 => HLO.out h (by omega) h2) HHI.out (by rw [show i - 1 = k by omega]; exact HU.out)
          exact ⟨rfl, cur, hm, HO.out, HG.out⟩
end Go.Proofs.Ytnfkhgamnapgmaa

/- slices.symMergeCmpFunc at []int64: a part and one element behind it, in words. (gen_stbm.py) -/
namespace Go.Proofs.Ytnfkhgamnapgmaa
open Go.RowKit

set_option maxRecDepth 100000 in
set_option maxHeartbeats 3200000 in
theorem symR_any (key : Int → Nat) (g n c a m : Nat) (zs : List Int) (w : World) (base : Nat) (h : Own w base 2 (some ⟨g, 0, none⟩) n c (zs.map (Value.int .i64))) (hn : n ≤ 1000) (ham : a + 1 < m) (hb : m < n) (hr : Rng zs)
    (hA : Asc key zs a m) (hag : Agr key lessZ zs a m (m + 1)) :
    Calls Try.prog 204 #[.slice (some ⟨g, 0, none⟩) n c, .int .i64 a, .int .i64 m, .int .i64 (m + 1 : Nat), cmpF] w fun e w' => e = .returned (.tuple #[]) ∧ Merged key zs a (m + 1) (some ⟨g, 0, none⟩) n c base w w' := by
  have hl : zs.length = n := by have := h.len; simpa using this
  have HL := Lib.hid hl
  have HR := Lib.hid hr
  have HA := Lib.hid hA
  have HAG := Lib.hid hag
  clear hl hr hA hag
  obtain ⟨b, hmb⟩ : ∃ b, m + 1 = b := ⟨_, rfl⟩
  rw [hmb]
  have e0 : ((m : Int) - (a : Int) == 1) = false := by rw [beq_eq_false_iff_ne]; omega
  have e1 : (b : Int) - (m : Int) = 1 := by omega
  have HMB := Lib.hid hmb
  clear hmb
  go_enter Try.func204, Try.ntmps204
  go_wp2_with fail
  go_loopw [14, 15] (fun x y wr => ∃ (i j : Nat), a ≤ i ∧ i ≤ j ∧ j ≤ m ∧ x = .int .i64 i ∧ y = .int .i64 j ∧ (∀ h, a ≤ h → h < i → key (iget zs h) ≤ key (iget zs m)) ∧ (∀ h, j ≤ h → h < m → key (iget zs m) ≤ key (iget zs h)) ∧ Own wr base 2 (some ⟨g, 0, none⟩) n c (zs.map (Value.int .i64)) ∧ w.grownBy wr (some g)) (fun x y _ => (intOf y - intOf x).toNat)
  case atStart => exact ⟨a, m, Nat.le_refl _, by omega, Nat.le_refl _, rfl, rfl, fun h h1 h2 => by omega, fun h h1 h2 => by omega, h, World.grownBy.refl _ _⟩
  case round =>
    obtain ⟨i, j, hi, hij, hj, rfl, rfl, hlo, hhi, ho, hg⟩ := hrel
    have HLO := Lib.hid hlo
    have HHI := Lib.hid hhi
    have HO := Lib.hid ho
    have HG := Lib.hid hg
    clear hlo hhi ho hg e0 e1
    by_cases hlt : i < j
    · obtain ⟨h, hh⟩ : ∃ h, (i + j) / 2 = h := ⟨_, rfl⟩
      have hh1 : i ≤ h := by omega
      have hh2 : h < j := by omega
      have e1 : ((i : Int) + (j : Int)) / 2 = (h : Int) := by omega
      clear hh
      have hxn : m < n := by omega
      have hyn : h < n := by omega
      have hc1 := own_iget HO.out hxn
      have hc2 := own_iget HO.out hyn
      have hS : ∀ w', Below wr.heap.size wr w' → (w'.cell? ⟨g, m, none⟩ = some (.int .i64 (iget zs (m))) ∧ w'.cell? ⟨g, h, none⟩ = some (.int .i64 (iget zs (h)))) := fun w' hb => ⟨(hb.cell (p := ⟨g, m, none⟩) (World.block_lt_of_cell? wr _ hc1)).trans hc1, (hb.cell (p := ⟨g, h, none⟩) (World.block_lt_of_cell? wr _ hc2)).trans hc2⟩
      have HS := Lib.hid hS
      clear hS hc1 hc2
      obtain ⟨cz, hcz⟩ : ∃ cz, cmpZ (iget zs (m)) (iget zs (h)) = cz := ⟨_, rfl⟩
      have hlz : lessZ (iget zs (m)) (iget zs (h)) = decide (cz < 0) := by unfold lessZ; rw [hcz]
      have HCZ := Lib.hid hcz
      have HLZ := Lib.hid hlz
      clear hcz hlz
      have hk : (lessZ (iget zs m) (iget zs h) = true ↔ key (iget zs m) < key (iget zs h)) := HAG.out h m (by omega) (by omega) (Nat.le_refl _) (by omega)
      rw [HLZ.out, decide_eq_true_iff] at hk
      have HK := Lib.hid hk
      clear hk
      by_cases hlt2 : cz < 0
      · have hd : decide (cz < 0) = true := decide_eq_true hlt2
        go_wp2_with fail
        (refine wp_region_calm (by kernel_rfl) (by kernel_rfl) ?_; (repeat (first | go_big_quiet_skip | (go_big_quiet_want; first | (go_big_quiet_op; go_big_quiet_on) | (apply quiet_val; (· (intro _ hw; have f1 := (HS.out _ hw).1; have f0 := (HS.out _ hw).2; go_simp; exact rfl)); go_simp; go_big_quiet_on) | (apply quiet_call; (· (intro _ _; go_simp; exact ⟨rfl, rfl⟩)); (· (intro _ hw; go_at_call 136; refine (cmp_at HR.out m h _).mono ?_; rintro e w2 ⟨rfl, rfl⟩; rw [HCZ.out]; exact ⟨rfl, hw⟩)); go_simp; go_big_quiet_on)))); refine wpQuiet_nil ?_; intro wq bq)
        go_wp2_with fail
        go_roundw
        case rel =>
          have hk := HK.out.1 hlt2
          refine ⟨i, h, hi, by omega, by omega, rfl, rfl, HLO.out, fun t t1 t2 => ?_, HO.out.below bq, grown_tr HG.out (grown_of_below bq _)⟩
          by_cases e : t = h
          · rw [e]; omega
          · exact Nat.le_trans (Nat.le_of_lt hk) (HA.out h t (by omega) (by omega) (by omega))
        case measure => simp [intOf]; omega
      · have hd : decide (cz < 0) = false := decide_eq_false hlt2
        go_wp2_with fail
        (refine wp_region_calm (by kernel_rfl) (by kernel_rfl) ?_; (repeat (first | go_big_quiet_skip | (go_big_quiet_want; first | (go_big_quiet_op; go_big_quiet_on) | (apply quiet_val; (· (intro _ hw; have f1 := (HS.out _ hw).1; have f0 := (HS.out _ hw).2; go_simp; exact rfl)); go_simp; go_big_quiet_on) | (apply quiet_call; (· (intro _ _; go_simp; exact ⟨rfl, rfl⟩)); (· (intro _ hw; go_at_call 136; refine (cmp_at HR.out m h _).mono ?_; rintro e w2 ⟨rfl, rfl⟩; rw [HCZ.out]; exact ⟨rfl, hw⟩)); go_simp; go_big_quiet_on)))); refine wpQuiet_nil ?_; intro wq bq)
        go_wp2_with fail
        go_roundw
        case rel =>
          have hk : key (iget zs h) ≤ key (iget zs m) := Nat.le_of_not_lt fun e => absurd (HK.out.2 e) (by omega)
          refine ⟨h + 1, j, by omega, by omega, hj, by go_num, rfl, fun t t1 t2 => ?_, HHI.out, HO.out.below bq, grown_tr HG.out (grown_of_below bq _)⟩
          by_cases e : t = h
          · rw [e]; exact hk
          · exact Nat.le_trans (HA.out t h (by omega) (by omega) (by omega)) hk
        case measure => simp [intOf]; omega
    · obtain rfl : i = j := by omega
      have HO0 := HO
      have HG0 := HG
      clear HO HG
      go_wp2_with fail
      go_loopw [17] (fun x wr' => ∃ (k : Nat) (cur : List Int), i ≤ k ∧ k ≤ m ∧ x = .int .i64 k ∧ Dn zs cur k m ∧ Own wr' base 2 (some ⟨g, 0, none⟩) n c (cur.map (Value.int .i64)) ∧ w.grownBy wr' (some g)) (fun x _ => (intOf x).toNat)
      case atStart => exact ⟨m, zs, hj, Nat.le_refl _, rfl, Dn.refl _ _, HO0.out, HG0.out⟩
      case round =>
        clear HO0 HG0
        rename_i wr
        obtain ⟨k, cur, hk1, hk2, rfl, hu, ho, hg⟩ := hrel
        have HU := Lib.hid hu
        have HO := Lib.hid ho
        have HG := Lib.hid hg
        clear hu ho hg
        by_cases hlt2 : i < k
        · obtain ⟨k1, hkk⟩ : ∃ k1, k = k1 + 1 := ⟨k - 1, by omega⟩
          have e3 : (k : Int) - 1 = (k1 : Int) := by omega
          have e4 : k1 < n := by omega
          have HKK := Lib.hid hkk
          clear hkk
          have ho1 : Own wr.drew base 2 (some ⟨g, 0, none⟩) n c (cur.map (Value.int .i64)) := HO.out
          obtain ⟨s1, t1⟩ := ho1.stored (k) (.int .i64 (iget cur (k1)))
          obtain ⟨s2, t2⟩ := s1.stored (k1) (.int .i64 (iget cur (k)))
          have hin : k < n := by omega
          have hjn : k1 < n := by first | assumption | omega
          have hc1 := own_iget HO.out hin
          have hc2 := own_iget HO.out hjn
          have hf1 := HO.out.1.frozenAt (k)
          have hf2 := HO.out.1.frozenAt (k1)
          have S2 := Lib.hid s2
          have T1 := Lib.hid t1
          have T2 := Lib.hid t2
          clear s1 t1 s2 t2 ho1
          go_wp2_with fail
          go_region
          go_wp2
          go_roundw
          case rel =>
            obtain rfl := HKK.out
            refine ⟨k1, swp cur (k1 + 1) k1, by omega, by omega, by go_num, HU.out.step hk2 (by have := HL.out; omega), ?_, ?_⟩
            · unfold swp; rw [List.map_set, List.map_set]; exact S2.out
            · exact grown_tr HG.out (grown_tr (⟨rfl, rfl, rfl, Nat.le_refl _, fun _ _ _ => rfl⟩ : wr.grownBy wr.drew _) (grown_tr T1.out T2.out))
          case measure => have := HKK.out; simp [intOf]; omega
        · obtain rfl : k = i := by omega
          go_wp2_with fail
          refine bodyPost_ret (results_none rfl _ _ _) rfl ?_
          have hm := merge_dn HA.out hi hj HLO.out HHI.out HU.out
          rw [HMB.out] at hm
          exact ⟨rfl, cur, hm, HO.out, HG.out⟩
end Go.Proofs.Ytnfkhgamnapgmaa

/- A memory of names: the state of a walk as named chunks of memory (vectors of plain values, flat cells, rows of rows), with the world behind it. No program in sight. -/
namespace Go.Proofs.Ytnfkhgamnapgmaa
open Go.RowKit

abbrev Nm := Nat
/-- a value of one cell, as the walk knows it: a plain value; a slice or a pointer into chunk x; a slice or a pointer into row i of chunk x -/
inductive A1 where
  | val (v : Value)
  | any
  | sl (x : Nm) (off n : Nat)
  | ptr (x : Nm) (off : Nat)
  | esl (x : Nm) (i off n : Nat)
  | eptr (x : Nm) (i off : Nat)
  | clo (f : Fn) (xs : List (Nm × Nat))
inductive A2 where
  | one (a : A1)
  | agg (l : List A1)
inductive AV where
  | s (a : A2)
  | tup (l : List A2)
abbrev o1 (a : A1) : AV := .s (.one a)
abbrev vv (v : Value) : AV := .s (.one (.val v))

structure Hd where
  ao : Option Addr
  c : Nat
  k : Nat
structure Env where
  h : Nm → Option Hd
  r : Nm → Nat → Hd

def slAt (h : Hd) (off n : Nat) (u : Value) : Prop :=
  ∃ ao, u = .slice ao n (h.c - off) ∧ (off = 0 → ao = h.ao) ∧ (0 < off → off < h.c → ao = h.ao.map fun p => ⟨p.block, p.off + off * h.k, none⟩)
def ptAt (h : Hd) (off : Nat) (u : Value) : Prop := ∃ b o, h.ao = some ⟨b, o, none⟩ ∧ u = .pointer (some ⟨b, o + off, none⟩)

def Den1 (η : Env) : A1 → Value → Prop
  | .val v, u => u = v
  | .any, u => u.oneCell' = true
  | .sl x off n, u => (∃ ao c, u = .slice ao n c) ∧ ∀ h, η.h x = some h → slAt h off n u
  | .ptr x off, u => (∃ p, u = .pointer p) ∧ ∀ h, η.h x = some h → ptAt h off u
  | .esl x i off n, u => (∃ ao c, u = .slice ao n c) ∧ ∀ h, η.h x = some h → slAt (η.r x i) off n u
  | .eptr x i off, u => (∃ p, u = .pointer p) ∧ ∀ h, η.h x = some h → ptAt (η.r x i) off u
  | .clo f xs, u => ∃ us : Array Value, u = .func f #[] us ∧ us.size = xs.length ∧ ∀ (j : Nat) (p : Nm × Nat), xs[j]? = some p → ∃ q, us[j]? = some q ∧ (∃ p', q = .pointer p') ∧ ∀ h, η.h p.1 = some h → ptAt h p.2 q
def Den2 (η : Env) : A2 → Value → Prop
  | .one a, u => Den1 η a u
  | .agg l, u => ∃ us : Array Value, u = .agg us ∧ us.size = l.length ∧ ∀ (j : Nat) (a : A1), l[j]? = some a → ∃ u', us[j]? = some u' ∧ Den1 η a u'
def Den (η : Env) : AV → Value → Prop
  | .s a, u => Den2 η a u
  | .tup l, u => ∃ us : Array Value, u = .tuple us ∧ us.size = l.length ∧ ∀ (j : Nat) (a : A2), l[j]? = some a → ∃ u', us[j]? = some u' ∧ Den2 η a u'

def A1.has (x : Nm) : A1 → Bool
  | .sl y _ _ | .ptr y _ | .esl y _ _ _ | .eptr y _ _ => Nat.beq x y
  | .clo _ xs => xs.any fun p => Nat.beq x p.1
  | .val _ | .any => false
def A2.has (x : Nm) : A2 → Bool
  | .one a => a.has x
  | .agg l => l.any (A1.has x)
def AV.has (x : Nm) : AV → Bool
  | .s a => a.has x
  | .tup l => l.any (A2.has x)
def A1.forget (x : Nm) (a : A1) : A1 := bif a.has x then .any else a

/-- a cell of a mixed vector: a plain value; a row of m elements of k cells each; something -/
inductive Cel where
  | v (x : Value)
  | r (F : TypeId) (k m : Nat) (vs : List Value)
  | any
inductive Dat where
  | flat (l : List A1)
  | vals (vs : List Value)
  | rows (E : TypeId) (vss : List (List Value)) (holes : List Nat)
  | mix (cs : List Cel)
structure Ch where
  own : Bool
  E : TypeId
  k : Nat
  d : Dat
def Dat.len : Dat → Nat
  | .flat l => l.length
  | .vals vs => vs.length
  | .rows _ vss _ => vss.length
  | .mix cs => cs.length
def Dat.forget (x : Nm) : Dat → Dat
  | .flat l => .flat (l.map (A1.forget x))
  | d => d
def Ch.forget (x : Nm) (c : Ch) : Ch := { c with d := c.d.forget x }

/-- the owner of a block: a chunk, or a row of a chunk -/
abbrev Own? := Nat → Option (Nm × Option Nat)

def VecO (ω : Own?) (w : World) (ow : Nm × Option Nat) (h : Hd) (E : TypeId) (len : Nat) (cell : Nat → Value → Prop) : Prop :=
  (h.ao = none ∧ h.c = 0 ∧ len = 0) ∨
  ∃ b o cs, h.ao = some ⟨b, o, none⟩ ∧ ω b = some ow ∧ w.heap[b]? = some (.cells cs E (0, 0)) ∧ (o = 0 ∧ cs.size = h.c * h.k) ∧ len ≤ h.c * h.k ∧ h.c ≤ maxLen ∧
    ∀ j, j < len → ∃ u, cs[o + j]? = some u ∧ cell j u
def VecR (ω : Own?) (w : World) (h : Hd) (len : Nat) (cell : Nat → Value → Prop) : Prop :=
  len ≤ h.c * h.k ∧ ∀ j, j < len → ∃ b o u, h.ao = some ⟨b, o, none⟩ ∧ ω b = none ∧ b < w.heap.size ∧ w.cell? ⟨b, o + j, none⟩ = some u ∧ cell j u
def Vec (own : Bool) (ω : Own?) (w : World) (ow : Nm × Option Nat) (h : Hd) (E : TypeId) (len : Nat) (cell : Nat → Value → Prop) : Prop :=
  match own with
  | true => VecO ω w ow h E len cell
  | false => VecR ω w h len cell

def celOK (η : Env) (ω : Own?) (w : World) (own : Bool) (x : Nm) (j : Nat) : Cel → Value → Prop
  | .v y, u => u = y
  | .any, _ => True
  | .r F k m vs, u => vs.length = m * k ∧ u = .slice (η.r x j).ao m (η.r x j).c ∧ (η.r x j).k = k ∧ Vec own ω w (x, some j) (η.r x j) F vs.length fun i u => vs[i]? = some u
theorem celOK.move {η η' : Env} {ω ω' : Own?} {w w' : World} {own own' : Bool} {x x' : Nm} {j : Nat} {c : Cel} {u : Value} (hr : η'.r x' j = η.r x j)
    (hv : ∀ F k m vs, c = .r F k m vs → Vec own ω w (x, some j) (η.r x j) F vs.length (fun i u => vs[i]? = some u) → Vec own' ω' w' (x', some j) (η.r x j) F vs.length (fun i u => vs[i]? = some u)) (h : celOK η ω w own x j c u) : celOK η' ω' w' own' x' j c u := by
  cases c with
  | v y => exact h
  | any => trivial
  | r F k m vs =>
    obtain ⟨h0, h1, h2, h3⟩ := h
    unfold celOK
    rw [hr]
    exact ⟨h0, h1, h2, hv F k m vs rfl h3⟩
def cellsOK (η : Env) (ω : Own?) (w : World) (own : Bool) (x : Nm) : Dat → Nat → Value → Prop
  | .flat l, j, u => ∀ a, l[j]? = some a → Den1 η a u
  | .vals vs, j, u => vs[j]? = some u
  | .rows E vss holes, j, u => u.oneCell' = true ∧ (j ∉ holes → ∀ vs, vss[j]? = some vs → u = .slice (η.r x j).ao vs.length (η.r x j).c ∧ (η.r x j).k = 1 ∧ Vec own ω w (x, some j) (η.r x j) E vs.length fun i u => vs[i]? = some u)
  | .mix cs, j, u => u.oneCell' = true ∧ ∀ c, cs[j]? = some c → celOK η ω w own x j c u

def ChIs (η : Env) (ω : Own?) (w : World) (x : Nm) (h : Hd) (c : Ch) : Prop := h.k = c.k ∧ Vec c.own ω w (x, none) h c.E c.d.len (cellsOK η ω w c.own x c.d)

def Mem (η : Env) (ω : Own?) (w : World) (ch : Nm → Option Ch) : Prop :=
  (∀ x c, ch x = some c → ∃ h, η.h x = some h ∧ ChIs η ω w x h c) ∧ (∀ x, ch x = none → η.h x = none)

/-- what was not owned has not turned -/
structure Fr (ω : Own?) (w : World) (ω' : Own?) (w' : World) : Prop where
  os : w'.os = w.os
  tape : w'.tape = w.tape
  output : w'.output = w.output
  size : w.heap.size ≤ w'.heap.size
  block : ∀ b, b < w.heap.size → ω b = none → w'.heap[b]? = w.heap[b]? ∧ ω' b = none
theorem Fr.refl (ω : Own?) (w : World) : Fr ω w ω w := ⟨rfl, rfl, rfl, Nat.le_refl _, fun _ _ h => ⟨rfl, h⟩⟩
theorem Fr.trans {ω ω' ω'' : Own?} {w w' w'' : World} (h : Fr ω w ω' w') (k : Fr ω' w' ω'' w'') : Fr ω w ω'' w'' :=
  ⟨k.os.trans h.os, k.tape.trans h.tape, k.output.trans h.output, Nat.le_trans h.size k.size, fun b hb hn =>
    have h1 := h.block b hb hn
    have h2 := k.block b (Nat.lt_of_lt_of_le hb h.size) h1.2
    ⟨h2.1.trans h1.1, h2.2⟩⟩

structure St where
  sl : Nat → Option AV
  ch : Nm → Option Ch
  /-- values that stand in no slot (the arguments), as they are known now -/
  ph : Nat → Option AV
/-- what is fixed at the call's begin: the owners, and values to remember -/
structure Beg where
  own : Own?
  ph : List Value
def St.put (S : St) (t : Nat) (av : AV) : St := { S with sl := fun t' => bif Nat.beq t' t then some av else S.sl t' }
def St.putO (S : St) (t : Option Nat) (av : AV) : St := match t with | some t => S.put t av | none => S
def St.new (S : St) (x : Nm) (c : Ch) : St :=
  { sl := fun t => (S.sl t).bind fun av => bif av.has x then none else some av
    ph := fun t => (S.ph t).bind fun av => bif av.has x then none else some av
    ch := fun y => bif Nat.beq y x then some c else (S.ch y).map (Ch.forget x) }
def St.set (S : St) (x : Nm) (c : Ch) : St := { S with ch := fun y => bif Nat.beq y x then some c else S.ch y }
def St.rm (S : St) (x : Nm) : St := { S with ch := fun y => bif Nat.beq y x then none else S.ch y }

/-- the state S holds in the frame a and the world w; w0, ω0: the world and the owners at the call's begin; nt: the number of slots -/
structure SatE (w0 : World) (ω0 : Beg) (nt : Nat) (S : St) (η : Env) (ω : Own?) (a : Act) (w : World) : Prop where
  dfr : a.defers = []
  tsz : a.tmps.size = nt
  slots : ∀ t av, S.sl t = some av → ∃ u, a.tmps[t]? = some u ∧ Den η av u
  phs : ∀ t av, S.ph t = some av → ∃ u, ω0.ph[t]? = some u ∧ Den η av u
  mem : Mem η ω w S.ch
  fr : Fr ω0.own w0 ω w
def Sat (w0 : World) (ω0 : Beg) (nt : Nat) (S : St) (a : Act) (w : World) : Prop := ∃ η ω, SatE w0 ω0 nt S η ω a w

section
variable {w0 w : World} {ω0 : Beg} {ω : Own?} {nt : Nat} {S : St} {η : Env} {a : Act}

theorem beq_true {x y : Nat} (h : Nat.beq x y = true) : x = y := Nat.eq_of_beq_eq_true h
theorem beq_self (x : Nat) : Nat.beq x x = true := by simp
theorem beq_ne {x y : Nat} (h : x ≠ y) : Nat.beq x y = false := by
  cases hb : Nat.beq x y with
  | true => exact absurd (beq_true hb) h
  | false => rfl
theorem sl_put (S : St) (t t' : Nat) (av : AV) : (S.put t av).sl t' = if t' = t then some av else S.sl t' := by
  unfold St.put
  by_cases h : t' = t
  · subst h; simp
  · simp only [beq_ne h, if_neg h, cond_false]
theorem ch_set (S : St) (x y : Nm) (c : Ch) : (S.set x c).ch y = if y = x then some c else S.ch y := by
  unfold St.set
  by_cases h : y = x
  · subst h; simp
  · simp only [beq_ne h, if_neg h, cond_false]
theorem ch_rm (S : St) (x y : Nm) : (S.rm x).ch y = if y = x then none else S.ch y := by
  unfold St.rm
  by_cases h : y = x
  · subst h; simp
  · simp only [beq_ne h, if_neg h, cond_false]
theorem ch_new (S : St) (x y : Nm) (c : Ch) : (S.new x c).ch y = if y = x then some c else (S.ch y).map (Ch.forget x) := by
  unfold St.new
  by_cases h : y = x
  · subst h; simp
  · simp only [beq_ne h, if_neg h, cond_false]
theorem sl_new {S : St} {x : Nm} {c : Ch} {t : Nat} {av : AV} (h : (S.new x c).sl t = some av) : S.sl t = some av ∧ av.has x = false := by
  unfold St.new at h
  simp only at h
  cases hs : S.sl t with
  | none => rw [hs] at h; cases h
  | some b =>
    rw [hs] at h
    simp only [Option.bind_some] at h
    cases hb : b.has x with
    | true => rw [hb] at h; cases h
    | false => rw [hb] at h; simp at h; subst h; exact ⟨rfl, hb⟩

theorem ph_new {S : St} {x : Nm} {c : Ch} {t : Nat} {av : AV} (h : (S.new x c).ph t = some av) : S.ph t = some av ∧ av.has x = false := by
  unfold St.new at h
  simp only at h
  cases hs : S.ph t with
  | none => rw [hs] at h; cases h
  | some b =>
    rw [hs] at h
    simp only [Option.bind_some] at h
    cases hb : b.has x with
    | true => rw [hb] at h; cases h
    | false => rw [hb] at h; simp at h; subst h; exact ⟨rfl, hb⟩
theorem SatE.putV (h : SatE w0 ω0 nt S η ω a w) {t : Nat} {av : AV} {u : Value} (ht : t < nt) (hd : Den η av u) : SatE w0 ω0 nt (S.put t av) η ω (a.put (some t) u) w :=
  { dfr := h.dfr
    tsz := by simp only [Act.put, Array.size_setIfInBounds]; exact h.tsz
    mem := h.mem, fr := h.fr, phs := h.phs
    slots := fun t' av' ht' => by
      rw [sl_put] at ht'
      simp only [Act.put, Array.getElem?_setIfInBounds, h.tsz]
      by_cases e : t' = t
      · subst e
        rw [if_pos rfl] at ht'
        obtain rfl := Option.some.inj ht'
        exact ⟨u, by simp [ht], hd⟩
      · rw [if_neg e] at ht'
        obtain ⟨u', h1, h2⟩ := h.slots t' av' ht'
        exact ⟨u', by rw [if_neg fun e' => e e'.symm]; exact h1, h2⟩ }

theorem Vec.get {own : Bool} {ow : Nm × Option Nat} {h : Hd} {E : TypeId} {len : Nat} {cell : Nat → Value → Prop} (hv : Vec own ω w ow h E len cell) {j : Nat} (hj : j < len) :
    ∃ b o u, h.ao = some ⟨b, o, none⟩ ∧ w.cell? ⟨b, o + j, none⟩ = some u ∧ cell j u := by
  cases own with
  | true =>
    rcases hv with ⟨_, _, h0⟩ | ⟨b, o, cs, h1, _, h2, _, _, _, h3⟩
    · omega
    · obtain ⟨u, hu, hc⟩ := h3 j hj
      exact ⟨b, o, u, h1, by rw [cell_of_row w b (o + j) cs E (0, 0) h2]; exact hu, hc⟩
  | false =>
    obtain ⟨b, o, u, h1, _, _, h2, h3⟩ := hv.2 j hj
    exact ⟨b, o, u, h1, h2, h3⟩
theorem Vec.cap {own : Bool} {ow : Nm × Option Nat} {h : Hd} {E : TypeId} {len : Nat} {cell : Nat → Value → Prop} (hv : Vec own ω w ow h E len cell) : len ≤ h.c * h.k := by
  cases own with
  | true => rcases hv with ⟨_, _, h0⟩ | ⟨b, o, cs, h1, _, h2, _, h3, _⟩ <;> omega
  | false => exact hv.1
end
end Go.Proofs.Ytnfkhgamnapgmaa
