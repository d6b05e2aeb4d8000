/- Words for the walks of this seat: integer slices that are read, rows that a call owns, and the walk's laws on make and append in those words. No program in sight. -/
import Derived.WalkKit
import Derived.WalkSpells
import Derived.WalkLawsBesides
import Derived.Lib.Hide
import Derived.BigQuiet
import Derived.Deep.QuietTactic
import Derived.Deep.Draws
import Derived.Deep.AppendLies
import Derived.Maps.AppendAt
import Derived.Test.YtmdhljleaijkbaaGreatDoorRows
import Derived.ProofKit
import Derived.OpenShut
import Derived.SizedLaws
import Derived.ChangeSame
import Derived.Deep.Slices
import Derived.Test.YtmdhljleaijkbaaGreatDoorProg
import Derived.RegionTactic
import Derived.Deep.RegionLaw
import Derived.Laws.StructEq
import Derived.Maps.OwnSet
import Derived.Laws.CopyOwn
import Derived.Deep.RegionHeld3
namespace Go.Proofs.YtmdhljleaijkbaaGreatDoor
open Go.RowKit

/-- element k of a list of integers, 0 behind its end; closed to the walk's simp -/
def iget (zs : List Int) (k : Nat) : Int := zs.getD k 0
theorem iget_lt {zs : List Int} {k : Nat} (h : k < zs.length) : iget zs k = zs[k] := by simp [iget, h]
theorem iget_mem {zs : List Int} {k : Nat} (h : k < zs.length) : iget zs k ∈ zs := by rw [iget_lt h]; exact List.getElem_mem h
theorem take_iget {zs : List Int} {k : Nat} (h : k < zs.length) : zs.take (k + 1) = zs.take k ++ [iget zs k] := by
  rw [List.take_succ_eq_append_getElem h, iget_lt h]
theorem iget_ext {za zb : List Int} (hl : za.length = zb.length) (h : ∀ k, k < za.length → iget za k = iget zb k) : za = zb := by
  apply List.ext_getElem hl
  intro k h1 h2
  rw [← iget_lt h1, ← iget_lt h2]; exact h k h1
theorem any_take_iget {zs : List Int} {p : Int → Bool} {k : Nat} (h : k < zs.length) : (zs.take (k + 1)).any p = ((zs.take k).any p || p (iget zs k)) := by
  rw [take_iget h, List.any_append]; simp
/-- the block of a slice's address -/
def bk (ao : Option Addr) : Option Nat := ao.map (·.block)
theorem ownBlock_slice (ao : Option Addr) (n c : Nat) : (Value.slice ao n c).ownBlock = bk ao := by cases ao <;> rfl

/-- the slice at ao, of n cells, holds xs -/
def Vals (w : World) (ao : Option Addr) (n : Nat) (xs : List Value) : Prop :=
  xs.length = n ∧ n ≤ 17592186044416 ∧ (0 < n → ∃ b off, ao = some ⟨b, off, none⟩ ∧ ∀ j u, xs[j]? = some u → w.cell? ⟨b, off + j, none⟩ = some u)

/-- the slice at ao, of n integers, reads as zs -/
def Ints (w : World) (ao : Option Addr) (n : Nat) (zs : List Int) : Prop :=
  zs.length = n ∧ n ≤ 17592186044416 ∧ (0 < n → ∃ b off, ao = some ⟨b, off, none⟩ ∧ ∀ j, j < n → w.cell? ⟨b, off + j, none⟩ = some (.int .i64 (iget zs j)))

theorem Ints.at_ {w : World} {ao : Option Addr} {n : Nat} {zs : List Int} (h : Ints w ao n zs) {k : Nat} (hk : k < n) :
    ∃ b off, ao = some ⟨b, off, none⟩ ∧ w.cell? ⟨b, off + k, none⟩ = some (.int .i64 (iget zs k)) := by
  obtain ⟨b, off, e, hc⟩ := h.2.2 (by omega)
  exact ⟨b, off, e, hc k hk⟩
theorem Ints.all_ {w : World} {ao : Option Addr} {n : Nat} {zs : List Int} (h : Ints w ao n zs) (hn : 0 < n) :
    ∃ b off, ao = some ⟨b, off, none⟩ ∧ b < w.heap.size ∧ ∀ j, j < n → w.cell? ⟨b, off + j, none⟩ = some (.int .i64 (iget zs j)) := by
  obtain ⟨b, off, e, hc⟩ := h.2.2 hn
  exact ⟨b, off, e, World.block_lt_of_cell? w _ (hc 0 hn), hc⟩
theorem Ints.vals {w : World} {ao : Option Addr} {n : Nat} {zs : List Int} (h : Ints w ao n zs) : Vals w ao n (zs.map (Value.int .i64)) := by
  refine ⟨by simpa using h.1, h.2.1, fun hn => ?_⟩
  obtain ⟨b, off, e, hc⟩ := h.2.2 hn
  refine ⟨b, off, e, fun j u hu => ?_⟩
  have hl := h.1
  have hj : j < zs.length := by have := (List.getElem?_eq_some_iff.1 hu).1; simpa using this
  rw [hc j (by omega), ← hu, List.getElem?_map, List.getElem?_eq_getElem hj, iget_lt hj]; rfl
theorem Ints.drewN {w : World} {ao : Option Addr} {n : Nat} {zs : List Int} (h : Ints w ao n zs) (m : Nat) : Ints (w.drewN m) ao n zs := h
theorem Ints.same {w w' : World} {ao : Option Addr} {n : Nat} {zs : List Int} (h : Ints w ao n zs) (hs : ∀ g, bk ao = some g → g < w.heap.size → w'.heap[g]? = w.heap[g]?) : Ints w' ao n zs := by
  refine ⟨h.1, h.2.1, fun hn => ?_⟩
  obtain ⟨b, off, rfl, hb, hc⟩ := h.all_ hn
  exact ⟨b, off, rfl, fun j hj => (World.cell?_of_block (hs b rfl hb)).trans (hc j hj)⟩
theorem Ints.below {w w' : World} {ao : Option Addr} {n : Nat} {zs : List Int} (h : Ints w ao n zs) (hb : Below w.heap.size w w') : Ints w' ao n zs :=
  h.same fun g _ hg => hb.block g hg
theorem Ints.nil_ (w : World) (ao : Option Addr) : Ints w ao 0 [] := ⟨rfl, by omega, fun h => absurd h (by omega)⟩

/-- the slice at ao, of n cells (one cell an element, of type E), owns the cells xs in a row of the call's own, from block 'base' on -/
def Own (w : World) (base E : Nat) (ao : Option Addr) (n c : Nat) (xs : List Value) : Prop :=
  w.ownsRow base E 1 (.slice ao n c) n xs ∧ n ≤ 4398046511104

section
variable {w w' : World} {base E : Nat} {ao : Option Addr} {n c : Nat} {xs : List Value} {row : Option Nat}
theorem Own.len (h : Own w base E ao n c xs) : xs.length = n := by have := h.1.1; omega
theorem Own.lt (h : Own w base E ao n c xs) : ∀ g, bk ao = some g → base ≤ g ∧ g < w.heap.size := by
  have := h.1.lt
  rw [ownBlock_slice] at this; exact this
theorem Own.drewN (h : Own w base E ao n c xs) (m : Nat) : Own (w.drewN m) base E ao n c xs := h
theorem Own.kept (h : Own w base E ao n c xs) (hg : w.grownBy w' row) (hne : bk ao = none ∨ bk ao ≠ row) : Own w' base E ao n c xs :=
  ⟨h.1.kept hg (by rw [ownBlock_slice]; exact hne), h.2⟩
theorem Own.same (h : Own w base E ao n c xs) (hs : ∀ g, bk ao = some g → w'.heap[g]? = w.heap[g]?) : Own w' base E ao n c xs := by
  refine ⟨⟨h.1.1, ?_⟩, h.2⟩
  rcases h.1.2 with h2 | ⟨g, cap, cur, hv, hg, hh, r⟩
  · exact Or.inl h2
  · refine Or.inr ⟨g, cap, cur, hv, hg, ?_, r⟩
    have : bk ao = some g := by injection hv with h1; subst h1; rfl
    rw [hs g this]; exact hh
theorem Own.below (h : Own w base E ao n c xs) (hb : Below w.heap.size w w') : Own w' base E ao n c xs :=
  h.same fun g hg => hb.block g (h.lt g hg).2
theorem Own.alloc (h : Own w base E ao n c xs) (o : Obj) : Own (w.alloc o) base E ao n c xs := ⟨h.1.alloc o, h.2⟩
theorem Own.mono (h : Own w base E ao n c xs) {base' : Nat} (hb : base' ≤ base) : Own w base' E ao n c xs := by
  refine ⟨⟨h.1.1, ?_⟩, h.2⟩
  rcases h.1.2 with h2 | ⟨g, cap, cur, hv, hg, r⟩
  · exact Or.inl h2
  · exact Or.inr ⟨g, cap, cur, hv, by omega, r⟩
/-- a slice that is not empty: the block, its cells, not frozen -/
theorem Own.form (h : Own w base E ao n c xs) (hn : 0 < n) : ∃ g, ao = some ⟨g, 0, none⟩ ∧ base ≤ g ∧ g < w.heap.size ∧ n ≤ c ∧ (∀ j, j < n → w.cell? ⟨g, j, none⟩ = xs[j]?) ∧ (∀ j, w.frozen? ⟨g, j, none⟩ = false) := by
  obtain ⟨g, cap, hv, hb, hlt⟩ := h.1.form hn
  injection hv with h1 _ h2
  subst h1 h2
  refine ⟨g, rfl, hb, hlt, ?_, fun j hj => h.1.cellAt j (by omega), fun j => h.1.frozenAt j⟩
  rcases h.1.2 with ⟨h2, _⟩ | ⟨g', cap', cur, hv, _, _, hnc, _⟩
  · cases h2
  · injection hv with _ _ h3; subst h3; exact hnc
theorem Own.stored {g : Nat} (h : Own w base E (some ⟨g, 0, none⟩) n c xs) (k : Nat) (u : Value) :
    Own (w.setCell ⟨g, k, none⟩ u) base E (some ⟨g, 0, none⟩) n c (xs.set k u) ∧ w.grownBy (w.setCell ⟨g, k, none⟩ u) (some g) :=
  ⟨⟨(h.1.stored k u).1, h.2⟩, (h.1.stored k u).2⟩
theorem Own.empty_ (w : World) {base : Nat} (E : Nat) (hb : base ≤ w.heap.size) : Own (w.alloc (.cells #[] E)) base E (some ⟨w.heap.size, 0, none⟩) 0 0 [] := ⟨World.ownsRow_made w #[] 0 hb (by simp [maxLen]) rfl, by omega⟩
theorem Own.nil_ (w : World) (base E : Nat) : Own w base E none 0 0 [] := ⟨World.ownsRow_nil w base E 1, by omega⟩
end

/-- what is owned and holds integers reads as them -/
theorem Own.ints {w : World} {base E : Nat} {ao : Option Addr} {n c : Nat} {zs : List Int} (h : Own w base E ao n c (zs.map (Value.int .i64))) : Ints w ao n zs := by
  have hl : zs.length = n := by have := h.len; simpa using this
  refine ⟨hl, by have := h.2; omega, fun hn => ?_⟩
  obtain ⟨g, rfl, _, _, _, hc, _⟩ := h.form hn
  refine ⟨g, 0, rfl, fun j hj => ?_⟩
  rw [Nat.zero_add, hc j hj, List.getElem?_map, List.getElem?_eq_getElem (by omega), iget_lt (by omega)]; rfl

/-- the row of the table of an element type of one cell -/
structure ET (P : Program) (S E : TypeId) (z : Value) (bytes : Nat) : Prop where
  und : P.underlying S = some (.slice E)
  info : (P.info? E).map (fun i => (i.zero, i.size, i.bytes)) = some (some z, 1, bytes)
  one : z.cells = #[z]
  small : bytes ≤ 32

theorem grown_of_below {w w' : World} (h : Below w.heap.size w w') (row : Option Nat) : w.grownBy w' row := ⟨h.os, h.tape, h.output, h.size, fun i hi _ => h.block i hi⟩
theorem grown_tr {a b c : World} {row : Option Nat} (h : a.grownBy b row) (k : b.grownBy c row) : a.grownBy c row :=
  ⟨k.os.trans h.os, k.tape.trans h.tape, k.output.trans h.output, Nat.le_trans h.size k.size, fun i hi hne => (k.block i (Nat.lt_of_lt_of_le hi h.size) hne).trans (h.block i hi hne)⟩
theorem below_drewN {B : Nat} {a w : World} (h : Below B a w) (n : Nat) : Below B a (w.drewN n) := ⟨h.os, h.tape, h.output, h.size, h.block⟩
/-- make([]T, n) as an equation, for regions that draw their order -/
theorem run_mk {P : Program} {S E : TypeId} {z : Value} {bytes : Nat} (et : ET P S E z bytes) (kl kc : IntKind) (L : Int) (n : Nat) (hL : L = n) (hn : n ≤ 4398046511104) (w : World) :
    (Instr.makeSlice S (.int kl L) (.int kc L)).run P w = .ok (.slice (some ⟨w.heap.size, 0, none⟩) n n) (w.alloc (.cells (madeCells #[z] n) E)) := by
  obtain ⟨i, hi, hz, hs, hby⟩ := info_parts et.info
  have hr := run_make (P := P) w S E i z et.und hi hz kl kc (n : Int) (n : Int) (by omega) (by omega) (by have := et.small; rw [hby]; have : (bytes : Int) * n ≤ 32 * n := Int.mul_le_mul_of_nonneg_right (by omega) (by omega); omega) (by omega)
  simp only [Int.toNat_natCast] at hr
  rw [hL, hr, hs, Nat.mul_one, et.one]
theorem own_made {S E : TypeId} {P : Program} {z : Value} {bytes : Nat} (_et : ET P S E z bytes) {w : World} {base n g : Nat} (hg : w.heap.size = g) (hn : n ≤ 4398046511104) (hb : base ≤ w.heap.size) :
    Own (w.alloc (.cells (madeCells #[z] n) E)) base E (some ⟨g, 0, none⟩) n n (List.replicate n z) := by
  subst hg
  refine ⟨?_, hn⟩
  have := World.ownsRow_lit (e := E) (size := 1) w (madeCells #[z] n) n hb (by simp [maxLen]; omega) (by rw [size_madeCells, Nat.mul_one])
  rw [toList_madeCells_one] at this
  exact this

theorem own_lit {w : World} {base E g : Nat} {us : List Value} (hg : w.heap.size = g) (hb : base ≤ w.heap.size) (hn : us.length ≤ 4398046511104) : Own (w.alloc (.cells us.toArray E)) base E (some ⟨g, 0, none⟩) us.length us.length us := by
  subst hg
  exact ⟨by simpa using World.ownsRow_lit (e := E) (size := 1) w us.toArray us.length hb (by simp [maxLen]; omega) (by simp), hn⟩

section
variable {P : Program} {ops : Array Oper} {rest : List Oper} {o : Oper} {a : Act} {Q : Exit → Act → World → Prop}

/-- make([]T, n) -/
theorem wpList_mk {S E : TypeId} {z : Value} {bytes : Nat} (et : ET P S E z bytes) (w : World) (hg : o.guard = none) (l c : Operand) (hop : o.op = Op.makeSlice S l c) (base : Nat)
    (kl kc : IntKind) (L C : Int) (n : Nat) (hl : a.eval l = .int kl L) (hc : a.eval c = .int kc C) (hL : L = (n : Int)) (hC : C = (n : Int)) (hn : n ≤ 4398046511104) (hb : base ≤ w.heap.size)
    (hK : ∀ w', Own w' base E (some ⟨w.heap.size, 0, none⟩) n n (List.replicate n z) → w.grownBy w' none → w'.heap.size = w.heap.size + 1 → wpList P ops Q rest (a.put o.dst (.slice (some ⟨w.heap.size, 0, none⟩) n n)) w') :
    wpList P ops Q (o :: rest) a w := by
  obtain ⟨i, hi, hz, hs, hby⟩ := info_parts et.info
  refine wpList_plain hg fun K hK' => ?_
  have hr := run_make (P := P) w S E i z et.und hi hz kl kc (n : Int) (n : Int) (by omega) (by omega) (by have := et.small; rw [hby]; have : (bytes : Int) * n ≤ 32 * n := Int.mul_le_mul_of_nonneg_right (by omega) (by omega); omega) (by omega)
  simp only [Int.toNat_natCast] at hr
  subst hL; subst hC
  unfold Oper.wp
  simp [execOp, hop, hl, hc, hr, Result.andThen]
  refine hK' _ _ (hK _ ⟨?_, hn⟩ (World.grownBy_alloc w _ none) (by simp))
  have := World.ownsRow_lit (e := E) (size := i.size) w (madeCells z.cells (n * i.size)) n hb (by simp [maxLen]; omega) (size_madeCells _ _)
  rw [hs, et.one, Nat.mul_one, toList_madeCells_one] at this
  rw [et.one, hs, Nat.mul_one]
  exact this

/-- append(s, x) of one element: x lies in a block of its own, just laid -/
theorem wpList_ap1 {S E : TypeId} {z : Value} {bytes : Nat} (et : ET P S E z bytes) (w : World) (hg : o.guard = none) (s x : Operand) (ho : o.op = .call { callee := .builtin .append, args := #[s, x], argTypes := #[S, S] })
    (base : Nat) (ao : Option Addr) (n c : Nat) (xs : List Value) (hs : a.eval s = .slice ao n c) (hown : Own w base E ao n c xs) (u : Value)
    (hx : a.eval x = .slice (some ⟨w.heap.size, 0, none⟩) 1 1) (hu : u.oneCell' = true) (hn : n + 1 ≤ 4398046511104) (hbase : base ≤ w.heap.size)
    (hK : ∀ ao' c' w', Own w' base E ao' (n + 1) c' (xs ++ [u]) → w.grownBy w' (bk ao) → (bk ao' = bk ao ∨ bk ao' = some (w.heap.size + 1)) → wpList P ops Q rest (a.put o.dst (.slice ao' (n + 1) c')) w') :
    wpList P ops Q (o :: rest) a (w.alloc (.cells #[u] E)) := by
  obtain ⟨i, hi, hz, hsz, hby⟩ := info_parts et.info
  refine wpList_append_own_at _ hg s x S ho base E i z 1 bytes et.und hi hz hsz hby (by rw [et.one]; rfl) (by omega) (.slice ao n c) n xs hs (hown.1.alloc _) ⟨w.heap.size, 0, none⟩ 1 1 [u] hx rfl (cell_one_new _ _ _)
    (by intro v hv; simp at hv; subst hv; exact hu) (by simp [maxLen]; omega) (by have := et.small; have : (n + 1) * bytes ≤ (n + 1) * 32 := Nat.mul_le_mul_left _ this; omega) (by simp; omega) ?_
  intro v' w' h1 h2 _ h4
  rw [ownBlock_slice] at h2 h4
  obtain ⟨g, cap, rfl, hb, hlt⟩ := h1.form (by omega)
  refine hK _ _ _ ⟨h1, hn⟩ (grown_tr (World.grownBy_alloc w _ _) h2) ?_
  rw [ownBlock_slice] at h4
  simpa using h4

/-- append(s, y...), y a slice whose cells hold news -/
theorem wpList_apV {S E : TypeId} {z : Value} {bytes : Nat} (et : ET P S E z bytes) (w : World) (hg : o.guard = none) (s x : Operand) (ho : o.op = .call { callee := .builtin .append, args := #[s, x], argTypes := #[S, S] })
    (base : Nat) (ao : Option Addr) (n c : Nat) (xs : List Value) (hs : a.eval s = .slice ao n c) (hown : Own w base E ao n c xs) (ad : Option Addr) (m mc : Nat) (news : List Value)
    (hx : a.eval x = .slice ad m mc) (hr : Vals w ad m news) (h1 : ∀ u ∈ news, u.oneCell' = true) (hn : n + m ≤ 4398046511104) (hbase : base ≤ w.heap.size)
    (hK : ∀ ao' c' w', Own w' base E ao' (n + m) c' (xs ++ news) → w.grownBy w' (bk ao) → (bk ao' = bk ao ∨ bk ao' = some w.heap.size) → wpList P ops Q rest (a.put o.dst (.slice ao' (n + m) c')) w') :
    wpList P ops Q (o :: rest) a w := by
  obtain ⟨i, hi, hz, hsz, hby⟩ := info_parts et.info
  rcases Nat.eq_zero_or_pos m with h0 | h0
  · subst h0
    have hz0 : news = [] := List.eq_nil_of_length_eq_zero hr.1
    subst hz0
    cases ad with
    | none =>
      have hrun : (Builtin.append_ #[S, S] o.type #[.slice ao n c, .slice none 0 mc]).run P w = .ok (.slice ao n c) w := by
        rcases hown.1.2 with ⟨hv, rfl⟩ | ⟨g, cap, cur, hv, _, _, hnc, _⟩
        · rw [hv]; simp [Builtin.append_, run_underlying et.und, sizeOf, typeInfo, hi, Builtin.lenOf, Builtin.firstCells]
        · rw [hv]; simp [Builtin.append_, run_underlying et.und, sizeOf, typeInfo, hi, Builtin.lenOf, Builtin.firstCells, hnc, storeCells]
      refine wpList_plain hg fun K hK' => ?_
      unfold Oper.wp execOp
      simp only [ho, resolve, invoke, builtin, Sem.run_bind, Sem.run_pure, Result.andThen_ok, List.map_toArray, List.map_cons, List.map_nil, hs, hx, hrun]
      exact hK' _ _ (hK ao c w (by simpa using hown) (World.grownBy.refl w _) (.inl rfl))
    | some ad =>
      refine wpList_append_own_at _ hg s x S ho base E i z 1 bytes et.und hi hz hsz hby (by rw [et.one]; rfl) (by omega) (.slice ao n c) n xs hs hown.1 ad 0 mc [] hx rfl (by intro j u hu; simp at hu)
        (by intro v hv; simp at hv) (by simp [maxLen]; omega) (by have := et.small; have : (n + 0) * bytes ≤ (n + 0) * 32 := Nat.mul_le_mul_left _ this; omega) hbase ?_
      intro v' w' h1 h2 h3 h4
      rw [ownBlock_slice] at h2 h4
      rcases h1.2 with ⟨rfl, hn0⟩ | ⟨g, cap, cur, rfl, _, _, _, _⟩
      · have h5 := h3.1 rfl
        obtain ⟨h5, _⟩ := h5
        injection h5 with h5 h6 h7
        subst h5 h6 h7
        exact hK none 0 w' ⟨by simpa using h1, by omega⟩ h2 (.inl rfl)
      · refine hK _ _ _ ⟨by simpa using h1, hn⟩ h2 ?_
        rw [ownBlock_slice] at h4; exact h4
  · obtain ⟨b, off, rfl, hc⟩ := hr.2.2 h0
    have hl := hr.1
    refine wpList_append_own_at _ hg s x S ho base E i z 1 bytes et.und hi hz hsz hby (by rw [et.one]; rfl) (by omega) (.slice ao n c) n xs hs hown.1 ⟨b, off, none⟩ m mc news hx (by simp [hl])
      (by
        intro j u hu
        rw [Addr.add_lit]; exact hc j u hu)
      h1 (by simp [maxLen]; omega) (by have := et.small; have : (n + m) * bytes ≤ (n + m) * 32 := Nat.mul_le_mul_left _ this; omega) hbase ?_
    intro v' w' h1 h2 _ h4
    rw [ownBlock_slice] at h2 h4
    obtain ⟨g, cap, rfl, hb, hlt⟩ := h1.form (by omega)
    refine hK _ _ _ ⟨h1, hn⟩ h2 ?_
    rw [ownBlock_slice] at h4
    simpa using h4
/-- append(s, y...), y a slice that reads as integers -/
theorem wpList_apN {S E : TypeId} {z : Value} {bytes : Nat} (et : ET P S E z bytes) (w : World) (hg : o.guard = none) (s x : Operand) (ho : o.op = .call { callee := .builtin .append, args := #[s, x], argTypes := #[S, S] })
    (base : Nat) (ao : Option Addr) (n c : Nat) (xs : List Value) (hs : a.eval s = .slice ao n c) (hown : Own w base E ao n c xs) (ad : Option Addr) (m mc : Nat) (zs : List Int)
    (hx : a.eval x = .slice ad m mc) (hr : Ints w ad m zs) (hn : n + m ≤ 4398046511104) (hbase : base ≤ w.heap.size)
    (hK : ∀ ao' c' w', Own w' base E ao' (n + m) c' (xs ++ zs.map (Value.int .i64)) → w.grownBy w' (bk ao) → (bk ao' = bk ao ∨ bk ao' = some w.heap.size) → wpList P ops Q rest (a.put o.dst (.slice ao' (n + m) c')) w') :
    wpList P ops Q (o :: rest) a w :=
  wpList_apV et w hg s x ho base ao n c xs hs hown ad m mc (zs.map (Value.int .i64)) hx hr.vals (ints_oneCell _ _) hn hbase hK
end

/-- only blocks from lo to below hi, and new ones, may have turned -/
structure Only (lo hi : Nat) (w w' : World) : Prop where
  os : w'.os = w.os
  tape : w'.tape = w.tape
  output : w'.output = w.output
  size : w.heap.size ≤ w'.heap.size
  block : ∀ k, k < w.heap.size → (k < lo ∨ hi ≤ k) → w'.heap[k]? = w.heap[k]?
theorem Only.below {lo hi : Nat} {w w' : World} (h : Only lo hi w w') {B : Nat} (hB : B ≤ lo) (hw : B ≤ w.heap.size) : Below B w w' := ⟨h.os, h.tape, h.output, h.size, fun k hk => h.block k (by omega) (.inl (by omega))⟩
theorem Only.refl (lo hi : Nat) (w : World) : Only lo hi w w := ⟨rfl, rfl, rfl, Nat.le_refl _, fun _ _ _ => rfl⟩
theorem Only.trans {lo hi : Nat} {a b c : World} (h : Only lo hi a b) (k : Only lo hi b c) : Only lo hi a c :=
  ⟨k.os.trans h.os, k.tape.trans h.tape, k.output.trans h.output, Nat.le_trans h.size k.size, fun i hi hd => (k.block i (Nat.lt_of_lt_of_le hi h.size) hd).trans (h.block i hi hd)⟩
theorem Own.only {w w' : World} {base E : Nat} {ao : Option Addr} {n c : Nat} {xs : List Value} {lo hi lo' hi' : Nat} (h : Own w base E ao n c xs) (ho : Only lo hi w w') (hl : ∀ g, bk ao = some g → lo' ≤ g ∧ g < hi') (hd : hi' ≤ lo ∨ hi ≤ lo') : Own w' base E ao n c xs :=
  h.same fun g hg => ho.block g (h.lt g hg).2 (by have := hl g hg; omega)

theorem ret_int {k : IntKind} {a b : Int} (h : a = b) : Ending.returned (.int k a) = .returned (.int k b) := by rw [h]
theorem ret_bool {a b : Bool} (h : a = b) : Ending.returned (.bool a) = .returned (.bool b) := by rw [h]
end Go.Proofs.YtmdhljleaijkbaaGreatDoor

/- From a walk to the row: what 'post' asks where below the old heap nothing has turned; arguments opened to the words of Base. -/
namespace Go.Proofs.YtmdhljleaijkbaaGreatDoor
open Go.ChangeShapes Go.WideShapes Go.ChangeAt Go.RowKit Go.Deep

section
variable {H : Type} {enc : TypeId × Value → H} {P : Program}
theorem post_of_below {f : Func} {s : ChangeSpec} {apart fresh handsOn again : Bool} {W W' : World} {args : Array Value} {v : Value} {ds gs : List (DataW H)} {before pa pv : List MemPlace}
    (hW : DataW.Whole enc P f.params.toList s.vars apart W args.toList ds gs before)
    (hres : ∀ (b : Nat) (sp : Nat → Bool) (hd : Bool), DataW.TrodAll enc P W' b sp hd f.resultTypes.toList (v.resultList f.resultTypes.size) (s.fn H (ds ++ gs)).results [])
    (hargs : ∀ sp : Nat → Bool, (∀ p ∈ before, sp p.block = true) → DataW.TrodAll enc P W' 0 sp true f.params.toList args.toList (s.fn H (ds ++ gs)).args pa)
    (hvars : ∀ sp : Nat → Bool, (∀ p ∈ before, sp p.block = true) → DataW.TrodVars enc P W' sp s.vars (s.fn H (ds ++ gs)).vars pv)
    (hps : before = pa ++ pv) (hb : Below W.heap.size W W')
    (hok : ∀ (j : Nat) (t : TypeId) (r : Value), f.resultTypes[j]? = some t → (v.resultList f.resultTypes.size)[j]? = some r → Value.okWide P W' .any 0 t r) :
    s.post enc P f apart fresh handsOn again W args v W' := by
  have hlt : ∀ p ∈ before, p.block < W.heap.size := fun p hp => hW.lt p hp
  have hold : ∀ p ∈ before, (fun b => decide (b < W.heap.size)) p.block = true := fun p hp => by simpa using hlt p hp
  refine ⟨ds, gs, before, [], pa, pv, hW, hres _ _ _, hargs _ hold, hvars _ hold, World.keptBut_mono (fun p hp => ⟨hp, ?_⟩) (hb.frame (· ∈ before)), fun _ => ?_⟩
  · rw [hps, List.mem_append] at hp
    exact Or.inr hp
  · obtain ⟨_, _, _, _, _, hz, hn⟩ := hW
    refine ⟨hok, _, _, ([] ++ pa) ++ pv, ⟨[] ++ pa, pv, trodAll_append (hargs _ (fun _ _ => rfl)) (hres _ _ _), hvars _ (fun _ _ => rfl), rfl, ?_, ?_⟩, ?_⟩
    · intro b off hp
      have hin : MemPlace.cell b off ∈ before := by rw [hps]; simpa using hp
      rw [hb.frozen (hlt _ hin)]
      exact hz b off hin
    · intro ha
      have := hn ha
      rw [hps] at this
      simpa using this
    · intro p hp _
      rw [hps]
      simpa using hp

/-- all arguments read behind the call as before it -/
theorem trodAll_stays (hl : laidOutB P = true) {W W' : World} (hb : Below W.heap.size W W') {sp : Nat → Bool} : ∀ (ts : List TypeId) (vs : List Value) (ds : List (DataW H)) (ps : List MemPlace),
    (∀ t ∈ ts, P.readableRec t = true ∧ t < P.types.size) → (∀ p ∈ ps, p.block < W.heap.size) → (∀ p ∈ ps, sp p.block = true) →
    DataW.TrodAll enc P W 0 (fun _ => true) true ts vs ds ps → DataW.TrodAll enc P W' 0 sp true ts vs ds ps
  | [], vs, ds, ps, _, _, _, h => by
    obtain ⟨rfl, rfl, rfl⟩ := trodAll_nil h
    exact trodAll_mk0
  | t :: ts, vs, ds, ps, ht, hlt, hsp, h => by
    obtain ⟨v, vs', d, ds', p, q, rfl, rfl, rfl, h0, r0⟩ := trodAll_cons h
    exact trodAll_cons_mk (WideElems.Trod_stays hl (ht t (by simp)).1 (ht t (by simp)).2 h0 (fun x hx => hb.same (hlt x (by simp [hx]))) (fun x hx => hsp x (by simp [hx])))
      (trodAll_stays hl hb ts vs' ds' q (fun t' h' => ht t' (by simp [h'])) (fun p' hp => hlt p' (by simp [hp])) (fun p' hp => hsp p' (by simp [hp])) r0)

end
end Go.Proofs.YtmdhljleaijkbaaGreatDoor

/- Words for slices whose elements are slices: rows that are read, rows that a call owns, all in blocks of their own. No program in sight. -/
namespace Go.Proofs.YtmdhljleaijkbaaGreatDoor
open Go.RowKit

/-- the block of a value, if it has one, lies from lo to below hi -/
def In (lo hi : Nat) (u : Value) : Prop := ∀ g, u.ownBlock = some g → lo ≤ g ∧ g < hi
theorem In.mono {lo hi lo' hi' : Nat} {u : Value} (h : In lo hi u) (h1 : lo' ≤ lo) (h2 : hi ≤ hi') : In lo' hi' u := fun g hg => by have := h g hg; omega
theorem in_slice {lo hi : Nat} {ao : Option Addr} {n c : Nat} (h : ∀ g, bk ao = some g → lo ≤ g ∧ g < hi) : In lo hi (.slice ao n c) := fun g hg => h g (by rw [ownBlock_slice] at hg; exact hg)

/-- an element's predicate looks at the element's own block alone -/
structure Inner {D : Type} (Ow1 : World → Value → D → Prop) : Prop where
  loc : ∀ {w w' u d}, Ow1 w u d → (∀ g, u.ownBlock = some g → w'.heap[g]? = w.heap[g]?) → Ow1 w' u d
  lt : ∀ {w u d}, Ow1 w u d → ∀ g, u.ownBlock = some g → g < w.heap.size
  one : ∀ {w u d}, Ow1 w u d → u.oneCell' = true

/-- the slice at ao, of n elements us, is a row of the call's own; each element u owns d in a block of its own; all blocks lie from lo to below hi and are different -/
structure OwR {D : Type} (Ow1 : World → Value → D → Prop) (w : World) (lo hi E : Nat) (ao : Option Addr) (n c : Nat) (us : List Value) (ds : List D) : Prop where
  own : Own w lo E ao n c us
  top : ∀ g, bk ao = some g → g < hi
  len : ds.length = n
  el : ∀ (j : Nat) (u : Value) (d : D), us[j]? = some u → ds[j]? = some d → Ow1 w u d
  rng : ∀ (j : Nat) (u : Value), us[j]? = some u → In lo hi u
  out : ∀ (j : Nat) (u : Value) (g : Nat), us[j]? = some u → u.ownBlock = some g → bk ao ≠ some g
  apart : ∀ (i j : Nat) (u u' : Value) (g : Nat), i ≠ j → us[i]? = some u → us[j]? = some u' → u.ownBlock = some g → u'.ownBlock ≠ some g

section
variable {D : Type} {Ow1 : World → Value → D → Prop} {w w' : World} {lo hi E : Nat} {ao : Option Addr} {n c : Nat} {us : List Value} {ds : List D}

theorem OwR.ulen (h : OwR Ow1 w lo hi E ao n c us ds) : us.length = n := h.own.len
theorem OwR.get (h : OwR Ow1 w lo hi E ao n c us ds) {j : Nat} (hj : j < n) : ∃ u d, us[j]? = some u ∧ ds[j]? = some d ∧ Ow1 w u d ∧ In lo hi u :=
  have h1 : j < us.length := by rw [h.ulen]; exact hj
  have h2 : j < ds.length := by rw [h.len]; exact hj
  ⟨us[j], ds[j], List.getElem?_eq_getElem h1, List.getElem?_eq_getElem h2, h.el j _ _ (List.getElem?_eq_getElem h1) (List.getElem?_eq_getElem h2), h.rng j _ (List.getElem?_eq_getElem h1)⟩

/-- nothing in the range has turned -/
theorem OwR.same (I : Inner Ow1) (h : OwR Ow1 w lo hi E ao n c us ds) (hs : ∀ g, lo ≤ g → g < hi → g < w.heap.size → w'.heap[g]? = w.heap[g]?) : OwR Ow1 w' lo hi E ao n c us ds :=
  { own := h.own.same fun g hg => hs g (h.own.lt g hg).1 (h.top g hg) (h.own.lt g hg).2
    top := h.top, len := h.len, rng := h.rng, out := h.out, apart := h.apart
    el := fun j u d hu hd => I.loc (h.el j u d hu hd) fun g hg => hs g (h.rng j u hu g hg).1 (h.rng j u hu g hg).2 (I.lt (h.el j u d hu hd) g hg) }
theorem OwR.below (I : Inner Ow1) (h : OwR Ow1 w lo hi E ao n c us ds) (hb : Below w.heap.size w w') : OwR Ow1 w' lo hi E ao n c us ds := h.same I fun g _ _ hg => hb.block g hg
theorem OwR.only (I : Inner Ow1) (h : OwR Ow1 w lo hi E ao n c us ds) {l k : Nat} (ho : Only l k w w') (hd : hi ≤ l ∨ k ≤ lo) : OwR Ow1 w' lo hi E ao n c us ds :=
  h.same I fun g h1 h2 hg => ho.block g hg (by omega)
theorem OwR.mono (h : OwR Ow1 w lo hi E ao n c us ds) {lo' hi' : Nat} (h1 : lo' ≤ lo) (h2 : hi ≤ hi') : OwR Ow1 w lo' hi' E ao n c us ds :=
  { own := h.own.mono h1, top := fun g hg => Nat.lt_of_lt_of_le (h.top g hg) h2, len := h.len, el := h.el, out := h.out, apart := h.apart
    rng := fun j u hu => (h.rng j u hu).mono h1 h2 }

/-- an element's own block has been written (and new ones laid): element j is now d' -/
theorem OwR.upd (I : Inner Ow1) (h : OwR Ow1 w lo hi E ao n c us ds) {j : Nat} {u : Value} {d' : D} (hu : us[j]? = some u) (hg : w.grownBy w' u.ownBlock) (h' : Ow1 w' u d') : OwR Ow1 w' lo hi E ao n c us (ds.set j d') := by
  refine { own := h.own.kept hg ?_, top := h.top, len := by rw [List.length_set]; exact h.len, rng := h.rng, out := h.out, apart := h.apart, el := ?_ }
  · cases hb : u.ownBlock with
    | none => exact (Option.eq_none_or_eq_some (bk ao)).imp id (fun ⟨g, e⟩ => by rw [e]; simp)
    | some g => exact .inr (h.out j u g hu hb)
  · intro i v d hv hd
    by_cases hij : j = i
    · subst hij
      rw [hu] at hv
      obtain rfl := Option.some.inj hv
      rw [List.getElem?_set_self'] at hd
      cases hdd : ds[j]? with
      | none => rw [hdd] at hd; cases hd
      | some x => rw [hdd] at hd; simp at hd; subst hd; exact h'
    · rw [List.getElem?_set_ne hij] at hd
      refine I.loc (h.el i v d hv hd) fun g hgg => hg.block g (I.lt (h.el i v d hv hd) g hgg) fun e => ?_
      exact h.apart i j v u g (fun e => hij e.symm) hv hu hgg e.symm

/-- element j is replaced: u' is new or in the block of the old one -/
theorem OwR.put (I : Inner Ow1) {g0 : Nat} (h : OwR Ow1 w lo hi E (some ⟨g0, 0, none⟩) n c us ds) {j : Nat} {u u' : Value} {d' : D} (hu : us[j]? = some u) (hg : w.grownBy w' u.ownBlock) (h' : Ow1 w' u' d')
    (hnew : u'.ownBlock = none ∨ u'.ownBlock = u.ownBlock ∨ ∃ g, u'.ownBlock = some g ∧ w.heap.size ≤ g) (hhi : hi ≤ w.heap.size) (hlo : lo ≤ w.heap.size) :
    OwR Ow1 (w'.setCell ⟨g0, j, none⟩ u') lo w'.heap.size E (some ⟨g0, 0, none⟩) n c (us.set j u') (ds.set j d') := by
  have hjl : j < us.length := (List.getElem?_eq_some_iff.1 hu).1
  have hown : Own w' lo E (some ⟨g0, 0, none⟩) n c us := h.own.kept hg (by
    cases hb : u.ownBlock with
    | none => exact .inr (by simp [bk])
    | some g => exact .inr (h.out j u g hu hb))
  have hlt' : ∀ g, u'.ownBlock = some g → g ≠ g0 := by
    intro g hgg e
    subst e
    rcases hnew with hn | hn | ⟨g', hn, hge⟩
    · rw [hn] at hgg; cases hgg
    · rw [hn] at hgg; exact h.out j u g hu hgg rfl
    · rw [hn] at hgg; obtain rfl := Option.some.inj hgg
      have := (h.own.lt g' rfl).2
      omega
  have hset : ∀ g, g ≠ g0 → (w'.setCell ⟨g0, j, none⟩ u').heap[g]? = w'.heap[g]? := fun g hne => Below.heap_setCell _ _ _ _ hne
  have hsz := hg.size
  refine { own := (hown.stored j u').1, top := fun g hgg => Nat.lt_of_lt_of_le (h.top g hgg) (Nat.le_trans hhi hsz), len := by rw [List.length_set]; exact h.len, el := ?_, rng := ?_, out := ?_, apart := ?_ }
  · intro i v d hv hd
    by_cases hij : j = i
    · subst hij
      rw [List.getElem?_set_self hjl] at hv
      obtain rfl := Option.some.inj hv
      rw [List.getElem?_set_self'] at hd
      cases hdd : ds[j]? with
      | none => rw [hdd] at hd; cases hd
      | some x =>
        rw [hdd] at hd; simp at hd; subst hd
        exact I.loc h' fun g hgg => hset g (hlt' g hgg)
    · rw [List.getElem?_set_ne hij] at hd hv
      have h1 : Ow1 w' v d := I.loc (h.el i v d hv hd) fun g hgg => hg.block g (I.lt (h.el i v d hv hd) g hgg) fun e => h.apart i j v u g (fun e => hij e.symm) hv hu hgg e.symm
      exact I.loc h1 fun g hgg => hset g fun e => by subst e; exact h.out i v g hv hgg rfl
  · intro i v hv
    by_cases hij : j = i
    · subst hij
      rw [List.getElem?_set_self hjl] at hv
      obtain rfl := Option.some.inj hv
      intro g hgg
      refine ⟨?_, I.lt h' g hgg⟩
      rcases hnew with hn | hn | ⟨g', hn, hge⟩
      · rw [hn] at hgg; cases hgg
      · rw [hn] at hgg; exact (h.rng j u hu g hgg).1
      · rw [hn] at hgg; obtain rfl := Option.some.inj hgg; omega
    · rw [List.getElem?_set_ne hij] at hv
      exact (h.rng i v hv).mono (Nat.le_refl _) (Nat.le_trans hhi hsz)
  · intro i v g hv hgg
    by_cases hij : j = i
    · subst hij
      rw [List.getElem?_set_self hjl] at hv
      obtain rfl := Option.some.inj hv
      intro e
      exact hlt' g hgg (Option.some.inj e).symm
    · rw [List.getElem?_set_ne hij] at hv
      exact h.out i v g hv hgg
  · intro i k v v' g hik hv hv' hgg
    have key : ∀ x vx, j ≠ x → us[x]? = some vx → ∀ g, u'.ownBlock = some g → vx.ownBlock ≠ some g := by
      intro x vx hx hvx g hgg' e
      rcases hnew with hn | hn | ⟨g', hn, hge⟩
      · rw [hn] at hgg'; cases hgg'
      · rw [hn] at hgg'; exact h.apart j x u vx g hx hu hvx hgg' e
      · rw [hn] at hgg'; obtain rfl := Option.some.inj hgg'
        have := (h.rng x vx hvx g' e).2
        omega
    by_cases hi' : j = i
    · subst hi'
      rw [List.getElem?_set_self hjl] at hv
      obtain rfl := Option.some.inj hv
      rw [List.getElem?_set_ne hik] at hv'
      exact key k v' hik hv' g hgg
    · rw [List.getElem?_set_ne hi'] at hv
      by_cases hk' : j = k
      · subst hk'
        rw [List.getElem?_set_self hjl] at hv'
        obtain rfl := Option.some.inj hv'
        exact fun e => key i v hi' hv g e hgg
      · rw [List.getElem?_set_ne hk'] at hv'
        exact h.apart i k v v' g hik hv hv' hgg

/-- a row that holds nothing yet: n nil slices -/
theorem OwR.blank {dz : D} {v : Value} (hv : v.ownBlock = none) (h : Own w lo E ao n c (List.replicate n v)) (h0 : Ow1 w v dz) (hhi : ∀ g, bk ao = some g → g < hi) : OwR Ow1 w lo hi E ao n c (List.replicate n v) (List.replicate n dz) :=
  have hu : ∀ {j u}, (List.replicate n v)[j]? = some u → u = v := fun {j u} hu => by
    rw [List.getElem?_replicate] at hu; split at hu
    · exact (Option.some.inj hu).symm
    · cases hu
  { own := h, top := hhi, len := by simp
    el := fun j u d hj hd => by
      obtain rfl := hu hj
      rw [List.getElem?_replicate] at hd; split at hd
      · obtain rfl := Option.some.inj hd; exact h0
      · cases hd
    rng := fun j u hj g hg => by obtain rfl := hu hj; rw [hv] at hg; cases hg
    out := fun j u g hj hg => by obtain rfl := hu hj; rw [hv] at hg; cases hg
    apart := fun i j u u' g _ hi _ hg => by obtain rfl := hu hi; rw [hv] at hg; cases hg }

theorem OwR.empty_ (h : Own w lo E ao 0 c []) (hhi : ∀ g, bk ao = some g → g < hi) : OwR Ow1 w lo hi E ao 0 c [] [] :=
  { own := h, top := hhi, len := rfl, el := fun j u d hj _ => by simp at hj, rng := fun j u hj => by simp at hj, out := fun j u g hj => by simp at hj, apart := fun i j u u' g _ hi => by simp at hi }

/-- one element more: u is in a block of its own -/
theorem OwR.push (I : Inner Ow1) (h : OwR Ow1 w lo hi E ao n c us ds) {ao' : Option Addr} {c' hi' : Nat} {u : Value} {d : D} (hown : Own w' lo E ao' (n + 1) c' (us ++ [u])) (hg : w.grownBy w' (bk ao)) (hu : Ow1 w' u d) (hur : In lo hi' u)
    (hao : ∀ g, bk ao' = some g → g < hi') (hhi : hi ≤ hi') (hnew : ∀ g, bk ao' = some g → (bk ao = some g ∨ ∀ (j : Nat) (u : Value), us[j]? = some u → u.ownBlock ≠ some g))
    (hua : ∀ g, u.ownBlock = some g → bk ao' ≠ some g ∧ ∀ (j : Nat) (v : Value), us[j]? = some v → v.ownBlock ≠ some g) : OwR Ow1 w' lo hi' E ao' (n + 1) c' (us ++ [u]) (ds ++ [d]) := by
  have hul : us.length = n := h.ulen
  have split1 : ∀ {j v}, (us ++ [u])[j]? = some v → (us[j]? = some v ∧ j < n) ∨ (j = n ∧ v = u) := by
    intro j v hj
    rw [List.getElem?_append] at hj
    split at hj
    · exact .inl ⟨hj, by omega⟩
    · rw [hul] at hj
      cases hjn : j - n with
      | zero => rw [hjn] at hj; simp at hj; exact .inr ⟨by omega, hj.symm⟩
      | succ k => rw [hjn] at hj; simp at hj
  refine { own := hown, top := hao, len := by rw [List.length_append, h.len]; rfl, el := ?_, rng := ?_, out := ?_, apart := ?_ }
  · intro j v x hv hx
    rcases split1 hv with ⟨h1, hj⟩ | ⟨rfl, rfl⟩
    · rw [List.getElem?_append_left (by rw [h.len]; exact hj)] at hx
      refine I.loc (h.el j v x h1 hx) fun g hgg => hg.block g (I.lt (h.el j v x h1 hx) g hgg) fun e => h.out j v g h1 hgg e.symm
    · rw [List.getElem?_append_right (by rw [h.len]; exact Nat.le_refl _), h.len, Nat.sub_self] at hx
      simp at hx; subst hx; exact hu
  · intro j v hv
    rcases split1 hv with ⟨h1, hj⟩ | ⟨rfl, rfl⟩
    · exact (h.rng j v h1).mono (Nat.le_refl _) hhi
    · exact hur
  · intro j v g hv hgg
    rcases split1 hv with ⟨h1, hj⟩ | ⟨rfl, rfl⟩
    · intro e
      rcases hnew g e with h2 | h2
      · exact h.out j v g h1 hgg h2
      · exact h2 j v h1 hgg
    · exact (hua g hgg).1
  · intro i j v v' g hij hv hv' hgg
    rcases split1 hv with ⟨h1, hi1⟩ | ⟨rfl, rfl⟩
    · rcases split1 hv' with ⟨h2, hj1⟩ | ⟨rfl, rfl⟩
      · exact h.apart i j v v' g hij h1 h2 hgg
      · exact fun e => (hua g e).2 i v h1 hgg
    · rcases split1 hv' with ⟨h2, hj1⟩ | ⟨rfl, _⟩
      · exact (hua g hgg).2 j v' h2
      · exact absurd rfl hij

/-- a row that is written out: u0, u1, .. are owned already, in blocks of their own -/
theorem OwR.lit (I : Inner Ow1) (hlo : lo ≤ w.heap.size) (hhi : hi ≤ w.heap.size) (hl : us.length = n) (hd : ds.length = n) (hn : n ≤ 4398046511104) (hel : ∀ (j : Nat) (u : Value) (d : D), us[j]? = some u → ds[j]? = some d → Ow1 w u d) (hr : ∀ (j : Nat) (u : Value), us[j]? = some u → In lo hi u)
    (ha : ∀ (i j : Nat) (u u' : Value) (g : Nat), i ≠ j → us[i]? = some u → us[j]? = some u' → u.ownBlock = some g → u'.ownBlock ≠ some g) :
    OwR Ow1 (w.alloc (.cells us.toArray E)) lo (w.heap.size + 1) E (some ⟨w.heap.size, 0, none⟩) n n us ds :=
  { own := ⟨by simpa using World.ownsRow_lit (e := E) (size := 1) w us.toArray n hlo (by simp [maxLen]; omega) (by simpa using hl), hn⟩
    top := fun g hg => by simp [bk] at hg; omega
    len := hd
    el := fun j u d hu hdd => I.loc (hel j u d hu hdd) fun g hg => Below.heap_alloc w _ g (I.lt (hel j u d hu hdd) g hg)
    rng := fun j u hu => (hr j u hu).mono (Nat.le_refl _) (by omega)
    out := fun j u g hu hg e => by
      have := (hr j u hu g hg).2
      simp [bk] at e
      omega
    apart := ha }
theorem OwR.lit2 (I : Inner Ow1) {u0 u1 : Value} {d0 d1 : D} (hlo : lo ≤ w.heap.size) (hhi : hi ≤ w.heap.size) (h0 : Ow1 w u0 d0) (h1 : Ow1 w u1 d1) (r0 : In lo hi u0) (r1 : In lo hi u1) (ha : ∀ g, u0.ownBlock = some g → u1.ownBlock ≠ some g) :
    OwR Ow1 (w.alloc (.cells #[u0, u1] E)) lo (w.heap.size + 1) E (some ⟨w.heap.size, 0, none⟩) 2 2 [u0, u1] [d0, d1] := by
  refine OwR.lit (us := [u0, u1]) (ds := [d0, d1]) I hlo hhi rfl rfl (by omega) ?_ ?_ ?_
  · intro j u d hu hd
    match j, hu, hd with
    | 0, hu, hd => simp at hu hd; subst hu hd; exact h0
    | 1, hu, hd => simp at hu hd; subst hu hd; exact h1
  · intro j u hu
    match j, hu with
    | 0, hu => simp at hu; subst hu; exact r0
    | 1, hu => simp at hu; subst hu; exact r1
  · intro i j u u' g hij hu hu' hg
    match i, j, hu, hu' with
    | 0, 0, _, _ => exact absurd rfl hij
    | 1, 1, _, _ => exact absurd rfl hij
    | 0, 1, hu, hu' => simp at hu hu'; subst hu hu'; exact ha g hg
    | 1, 0, hu, hu' => simp at hu hu'; subst hu hu'; exact fun e => ha g e hg

/-- the cell of element j -/
theorem OwR.cell {g0 : Nat} (h : OwR Ow1 w lo hi E (some ⟨g0, 0, none⟩) n c us ds) {j : Nat} {u : Value} (hu : us[j]? = some u) : w.cell? ⟨g0, j, none⟩ = some u := by
  have hj : j < n := by have := (List.getElem?_eq_some_iff.1 hu).1; rw [h.ulen] at this; exact this
  obtain ⟨g', hg, _, _, _, hc, _⟩ := h.own.form (by omega)
  obtain rfl : g0 = g' := by injection hg with hg; injection hg
  rw [hc j hj, hu]
end

/-- element k of a list of lists, the empty one behind its end; closed to simp -/
def lget {α : Type} (zss : List (List α)) (k : Nat) : List α := zss.getD k []
theorem lget_lt {α : Type} {zss : List (List α)} {k : Nat} (h : k < zss.length) : lget zss k = zss[k] := by simp [lget, h]
theorem lget_get? {α : Type} {zss : List (List α)} {k : Nat} {z : List α} (h : zss[k]? = some z) : lget zss k = z := by simp [lget, h]
theorem get?_lget {α : Type} {zss : List (List α)} {k : Nat} (h : k < zss.length) : zss[k]? = some (lget zss k) := by rw [lget_lt h, List.getElem?_eq_getElem h]
theorem take_lget {α : Type} {zss : List (List α)} {k : Nat} (h : k < zss.length) : zss.take (k + 1) = zss.take k ++ [lget zss k] := by rw [List.take_succ_eq_append_getElem h, lget_lt h]
theorem lget_mem {α : Type} {zss : List (List α)} {k : Nat} (h : k < zss.length) : lget zss k ∈ zss := by rw [lget_lt h]; exact List.getElem_mem h

/-- v is a slice that reads as integers -/
def RdS (w : World) (v : Value) (zs : List Int) : Prop := ∃ ao n c, v = .slice ao n c ∧ Ints w ao n zs
/-- v is a slice that owns its integers -/
def OwS (E : Nat) (w : World) (v : Value) (zs : List Int) : Prop := ∃ ao n c, v = .slice ao n c ∧ Own w 0 E ao n c (zs.map (Value.int .i64))
theorem OwS.rd {E : Nat} {w : World} {v : Value} {zs : List Int} (h : OwS E w v zs) : RdS w v zs := by
  obtain ⟨ao, n, c, rfl, ho⟩ := h
  exact ⟨ao, n, c, rfl, ho.ints⟩
theorem innerS (E : Nat) : Inner (OwS E) :=
  { loc := fun {w w' u d} h hs => by
      obtain ⟨ao, n, c, rfl, ho⟩ := h
      exact ⟨ao, n, c, rfl, ho.same fun g hg => hs g (by rw [ownBlock_slice]; exact hg)⟩
    lt := fun {w u d} h g hg => by
      obtain ⟨ao, n, c, rfl, ho⟩ := h
      rw [ownBlock_slice] at hg
      exact (ho.lt g hg).2
    one := fun {w u d} h => by obtain ⟨ao, n, c, rfl, _⟩ := h; rfl }
theorem RdS.below {w w' : World} {v : Value} {zs : List Int} (h : RdS w v zs) (hb : Below w.heap.size w w') : RdS w' v zs := by
  obtain ⟨ao, n, c, rfl, hi⟩ := h
  exact ⟨ao, n, c, rfl, hi.below hb⟩

/-- the slice at ao, of n slices of integers, reads as zss -/
def Intss (w : World) (ao : Option Addr) (n : Nat) (zss : List (List Int)) : Prop :=
  zss.length = n ∧ n ≤ 17592186044416 ∧ (0 < n → ∃ b off, ao = some ⟨b, off, none⟩ ∧ ∀ j, j < n → ∃ u, w.cell? ⟨b, off + j, none⟩ = some u ∧ RdS w u (lget zss j))
theorem Intss.at_ {w : World} {ao : Option Addr} {n : Nat} {zss : List (List Int)} (h : Intss w ao n zss) {k : Nat} (hk : k < n) :
    ∃ b off a' n' c', ao = some ⟨b, off, none⟩ ∧ w.cell? ⟨b, off + k, none⟩ = some (.slice a' n' c') ∧ Ints w a' n' (lget zss k) := by
  obtain ⟨b, off, e, hc⟩ := h.2.2 (by omega)
  obtain ⟨u, h1, a', n', c', rfl, h2⟩ := hc k hk
  exact ⟨b, off, a', n', c', e, h1, h2⟩
theorem Intss.drewN {w : World} {ao : Option Addr} {n : Nat} {zss : List (List Int)} (h : Intss w ao n zss) (m : Nat) : Intss (w.drewN m) ao n zss := h
theorem Intss.below {w w' : World} {ao : Option Addr} {n : Nat} {zss : List (List Int)} (h : Intss w ao n zss) (hb : Below w.heap.size w w') : Intss w' ao n zss := by
  refine ⟨h.1, h.2.1, fun hn => ?_⟩
  obtain ⟨b, off, rfl, hc⟩ := h.2.2 hn
  refine ⟨b, off, rfl, fun j hj => ?_⟩
  obtain ⟨u, h1, h2⟩ := hc j hj
  exact ⟨u, (hb.cell (p := ⟨b, off + j, none⟩) (World.block_lt_of_cell? w _ h1)).trans h1, h2.below hb⟩
theorem Intss.nil_ (w : World) (ao : Option Addr) : Intss w ao 0 [] := ⟨rfl, by omega, fun h => absurd h (by omega)⟩
theorem OwR.intss {E1 : Nat} {w : World} {lo hi E : Nat} {ao : Option Addr} {n c : Nat} {us : List Value} {zss : List (List Int)} (h : OwR (OwS E1) w lo hi E ao n c us zss) : Intss w ao n zss := by
  refine ⟨h.len, by have := h.own.2; omega, fun hn => ?_⟩
  obtain ⟨g, rfl, _, _, _, _, _⟩ := h.own.form hn
  refine ⟨g, 0, rfl, fun j hj => ?_⟩
  obtain ⟨u, d, hu, hd, h1, _⟩ := h.get hj
  refine ⟨u, by rw [Nat.zero_add]; exact h.cell hu, ?_⟩
  rw [lget_get? hd]; exact h1.rd

/-- v is a slice that reads as lists of integers -/
def RdSS (w : World) (v : Value) (zss : List (List Int)) : Prop := ∃ ao n c, v = .slice ao n c ∧ Intss w ao n zss
/-- v is a slice that owns its lists of integers, in blocks from lo to below hi -/
def OwSS (E1 E : Nat) (w : World) (lo hi : Nat) (v : Value) (zss : List (List Int)) : Prop := ∃ ao n c us, v = .slice ao n c ∧ OwR (OwS E1) w lo hi E ao n c us zss
theorem OwSS.rd {E1 E : Nat} {w : World} {lo hi : Nat} {v : Value} {zss : List (List Int)} (h : OwSS E1 E w lo hi v zss) : RdSS w v zss := by
  obtain ⟨ao, n, c, us, rfl, ho⟩ := h
  exact ⟨ao, n, c, rfl, ho.intss⟩
theorem OwSS.below {E1 E : Nat} {w w' : World} {lo hi : Nat} {v : Value} {zss : List (List Int)} (h : OwSS E1 E w lo hi v zss) (hb : Below w.heap.size w w') : OwSS E1 E w' lo hi v zss := by
  obtain ⟨ao, n, c, us, rfl, ho⟩ := h
  exact ⟨ao, n, c, us, rfl, ho.below (innerS E1) hb⟩
theorem OwSS.only {E1 E : Nat} {w w' : World} {lo hi : Nat} {v : Value} {zss : List (List Int)} (h : OwSS E1 E w lo hi v zss) {l k : Nat} (ho : Only l k w w') (hd : hi ≤ l ∨ k ≤ lo) : OwSS E1 E w' lo hi v zss := by
  obtain ⟨ao, n, c, us, rfl, h1⟩ := h
  exact ⟨ao, n, c, us, rfl, h1.only (innerS E1) ho hd⟩
theorem OwSS.mono {E1 E : Nat} {w : World} {lo hi lo' hi' : Nat} {v : Value} {zss : List (List Int)} (h : OwSS E1 E w lo hi v zss) (h1 : lo' ≤ lo) (h2 : hi ≤ hi') : OwSS E1 E w lo' hi' v zss := by
  obtain ⟨ao, n, c, us, rfl, ho⟩ := h
  exact ⟨ao, n, c, us, rfl, ho.mono h1 h2⟩
theorem RdSS.below {w w' : World} {v : Value} {zss : List (List Int)} (h : RdSS w v zss) (hb : Below w.heap.size w w') : RdSS w' v zss := by
  obtain ⟨ao, n, c, rfl, hi⟩ := h
  exact ⟨ao, n, c, rfl, hi.below hb⟩
/-- v owns its integers in a block from lo to below hi -/
def OwnS (E : Nat) (w : World) (lo hi : Nat) (v : Value) (zs : List Int) : Prop := OwS E w v zs ∧ In lo hi v
theorem OwnS.rd {E : Nat} {w : World} {lo hi : Nat} {v : Value} {zs : List Int} (h : OwnS E w lo hi v zs) : RdS w v zs := h.1.rd
theorem OwnS.below {E : Nat} {w w' : World} {lo hi : Nat} {v : Value} {zs : List Int} (h : OwnS E w lo hi v zs) (hb : Below w.heap.size w w') : OwnS E w' lo hi v zs :=
  ⟨(innerS E).loc h.1 fun g hg => hb.block g ((innerS E).lt h.1 g hg), h.2⟩
theorem OwnS.only {E : Nat} {w w' : World} {lo hi : Nat} {v : Value} {zs : List Int} (h : OwnS E w lo hi v zs) {l k : Nat} (ho : Only l k w w') (hd : hi ≤ l ∨ k ≤ lo) : OwnS E w' lo hi v zs :=
  ⟨(innerS E).loc h.1 fun g hg => ho.block g ((innerS E).lt h.1 g hg) (by have := h.2 g hg; omega), h.2⟩
theorem OwnS.of {E : Nat} {w : World} {base : Nat} {ao : Option Addr} {n c : Nat} {zs : List Int} (h : Own w base E ao n c (zs.map (Value.int .i64))) : OwnS E w base w.heap.size (.slice ao n c) zs :=
  ⟨⟨ao, n, c, rfl, h.mono (Nat.zero_le _)⟩, in_slice h.lt⟩

/-- k, k + 1, .. : n numbers -/
def marks (k : Int) (n : Nat) : List Int := (List.range n).map fun j : Nat => k + (j : Int)
def lenSS (zss : List (List Int)) : Nat := (zss.map List.length).sum
theorem lenSS_take {zss : List (List Int)} {k : Nat} (h : k < zss.length) : lenSS (zss.take (k + 1)) = lenSS (zss.take k) + (lget zss k).length := by
  unfold lenSS; rw [take_lget h, List.map_append, List.sum_append]; simp
theorem lenSS_take_le (zss : List (List Int)) (k : Nat) : lenSS (zss.take k) ≤ lenSS zss := by
  conv => rhs; rw [← List.take_append_drop k zss]
  unfold lenSS; rw [List.map_append, List.sum_append]; omega
theorem len_le_lenSS {zss : List (List Int)} {k : Nat} (h : k < zss.length) : (lget zss k).length ≤ lenSS zss := by
  have h1 := lenSS_take h
  have h2 := lenSS_take_le zss (k + 1)
  omega
/-- a struct of one slice of slices, as a value: the mirror and the program's maniplex alike -/
def RdM (w : World) (v : Value) (zss : List (List Int)) : Prop := ∃ ao n c, v = .agg #[.slice ao n c] ∧ Intss w ao n zss
def OwM (E1 E : Nat) (w : World) (lo hi : Nat) (v : Value) (zss : List (List Int)) : Prop := ∃ ao n c us, v = .agg #[.slice ao n c] ∧ OwR (OwS E1) w lo hi E ao n c us zss
theorem OwM.rd {E1 E : Nat} {w : World} {lo hi : Nat} {v : Value} {zss : List (List Int)} (h : OwM E1 E w lo hi v zss) : RdM w v zss := by
  obtain ⟨ao, n, c, us, rfl, ho⟩ := h
  exact ⟨ao, n, c, rfl, ho.intss⟩
theorem OwM.below {E1 E : Nat} {w w' : World} {lo hi : Nat} {v : Value} {zss : List (List Int)} (h : OwM E1 E w lo hi v zss) (hb : Below w.heap.size w w') : OwM E1 E w' lo hi v zss := by
  obtain ⟨ao, n, c, us, rfl, ho⟩ := h
  exact ⟨ao, n, c, us, rfl, ho.below (innerS E1) hb⟩
theorem OwM.only {E1 E : Nat} {w w' : World} {lo hi : Nat} {v : Value} {zss : List (List Int)} (h : OwM E1 E w lo hi v zss) {l k : Nat} (ho : Only l k w w') (hd : hi ≤ l ∨ k ≤ lo) : OwM E1 E w' lo hi v zss := by
  obtain ⟨ao, n, c, us, rfl, h1⟩ := h
  exact ⟨ao, n, c, us, rfl, h1.only (innerS E1) ho hd⟩
theorem OwM.mono {E1 E : Nat} {w : World} {lo hi lo' hi' : Nat} {v : Value} {zss : List (List Int)} (h : OwM E1 E w lo hi v zss) (h1 : lo' ≤ lo) (h2 : hi ≤ hi') : OwM E1 E w lo' hi' v zss := by
  obtain ⟨ao, n, c, us, rfl, ho⟩ := h
  exact ⟨ao, n, c, us, rfl, ho.mono h1 h2⟩
theorem RdM.below {w w' : World} {v : Value} {zss : List (List Int)} (h : RdM w v zss) (hb : Below w.heap.size w w') : RdM w' v zss := by
  obtain ⟨ao, n, c, rfl, hi⟩ := h
  exact ⟨ao, n, c, rfl, hi.below hb⟩

/-- a struct of an integer and a slice of slices, as a value: a presentation -/
abbrev PresD : Type := Int × List (List Int)
def RdP (w : World) (v : Value) (d : PresD) : Prop := ∃ ao n c, v = .agg #[.int .i64 d.1, .slice ao n c] ∧ Intss w ao n d.2
def OwP (E1 E : Nat) (w : World) (lo hi : Nat) (v : Value) (d : PresD) : Prop := ∃ ao n c us, v = .agg #[.int .i64 d.1, .slice ao n c] ∧ OwR (OwS E1) w lo hi E ao n c us d.2
theorem OwP.rd {E1 E : Nat} {w : World} {lo hi : Nat} {v : Value} {d : PresD} (h : OwP E1 E w lo hi v d) : RdP w v d := by
  obtain ⟨ao, n, c, us, rfl, ho⟩ := h
  exact ⟨ao, n, c, rfl, ho.intss⟩
theorem OwP.below {E1 E : Nat} {w w' : World} {lo hi : Nat} {v : Value} {d : PresD} (h : OwP E1 E w lo hi v d) (hb : Below w.heap.size w w') : OwP E1 E w' lo hi v d := by
  obtain ⟨ao, n, c, us, rfl, ho⟩ := h
  exact ⟨ao, n, c, us, rfl, ho.below (innerS E1) hb⟩
theorem OwP.only {E1 E : Nat} {w w' : World} {lo hi : Nat} {v : Value} {d : PresD} (h : OwP E1 E w lo hi v d) {l k : Nat} (ho : Only l k w w') (hd : hi ≤ l ∨ k ≤ lo) : OwP E1 E w' lo hi v d := by
  obtain ⟨ao, n, c, us, rfl, h1⟩ := h
  exact ⟨ao, n, c, us, rfl, h1.only (innerS E1) ho hd⟩
theorem RdP.below {w w' : World} {v : Value} {d : PresD} (h : RdP w v d) (hb : Below w.heap.size w w') : RdP w' v d := by
  obtain ⟨ao, n, c, rfl, hi⟩ := h
  exact ⟨ao, n, c, rfl, hi.below hb⟩

theorem below_tr {w W W' : World} (k : Below W.heap.size W W') (h : Below w.heap.size w W) : Below w.heap.size w W' := h.trans (k.mono h.size)
theorem below_drew1 (w : World) : Below w.heap.size w w.drew := (Below.refl _ _).drew
theorem OwM.form {E1 E : Nat} {w : World} {lo hi : Nat} {v : Value} {zss : List (List Int)} (h : OwM E1 E w lo hi v zss) : ∃ ao n c, v = .agg #[.slice ao n c] := by
  obtain ⟨ao, n, c, us, rfl, _⟩ := h
  exact ⟨ao, n, c, rfl⟩
theorem OwP.form {E1 E : Nat} {w : World} {lo hi : Nat} {v : Value} {d : PresD} (h : OwP E1 E w lo hi v d) : ∃ ao n c, v = .agg #[.int .i64 d.1, .slice ao n c] := by
  obtain ⟨ao, n, c, us, rfl, _⟩ := h
  exact ⟨ao, n, c, rfl⟩
theorem below_alloc1 (w : World) (o : Obj) : Below w.heap.size w (w.alloc o) := (Below.refl _ _).alloc (Nat.le_refl _) o
theorem below_alloc2 (w : World) (o o' : Obj) : Below w.heap.size w ((w.alloc o).alloc o') := (below_alloc1 w o).alloc (by simp) o'
theorem below_alloc3 (w : World) (o o' o'' : Obj) : Below w.heap.size w (((w.alloc o).alloc o').alloc o'') := (below_alloc2 w o o').alloc (by simp; omega) o''
/-- block g is just the cells cs of type t, none frozen -/
def Blk (w : World) (g : Nat) (t : TypeId) (cs : Array Value) : Prop := w.heap[g]? = some (.cells cs t (0, 0))
theorem Blk.lt {w : World} {g : Nat} {t : TypeId} {cs : Array Value} (h : Blk w g t cs) : g < w.heap.size := by
  rcases Nat.lt_or_ge g w.heap.size with hlt | hge
  · exact hlt
  · unfold Blk at h; rw [Array.getElem?_eq_none hge] at h; cases h
theorem Blk.cell {w : World} {g : Nat} {t : TypeId} {cs : Array Value} (h : Blk w g t cs) (i : Nat) : w.cell? ⟨g, i, none⟩ = cs[i]? := cell_of_row w g i cs t (0, 0) h
theorem Blk.frozen {w : World} {g : Nat} {t : TypeId} {cs : Array Value} (h : Blk w g t cs) (i : Nat) : w.frozen? ⟨g, i, none⟩ = false := by
  unfold Blk at h; simp [World.frozen?, h]
theorem Blk.new (w : World) (t : TypeId) (cs : Array Value) : Blk (w.alloc (.cells cs t)) w.heap.size t cs := heap_alloc_new w _
theorem blk_at {w : World} {t : TypeId} {cs : Array Value} {k : Nat} (h : w.heap.size = k) : Blk (w.alloc (.cells cs t)) k t cs := h ▸ Blk.new w t cs
theorem Blk.alloc {w : World} {g : Nat} {t : TypeId} {cs : Array Value} (h : Blk w g t cs) (o : Obj) : Blk (w.alloc o) g t cs := (Below.heap_alloc w o g h.lt).trans h
theorem Blk.set_ {w : World} {g : Nat} {t : TypeId} {cs : Array Value} (h : Blk w g t cs) (i : Nat) (u : Value) : Blk (w.setCell ⟨g, i, none⟩ u) g t (cs.setIfInBounds i u) := by
  unfold Blk at h ⊢
  simp [World.setCell, Array.getElem?_modify, h]
theorem Blk.far {w : World} {g : Nat} {t : TypeId} {cs : Array Value} (h : Blk w g t cs) {p : Addr} (hp : g ≠ p.block) (u : Value) : Blk (w.setCell p u) g t cs := (Below.heap_setCell w p u g hp).trans h
theorem Blk.below {w w' : World} {g : Nat} {t : TypeId} {cs : Array Value} {B : Nat} (h : Blk w g t cs) (hb : Below B w w') (hg : g < B) : Blk w' g t cs := (hb.block g hg).trans h
theorem Blk.belowS {w w' : World} {g : Nat} {t : TypeId} {cs : Array Value} (h : Blk w g t cs) (hb : Below w.heap.size w w') : Blk w' g t cs := h.below hb h.lt
theorem Blk.only {w w' : World} {g : Nat} {t : TypeId} {cs : Array Value} {lo hi : Nat} (h : Blk w g t cs) (ho : Only lo hi w w') (hg : g < lo ∨ hi ≤ g) : Blk w' g t cs := (ho.block g h.lt hg).trans h
theorem Blk.drewN {w : World} {g : Nat} {t : TypeId} {cs : Array Value} (h : Blk w g t cs) (m : Nat) : Blk (w.drewN m) g t cs := h
end Go.Proofs.YtmdhljleaijkbaaGreatDoor

/- The draws' source: l01From, l01Next. -/
namespace Go.Proofs.YtmdhljleaijkbaaGreatDoor
open Go.RowKit

/-- the slice at ao, of n bytes, can be read -/
def Bts (w : World) (ao : Option Addr) (n : Nat) (hi : Nat) : Prop := n ≤ 281474976710656 ∧ (0 < n → ∃ b off, ao = some ⟨b, off, none⟩ ∧ b < hi ∧ ∀ j, j < n → ∃ x : Nat, x < 256 ∧ w.cell? ⟨b, off + j, none⟩ = some (.int .u8 x))
/-- a source: its box, its code lies below it -/
structure Src (w : World) (sb : Nat) : Prop where
  box : ∃ (ao : Option Addr) (n c k h : Nat), Blk w sb 70 #[.slice ao n c, .int .i64 k, .int .u64 h] ∧ h < 18446744073709551616 ∧ k ≤ n ∧ Bts w ao n sb
theorem Bts.only {w w' : World} {ao : Option Addr} {n hi : Nat} {lo h2 : Nat} (h : Bts w ao n hi) (ho : Only lo h2 w w') (hl : hi ≤ lo) : Bts w' ao n hi := by
  refine ⟨h.1, fun hn => ?_⟩
  obtain ⟨b, off, e, hb, hc⟩ := h.2 hn
  refine ⟨b, off, e, hb, fun j hj => ?_⟩
  obtain ⟨x, hx, hcx⟩ := hc j hj
  exact ⟨x, hx, (World.cell?_of_block (ho.block b (World.block_lt_of_cell? w _ hcx) (.inl (by omega)))).trans hcx⟩
theorem Src.only {w w' : World} {sb lo hi : Nat} (h : Src w sb) (ho : Only lo hi w w') (hl : sb < lo) : Src w' sb := by
  obtain ⟨ao, n, c, k, hh, h1, h2, h3, h4⟩ := h.box
  exact ⟨ao, n, c, k, hh, h1.only ho (.inl hl), h2, h3, h4.only ho (by omega)⟩

theorem wrap_u64_of (a : Int) : ∃ H : Nat, H < 18446744073709551616 ∧ IntKind.u64.wrap a = (H : Int) := by
  rw [IntKind.wrap_u64]
  exact ⟨(a % 18446744073709551616).toNat, by omega, by omega⟩
theorem low24 (a : Int) : ∃ X : Nat, X ≤ 16777215 ∧ wrap64 (bits .and .u64 a 16777215) = (X : Int) := by
  refine ⟨(BitVec.ofInt 64 a &&& BitVec.ofInt 64 16777215).toNat, ?_, ?_⟩
  · rw [BitVec.toNat_and]
    exact Nat.le_trans Nat.and_le_right (by decide)
  · have h : (BitVec.ofInt 64 a &&& BitVec.ofInt 64 16777215).toNat ≤ 16777215 := by rw [BitVec.toNat_and]; exact Nat.le_trans Nat.and_le_right (by decide)
    show wrap64 (IntKind.u64.wrap ((BitVec.ofInt 64 a &&& BitVec.ofInt 64 16777215).toNat : Int)) = _
    rw [IntKind.wrap_u64]
    generalize (BitVec.ofInt 64 a &&& BitVec.ofInt 64 16777215).toNat = Y at *
    unfold wrap64
    omega
theorem only_set (w : World) (sb i : Nat) (v : Value) {w' : World} (h : w' = w.setCell ⟨sb, i, none⟩ v := by rfl) : Only sb (sb + 1) w w' := by
  subst h
  exact ⟨rfl, rfl, rfl, by simp [World.setCell], fun k hk hd => Below.heap_setCell _ _ _ _ (by show k ≠ sb; omega)⟩

set_option maxHeartbeats 3200000 in
theorem next_any (sb : Nat) (z : Int) (w : World) (h : Src w sb) (hz : -4611686018427387904 ≤ z ∧ z ≤ 4611686018427387904) :
    Calls Tryz.prog 38 #[.pointer (some ⟨sb, 0, none⟩), .int .i64 z] w fun e w' => ∃ r : Nat, e = .returned (.int .i64 r) ∧ (z < 1 → r = 0) ∧ (1 ≤ z → (r : Int) < z) ∧ Src w' sb ∧ Only sb (sb + 1) w w' := by
  obtain ⟨ao, n, c, k, hh, hB, h2, h3, h4⟩ := h.box
  have x0 := hB.cell 0
  have x1 := hB.cell 1
  have x2 := hB.cell 2
  have f1 := hB.frozen 1
  have f2 := hB.frozen 2
  simp at x0 x1 x2
  by_cases hz1 : z < 1
  · have e0 : decide (z < 1) = true := by simp [hz1]
    go_enter Tryz.func38, Tryz.ntmps38
    go_wp2
    go_ret
    exact ⟨0, rfl, fun _ => rfl, fun h => by omega, h, Only.refl _ _ _⟩
  · have e0 : decide (z < 1) = false := by simp; omega
    go_enter Tryz.func38, Tryz.ntmps38
    go_wp2_with fail
    obtain ⟨H, hH1, hH2⟩ := wrap_u64_of (IntKind.u64.wrap ((hh : Int) * 6364136223846793005) + 1442695040888963407)
    rw [hH2]
    obtain ⟨X, hX1, hX2⟩ := low24 ((H : Int) / 8589934592)
    rw [hX2]
    have B1 : Blk (w.setCell ⟨sb, 2, none⟩ (.int .u64 (H : Int))) sb 70 #[.slice ao n c, .int .i64 k, .int .u64 H] := hB.set_ 2 _
    have O1 : Only sb (sb + 1) w (w.setCell ⟨sb, 2, none⟩ (.int .u64 (H : Int))) := only_set _ _ 2 _
    generalize w.setCell ⟨sb, 2, none⟩ (.int .u64 (H : Int)) = w1 at *
    have h5 : Bts w1 ao n sb := h4.only O1 (Nat.le_refl _)
    have y0 := B1.cell 0
    have y1 := B1.cell 1
    have g1 := B1.frozen 1
    simp at y0 y1
    clear x0 x1 x2 f1 f2 hH2 hX2 h4 hB
    have hn := h5.1
    have hzz : (z == 0) = false := by simp; omega
    have fin : ∀ (Y k' : Nat) (w2 : World), Y ≤ 33554432 → k' ≤ n → Blk w2 sb 70 #[.slice ao n c, .int .i64 k', .int .u64 H] → Only sb (sb + 1) w1 w2 → ∃ r : Nat, Ending.returned (Value.int .i64 ((Y : Int) % z)) = Ending.returned (.int .i64 r) ∧ (z < 1 → r = 0) ∧ (1 ≤ z → (r : Int) < z) ∧ Src w2 sb ∧ Only sb (sb + 1) w w2 := fun Y k' w2 hY hk' hB2 hO2 => by
      have e2 := Int.emod_nonneg (Y : Int) (show z ≠ 0 by omega)
      have e3 := Int.emod_lt_of_pos (Y : Int) (show 0 < z by omega)
      exact ⟨((Y : Int) % z).toNat, by rw [Int.toNat_of_nonneg e2], fun h => by omega, fun _ => by omega, ⟨ao, n, c, k', H, hB2, hH1, hk', h5.only hO2 (Nat.le_refl _)⟩, O1.trans hO2⟩
    by_cases hk : k < n
    · obtain ⟨b, off, rfl, hb, hc⟩ := h5.2 (by omega)
      obtain ⟨x, hx, hcx⟩ := hc k hk
      go_quiet (fail)
      go_wp2_with fail
      go_quiet (fail)
      go_wp2
      go_ret
      have key := fin (X + x) (k + 1)
      rw [Int.natCast_add] at key
      exact key _ (by omega) (by omega) (B1.set_ 1 (.int .i64 ((k : Int) + 1))) ⟨rfl, rfl, rfl, by simp [World.setCell, World.drewN], fun a ha hd => Below.heap_setCell w1 ⟨sb, 1, none⟩ (.int .i64 ((k : Int) + 1)) a (by show a ≠ sb; omega)⟩
    · go_quiet (fail)
      go_wp2
      go_ret
      exact fin X k _ (by omega) h3 (B1.drewN _) ⟨rfl, rfl, rfl, Nat.le_refl _, fun _ _ _ => rfl⟩

theorem Bts.below {w w' : World} {ao : Option Addr} {n hi : Nat} (h : Bts w ao n hi) (hb : Below w.heap.size w w') : Bts w' ao n hi := by
  refine ⟨h.1, fun hn => ?_⟩
  obtain ⟨b, off, e, hlt, hc⟩ := h.2 hn
  refine ⟨b, off, e, hlt, fun j hj => ?_⟩
  obtain ⟨x, hx, hcx⟩ := hc j hj
  exact ⟨x, hx, (World.cell?_of_block (hb.block b (World.block_lt_of_cell? w _ hcx))).trans hcx⟩
set_option maxRecDepth 100000 in
set_option maxHeartbeats 3200000 in
theorem from_any (ao : Option Addr) (n c : Nat) (w : World) (h : Bts w ao n w.heap.size) :
    Calls Tryz.prog 19 #[.slice ao n c] w fun e w' => e = .returned (.pointer (some ⟨w.heap.size, 0, none⟩)) ∧ Src w' w.heap.size ∧ w.heap.size < w'.heap.size ∧ Below w.heap.size w w' := by
  have hn := h.1
  go_enter Tryz.func19, Tryz.ntmps19
  go_wp2
  go_loopw [4] (fun i wr => ∃ k hh : Nat, k ≤ n ∧ i = .int .i64 k ∧ hh < 18446744073709551616 ∧ Blk wr w.heap.size 70 #[.slice ao n c, .int .i64 0, .int .u64 hh] ∧ Below w.heap.size w wr ∧ w.heap.size < wr.heap.size) (fun i _ => n - (intOf i).toNat)
  case atStart => exact ⟨0, 8191 + n, Nat.zero_le _, rfl, by omega, blk_at rfl, below_alloc1 _ _, by simp⟩
  case round =>
    obtain ⟨k, hh, hk, rfl, hh1, hB, hb, hs⟩ := hrel
    have done : Src wr w.heap.size := ⟨ao, n, c, 0, hh, hB, hh1, Nat.zero_le _, h.below hb⟩
    by_cases hlt : k < n
    · by_cases hl4 : k < 4096
      · obtain ⟨b, off, rfl, hbb, hc⟩ := (h.below hb).2 (by omega)
        obtain ⟨x, hx, hcx⟩ := hc k hlt
        have x2 := hB.cell 2
        have f2 := hB.frozen 2
        simp at x2
        obtain ⟨A, hA1, hA2⟩ := wrap_u64_of ((hh : Int) * 1099511628211)
        obtain ⟨C, hC1, hC2⟩ := wrap_u64_of ((A : Int) + x)
        obtain ⟨D, hD1, hD2⟩ := wrap_u64_of ((C : Int) + 11)
        have e1 : IntKind.u64.wrap (x : Int) = (x : Int) := by rw [IntKind.wrap_u64]; omega
        have HB := Lib.hid hB
        clear hB hc done h
        go_wp2_with fail
        go_region_law (fail)
        all_goals
          have hb2 := hb.setCell (p := ⟨w.heap.size, 2, none⟩) (Nat.le_refl _) (.int .u64 (D : Int))
          go_wp2
          go_roundw
          case rel => exact ⟨k + 1, D, by omega, by go_num, hD1, HB.out.set_ 2 (.int .u64 (D : Int)), ⟨hb2.os, hb2.tape, hb2.output, hb2.size, hb2.block⟩, by simpa [World.setCell] using hs⟩
          case measure => simp [intOf]; omega
      · go_wp2
        go_ret
        exact ⟨rfl, done, hs, hb⟩
    · obtain rfl : k = n := by omega
      go_wp2
      go_ret
      exact ⟨rfl, done, hs, hb⟩
end Go.Proofs.YtmdhljleaijkbaaGreatDoor

/- From a walk to the row: an argument of bytes. -/
namespace Go.Proofs.YtmdhljleaijkbaaGreatDoor
open Go.ChangeShapes Go.WideShapes Go.ChangeAt Go.RowKit Go.Deep

section
variable {H : Type} {enc : TypeId × Value → H} {P : Program}
/-- an argument of type []byte -/
theorem openB {W : World} {base : Nat} {t e : TypeId} {v : Value} {d : DataW H} {p : List MemPlace} (ht : P.underlying t = some (.slice e)) (he : P.underlying e = some (.int .u8)) (hc : P.cellsOf e = 1) (hby : P.bytesOf e = 1)
    (hv : Value.okWide P W .any base t v) (h : DataW.Trod enc P W 0 (fun _ => true) true t v d p) (hs : ∀ elems spare, d = .slice elems spare → (elems.length + spare.length) * P.bytesOf e ≤ reachBytes) :
    ∃ ao n c, v = .slice ao n c ∧ Bts W ao n W.heap.size := by
  obtain ⟨a0, len, cap, rfl⟩ := okWide_slice ht hv
  obtain ⟨fuel, hf⟩ := h
  rcases open_ints ht he hc hf with ⟨hcs, hx⟩ | ⟨a, len', cap', zs, hcs, _, hl, hm, hz, hx, hcell, hwz⟩
  · simp [Value.cells] at hcs
    obtain ⟨rfl, rfl, rfl⟩ := hcs
    exact ⟨_, _, _, rfl, by omega, fun h => absurd h (by omega)⟩
  · simp [Value.cells] at hcs
    obtain ⟨rfl, rfl, rfl⟩ := hcs
    simp only [Prod.mk.injEq] at hx
    simp only [if_true] at hz
    have hr := hs _ _ hx.1
    rw [hby] at hr
    simp only [lits, List.length_map, List.length_take, List.length_drop, reachBytes] at hr
    refine ⟨_, _, _, rfl, by omega, fun hn => ?_⟩
    obtain ⟨b, off, spot⟩ := a
    have hspot : spot = none := by simpa [Addr.add] using World.cell?_spot (hcell 0 (by omega))
    subst hspot
    refine ⟨b, off, rfl, World.block_lt_of_cell? W _ (hcell 0 (by omega)), fun j hj => ?_⟩
    have h1 := hcell j (by omega)
    rw [Addr.add_lit] at h1
    have h2 := hwz (zs.getD j 0) (by rw [List.getD_eq_getElem?_getD, List.getElem?_eq_getElem (show j < zs.length by omega)]; exact List.getElem_mem _)
    have h3 := Go.bounds_u8 h2
    exact ⟨(zs.getD j 0).toNat, by omega, by rw [h1, Int.toNat_of_nonneg h3.1]⟩
end
end Go.Proofs.YtmdhljleaijkbaaGreatDoor

/- Maps keyed by pairs of numbers, to the numbers of the keys. -/
namespace Go.Proofs.YtmdhljleaijkbaaGreatDoor
open Go.RowKit

def kv (k : Int × Int) : Value := .agg #[.int .i64 k.1, .int .i64 k.2]
theorem kv_eq (k l : Int × Int) (w : World) : (Op.equalIn 10000 91 (kv k) (kv l)).run Tryz.prog w = .ok (decide (k = l)) w := by
  obtain ⟨x, y⟩ := k
  obtain ⟨x', y'⟩ := l
  rw [kv, kv, show (10000 : Nat) = 9999 + 1 from rfl, Op.equalIn]
  simp only [Sem.run_bind, run_underlying Tryz.underlying91, Result.andThen_ok]
  simp only [Std.Legacy.Range.forIn_eq_forIn_range', Std.Legacy.Range.size, Nat.sub_zero, Nat.add_sub_cancel, Nat.div_one, List.range'_succ, List.range'_zero, List.forIn_cons, List.forIn_nil]
  go_simp
  by_cases h1 : x = x' <;> by_cases h2 : y = y' <;> simp [h1, h2]
theorem kv_check (b : Bool) (k : Int × Int) (w : World) : (Instr.checkKey b 10000 91 (kv k)).run Tryz.prog w = .ok () w := by
  obtain ⟨x, y⟩ := k
  have u := run_underlying (P := Tryz.prog) Tryz.underlying2
  rw [kv]
  have h : ∀ n, (Instr.checkKey b (n + 1 + 1) 91 (.agg #[.int .i64 x, .int .i64 y])).run Tryz.prog w = .ok () w := fun n => by
    rw [Instr.checkKey]
    simp only [Sem.run_bind, run_underlying Tryz.underlying91, Result.andThen_ok]
    simp only [Std.Legacy.Range.forIn_eq_forIn_range', Std.Legacy.Range.size, Nat.sub_zero, Nat.add_sub_cancel, Nat.div_one, List.range'_succ, List.range'_zero, List.forIn_cons, List.forIn_nil]
    simp [Instr.checkKey, go_sem, run_underlying Tryz.underlying2]
  exact h 9998
/-- where a key is -/
def fndK (k : Int × Int) : List (Int × Int) → Nat → Option Nat
  | [], _ => none
  | a :: r, i => if k = a then some i else fndK k r (i + 1)
theorem fndK_sh (k : Int × Int) : ∀ (r : List (Int × Int)) (n m : Nat), fndK k r (n + m) = (fndK k r n).map (· + m)
  | [], n, m => rfl
  | c :: r, n, m => by
    unfold fndK
    split
    · rfl
    · rw [show n + m + 1 = (n + 1) + m by omega]; exact fndK_sh k r (n + 1) m
theorem fndK_lt (k : Int × Int) : ∀ (ks : List (Int × Int)) (m : Nat), fndK k ks 0 = some m → m < ks.length ∧ ks[m]? = some k
  | [], m, h => by simp [fndK] at h
  | a :: r, m, h => by
    unfold fndK at h
    split at h
    · rename_i e; injection h with h; subst h; exact ⟨by simp, by rw [e]; rfl⟩
    · rw [fndK_sh k r 0 1] at h
      cases hf : fndK k r 0 with
      | none => rw [hf] at h; simp at h
      | some q =>
        rw [hf] at h; simp at h; subst h
        obtain ⟨h1, h2⟩ := fndK_lt k r q hf
        exact ⟨by simp; omega, by simpa using h2⟩
def entM : List (Int × Int) → Nat → List (Value × Value)
  | [], _ => []
  | a :: r, i => (kv a, .int .i64 (i : Int)) :: entM r (i + 1)
theorem entM_app (k : (Int × Int)) : ∀ (ks : List (Int × Int)) (i : Nat), entM (ks ++ [k]) i = entM ks i ++ [(kv k, .int .i64 ((i + ks.length : Nat) : Int))]
  | [], i => rfl
  | a :: r, i => by simp [entM, entM_app k r (i + 1)]; omega
/-- the block holds a map of these keys to their numbers -/
def MapK (w : World) (b : Nat) (ks : List (Int × Int)) : Prop := ∃ es clock, w.heap[b]? = some (.map es clock) ∧ es.toList.map (fun e => (e.key, e.val)) = entM ks 0
theorem findM_run (k : (Int × Int)) (w : World) : ∀ (es : List MapEntry) (ks : List (Int × Int)) (i : Nat) (j : Nat), es.map (fun e => (e.key, e.val)) = entM ks j → (Instr.findAsking 91 (kv k) es i).run Tryz.prog w = .ok ((fndK k ks 0).map fun m => (i + m, Value.int .i64 ((j + m : Nat) : Int))) w
  | [], ks, i, j, h => by
    cases ks with
    | nil => simp [Instr.findAsking, fndK, Sem.run_pure]
    | cons a r => simp [entM] at h
  | e :: es, ks, i, j, h => by
    cases ks with
    | nil => simp [entM] at h
    | cons a r =>
      simp [entM] at h
      obtain ⟨⟨h1, h2⟩, h3⟩ := h
      have ih := findM_run k w es r (i + 1) (j + 1) h3
      have sh : ∀ n m, fndK k r (n + m) = (fndK k r n).map (· + m) := by
        clear h3 ih
        induction r with
        | nil => intro n m; rfl
        | cons c r ih2 =>
          intro n m
          unfold fndK
          split
          · rfl
          · rw [show n + m + 1 = (n + 1) + m by omega]; exact ih2 (n + 1) m
      simp only [Instr.findAsking, Sem.run_bind, h1, h2, Op.equal, Op.maxDepth, kv_eq, Result.andThen_ok]
      by_cases hk : k = a
      · simp [hk, fndK, Sem.run_pure]
      · rw [decide_eq_false hk]
        simp only [Bool.false_eq_true, if_false]
        rw [ih]
        have := sh 0 1
        simp only [fndK, hk, if_false]
        rw [this]
        cases fndK k r 0 with
        | none => rfl
        | some m => simp; omega
theorem keyM_run (k : (Int × Int)) (w : World) {es : List MapEntry} {ks : List (Int × Int)} (h : es.map (fun e => (e.key, e.val)) = entM ks 0) : (Instr.findKey 91 (kv k) es).run Tryz.prog w = .ok ((fndK k ks 0).map fun m => (m, Value.int .i64 (m : Int))) w := by
  have hr := findM_run k w es ks 0 0 h
  simp only [Nat.zero_add] at hr
  unfold Instr.findKey
  simp only [Sem.run_bind, run_underlying Tryz.underlying91, Result.andThen_ok]
  cases es with
  | nil =>
    cases ks with
    | nil => rfl
    | cons a r => simp [entM] at h
  | cons e es => exact hr
theorem lookM_run (k : (Int × Int)) {w : World} {b : Nat} {ks : List (Int × Int)} (h : MapK w b ks) :
    (Instr.lookup 92 (.map (some b)) (kv k) true).run Tryz.prog w = .ok (match fndK k ks 0 with | some m => .tuple #[.int .i64 (m : Int), .bool true] | none => .tuple #[.int .i64 0, .bool false]) w := by
  obtain ⟨es, clock, hb, hm⟩ := h
  have hz : (zeroValue 2).run Tryz.prog w = .ok (.int .i64 0) w := by simp [go_sem, run_underlying Tryz.underlying2]
  have hk := keyM_run k w hm
  cases hf : fndK k ks 0 with
  | none =>
    rw [hf] at hk
    simp [Instr.lookup, run_underlying Tryz.underlying92, MapKept.run_getObj_map hb, kv_check, hk, hz, Result.andThen]
  | some m =>
    rw [hf] at hk
    simp [Instr.lookup, run_underlying Tryz.underlying92, MapKept.run_getObj_map hb, kv_check, hk, Result.andThen]
theorem putM_run (k : (Int × Int)) {w : World} {b : Nat} {ks : List (Int × Int)} (h : MapK w b ks) (hf : fndK k ks 0 = none) (v : Nat) (hv : v = ks.length) :
    ∃ o, (Instr.mapUpdate 92 (.map (some b)) (kv k) (.int .i64 (v : Int))).run Tryz.prog w = .ok () (Go.ChangeMaps.setBlock w b o) ∧ MapK (Go.ChangeMaps.setBlock w b o) b (ks ++ [k]) := by
  obtain ⟨es, clock, hb, hm⟩ := h
  have hk := keyM_run k w hm
  rw [hf] at hk
  refine ⟨.map (es.push { key := kv k, val := .int .i64 (v : Int), born := clock }) (clock + 1), ?_, ?_⟩
  · simp [Instr.mapUpdate, run_underlying Tryz.underlying92, MapKept.run_getObj_map hb, kv_check, hk, MapKept.run_setObj_map _ hb, Result.andThen, Go.ChangeMaps.setBlock]
  · have hlt := (Array.getElem?_eq_some_iff.1 hb).1
    refine ⟨es.push { key := kv k, val := .int .i64 (v : Int), born := clock }, clock + 1, by simp [Go.ChangeMaps.setBlock, hlt], ?_⟩
    rw [entM_app]; simp [hm, hv]
theorem only_blockM (w : World) (b : Nat) (o : Obj) : Only b (b + 1) w (Go.ChangeMaps.setBlock w b o) := by
  refine ⟨rfl, rfl, rfl, by simp [Go.ChangeMaps.setBlock], fun k hk hd => ?_⟩
  simp [Go.ChangeMaps.setBlock, Array.getElem?_setIfInBounds]
  intro h; omega
section
variable (w : World) {ops : Array Oper} {rest : List Oper} {o : Oper} {a : Act} {Q : Exit → Act → World → Prop}
theorem wpList_lookMY (hg : o.guard = none) (m x : Operand) (hop : o.op = Op.lookup 92 m x true) (b : Nat) (ks : List (Int × Int)) (k : (Int × Int)) (j : Nat) (hM : MapK w b ks) (hf : fndK k ks 0 = some j) (hm : a.eval m = .map (some b)) (hx : a.eval x = kv k)
    (hK : wpList Tryz.prog ops Q rest (a.put o.dst (.tuple #[.int .i64 (j : Int), .bool true])) w) : wpList Tryz.prog ops Q (o :: rest) a w := by
  refine wpList_plain hg fun K' hK' => ?_
  have hrun := lookM_run k hM
  rw [hf] at hrun
  unfold Oper.wp
  simp [execOp, hop, hm, hx, hrun, Result.andThen]
  exact hK' _ _ hK
theorem wpList_lookMN (hg : o.guard = none) (m x : Operand) (hop : o.op = Op.lookup 92 m x true) (b : Nat) (ks : List (Int × Int)) (k : (Int × Int)) (hM : MapK w b ks) (hf : fndK k ks 0 = none) (hm : a.eval m = .map (some b)) (hx : a.eval x = kv k)
    (hK : wpList Tryz.prog ops Q rest (a.put o.dst (.tuple #[.int .i64 0, .bool false])) w) : wpList Tryz.prog ops Q (o :: rest) a w := by
  refine wpList_plain hg fun K' hK' => ?_
  have hrun := lookM_run k hM
  rw [hf] at hrun
  unfold Oper.wp
  simp [execOp, hop, hm, hx, hrun, Result.andThen]
  exact hK' _ _ hK
theorem wpList_lookMG (hg : o.guard = none) (m x : Operand) (hop : o.op = Op.lookup 92 m x true) (b : Nat) (ks : List (Int × Int)) (k : Int × Int) (q : Int) (bo : Bool) (hM : MapK w b ks) (hf : (match fndK k ks 0 with | some j => ((j : Int), true) | none => (0, false)) = (q, bo)) (hm : a.eval m = .map (some b)) (hx : a.eval x = kv k)
    (hK : wpList Tryz.prog ops Q rest (a.put o.dst (.tuple #[.int .i64 q, .bool bo])) w) : wpList Tryz.prog ops Q (o :: rest) a w := by
  cases h : fndK k ks 0 with
  | some j =>
    rw [h] at hf
    injection hf with h1 h2
    subst h1 h2
    exact wpList_lookMY w hg m x hop b ks k j hM h hm hx hK
  | none =>
    rw [h] at hf
    injection hf with h1 h2
    subst h1 h2
    exact wpList_lookMN w hg m x hop b ks k hM h hm hx hK
theorem wpList_putM (hg : o.guard = none) (m x v : Operand) (hop : o.op = Op.mapUpdate 92 m x v ∨ o.op = Op.insert 92 m x v) (b : Nat) (ks : List (Int × Int)) (k : (Int × Int)) (z : Int) (hM : MapK w b ks) (hf : fndK k ks 0 = none) (hm : a.eval m = .map (some b)) (hx : a.eval x = kv k) (hv : a.eval v = .int .i64 z) (hz : z = (ks.length : Int))
    (hK : ∀ w', Only b (b + 1) w w' → MapK w' b (ks ++ [k]) → wpList Tryz.prog ops Q rest (a.put o.dst undef) w') : wpList Tryz.prog ops Q (o :: rest) a w := by
  refine wpList_plain hg fun K' hK' => ?_
  obtain ⟨ob, hrun, hM2⟩ := putM_run k hM hf ks.length rfl
  unfold Oper.wp
  subst hz
  rcases hop with hop | hop
  · simp [execOp, hop, hm, hx, hv, hrun, Result.andThen]
    exact hK' _ _ (hK _ (only_blockM w b ob) hM2)
  · simp [execOp, hop, hm, hx, hv, hrun, Result.andThen]
    exact hK' _ _ (hK _ (only_blockM w b ob) hM2)
end
end Go.Proofs.YtmdhljleaijkbaaGreatDoor

/- The laws' own helpers on []int64: the copy, the comparison, the marks. -/
namespace Go.Proofs.YtmdhljleaijkbaaGreatDoor
open Go.RowKit

theorem etI : ET Tryz.prog 38 2 (.int .i64 0) 8 := ⟨Tryz.underlying38, by kernel_rfl, rfl, by omega⟩

theorem get_pad {pre : List Int} {k n : Nat} (hk : pre.length = k) (h : k < n) : ((pre ++ List.replicate (n - k) 0).map (Value.int .i64))[k]? = some (.int .i64 0) := by
  rw [List.getElem?_map, List.getElem?_append_right (by omega), hk, Nat.sub_self, List.getElem?_replicate, if_pos (by omega)]; rfl
theorem set_pad {pre : List Int} {k n : Nat} (hk : pre.length = k) (h : k < n) (x : Int) : (pre ++ List.replicate (n - k) 0).set k x = (pre ++ [x]) ++ List.replicate (n - (k + 1)) 0 := by
  rw [List.set_append_right _ _ (by omega), hk, Nat.sub_self, show n - k = (n - (k + 1)) + 1 by omega, List.replicate_succ]; simp

end Go.Proofs.YtmdhljleaijkbaaGreatDoor

/- slices.Repeat at []int64. -/
namespace Go.Proofs.YtmdhljleaijkbaaGreatDoor
open Go.RowKit

theorem ofInt_u64 (a : Nat) (ha : a < 18446744073709551616) : (BitVec.ofInt 64 (a : Int)).toNat = a := by
  rw [BitVec.ofInt_natCast, BitVec.toNat_ofNat]; exact Nat.mod_eq_of_lt (by omega)
theorem and_low (a : Nat) (ha : a ≤ 1048576) : bits .and .u64 (a : Int) 4294967295 = (a : Int) := by
  show IntKind.u64.wrap ((BitVec.ofInt 64 (a : Int) &&& BitVec.ofInt 64 ((4294967295 : Nat) : Int)).toNat : Int) = _
  rw [BitVec.toNat_and, ofInt_u64 a (by omega), ofInt_u64 4294967295 (by omega), show (4294967295 : Nat) = 2 ^ 32 - 1 from rfl, Nat.and_two_pow_sub_one_eq_mod, Nat.mod_eq_of_lt (by omega)]
  simp [IntKind.wrap, IntKind.signed, IntKind.bits]; omega

theorem wrap_u64_nat (a : Nat) (ha : a ≤ 4294967295) : IntKind.u64.wrap ((a : Nat) : Int) = (a : Int) := by
  simp [IntKind.wrap, IntKind.signed, IntKind.bits]; omega

set_option maxHeartbeats 400000 in
theorem bitsMul_any (a b : Nat) (w : World) (ha : a ≤ 1048576) (hb : b ≤ 1048576) (hab : a * b ≤ 4294967295) :
    Calls Tryz.prog 85 #[.int .u64 a, .int .u64 b] w fun e w' => e = .returned (.tuple #[.int .u64 0, .int .u64 ((a * b : Nat) : Int)]) ∧ w = w' := by
  have e1 : (a : Int) / 4294967296 = 0 := by omega
  have e2 : (b : Int) / 4294967296 = 0 := by omega
  have e3 : bits .and .u64 (a : Int) 4294967295 = (a : Int) := and_low a ha
  have e4 : bits .and .u64 (b : Int) 4294967295 = (b : Int) := and_low b hb
  have e5 : (a : Int) * (b : Int) = ((a * b : Nat) : Int) := by rw [Int.natCast_mul]
  have e6 : IntKind.u64.wrap ((a : Int) * (b : Int)) = ((a * b : Nat) : Int) := by rw [e5]; exact wrap_u64_nat _ hab
  have e7 : ((a : Int) * (b : Int)) / 4294967296 = 0 := by rw [e5]; omega
  have e8 : bits .and .u64 0 4294967295 = 0 := by decide +kernel
  have e9 : IntKind.u64.wrap 0 = 0 := by decide +kernel
  have H6 := Lib.hid e6
  have H5 := Lib.hid e5
  clear e5 e6
  have e10 : IntKind.u64.wrap ((a : Int) * (b : Int)) = (a : Int) * (b : Int) := by rw [H6.out, H5.out]
  go_enter Tryz.func85, Tryz.ntmps85
  go_wp2
  go_ret2
  exact ⟨by simp, rfl⟩

/-- a list again and again -/
def repL {α : Type} (zs : List α) (count : Nat) : List α := (List.replicate count zs).flatten
theorem length_repL {α : Type} (zs : List α) (count : Nat) : (repL zs count).length = zs.length * count := by
  unfold repL; rw [List.length_flatten]; simp; exact Nat.mul_comm _ _
theorem repL_add {α : Type} (zs : List α) (a b : Nat) : repL zs (a + b) = repL zs a ++ repL zs b := by
  unfold repL; rw [← List.replicate_append_replicate, List.flatten_append]
theorem repL_one {α : Type} (zs : List α) : repL zs 1 = zs := by simp [repL]
/-- what is copied from the front to behind place k, k a multiple of the period -/
theorem repL_double {α : Type} {zs : List α} {count j c : Nat} (hj : j ≤ count) (hc : c ≤ zs.length * (count - j)) : (repL zs count).take (zs.length * j + c) = (repL zs count).take (zs.length * j) ++ (repL zs count).take c := by
  have h1 : repL zs count = repL zs j ++ repL zs (count - j) := by rw [← repL_add]; congr 1; omega
  have h2 : repL zs count = repL zs (count - j) ++ repL zs j := by rw [← repL_add]; congr 1; omega
  have l1 := length_repL zs j
  have l2 := length_repL zs (count - j)
  have e3 : (repL zs count).take c = (repL zs (count - j)).take c := by rw [h2, List.take_append_of_le_length (by omega)]
  have e4 : (repL zs count).take (zs.length * j) = repL zs j := by rw [h1, ← l1, List.take_left']; rfl
  rw [e3, e4, h1, List.take_append, List.take_of_length_le (by omega)]
  congr 2; omega

theorem splice_pad {α : Type} {R : List α} {z : α} {k c T : Nat} (hR : R.length = T) (hk : k + c ≤ T) (h : R.take (k + c) = R.take k ++ R.take c) : splice (R.take k ++ List.replicate (T - k) z) k (R.take c) = R.take (k + c) ++ List.replicate (T - (k + c)) z := by
  unfold splice
  have l1 : (R.take k).length = k := by simp; omega
  have l2 : (R.take c).length = c := by simp; omega
  rw [List.take_append_of_le_length (by omega), List.take_of_length_le (by omega), l2, List.drop_append, List.drop_of_length_le (by omega), l1, h]
  simp
  omega

theorem splice_map {α β : Type} (f : α → β) (xs : List α) (k : Nat) (ys : List α) : (splice xs k ys).map f = splice (xs.map f) k (ys.map f) := by
  unfold splice; simp

/-- a whole row of the call's own, cell by cell -/
theorem Own.heap_ {w : World} {base E g T : Nat} {xs : List Value} (h : Own w base E (some ⟨g, 0, none⟩) T T xs) : w.heap[g]? = some (.cells xs.toArray E (0, 0)) := by
  rcases h.1.2 with ⟨h2, _⟩ | ⟨g', cap, cur, hv, _, hh, _, _, hs, ht⟩
  · cases h2
  · injection hv with h1 h2 h3
    injection h1 with h1; injection h1 with h1
    subst h1 h3
    have : cur.toList = xs := by rw [← ht, List.take_of_length_le]; rw [Array.length_toList, hs]; exact Nat.le_refl _
    rw [hh, ← this, Array.toArray_toList]
theorem Own.of_heap {w w' : World} {base E g T : Nat} {xs ys : List Value} (h : Own w base E (some ⟨g, 0, none⟩) T T xs) (hh : w'.heap[g]? = some (.cells ys.toArray E (0, 0))) (hl : ys.length = T) : Own w' base E (some ⟨g, 0, none⟩) T T ys := by
  refine ⟨⟨by rw [hl, Nat.mul_one], .inr ⟨g, T, ys.toArray, rfl, (h.lt g rfl).1, hh, Nat.le_refl _, by have := h.2; simp [maxLen]; omega, by simp [hl], ?_⟩⟩, h.2⟩
  simp [← hl]
section
variable {P : Program} {ops : Array Oper} {rest : List Oper} {o : Oper} {a : Act} {Q : Exit → Act → World → Prop}
/-- copy into a row of the call's own -/
theorem wpList_cp {S E : TypeId} {z : Value} {bytes : Nat} (et : ET P S E z bytes) (w : World) (hg : o.guard = none) (d s : Operand) (ho : o.op = .call { callee := .builtin .copy, args := #[d, s], argTypes := #[S, S] })
    (base g T off : Nat) (xs cs : List Value) (hown : Own w base E (some ⟨g, 0, none⟩) T T xs) (dp : Option Addr) (dLen dCap : Nat) (hd : a.eval d = .slice dp dLen dCap) (sp : Option Addr) (sLen sCap : Nat) (hs : a.eval s = .slice sp sLen sCap)
    (hn : cs.length = Nat.min sLen dLen) (hpos : 0 < cs.length → dp = some ⟨g, off, none⟩ ∧ ∃ ad, sp = some ad ∧ ∀ j v, cs[j]? = some v → w.cell? (ad.add j) = some v) (hfit : off + cs.length ≤ T) (h1 : ∀ v ∈ cs, v.oneCell' = true)
    (h : ∀ w', Own w' base E (some ⟨g, 0, none⟩) T T (splice xs off cs) → Below g w w' → wpList P ops Q rest (a.put o.dst (goInt cs.length)) w') : wpList P ops Q (o :: rest) a w := by
  obtain ⟨i, hi, hz, hsz, hby⟩ := info_parts et.info
  refine wpList_copy_splice hg d s S S ho E et.und (by rw [hi]; simp [hsz]) dp sp dLen dCap sLen sCap hd hs g off xs E hown.heap_ cs hn hpos (by rw [hown.len]; exact hfit) h1 g w (Below.refl _ _) (Nat.le_refl _) ?_
  intro w' hh hb
  exact h w' (hown.of_heap hh.out (by rw [length_splice _ _ _ (by rw [hown.len]; exact hfit), hown.len])) hb
theorem step_cp {S E : TypeId} {z : Value} {bytes : Nat} (et : ET P S E z bytes) {w : World} {K : Act → World → Prop} {X : Prop} (hg : o.guard = none) (d s : Operand) (ho : o.op = .call { callee := .builtin .copy, args := #[d, s], argTypes := #[S, S] })
    (base g T off : Nat) (xs cs : List Value) (hown : Own w base E (some ⟨g, 0, none⟩) T T xs) (dp : Option Addr) (dLen dCap : Nat) (hd : a.eval d = .slice dp dLen dCap) (sp : Option Addr) (sLen sCap : Nat) (hs : a.eval s = .slice sp sLen sCap)
    (hn : cs.length = Nat.min sLen dLen) (hpos : 0 < cs.length → dp = some ⟨g, off, none⟩ ∧ ∃ ad, sp = some ad ∧ ∀ j v, cs[j]? = some v → w.cell? (ad.add j) = some v) (hfit : off + cs.length ≤ T) (h1 : ∀ v ∈ cs, v.oneCell' = true)
    (h : ∀ w', Own w' base E (some ⟨g, 0, none⟩) T T (splice xs off cs) → Below g w w' → K (a.put o.dst (goInt cs.length)) w') : if Region.wanted o (yielded ops a.tmps) = true then Oper.wp P o a w K Q else X := by
  obtain ⟨i, hi, hz, hsz, hby⟩ := info_parts et.info
  refine step_copy_splice hg d s S S ho E et.und (by rw [hi]; simp [hsz]) dp sp dLen dCap sLen sCap hd hs g off xs E hown.heap_ cs hn hpos (by rw [hown.len]; exact hfit) h1 g w (Below.refl _ _) (Nat.le_refl _) ?_
  intro w' hh hb
  exact h w' (hown.of_heap hh.out (by rw [length_splice _ _ _ (by rw [hown.len]; exact hfit), hown.len])) hb
end

set_option maxRecDepth 100000 in
set_option maxHeartbeats 3200000 in
theorem repeat_any (ao : Option Addr) (n c count : Nat) (zs : List Int) (w : World) (h : Ints w ao n zs) (hn : n ≤ 1048576) (hc : count ≤ 1048576) (hnc : n * count ≤ 1048576) (hpos : 0 < n * count) :
    Calls Tryz.prog 72 #[.slice ao n c, .int .i64 count] w fun e w' => ∃ ao' c', e = .returned (.slice ao' (n * count) c') ∧ Own w' w.heap.size 2 ao' (n * count) c' ((repL zs count).map (Value.int .i64)) ∧ Below w.heap.size w w' := by
  have HL := Lib.hid h.1
  have hn0 : 0 < n := Nat.pos_of_mul_pos_right hpos
  have hc0 : 0 < count := Nat.pos_of_mul_pos_left hpos
  have hle : n ≤ n * count := Nat.le_mul_of_pos_right _ hc0
  obtain ⟨T, hT⟩ : ∃ T, n * count = T := ⟨_, rfl⟩
  rw [hT] at hpos hle ⊢
  have HT := Lib.hid hT
  have hT2 : T ≤ 1048576 := by omega
  clear hT hnc
  have hRl : ((repL zs count)).length = T := by rw [length_repL, HL.out, HT.out]
  have HR := Lib.hid hRl
  clear hRl
  obtain ⟨b, off, rfl, hb0, hcells⟩ := h.all_ hn0
  obtain ⟨cs, hcs⟩ : ∃ cs : List Value, cs = ((repL zs count).take n).map (Value.int .i64) := ⟨_, rfl⟩
  have hcl : cs.length = n := by rw [hcs]; simp [HR.out]; omega
  have hc1 : ∀ v ∈ cs, v.oneCell' = true := by rw [hcs]; exact ints_oneCell _ _
  have hcsv : ∀ j v, cs[j]? = some v → w.cell? ⟨b, off + j, none⟩ = some v := by
    intro j v hv
    have hj : j < n := by have := (List.getElem?_eq_some_iff.1 hv).1; omega
    have hrn : (repL zs count).take n = zs := by
      have e : repL zs count = zs ++ repL zs (count - 1) := by
        have : count = 1 + (count - 1) := by omega
        conv => lhs; rw [this]
        rw [repL_add, repL_one]
      rw [e, ← HL.out, List.take_left']; rfl
    rw [hcs, hrn, List.getElem?_map, List.getElem?_eq_getElem (by rw [HL.out]; exact hj)] at hv
    rw [hcells j hj, ← hv, iget_lt (by rw [HL.out]; exact hj)]; rfl
  have HCS := Lib.hid hcs
  have HCL := Lib.hid hcl
  have HC1 := Lib.hid hc1
  have HCV := Lib.hid hcsv
  have x1 := wrap_u64_nat n (by omega)
  have x2 := wrap_u64_nat count (by omega)
  clear hcs hcl hc1 hcsv hcells
  go_enter Tryz.func72, Tryz.ntmps72
  go_wp2_with (first | (go_at_call 85; refine (bitsMul_any n count _ hn hc (by rw [HT.out]; omega)).mono ?_; rintro e w' ⟨rfl, rfl⟩; rw [HT.out]) | (at_make; refine wpList_mk etI _ rfl _ _ rfl w.heap.size _ _ _ _ T rfl rfl rfl rfl (by omega) (Nat.le_refl _) ?_; intro w1 hown hgrow hsz; have hb1 : Below w.heap.size w w1 := (Below.refl _ _).grown hgrow (Nat.le_refl _) (by simp); clear hgrow) | (with_reducible refine wpList_cp (o := ⟨some 33, _, _, _, _, _⟩) etI _ rfl (.tmp 31) (.tmp 32) rfl w.heap.size w.heap.size T 0 _ cs hown _ _ _ rfl _ _ _ rfl ?_ ?_ ?_ HC1.out ?_))
  · rw [HCL.out]; exact (Nat.min_eq_left hle).symm
  · exact fun _ j v hv => (hb1.cell (p := ⟨b, off + j, none⟩) hb0).trans (HCV.out j v hv)
  · rw [HCL.out]; omega
  intro w2 o2 b2
  have hb2 : Below w.heap.size w w2 := hb1.trans b2
  have e0 : splice (List.replicate T (Value.int .i64 0)) 0 cs = ((repL zs count).take n ++ List.replicate (T - n) 0).map (Value.int .i64) := by
    rw [HCS.out, ← List.map_replicate]
    have := splice_pad (R := repL zs count) (z := (0 : Int)) (k := 0) (c := n) HR.out (by omega) (by simp)
    simp only [List.take_zero, List.nil_append, Nat.zero_add, Nat.sub_zero] at this
    rw [← this]
    simp [splice]
  rw [e0] at o2
  rw [HCL.out]
  clear e0 hown hsz hb1 b2 HCV HC1 HCS HCL
  go_wp2
  go_loopw [8] (fun i wr => ∃ k j : Nat, i = .int .i64 k ∧ 0 < k ∧ k ≤ T ∧ (k = n * j ∧ j ≤ count ∨ k = T) ∧ Own wr w.heap.size 2 (some ⟨w.heap.size, 0, none⟩) T T (((repL zs count).take k ++ List.replicate (T - k) 0).map (Value.int .i64)) ∧ Below w.heap.size w wr) (fun i _ => T - (intOf i).toNat)
  case atStart => exact ⟨n, 1, by simp, hn0, hle, .inl ⟨by omega, by omega⟩, o2, hb2⟩
  case round =>
    obtain ⟨k, j, rfl, hk0, hkT, hkj, ho, hb⟩ := hrel
    clear o2 hb2
    have HK := Lib.hid hkj
    clear hkj
    by_cases hlt : k < T
    · obtain ⟨c2, hc2⟩ : ∃ c2, c2 = Nat.min k (T - k) := ⟨_, rfl⟩
      have hc2a : c2 ≤ k := by rw [hc2]; exact Nat.min_le_left _ _
      have hc2b : c2 ≤ T - k := by rw [hc2]; exact Nat.min_le_right _ _
      have hc2c : 0 < c2 := by rw [hc2]; exact Nat.lt_min.2 ⟨hk0, by omega⟩
      have hdb : (repL zs count).take (k + c2) = (repL zs count).take k ++ (repL zs count).take c2 := by
        rcases HK.out with ⟨e, hj⟩ | e
        · have hx : c2 ≤ zs.length * (count - j) := by rw [HL.out, Nat.mul_sub, HT.out, ← e]; exact hc2b
          have := repL_double (zs := zs) hj hx
          rwa [HL.out, ← e] at this
        · omega
      obtain ⟨cs, hcs⟩ : ∃ cs : List Value, cs = ((repL zs count).take c2).map (Value.int .i64) := ⟨_, rfl⟩
      have hcl : cs.length = c2 := by rw [hcs]; simp [HR.out]; omega
      have hc1 : ∀ v ∈ cs, v.oneCell' = true := by rw [hcs]; exact ints_oneCell _ _
      have hcsv : ∀ j v, cs[j]? = some v → wr.cell? ⟨w.heap.size, j, none⟩ = some v := by
        intro j v hv
        have hj : j < c2 := by have := (List.getElem?_eq_some_iff.1 hv).1; omega
        obtain ⟨g', eg, -, -, -, hcell, -⟩ := ho.form (by omega)
        injection eg with eg; injection eg with eg; subst eg
        rw [hcell j (by omega), ← hv, hcs, List.getElem?_map, List.getElem?_map, List.getElem?_append_left (by simp [HR.out]; omega), List.getElem?_take, List.getElem?_take, if_pos (by omega), if_pos (by omega)]
      have HD := Lib.hid hdb
      have HC := Lib.hid hcs
      have HCL := Lib.hid hcl
      have HC1 := Lib.hid hc1
      have HCV := Lib.hid hcsv
      have HC2 := Lib.hid hc2
      have hTk : ((T - k : Nat) : Int) = (T : Int) - k := by omega
      clear hdb hcs hcl hc1 hcsv hc2 hTk
      go_wp2_with fail
      have HB := Lib.hid hb
      have HS := Lib.hid (show ((k : Nat) : Int) + ((c2 : Nat) : Int) = ((k + c2 : Nat) : Int) by omega)
      have hw : IntKind.i64.wrap (((k + c2 : Nat) : Nat) : Int) = ((k + c2 : Nat) : Int) := by simp [IntKind.wrap, IntKind.signed, IntKind.bits]; omega
      have HW := Lib.hid hw
      clear hw
      go_region_held3 (fun w' => Below w.heap.size w w') (first | exact HB.out.drew | assumption) (first | (refine step_cp (o := ⟨some 45, _, _, _, _, _⟩) etI rfl (.tmp 41) (.tmp 44) rfl w.heap.size w.heap.size T k _ cs (ho.drewN 1) _ _ _ rfl _ _ _ rfl ?_ ?_ ?_ HC1.out ?_; (rw [HCL.out, HC2.out]); (intro _; exact ⟨if_neg (by omega), _, rfl, fun j v hv => by have hx := HCV.out j v hv; by_cases e : j = 0 <;> simp_all [Addr.add]⟩); (rw [HCL.out]; omega); intro w3 o3 b3; have b4 : Below w.heap.size w w3 := HB.out.drew.trans b3))
      rw [HCL.out, HS.out, HW.out]
      have o4 : Own w3 w.heap.size 2 (some ⟨w.heap.size, 0, none⟩) T T (((repL zs count).take (k + c2) ++ List.replicate (T - (k + c2)) 0).map (Value.int .i64)) := by
        have e := splice_pad (R := repL zs count) (z := (0 : Int)) (k := k) (c := c2) HR.out (by omega) HD.out
        rw [← e]
        rw [HC.out] at o3
        rw [splice_map]
        exact o3
      go_roundw
      case rel =>
        refine ⟨_, _, _, _, _, _, _, _, _, _, _, _, _, _, ⟨k + c2, 2 * j, rfl, by omega, by omega, ?_, o4, b4⟩, rfl⟩
        rcases HK.out with ⟨e, hj⟩ | e
        · by_cases hx : k ≤ T - k
          · have hc2k : c2 = k := by rw [HC2.out]; exact Nat.min_eq_left hx
            left
            have e2 : n * (2 * j) = k + k := by rw [e, Nat.mul_left_comm]; omega
            refine ⟨by omega, ?_⟩
            have : n * (2 * j) ≤ n * count := by rw [HT.out]; omega
            exact Nat.le_of_mul_le_mul_left this hn0
          · have hc2k : c2 = T - k := by rw [HC2.out]; exact Nat.min_eq_right (by omega)
            right; omega
        · omega
      case measure => simp [intOf]; omega
    · obtain rfl : k = T := by omega
      rw [Nat.sub_self, List.replicate_zero, List.append_nil, List.take_of_length_le (Nat.le_of_eq HR.out)] at ho
      go_wp2
      go_ret
      exact ⟨_, _, rfl, ho, hb⟩
end Go.Proofs.YtmdhljleaijkbaaGreatDoor

/- within and its twin in the reference; slices.IndexFunc and slices.ContainsFunc at []int64, over any predicate that only reads or makes memory. -/
namespace Go.Proofs.YtmdhljleaijkbaaGreatDoor
open Go.RowKit

/-- n lies between lo and hi -/
def inB (n lo hi : Int) : Bool := decide (lo ≤ n) && decide (n ≤ hi)
theorem inB_true {n lo hi : Int} : inB n lo hi = true ↔ lo ≤ n ∧ n ≤ hi := by simp [inB]
theorem within_any (n lo hi : Int) (w : World) : Calls Tryz.prog 41 #[.int .i64 n, .int .i64 lo, .int .i64 hi] w fun e w' => e = .returned (.bool (inB n lo hi)) ∧ w' = w := by
  by_cases h : lo ≤ n
  · have h1 : decide (lo ≤ n) = true := by simpa using h
    go_enter Tryz.func41, Tryz.ntmps41
    go_wp2
    go_ret
    exact ⟨ret_bool (by simp [inB, h]), rfl⟩
  · have h1 : decide (lo ≤ n) = false := by simpa using h
    have h2 : inB n lo hi = false := by simp [inB, h1]
    have H2 := Lib.hid h2
    clear h2
    go_enter Tryz.func41, Tryz.ntmps41
    go_wp2
    go_ret
    exact ⟨ret_bool H2.out.symm, rfl⟩

theorem specIn_any (n lo hi : Int) (w : World) : Calls Tryz.prog 77 #[.int .i64 n, .int .i64 lo, .int .i64 hi] w fun e w' => e = .returned (.bool (inB n lo hi)) ∧ w' = w := by
  by_cases h : lo ≤ n
  · have h1 : decide (lo ≤ n) = true := by simpa using h
    go_enter Tryz.func77, Tryz.ntmps77
    go_wp2
    go_ret
    exact ⟨ret_bool (by simp [inB, h]), rfl⟩
  · have h1 : decide (lo ≤ n) = false := by simpa using h
    have h2 : inB n lo hi = false := by simp [inB, h1]
    have H2 := Lib.hid h2
    clear h2
    go_enter Tryz.func77, Tryz.ntmps77
    go_wp2
    go_ret
    exact ⟨ret_bool H2.out.symm, rfl⟩

/-- the first index at which p holds, or -1 -/
def findI (p : Int → Bool) (zs : List Int) : Int := match zs.findIdx? p with | some i => i | none => -1
theorem findI_none {p : Int → Bool} {zs : List Int} (h : zs.any p = false) : findI p zs = -1 := by
  have : zs.findIdx? p = none := by rw [List.findIdx?_eq_none_iff]; intro x hx; have := (List.any_eq_false.1 h) x hx; simpa using this
  simp [findI, this]
theorem findI_some {p : Int → Bool} {zs : List Int} {k : Nat} (hk : k < zs.length) (hn : (zs.take k).any p = false) (hp : p (iget zs k) = true) : findI p zs = k := by
  have : zs.findIdx? p = some k := by
    rw [List.findIdx?_eq_some_iff_getElem]
    refine ⟨hk, by rw [← iget_lt hk]; exact hp, fun j hj => ?_⟩
    have hx : zs[j]'(by omega) ∈ zs.take k := by rw [List.mem_take_iff_getElem]; exact ⟨j, by omega, rfl⟩
    have := (List.any_eq_false.1 hn) _ hx
    simpa using this
  simp [findI, this]
theorem findI_any (p : Int → Bool) (zs : List Int) : decide (0 ≤ findI p zs) = zs.any p := by
  cases h : zs.any p with
  | false => rw [findI_none h]; rfl
  | true =>
    rw [decide_eq_true_iff]
    unfold findI
    cases h2 : zs.findIdx? p with
    | some i => exact Int.natCast_nonneg i
    | none =>
      rw [List.findIdx?_eq_none_iff] at h2
      obtain ⟨x, hx, hp⟩ := List.any_eq_true.1 h
      have := h2 x hx
      simp [hp] at this

set_option maxHeartbeats 400000 in
theorem indexFunc_any (fn : Nat) (cap : Array Value) (p : Int → Bool) (ao : Option Addr) (n c : Nat) (zs : List Int) (w : World) (h : Ints w ao n zs)
    (hcf : ∀ (args : Array Value) (w : World), (callFunc fn args).run Tryz.prog w = .ok (.enter fn args) w)
    (hf : ∀ j, j < n → ∀ w', Below w.heap.size w w' → Calls Tryz.prog fn (#[.int .i64 (iget zs j)] ++ cap) w' fun e w'' => e = .returned (.bool (p (iget zs j))) ∧ Below w'.heap.size w' w'') :
    Calls Tryz.prog 98 #[.slice ao n c, .func (.func fn) #[] cap] w fun e w' => e = .returned (.int .i64 (findI p zs)) ∧ Below w.heap.size w w' := by
  have hn := h.2.1
  have HF := Lib.hid hf
  clear hf
  go_enter Tryz.func98, Tryz.ntmps98
  go_wp2
  go_loopw [8] (fun i wr => ∃ k : Nat, k ≤ n ∧ i = .int .i64 k ∧ (zs.take k).any p = false ∧ Below w.heap.size w wr) (fun i _ => n - (intOf i).toNat)
  case atStart => exact ⟨0, Nat.zero_le _, rfl, by simp, Below.refl _ _⟩
  case round =>
    obtain ⟨k, hk, rfl, hpre, hb⟩ := hrel
    have HP := Lib.hid hpre
    clear hpre
    by_cases hlt : k < n
    · obtain ⟨b, off, rfl, hc⟩ := (h.below hb).at_ hlt
      have HH := Lib.hid h
      clear h
      cases hp : p (iget zs k) with
      | true =>
        have HX := Lib.hid hp
        clear hp
        go_wp2_with fail
        refine (HF.out k hlt _ hb).mono ?_
        rintro e w1 ⟨rfl, hb1⟩
        rw [HX.out]
        go_wp2
        go_ret
        exact ⟨ret_int (findI_some (by rw [HH.out.1]; exact hlt) HP.out HX.out).symm, hb.trans (hb1.mono hb.size)⟩
      | false =>
        have HX := Lib.hid hp
        clear hp
        go_wp2_with fail
        refine (HF.out k hlt _ hb).mono ?_
        rintro e w1 ⟨rfl, hb1⟩
        rw [HX.out]
        go_wp2
        go_roundw
        case rel => exact ⟨k + 1, by omega, by go_num, by rw [any_take_iget (by rw [HH.out.1]; exact hlt), HP.out, HX.out]; rfl, hb.trans (hb1.mono hb.size)⟩
        case measure => simp [intOf]; omega
    · obtain rfl : k = n := by omega
      have hl := h.1
      have HL := Lib.hid hl
      clear hl
      go_wp2
      go_ret
      exact ⟨ret_int (findI_none (by have := HP.out; rwa [List.take_of_length_le (Nat.le_of_eq HL.out)] at this)).symm, hb⟩

theorem containsFunc_any (fn : Nat) (cap : Array Value) (p : Int → Bool) (ao : Option Addr) (n c : Nat) (zs : List Int) (w : World) (h : Ints w ao n zs)
    (hcf : ∀ (args : Array Value) (w : World), (callFunc fn args).run Tryz.prog w = .ok (.enter fn args) w)
    (hf : ∀ j, j < n → ∀ w', Below w.heap.size w w' → Calls Tryz.prog fn (#[.int .i64 (iget zs j)] ++ cap) w' fun e w'' => e = .returned (.bool (p (iget zs j))) ∧ Below w'.heap.size w' w'') :
    Calls Tryz.prog 80 #[.slice ao n c, .func (.func fn) #[] cap] w fun e w' => e = .returned (.bool (zs.any p)) ∧ Below w.heap.size w w' := by
  have HF := Lib.hid hf
  clear hf
  go_enter Tryz.func80, Tryz.ntmps80
  go_wp2_with fail
  refine (indexFunc_any fn cap p ao n c zs w h hcf HF.out).mono ?_
  rintro e w1 ⟨rfl, hb1⟩
  go_wp2
  go_ret
  exact ⟨ret_bool (findI_any p zs), hb1⟩
end Go.Proofs.YtmdhljleaijkbaaGreatDoor

/- IsDiagram, the program's and the reference's. -/
namespace Go.Proofs.YtmdhljleaijkbaaGreatDoor
open Go.RowKit

end Go.Proofs.YtmdhljleaijkbaaGreatDoor

/- The presentation of a diagram: what both call. -/
namespace Go.Proofs.YtmdhljleaijkbaaGreatDoor
open Go.RowKit

end Go.Proofs.YtmdhljleaijkbaaGreatDoor

/- The presentation of a diagram: the data, and how one relator more is laid. -/
namespace Go.Proofs.YtmdhljleaijkbaaGreatDoor
open Go.RowKit

/-- one element more, at the end of a row of the call's own, in a region that draws its order -/
theorem step_ap1 {P : Program} {S E : TypeId} {z : Value} {bytes : Nat} (et : ET P S E z bytes) {ops : Array Oper} {o : Oper} {a : Act} {Q : Exit → Act → World → Prop} {w : World} {K : Act → World → Prop} {X : Prop} (hg : o.guard = none) (s x : Operand) (ho : o.op = .call { callee := .builtin .append, args := #[s, x], argTypes := #[S, S] })
    (base : Nat) (ao : Option Addr) (n c : Nat) (xs : List Value) (hs : a.eval s = .slice ao n c) (hown : Own w base E ao n c xs) (u : Value) (xb xc : Nat)
    (hx : a.eval x = .slice (some ⟨xb, 0, none⟩) 1 xc) (hc : w.cell? ⟨xb, 0, none⟩ = some u) (hu : u.oneCell' = true) (hn : n + 1 ≤ 4398046511104) (hbase : base ≤ w.heap.size)
    (h : ∀ ao' c' w', Own w' base E ao' (n + 1) c' (xs ++ [u]) → w.grownBy w' (bk ao) → (bk ao' = bk ao ∨ bk ao' = some w.heap.size) → K (a.put o.dst (.slice ao' (n + 1) c')) w') : if Region.wanted o (yielded ops a.tmps) = true then Oper.wp P o a w K Q else X := by
  obtain ⟨i, hi, hz, hsz, hby⟩ := info_parts et.info
  have hw : Region.wanted o (yielded ops a.tmps) = true := by simp [Region.wanted, hg]
  rw [if_pos hw]
  obtain ⟨v', w', hr, h2, h3, h4, h5⟩ := run_append_own_at (P := P) w base S o.type E i z 1 bytes et.und hi hz hsz hby (by rw [et.one]; rfl) (by omega) (.slice ao n c) n xs hown.1 ⟨xb, 0, none⟩ 1 xc [u] rfl
    (by
      intro j u' hu'
      match j, hu' with
      | 0, hu' => simp at hu'; subst hu'; rw [Addr.add_lit]; exact hc)
    (by intro v hv; simp at hv; subst hv; exact hu) (by simp [maxLen]; omega) (by have := et.small; have : (n + 1) * bytes ≤ (n + 1) * 32 := Nat.mul_le_mul_left _ this; omega) hbase
  unfold Oper.wp execOp
  simp only [ho, resolve, invoke, builtin, Sem.run_bind, Sem.run_pure, Result.andThen_ok, List.map_toArray, List.map_cons, List.map_nil, hs, hx, hr]
  obtain ⟨g, cap, rfl, hb, hlt⟩ := h2.form (by omega)
  rw [ownBlock_slice] at h3
  refine h _ _ _ ⟨h2, hn⟩ h3 ?_
  rw [ownBlock_slice, ownBlock_slice] at h5
  exact h5

end Go.Proofs.YtmdhljleaijkbaaGreatDoor

/- The laws' helpers on []int64 in the words of Nest. -/
namespace Go.Proofs.YtmdhljleaijkbaaGreatDoor
open Go.RowKit

end Go.Proofs.YtmdhljleaijkbaaGreatDoor

/- The laws' helpers on [][]int64. -/
namespace Go.Proofs.YtmdhljleaijkbaaGreatDoor
open Go.RowKit

theorem etSS : ET Tryz.prog 24 38 (.slice none 0 0) 24 := ⟨Tryz.underlying24, by kernel_rfl, rfl, by omega⟩

end Go.Proofs.YtmdhljleaijkbaaGreatDoor

/- WithRelators, the reference's parts: l01Own, l01Own2, l11Code. -/
namespace Go.Proofs.YtmdhljleaijkbaaGreatDoor
open Go.RowKit

set_option maxRecDepth 100000 in
set_option maxHeartbeats 400000 in
theorem own_any (ao : Option Addr) (n c : Nat) (zs : List Int) (w : World) (h : Ints w ao n zs) (hn : n ≤ 1048576) :
    Calls Tryz.prog 79 #[.slice ao n c] w fun e w' => ∃ ao' c', e = .returned (.slice ao' n c') ∧ Own w' w.heap.size 2 ao' n c' (zs.map (Value.int .i64)) ∧ Below w.heap.size w w' := by
  have h2 : Ints (w.alloc (.cells #[] 2)) ao n zs := h.below (below_alloc1 _ _)
  have H2 := Lib.hid h2
  clear h2
  go_enter Tryz.func79, Tryz.ntmps79
  go_wp2_with (at_builtin; refine wpList_apN etI _ rfl _ _ rfl w.heap.size _ 0 0 [] rfl (Own.empty_ w _ (Nat.le_refl _)) ao n c zs rfl H2.out (by omega) (by simp) ?_; intro ao2 c2 w2 ho2 hg2 hblk)
  go_ret
  refine ⟨_, _, rfl, by simpa using ho2, (below_alloc1 w _).grown hg2 (by simp) (fun g hg => ?_)⟩
  simp [bk] at hg; omega

/-- a list of the call's own, just made, is laid at the end of a row of lists -/
theorem rows_push2 {T1 E lo : Nat} {wr w2 w3 w4 : World} {ao ao' ao2 : Option Addr} {m c n' c' c2 : Nat} {us : List Value} {ds : List (List Int)} {zs : List Int}
    (hR : OwR (OwS T1) wr lo wr.heap.size E ao m c us ds) (hlo : lo ≤ wr.heap.size) (hb : Below wr.heap.size wr w2) (hu : Own w2 wr.heap.size T1 ao' n' c' (zs.map (Value.int .i64))) (hb3 : Below w2.heap.size w2 w3)
    (hown : Own w4 lo E ao2 (m + 1) c2 (us ++ [.slice ao' n' c'])) (hg : w3.grownBy w4 (bk ao)) (hat : bk ao2 = bk ao ∨ ∃ g, bk ao2 = some g ∧ w2.heap.size ≤ g) :
    OwR (OwS T1) w4 lo w4.heap.size E ao2 (m + 1) c2 (us ++ [.slice ao' n' c']) (ds ++ [zs]) := by
  have hR3 : OwR (OwS T1) w3 lo wr.heap.size E ao m c us ds := hR.below (innerS _) (hb.trans (hb3.mono hb.size))
  have s1 := hb.size
  have s2 := hb3.size
  have s3 := hg.size
  have hub : ∀ g, bk ao' = some g → wr.heap.size ≤ g ∧ g < w2.heap.size := hu.lt
  have hne : ∀ g, bk ao' = some g → bk ao ≠ some g := fun g h1 h2 => by have := hub g h1; have := hR.top g h2; omega
  have hu4 : OwS T1 w4 (.slice ao' n' c') zs := (innerS T1).loc (w := w2) ⟨ao', n', c', rfl, hu.mono (Nat.zero_le _)⟩ fun g h => by
    rw [ownBlock_slice] at h
    have := hub g h
    rw [hg.block g (by omega) (fun e => hne g h e.symm)]
    exact hb3.block g this.2
  refine hR3.push (innerS _) hown hg hu4 (in_slice fun g h => ⟨by have := hub g h; omega, by have := hub g h; omega⟩) (fun g h => (hown.lt g h).2) (by omega) ?_ ?_
  · intro g h
    rcases hat with h1 | ⟨g1, h1, h5⟩
    · exact .inl (h1 ▸ h)
    · refine .inr fun j u hj e => ?_
      rw [h1] at h; obtain rfl := Option.some.inj h
      have := (hR3.rng j u hj _ e).2
      omega
  · intro g h
    rw [ownBlock_slice] at h
    have hh := hub g h
    refine ⟨fun e => ?_, fun j v hj e => ?_⟩
    · rcases hat with h1 | ⟨g1, h1, h5⟩
      · exact hne g h (h1 ▸ e)
      · rw [h1] at e; have := Option.some.inj e; omega
    · have := (hR3.rng j v hj _ e).2; omega
set_option maxRecDepth 100000 in
set_option maxHeartbeats 800000 in
theorem own2_any (ao : Option Addr) (n c : Nat) (zss : List (List Int)) (w : World) (h : Intss w ao n zss) (hn : zss.length + lenSS zss ≤ 1048576) :
    Calls Tryz.prog 56 #[.slice ao n c] w fun e w' => ∃ v, e = .returned v ∧ OwSS 2 38 w' w.heap.size w'.heap.size v zss ∧ Below w.heap.size w w' := by
  have HL := Lib.hid h.1
  have hn1 : n ≤ 1048576 := by have := HL.out; omega
  go_enter Tryz.func56, Tryz.ntmps56
  go_wp2
  go_loopw [4, 3] (fun i v wr => ∃ (k : Nat) (ao' : Option Addr) (c' : Nat) (us : List Value), k ≤ n ∧ i = .int .i64 k ∧ v = .slice ao' k c' ∧ OwR (OwS 2) wr w.heap.size wr.heap.size 38 ao' k c' us (zss.take k) ∧ Below w.heap.size w wr) (fun i _ _ => n - (intOf i).toNat)
  case atStart => exact ⟨0, _, _, [], Nat.zero_le _, rfl, rfl, OwR.empty_ (Own.empty_ w _ (Nat.le_refl _)) (by intro g hg; simp [bk] at hg; simp; omega), below_alloc1 _ _⟩
  case round =>
    obtain ⟨k, ao', c', us, hk, rfl, rfl, ho, hb⟩ := hrel
    by_cases hlt : k < n
    · obtain ⟨b, off, a1, n1, c1, rfl, hc, h1⟩ := (h.below hb).at_ hlt
      have hkl : k < zss.length := by rw [HL.out]; exact hlt
      have hsz : n1 ≤ 1048576 := by have := len_le_lenSS hkl; have := h1.1; omega
      have hbs := hb.size
      have HT := Lib.hid (take_lget hkl)
      clear hkl
      go_wp2_with fail
      refine (own_any a1 n1 c1 (lget zss k) _ h1 hsz).mono ?_
      rintro e w2 ⟨a2, c2, rfl, o2, b2⟩
      have ho2 := ho.own.below b2
      have hs2 := b2.size
      go_wp2_with (at_builtin; refine wpList_ap1 etSS _ rfl _ _ rfl w.heap.size ao' k c' us rfl ho2 (.slice a2 n1 c2) rfl rfl (by omega) (by omega) ?_; intro ao3 c3 w3 o3 g3 hat)
      have hR := rows_push2 ho hbs b2 o2 (Below.refl _ _) o3 g3 (hat.imp id fun e => ⟨_, e, by omega⟩)
      have hB := (below_tr b2 hb).grown g3 (by omega) (fun g hg => (ho.own.lt g hg).1)
      clear ho ho2 o2 b2 o3 g3 hat h1 hb
      go_wp2
      go_roundw
      case rel => exact ⟨k + 1, ao3, c3, _, by omega, by go_num, rfl, by rw [HT.out]; exact hR, hB⟩
      case measure => simp [intOf]; omega
    · obtain rfl : k = n := by omega
      rw [List.take_of_length_le (Nat.le_of_eq HL.out)] at ho
      go_wp2_with fail
      go_ret
      exact ⟨_, rfl, ⟨_, _, _, us, rfl, ho⟩, hb⟩
end Go.Proofs.YtmdhljleaijkbaaGreatDoor

/- A memory of names: the state of a walk as named chunks of memory (vectors of plain values, flat cells, rows of rows), with the world behind it. No program in sight. -/
namespace Go.Proofs.YtmdhljleaijkbaaGreatDoor
open Go.RowKit

abbrev Nm := Nat
/-- a value of one cell, as the walk knows it: a plain value; a slice or a pointer into chunk x; a slice or a pointer into row i of chunk x -/
inductive A1 where
  | val (v : Value)
  | any
  | sl (x : Nm) (off n : Nat)
  | ptr (x : Nm) (off : Nat)
  | esl (x : Nm) (i off n : Nat)
  | eptr (x : Nm) (i off : Nat)
  | clo (f : Fn) (xs : List (Nm × Nat))
inductive A2 where
  | one (a : A1)
  | agg (l : List A1)
inductive AV where
  | s (a : A2)
  | tup (l : List A2)
abbrev o1 (a : A1) : AV := .s (.one a)
abbrev vv (v : Value) : AV := .s (.one (.val v))

structure Hd where
  ao : Option Addr
  c : Nat
  k : Nat
structure Env where
  h : Nm → Option Hd
  r : Nm → Nat → Hd

def slAt (h : Hd) (off n : Nat) (u : Value) : Prop :=
  ∃ ao, u = .slice ao n (h.c - off) ∧ (off = 0 → ao = h.ao) ∧ (0 < off → off < h.c → ao = h.ao.map fun p => ⟨p.block, p.off + off * h.k, none⟩)
def ptAt (h : Hd) (off : Nat) (u : Value) : Prop := ∃ b o, h.ao = some ⟨b, o, none⟩ ∧ u = .pointer (some ⟨b, o + off, none⟩)

def Den1 (η : Env) : A1 → Value → Prop
  | .val v, u => u = v
  | .any, u => u.oneCell' = true
  | .sl x off n, u => (∃ ao c, u = .slice ao n c) ∧ ∀ h, η.h x = some h → slAt h off n u
  | .ptr x off, u => (∃ p, u = .pointer p) ∧ ∀ h, η.h x = some h → ptAt h off u
  | .esl x i off n, u => (∃ ao c, u = .slice ao n c) ∧ ∀ h, η.h x = some h → slAt (η.r x i) off n u
  | .eptr x i off, u => (∃ p, u = .pointer p) ∧ ∀ h, η.h x = some h → ptAt (η.r x i) off u
  | .clo f xs, u => ∃ us : Array Value, u = .func f #[] us ∧ us.size = xs.length ∧ ∀ (j : Nat) (p : Nm × Nat), xs[j]? = some p → ∃ q, us[j]? = some q ∧ (∃ p', q = .pointer p') ∧ ∀ h, η.h p.1 = some h → ptAt h p.2 q
def Den2 (η : Env) : A2 → Value → Prop
  | .one a, u => Den1 η a u
  | .agg l, u => ∃ us : Array Value, u = .agg us ∧ us.size = l.length ∧ ∀ (j : Nat) (a : A1), l[j]? = some a → ∃ u', us[j]? = some u' ∧ Den1 η a u'
def Den (η : Env) : AV → Value → Prop
  | .s a, u => Den2 η a u
  | .tup l, u => ∃ us : Array Value, u = .tuple us ∧ us.size = l.length ∧ ∀ (j : Nat) (a : A2), l[j]? = some a → ∃ u', us[j]? = some u' ∧ Den2 η a u'

def A1.has (x : Nm) : A1 → Bool
  | .sl y _ _ | .ptr y _ | .esl y _ _ _ | .eptr y _ _ => Nat.beq x y
  | .clo _ xs => xs.any fun p => Nat.beq x p.1
  | .val _ | .any => false
def A2.has (x : Nm) : A2 → Bool
  | .one a => a.has x
  | .agg l => l.any (A1.has x)
def AV.has (x : Nm) : AV → Bool
  | .s a => a.has x
  | .tup l => l.any (A2.has x)
def A1.forget (x : Nm) (a : A1) : A1 := bif a.has x then .any else a

/-- a cell of a mixed vector: a plain value; a row of m elements of k cells each; something -/
inductive Cel where
  | v (x : Value)
  | r (F : TypeId) (k m : Nat) (vs : List Value)
  | any
inductive Dat where
  | flat (l : List A1)
  | vals (vs : List Value)
  | rows (E : TypeId) (vss : List (List Value)) (holes : List Nat)
  | mix (cs : List Cel)
structure Ch where
  own : Bool
  E : TypeId
  k : Nat
  d : Dat
def Dat.len : Dat → Nat
  | .flat l => l.length
  | .vals vs => vs.length
  | .rows _ vss _ => vss.length
  | .mix cs => cs.length
def Dat.forget (x : Nm) : Dat → Dat
  | .flat l => .flat (l.map (A1.forget x))
  | d => d
def Ch.forget (x : Nm) (c : Ch) : Ch := { c with d := c.d.forget x }

/-- the owner of a block: a chunk, or a row of a chunk -/
abbrev Own? := Nat → Option (Nm × Option Nat)

def VecO (ω : Own?) (w : World) (ow : Nm × Option Nat) (h : Hd) (E : TypeId) (len : Nat) (cell : Nat → Value → Prop) : Prop :=
  (h.ao = none ∧ h.c = 0 ∧ len = 0) ∨
  ∃ b o cs, h.ao = some ⟨b, o, none⟩ ∧ ω b = some ow ∧ w.heap[b]? = some (.cells cs E (0, 0)) ∧ (o = 0 ∧ cs.size = h.c * h.k) ∧ len ≤ h.c * h.k ∧ h.c ≤ maxLen ∧
    ∀ j, j < len → ∃ u, cs[o + j]? = some u ∧ cell j u
def VecR (ω : Own?) (w : World) (h : Hd) (len : Nat) (cell : Nat → Value → Prop) : Prop :=
  len ≤ h.c * h.k ∧ ∀ j, j < len → ∃ b o u, h.ao = some ⟨b, o, none⟩ ∧ ω b = none ∧ b < w.heap.size ∧ w.cell? ⟨b, o + j, none⟩ = some u ∧ cell j u
def Vec (own : Bool) (ω : Own?) (w : World) (ow : Nm × Option Nat) (h : Hd) (E : TypeId) (len : Nat) (cell : Nat → Value → Prop) : Prop :=
  match own with
  | true => VecO ω w ow h E len cell
  | false => VecR ω w h len cell

def celOK (η : Env) (ω : Own?) (w : World) (own : Bool) (x : Nm) (j : Nat) : Cel → Value → Prop
  | .v y, u => u = y
  | .any, _ => True
  | .r F k m vs, u => vs.length = m * k ∧ u = .slice (η.r x j).ao m (η.r x j).c ∧ (η.r x j).k = k ∧ Vec own ω w (x, some j) (η.r x j) F vs.length fun i u => vs[i]? = some u
theorem celOK.move {η η' : Env} {ω ω' : Own?} {w w' : World} {own own' : Bool} {x x' : Nm} {j : Nat} {c : Cel} {u : Value} (hr : η'.r x' j = η.r x j)
    (hv : ∀ F k m vs, c = .r F k m vs → Vec own ω w (x, some j) (η.r x j) F vs.length (fun i u => vs[i]? = some u) → Vec own' ω' w' (x', some j) (η.r x j) F vs.length (fun i u => vs[i]? = some u)) (h : celOK η ω w own x j c u) : celOK η' ω' w' own' x' j c u := by
  cases c with
  | v y => exact h
  | any => trivial
  | r F k m vs =>
    obtain ⟨h0, h1, h2, h3⟩ := h
    unfold celOK
    rw [hr]
    exact ⟨h0, h1, h2, hv F k m vs rfl h3⟩
def cellsOK (η : Env) (ω : Own?) (w : World) (own : Bool) (x : Nm) : Dat → Nat → Value → Prop
  | .flat l, j, u => ∀ a, l[j]? = some a → Den1 η a u
  | .vals vs, j, u => vs[j]? = some u
  | .rows E vss holes, j, u => u.oneCell' = true ∧ (j ∉ holes → ∀ vs, vss[j]? = some vs → u = .slice (η.r x j).ao vs.length (η.r x j).c ∧ (η.r x j).k = 1 ∧ Vec own ω w (x, some j) (η.r x j) E vs.length fun i u => vs[i]? = some u)
  | .mix cs, j, u => u.oneCell' = true ∧ ∀ c, cs[j]? = some c → celOK η ω w own x j c u

def ChIs (η : Env) (ω : Own?) (w : World) (x : Nm) (h : Hd) (c : Ch) : Prop := h.k = c.k ∧ Vec c.own ω w (x, none) h c.E c.d.len (cellsOK η ω w c.own x c.d)

def Mem (η : Env) (ω : Own?) (w : World) (ch : Nm → Option Ch) : Prop :=
  (∀ x c, ch x = some c → ∃ h, η.h x = some h ∧ ChIs η ω w x h c) ∧ (∀ x, ch x = none → η.h x = none)

/-- what was not owned has not turned -/
structure Fr (ω : Own?) (w : World) (ω' : Own?) (w' : World) : Prop where
  os : w'.os = w.os
  tape : w'.tape = w.tape
  output : w'.output = w.output
  size : w.heap.size ≤ w'.heap.size
  block : ∀ b, b < w.heap.size → ω b = none → w'.heap[b]? = w.heap[b]? ∧ ω' b = none
theorem Fr.refl (ω : Own?) (w : World) : Fr ω w ω w := ⟨rfl, rfl, rfl, Nat.le_refl _, fun _ _ h => ⟨rfl, h⟩⟩
theorem Fr.trans {ω ω' ω'' : Own?} {w w' w'' : World} (h : Fr ω w ω' w') (k : Fr ω' w' ω'' w'') : Fr ω w ω'' w'' :=
  ⟨k.os.trans h.os, k.tape.trans h.tape, k.output.trans h.output, Nat.le_trans h.size k.size, fun b hb hn =>
    have h1 := h.block b hb hn
    have h2 := k.block b (Nat.lt_of_lt_of_le hb h.size) h1.2
    ⟨h2.1.trans h1.1, h2.2⟩⟩

structure St where
  sl : Nat → Option AV
  ch : Nm → Option Ch
  /-- values that stand in no slot (the arguments), as they are known now -/
  ph : Nat → Option AV
/-- what is fixed at the call's begin: the owners, and values to remember -/
structure Beg where
  own : Own?
  ph : List Value
def St.put (S : St) (t : Nat) (av : AV) : St := { S with sl := fun t' => bif Nat.beq t' t then some av else S.sl t' }
def St.putO (S : St) (t : Option Nat) (av : AV) : St := match t with | some t => S.put t av | none => S
def St.new (S : St) (x : Nm) (c : Ch) : St :=
  { sl := fun t => (S.sl t).bind fun av => bif av.has x then none else some av
    ph := fun t => (S.ph t).bind fun av => bif av.has x then none else some av
    ch := fun y => bif Nat.beq y x then some c else (S.ch y).map (Ch.forget x) }
def St.set (S : St) (x : Nm) (c : Ch) : St := { S with ch := fun y => bif Nat.beq y x then some c else S.ch y }
def St.rm (S : St) (x : Nm) : St := { S with ch := fun y => bif Nat.beq y x then none else S.ch y }

/-- the state S holds in the frame a and the world w; w0, ω0: the world and the owners at the call's begin; nt: the number of slots -/
structure SatE (w0 : World) (ω0 : Beg) (nt : Nat) (S : St) (η : Env) (ω : Own?) (a : Act) (w : World) : Prop where
  dfr : a.defers = []
  tsz : a.tmps.size = nt
  slots : ∀ t av, S.sl t = some av → ∃ u, a.tmps[t]? = some u ∧ Den η av u
  phs : ∀ t av, S.ph t = some av → ∃ u, ω0.ph[t]? = some u ∧ Den η av u
  mem : Mem η ω w S.ch
  fr : Fr ω0.own w0 ω w
def Sat (w0 : World) (ω0 : Beg) (nt : Nat) (S : St) (a : Act) (w : World) : Prop := ∃ η ω, SatE w0 ω0 nt S η ω a w

section
variable {w0 w : World} {ω0 : Beg} {ω : Own?} {nt : Nat} {S : St} {η : Env} {a : Act}

theorem beq_true {x y : Nat} (h : Nat.beq x y = true) : x = y := Nat.eq_of_beq_eq_true h
theorem beq_ne {x y : Nat} (h : x ≠ y) : Nat.beq x y = false := by
  cases hb : Nat.beq x y with
  | true => exact absurd (beq_true hb) h
  | false => rfl
theorem sl_put (S : St) (t t' : Nat) (av : AV) : (S.put t av).sl t' = if t' = t then some av else S.sl t' := by
  unfold St.put
  by_cases h : t' = t
  · subst h; simp
  · simp only [beq_ne h, if_neg h, cond_false]
theorem ch_set (S : St) (x y : Nm) (c : Ch) : (S.set x c).ch y = if y = x then some c else S.ch y := by
  unfold St.set
  by_cases h : y = x
  · subst h; simp
  · simp only [beq_ne h, if_neg h, cond_false]
theorem ch_rm (S : St) (x y : Nm) : (S.rm x).ch y = if y = x then none else S.ch y := by
  unfold St.rm
  by_cases h : y = x
  · subst h; simp
  · simp only [beq_ne h, if_neg h, cond_false]
theorem ch_new (S : St) (x y : Nm) (c : Ch) : (S.new x c).ch y = if y = x then some c else (S.ch y).map (Ch.forget x) := by
  unfold St.new
  by_cases h : y = x
  · subst h; simp
  · simp only [beq_ne h, if_neg h, cond_false]
theorem sl_new {S : St} {x : Nm} {c : Ch} {t : Nat} {av : AV} (h : (S.new x c).sl t = some av) : S.sl t = some av ∧ av.has x = false := by
  unfold St.new at h
  simp only at h
  cases hs : S.sl t with
  | none => rw [hs] at h; cases h
  | some b =>
    rw [hs] at h
    simp only [Option.bind_some] at h
    cases hb : b.has x with
    | true => rw [hb] at h; cases h
    | false => rw [hb] at h; simp at h; subst h; exact ⟨rfl, hb⟩

theorem ph_new {S : St} {x : Nm} {c : Ch} {t : Nat} {av : AV} (h : (S.new x c).ph t = some av) : S.ph t = some av ∧ av.has x = false := by
  unfold St.new at h
  simp only at h
  cases hs : S.ph t with
  | none => rw [hs] at h; cases h
  | some b =>
    rw [hs] at h
    simp only [Option.bind_some] at h
    cases hb : b.has x with
    | true => rw [hb] at h; cases h
    | false => rw [hb] at h; simp at h; subst h; exact ⟨rfl, hb⟩
theorem SatE.putV (h : SatE w0 ω0 nt S η ω a w) {t : Nat} {av : AV} {u : Value} (ht : t < nt) (hd : Den η av u) : SatE w0 ω0 nt (S.put t av) η ω (a.put (some t) u) w :=
  { dfr := h.dfr
    tsz := by simp only [Act.put, Array.size_setIfInBounds]; exact h.tsz
    mem := h.mem, fr := h.fr, phs := h.phs
    slots := fun t' av' ht' => by
      rw [sl_put] at ht'
      simp only [Act.put, Array.getElem?_setIfInBounds, h.tsz]
      by_cases e : t' = t
      · subst e
        rw [if_pos rfl] at ht'
        obtain rfl := Option.some.inj ht'
        exact ⟨u, by simp [ht], hd⟩
      · rw [if_neg e] at ht'
        obtain ⟨u', h1, h2⟩ := h.slots t' av' ht'
        exact ⟨u', by rw [if_neg fun e' => e e'.symm]; exact h1, h2⟩ }

theorem Vec.get {own : Bool} {ow : Nm × Option Nat} {h : Hd} {E : TypeId} {len : Nat} {cell : Nat → Value → Prop} (hv : Vec own ω w ow h E len cell) {j : Nat} (hj : j < len) :
    ∃ b o u, h.ao = some ⟨b, o, none⟩ ∧ w.cell? ⟨b, o + j, none⟩ = some u ∧ cell j u := by
  cases own with
  | true =>
    rcases hv with ⟨_, _, h0⟩ | ⟨b, o, cs, h1, _, h2, _, _, _, h3⟩
    · omega
    · obtain ⟨u, hu, hc⟩ := h3 j hj
      exact ⟨b, o, u, h1, by rw [cell_of_row w b (o + j) cs E (0, 0) h2]; exact hu, hc⟩
  | false =>
    obtain ⟨b, o, u, h1, _, _, h2, h3⟩ := hv.2 j hj
    exact ⟨b, o, u, h1, h2, h3⟩
theorem Vec.cap {own : Bool} {ow : Nm × Option Nat} {h : Hd} {E : TypeId} {len : Nat} {cell : Nat → Value → Prop} (hv : Vec own ω w ow h E len cell) : len ≤ h.c * h.k := by
  cases own with
  | true => rcases hv with ⟨_, _, h0⟩ | ⟨b, o, cs, h1, _, h2, _, h3, _⟩ <;> omega
  | false => exact hv.1
end
end Go.Proofs.YtmdhljleaijkbaaGreatDoor

/- A memory of names: how it goes on when names are laid, dropped, and written. No program in sight. -/
namespace Go.Proofs.YtmdhljleaijkbaaGreatDoor
open Go.RowKit

def A1.mono (η η' : Env) (a : A1) : Prop := ∀ x, a.has x = true → η'.h x = none ∨ (η'.h x = η.h x ∧ ∀ i, η'.r x i = η.r x i)
theorem beq_r (x : Nat) : Nat.beq x x = true := by simp
theorem Den1.mono {η η' : Env} {a : A1} {u : Value} (hm : a.mono η η') (h : Den1 η a u) : Den1 η' a u := by
  cases a with
  | val v => exact h
  | any => exact h
  | sl x off n => exact ⟨h.1, fun hd he => (hm x (beq_r x)).elim (fun e => by rw [e] at he; cases he) (fun e => h.2 hd (e.1 ▸ he))⟩
  | ptr x off => exact ⟨h.1, fun hd he => (hm x (beq_r x)).elim (fun e => by rw [e] at he; cases he) (fun e => h.2 hd (e.1 ▸ he))⟩
  | esl x i off n => exact ⟨h.1, fun hd he => (hm x (beq_r x)).elim (fun e => by rw [e] at he; cases he) (fun e => by rw [e.2 i]; exact h.2 hd (e.1 ▸ he))⟩
  | eptr x i off => exact ⟨h.1, fun hd he => (hm x (beq_r x)).elim (fun e => by rw [e] at he; cases he) (fun e => by rw [e.2 i]; exact h.2 hd (e.1 ▸ he))⟩
  | clo f xs =>
    obtain ⟨us, h1, h2, h3⟩ := h
    refine ⟨us, h1, h2, fun j p hp => ?_⟩
    obtain ⟨q, hq, hq1, hq2⟩ := h3 j p hp
    refine ⟨q, hq, hq1, fun hd he => ?_⟩
    have hx : (A1.clo f xs).has p.1 = true := by simp only [A1.has, List.any_eq_true]; exact ⟨p, List.mem_of_getElem? hp, beq_r _⟩
    exact (hm p.1 hx).elim (fun e => by rw [e] at he; cases he) (fun e => hq2 hd (e.1 ▸ he))
theorem Den1.one {η : Env} {a : A1} {u : Value} (h : Den1 η a u) (hv : ∀ v, a = .val v → v.oneCell' = true) : u.oneCell' = true := by
  cases a with
  | val v => have h : u = v := h; subst h; exact hv _ rfl
  | any => exact h
  | sl x off n => obtain ⟨⟨ao, c, rfl⟩, _⟩ := h; rfl
  | ptr x off => obtain ⟨⟨ao, rfl⟩, _⟩ := h; rfl
  | esl x i off n => obtain ⟨⟨ao, c, rfl⟩, _⟩ := h; rfl
  | eptr x i off => obtain ⟨⟨ao, rfl⟩, _⟩ := h; rfl
  | clo f xs => obtain ⟨us, rfl, _⟩ := h; rfl
theorem has_not_val {a : A1} {x : Nm} (h : a.has x = true) : ∀ v, a = .val v → v.oneCell' = true := by rintro v rfl; cases h
theorem Den1.forget {η η' : Env} {a : A1} {u : Value} {x : Nm} (hm : ∀ y, y ≠ x → η'.h y = none ∨ (η'.h y = η.h y ∧ ∀ i, η'.r y i = η.r y i)) (h : Den1 η a u) : Den1 η' (a.forget x) u := by
  unfold A1.forget
  cases hx : a.has x with
  | true => exact h.one (has_not_val hx)
  | false => exact Den1.mono (a := a) (fun y hy => hm y fun e => by rw [e, hx] at hy; cases hy) h
def A2.mono (η η' : Env) (a : A2) : Prop := ∀ x, a.has x = true → η'.h x = none ∨ (η'.h x = η.h x ∧ ∀ i, η'.r x i = η.r x i)
theorem Den2.mono {η η' : Env} {a : A2} {u : Value} (hm : a.mono η η') (h : Den2 η a u) : Den2 η' a u := by
  cases a with
  | one a => exact Den1.mono hm h
  | agg l =>
    obtain ⟨us, h1, h2, h3⟩ := h
    refine ⟨us, h1, h2, fun j a ha => ?_⟩
    obtain ⟨u', h4, h5⟩ := h3 j a ha
    exact ⟨u', h4, h5.mono fun x hx => hm x (by simp only [A2.has, List.any_eq_true]; exact ⟨a, List.mem_of_getElem? ha, hx⟩)⟩
def AV.mono (η η' : Env) (a : AV) : Prop := ∀ x, a.has x = true → η'.h x = none ∨ (η'.h x = η.h x ∧ ∀ i, η'.r x i = η.r x i)
theorem Den.mono {η η' : Env} {a : AV} {u : Value} (hm : a.mono η η') (h : Den η a u) : Den η' a u := by
  cases a with
  | s a => exact Den2.mono hm h
  | tup l =>
    obtain ⟨us, h1, h2, h3⟩ := h
    refine ⟨us, h1, h2, fun j a ha => ?_⟩
    obtain ⟨u', h4, h5⟩ := h3 j a ha
    exact ⟨u', h4, h5.mono fun x hx => hm x (by simp only [AV.has, List.any_eq_true]; exact ⟨a, List.mem_of_getElem? ha, hx⟩)⟩

section
variable {w0 w w' : World} {ω0 : Beg} {ω ω' : Own?} {nt : Nat} {S : St} {η η' : Env} {a : Act}

/-- the blocks that answer to p have not turned -/
def Same (ω : Own?) (w : World) (ω' : Own?) (w' : World) (p : Option (Nm × Option Nat) → Prop) : Prop :=
  w.heap.size ≤ w'.heap.size ∧ ∀ b, b < w.heap.size → p (ω b) → w'.heap[b]? = w.heap[b]? ∧ ω' b = ω b

theorem lt_of_heap {b : Nat} {o : Obj} (h : w.heap[b]? = some o) : b < w.heap.size := by
  rcases Nat.lt_or_ge b w.heap.size with hlt | hge
  · exact hlt
  · rw [Array.getElem?_eq_none hge] at h; cases h

theorem Vec.same {own : Bool} {ow : Nm × Option Nat} {h : Hd} {E : TypeId} {len : Nat} {cell cell' : Nat → Value → Prop} {p : Option (Nm × Option Nat) → Prop} (hs : Same ω w ω' w' p) (hp : p none) (hp' : p (some ow))
    (hc : ∀ j u, cell j u → cell' j u) (hv : Vec own ω w ow h E len cell) : Vec own ω' w' ow h E len cell' := by
  cases own with
  | true =>
    rcases hv with h0 | ⟨b, o, cs, h1, h2, h3, h4, h5, h6, h7⟩
    · exact .inl h0
    · have hb := hs.2 b (lt_of_heap h3) (by rw [h2]; exact hp')
      refine .inr ⟨b, o, cs, h1, hb.2.trans h2, hb.1.trans h3, h4, h5, h6, fun j hj => ?_⟩
      obtain ⟨u, hu, hcu⟩ := h7 j hj
      exact ⟨u, hu, hc j u hcu⟩
  | false =>
    refine ⟨hv.1, fun j hj => ?_⟩
    obtain ⟨b, o, u, h1, h2, h3, h4, h5⟩ := hv.2 j hj
    have hb := hs.2 b h3 (by rw [h2]; exact hp)
    exact ⟨b, o, u, h1, hb.2.trans h2, Nat.lt_of_lt_of_le h3 hs.1, (World.cell?_of_block hb.1).trans h4, hc j u h5⟩

theorem ChIs.same {x : Nm} {h : Hd} {c : Ch} {p : Option (Nm × Option Nat) → Prop} (hs : Same ω w ω' w' p) (hp : p none) (hp' : ∀ i, p (some (x, i))) (hr : ∀ i, η'.r x i = η.r x i)
    (hm : ∀ l, c.d = .flat l → ∀ a ∈ l, a.mono η η') (hc : ChIs η ω w x h c) : ChIs η' ω' w' x h c := by
  refine ⟨hc.1, hc.2.same hs hp (hp' none) fun j u hu => ?_⟩
  cases hd : c.d with
  | flat l => rw [hd] at hu; exact fun a ha => (hu a ha).mono (hm l hd a (List.mem_of_getElem? ha))
  | vals vs => rw [hd] at hu; exact hu
  | rows E vss holes =>
    rw [hd] at hu
    refine ⟨hu.1, fun hj vs hvs => ?_⟩
    obtain ⟨h1, h2, h3⟩ := hu.2 hj vs hvs
    rw [hr j]
    exact ⟨h1, h2, h3.same hs hp (hp' (some j)) fun _ _ h => h⟩
  | mix cs => rw [hd] at hu; exact ⟨hu.1, fun c hc => (hu.2 c hc).move (hr j) fun _ _ _ _ _ h3 => h3.same hs hp (hp' (some j)) fun _ _ h => h⟩

theorem ChIs.forget {x y : Nm} {h : Hd} {c : Ch} {p : Option (Nm × Option Nat) → Prop} (hs : Same ω w ω' w' p) (hp : p none) (hp' : ∀ i, p (some (x, i))) (hr : ∀ i, η'.r x i = η.r x i)
    (hm : ∀ z, z ≠ y → η'.h z = none ∨ (η'.h z = η.h z ∧ ∀ i, η'.r z i = η.r z i)) (hc : ChIs η ω w x h c) : ChIs η' ω' w' x h (c.forget y) := by
  refine ⟨hc.1, ?_⟩
  have hl : (c.forget y).d.len = c.d.len := by unfold Ch.forget Dat.forget; cases c.d <;> simp [Dat.len]
  rw [hl]
  refine hc.2.same hs hp (hp' none) fun j u hu => ?_
  unfold Ch.forget Dat.forget
  cases hd : c.d with
  | flat l =>
    rw [hd] at hu
    intro a ha
    simp only [List.getElem?_map, Option.map_eq_some_iff] at ha
    obtain ⟨b, hb, rfl⟩ := ha
    exact (hu b hb).forget hm
  | vals vs => rw [hd] at hu; exact hu
  | rows E vss holes =>
    rw [hd] at hu
    refine ⟨hu.1, fun hj vs hvs => ?_⟩
    obtain ⟨h1, h2, h3⟩ := hu.2 hj vs hvs
    rw [hr j]
    exact ⟨h1, h2, h3.same hs hp (hp' (some j)) fun _ _ h => h⟩
  | mix cs => rw [hd] at hu; exact ⟨hu.1, fun c hc => (hu.2 c hc).move (hr j) fun _ _ _ _ _ h3 => h3.same hs hp (hp' (some j)) fun _ _ h => h⟩

/-- the owners that are alive, and nobody -/
def live (S : St) (o : Option (Nm × Option Nat)) : Prop := o = none ∨ ∃ y i c, o = some (y, i) ∧ S.ch y = some c
structure Calm (S : St) (ω : Own?) (w : World) (ω' : Own?) (w' : World) : Prop where
  os : w'.os = w.os
  tape : w'.tape = w.tape
  output : w'.output = w.output
  same : Same ω w ω' w' (live S)
theorem Calm.fr {ω0 : Own?} (h : Calm S ω w ω' w') (hf : Fr ω0 w0 ω w) : Fr ω0 w0 ω' w' :=
  ⟨h.os.trans hf.os, h.tape.trans hf.tape, h.output.trans hf.output, Nat.le_trans hf.size h.same.1, fun b hb hn => by
    have h1 := hf.block b hb hn
    have h2 := h.same.2 b (Nat.lt_of_lt_of_le hb hf.size) (.inl h1.2)
    exact ⟨h2.1.trans h1.1, h2.2.trans h1.2⟩⟩

/-- the environment with a new name -/
def Env.new (η : Env) (x : Nm) (hd : Hd) (r : Nat → Hd) : Env := { h := fun y => if y = x then some hd else η.h y, r := fun y i => if y = x then r i else η.r y i }
theorem Env.new_ne (η : Env) {x : Nm} (hd : Hd) (r : Nat → Hd) (y : Nm) (h : y ≠ x) : (η.new x hd r).h y = none ∨ ((η.new x hd r).h y = η.h y ∧ ∀ i, (η.new x hd r).r y i = η.r y i) :=
  .inr ⟨by simp [Env.new, h], fun i => by simp [Env.new, h]⟩

/-- a chunk is laid under a name that is free -/
theorem SatE.lay (h : SatE w0 ω0 nt S η ω a w) {x : Nm} {c : Ch} {hd : Hd} {r : Nat → Hd} (hk : Calm S ω w ω' w') (hc : ChIs (η.new x hd r) ω' w' x hd c) : SatE w0 ω0 nt (S.new x c) (η.new x hd r) ω' a w' :=
  { dfr := h.dfr, tsz := h.tsz, fr := hk.fr h.fr
    slots := fun t av ht => by
      obtain ⟨h1, h2⟩ := sl_new ht
      obtain ⟨u, h3, h4⟩ := h.slots t av h1
      exact ⟨u, h3, h4.mono fun y hy => Env.new_ne η hd r y fun e => by rw [e, h2] at hy; cases hy⟩
    phs := fun t av ht => by
      obtain ⟨h1, h2⟩ := ph_new ht
      obtain ⟨u, h3, h4⟩ := h.phs t av h1
      exact ⟨u, h3, h4.mono fun y hy => Env.new_ne η hd r y fun e => by rw [e, h2] at hy; cases hy⟩
    mem := ⟨fun y d hy => by
      rw [ch_new] at hy
      by_cases e : y = x
      · subst e
        rw [if_pos rfl] at hy
        obtain rfl := Option.some.inj hy
        exact ⟨hd, by simp [Env.new], hc⟩
      · rw [if_neg e, Option.map_eq_some_iff] at hy
        obtain ⟨d', hy', rfl⟩ := hy
        obtain ⟨h', e1, e2⟩ := h.mem.1 y d' hy'
        exact ⟨h', by simp [Env.new, e, e1], e2.forget hk.same (.inl rfl) (fun i => .inr ⟨y, i, d', rfl, hy'⟩) (fun i => by simp [Env.new, e]) fun z hz => Env.new_ne η hd r z hz⟩,
     fun y hy => by
      rw [ch_new] at hy
      by_cases e : y = x
      · rw [if_pos e] at hy; cases hy
      · rw [if_neg e, Option.map_eq_none_iff] at hy
        simp [Env.new, e, h.mem.2 y hy]⟩ }

/-- a name is dropped -/
def Env.drop (η : Env) (x : Nm) : Env := { η with h := fun y => if y = x then none else η.h y }
theorem Env.drop_any (η : Env) (x y : Nm) : (η.drop x).h y = none ∨ ((η.drop x).h y = η.h y ∧ ∀ i, (η.drop x).r y i = η.r y i) := by
  by_cases e : y = x
  · exact .inl (by simp [Env.drop, e])
  · exact .inr ⟨by simp [Env.drop, e], fun _ => rfl⟩
theorem Same.refl (ω : Own?) (w : World) (p : Option (Nm × Option Nat) → Prop) : Same ω w ω w p := ⟨Nat.le_refl _, fun _ _ _ => ⟨rfl, rfl⟩⟩
theorem Calm.refl (S : St) (ω : Own?) (w : World) : Calm S ω w ω w := ⟨rfl, rfl, rfl, Same.refl _ _ _⟩
theorem SatE.drop (h : SatE w0 ω0 nt S η ω a w) (x : Nm) : SatE w0 ω0 nt (S.rm x) (η.drop x) ω a w :=
  { dfr := h.dfr, tsz := h.tsz, fr := h.fr
    slots := fun t av ht => by
      obtain ⟨u, h3, h4⟩ := h.slots t av ht
      exact ⟨u, h3, h4.mono fun y _ => Env.drop_any η x y⟩
    phs := fun t av ht => by
      obtain ⟨u, h3, h4⟩ := h.phs t av ht
      exact ⟨u, h3, h4.mono fun y _ => Env.drop_any η x y⟩
    mem := ⟨fun y d hy => by
      rw [ch_rm] at hy
      by_cases e : y = x
      · rw [if_pos e] at hy; cases hy
      · rw [if_neg e] at hy
        obtain ⟨h', e1, e2⟩ := h.mem.1 y d hy
        exact ⟨h', by simp [Env.drop, e, e1], ChIs.same (η := η) (p := fun _ => True) (Same.refl _ _ _) trivial (fun _ => trivial) (fun _ => rfl) (fun l _ a _ z _ => Env.drop_any η x z) e2⟩,
     fun y hy => by
      rw [ch_rm] at hy
      by_cases e : y = x
      · simp [Env.drop, e]
      · rw [if_neg e] at hy
        simp [Env.drop, e, h.mem.2 y hy]⟩ }

/-- a chunk of the call's own is written in its place: its handle stays -/
theorem SatE.write (h : SatE w0 ω0 nt S η ω a w) {x : Nm} {c' : Ch} {hd : Hd} (he : η.h x = some hd) (hk : Calm (S.rm x) ω w ω' w') (hc : ChIs η ω' w' x hd c') :
    SatE w0 ω0 nt (S.set x c') η ω' a w' :=
  { dfr := h.dfr, tsz := h.tsz, fr := hk.fr h.fr, slots := h.slots, phs := h.phs
    mem := ⟨fun y d hy => by
      rw [ch_set] at hy
      by_cases e : y = x
      · subst e
        rw [if_pos rfl] at hy
        obtain rfl := Option.some.inj hy
        exact ⟨hd, he, hc⟩
      · rw [if_neg e] at hy
        obtain ⟨h', e1, e2⟩ := h.mem.1 y d hy
        exact ⟨h', e1, e2.same hk.same (.inl rfl) (fun i => .inr ⟨y, i, d, rfl, by rw [ch_rm, if_neg e]; exact hy⟩) (fun _ => rfl) fun l _ a _ z _ => .inr ⟨rfl, fun _ => rfl⟩⟩,
     fun y hy => by
      rw [ch_set] at hy
      by_cases e : y = x
      · rw [if_pos e] at hy; cases hy
      · rw [if_neg e] at hy; exact h.mem.2 y hy⟩ }
end
end Go.Proofs.YtmdhljleaijkbaaGreatDoor

/- A memory of names: the operations that make no memory, and the loads. No program in sight. -/
namespace Go.Proofs.YtmdhljleaijkbaaGreatDoor
open Go.RowKit

def cv : Value → AV
  | .agg cs => .s (.agg (cs.toList.map .val))
  | v => vv v
def St.op (S : St) : Operand → Option AV
  | .tmp t => S.sl t
  | .const v => some (cv v)
  | .func f => some (o1 (.clo (.func f) []))
  | .global _ => none

theorem den_cv (η : Env) (v : Value) : Den η (cv v) v := by
  cases v <;> try exact rfl
  rename_i cs
  refine ⟨cs, rfl, by simp, fun j a ha => ?_⟩
  simp only [List.getElem?_map, Option.map_eq_some_iff] at ha
  obtain ⟨u, hu, rfl⟩ := ha
  exact ⟨u, by simpa using hu, rfl⟩

structure Stp (P : Program) (nt : Nat) (o : Oper) (S S' : St) : Prop where
  go : ∀ (w0 : World) (ω0 : Beg) (a : Act) (w : World) (Q : Exit → Act → World → Prop), Sat w0 ω0 nt S a w → o.wp P a w (Sat w0 ω0 nt S') Q

section
variable {P : Program} {nt : Nat} {S S' : St} {w0 w : World} {ω0 : Beg} {ω : Own?} {η : Env} {a : Act}

theorem SatE.opv (h : SatE w0 ω0 nt S η ω a w) {x : Operand} {av : AV} (hx : S.op x = some av) : Den η av (a.eval x) := by
  cases x with
  | tmp t =>
    obtain ⟨u, h1, h2⟩ := h.slots t av hx
    have : a.eval (.tmp t) = u := by simp [Act.eval, h1]
    rw [this]; exact h2
  | const v => obtain rfl := Option.some.inj hx; exact den_cv η v
  | func f => obtain rfl := Option.some.inj hx; exact ⟨#[], rfl, rfl, fun j p hp => by simp at hp⟩
  | global g => cases hx
theorem SatE.opV (h : SatE w0 ω0 nt S η ω a w) {x : Operand} {v : Value} (hx : S.op x = some (vv v)) : a.eval x = v := h.opv hx

theorem Stp.of (o : Oper) (h : ∀ w0 ω0 η ω a w, SatE w0 ω0 nt S η ω a w → ∃ v w', (execOp a.eval o).run P w = .ok (.value v) w' ∧ Sat w0 ω0 nt S' (a.put o.dst v) w') : Stp P nt o S S' := by
  refine ⟨fun w0 ω0 a w Q ⟨η, ω, hs⟩ => ?_⟩
  obtain ⟨v, w', h1, h2⟩ := h w0 ω0 η ω a w hs
  unfold Oper.wp
  rw [h1]
  exact h2
theorem Stp.pure {o : Oper} {t : Nat} {av : AV} (hd : o.dst = some t) (ht : Nat.blt t nt = true) (h : ∀ w0 ω0 η ω a w, SatE w0 ω0 nt S η ω a w → ∃ v, (execOp a.eval o).run P w = .ok (.value v) w ∧ Den η av v) : Stp P nt o S (S.put t av) := by
  refine Stp.of o fun w0 ω0 η ω a w hs => ?_
  obtain ⟨v, h1, h2⟩ := h w0 ω0 η ω a w hs
  exact ⟨v, w, h1, η, ω, by rw [hd]; exact hs.putV (by simpa using ht) h2⟩

variable {t : Nat} {ty : TypeId} {ps : String} {af : Array Edge} {gd : Option (Nat × Bool)} {x y : Operand} {av : AV}

theorem stp_move (ht : Nat.blt t nt = true) (hx : S.op x = some av) : Stp P nt ⟨some t, .move x, ty, ps, af, gd⟩ S (S.put t av) :=
  Stp.pure rfl ht fun _ _ η _ a _ hs => ⟨a.eval x, by simp [execOp], hs.opv hx⟩
theorem stp_assign (ht : Nat.blt t nt = true) (hx : S.op x = some av) : Stp P nt ⟨some t, .assign x, ty, ps, af, gd⟩ S (S.put t av) :=
  Stp.pure rfl ht fun _ _ η _ a _ hs => ⟨a.eval x, by simp [execOp], hs.opv hx⟩

/-- the integer operations -/
def binI (k : IntKind) : BinOp → Int → Int → Option Value
  | .add, m, n => some (.int k (k.wrap (m + n)))
  | .sub, m, n => some (.int k (k.wrap (m - n)))
  | .mul, m, n => some (.int k (k.wrap (m * n)))
  | .eql, m, n => some (.bool (m == n))
  | .neq, m, n => some (.bool (m != n))
  | .lss, m, n => some (.bool (decide (m < n)))
  | .leq, m, n => some (.bool (decide (m ≤ n)))
  | .gtr, m, n => some (.bool (decide (m > n)))
  | .geq, m, n => some (.bool (decide (m ≥ n)))
  | _, _, _ => none
theorem stp_bin {op : BinOp} {xt yt : TypeId} {k : IntKind} {m n : Int} {r : Value} (ht : Nat.blt t nt = true) (hx : S.op x = some (vv (.int k m))) (hy : S.op y = some (vv (.int k n))) (hr : binI k op m n = some r) :
    Stp P nt ⟨some t, .binOp op xt x y yt, ty, ps, af, gd⟩ S (S.put t (vv r)) :=
  Stp.pure rfl ht fun _ _ η _ a w hs => by
    refine ⟨r, ?_, rfl⟩
    simp only [execOp, hs.opV hx, hs.opV hy]
    cases op <;> simp only [binI, Option.some.injEq, reduceCtorEq] at hr <;> subst hr <;> simp [eqGuard, binOp, Op.intArith, Op.intCmp]
theorem stp_add {xt yt : TypeId} {k : IntKind} {m n r : Int} (ht : Nat.blt t nt = true) (hx : S.op x = some (vv (.int k m))) (hy : S.op y = some (vv (.int k n))) (hr : k.wrap (m + n) = r) :
    Stp P nt ⟨some t, .binOp .add xt x y yt, ty, ps, af, gd⟩ S (S.put t (vv (.int k r))) := hr ▸ stp_bin ht hx hy rfl
theorem stp_sub {xt yt : TypeId} {k : IntKind} {m n r : Int} (ht : Nat.blt t nt = true) (hx : S.op x = some (vv (.int k m))) (hy : S.op y = some (vv (.int k n))) (hr : k.wrap (m - n) = r) :
    Stp P nt ⟨some t, .binOp .sub xt x y yt, ty, ps, af, gd⟩ S (S.put t (vv (.int k r))) := hr ▸ stp_bin ht hx hy rfl
theorem stp_not {xt : TypeId} {b : Bool} (ht : Nat.blt t nt = true) (hx : S.op x = some (vv (.bool b))) : Stp P nt ⟨some t, .unOp .not xt x, ty, ps, af, gd⟩ S (S.put t (vv (.bool !b))) :=
  Stp.pure rfl ht fun _ _ η _ a w hs => ⟨.bool !b, by simp [execOp, hs.opV hx, Op.unary], rfl⟩
theorem stp_extract {l : List A2} {i : Nat} {a2 : A2} (ht : Nat.blt t nt = true) (hx : S.op x = some (.tup l)) (hi : l[i]? = some a2) : Stp P nt ⟨some t, .extract x i, ty, ps, af, gd⟩ S (S.put t (.s a2)) :=
  Stp.pure rfl ht fun _ _ η _ a w hs => by
    obtain ⟨us, h1, h2, h3⟩ := hs.opv hx
    obtain ⟨u, h4, h5⟩ := h3 i a2 hi
    exact ⟨u, by simp [execOp, h1, Instr.extract, h4], h5⟩

/-- a cell behind a name -/
theorem SatE.chunk (h : SatE w0 ω0 nt S η ω a w) {x : Nm} {c : Ch} (hx : S.ch x = some c) : ∃ hd, η.h x = some hd ∧ hd.k = c.k ∧ Vec c.own ω w (x, none) hd c.E c.d.len (cellsOK η ω w c.own x c.d) :=
  have ⟨hd, h1, h2, h3⟩ := h.mem.1 x c hx
  ⟨hd, h1, h2, h3⟩

theorem stp_nilCheck {n : Nm} {i : Nat} {c : Ch} (ht : Nat.blt t nt = true) (hx : S.op x = some (o1 (.ptr n i))) (hc : S.ch n = some c) : Stp P nt ⟨some t, .nilCheck x, ty, ps, af, gd⟩ S (S.put t (o1 (.ptr n i))) :=
  Stp.pure rfl ht fun _ _ η _ a w hs => by
    obtain ⟨hd, h1, _⟩ := hs.chunk hc
    have hd1 : Den1 η (.ptr n i) (a.eval x) := hs.opv hx
    obtain ⟨b, o, e1, e2⟩ := hd1.2 hd h1
    exact ⟨a.eval x, by simp [execOp, e2], hd1⟩

/-- the field f of the struct T begins at cell d, and has some cells -/
def fieldAtB (P : Program) (T : TypeId) (f d : Nat) : Bool :=
  match P.underlying T with
  | some (.struct fs) => match fs[f]? with
    | some fd => fd.offset == d && (match P.info? fd.type with | some i => i.size != 0 | none => false)
    | none => false
  | _ => false
theorem fieldAtB_run {T : TypeId} {f d : Nat} (h : fieldAtB P T f d = true) (b o : Nat) (w : World) : (Instr.fieldAt T (.pointer (some ⟨b, o, none⟩)) f).run P w = .ok (.pointer (some ⟨b, o + d, none⟩)) w := by
  unfold fieldAtB at h
  split at h
  · rename_i fs hfs
    split at h
    · rename_i fd hfd
      simp only [Bool.and_eq_true, beq_iff_eq] at h
      obtain ⟨h1, h2⟩ := h
      split at h2
      · rename_i i hi
        have h3 : i.size ≠ 0 := by simpa using h2
        subst h1
        simp [Instr.fieldAt, run_underlying hfs, hfd, Instr.sureAddr, fieldPlace, sizeOf, typeInfo, hi, h3, Addr.add_lit]
      · cases h2
    · cases h
  · cases h
theorem stp_fieldAddr {T : TypeId} {f d : Nat} {n : Nm} {i : Nat} {c : Ch} (ht : Nat.blt t nt = true) (hx : S.op x = some (o1 (.ptr n i))) (hc : S.ch n = some c) (hf : fieldAtB P T f d = true) :
    Stp P nt ⟨some t, .fieldAddr T x f, ty, ps, af, gd⟩ S (S.put t (o1 (.ptr n (i + d)))) :=
  Stp.pure rfl ht fun _ _ η _ a w hs => by
    obtain ⟨hd, h1, _⟩ := hs.chunk hc
    have hd1 : Den1 η (.ptr n i) (a.eval x) := hs.opv hx
    obtain ⟨b, o, e1, e2⟩ := hd1.2 hd h1
    refine ⟨.pointer (some ⟨b, o + i + d, none⟩), by simp [execOp, e2, fieldAtB_run hf], ⟨_, rfl⟩, fun hd' he => ?_⟩
    rw [h1] at he; obtain rfl := Option.some.inj he
    exact ⟨b, o, e1, by rw [Nat.add_assoc]⟩

/-- a type of one cell -/
def oneB (P : Program) (T : TypeId) : Bool :=
  match P.underlying T with
  | some (.struct _) | some (.array _ _) | none => false
  | _ => true
theorem oneB_agg {T : TypeId} (h : oneB P T = true) (w : World) : (isAgg T).run P w = .ok false w := by
  unfold oneB at h
  cases hu : P.underlying T with
  | none => rw [hu] at h; cases h
  | some d => rw [hu] at h; cases d <;> first | (cases h; done) | simp [isAgg, run_underlying hu]
theorem run_load1 {T : TypeId} (h : oneB P T = true) {p : Addr} {w : World} {u : Value} (hc : w.cell? p = some u) : (Instr.loadAt T (.pointer (some p))).run P w = .ok u w := by
  simp [Instr.loadAt, Instr.sureAddr, loadVar, oneB_agg h, hc]

/-- what lies in cell j of a chunk -/
def Dat.at_ (x : Nm) : Dat → Nat → Option A1
  | .flat l, j => l[j]?
  | .vals vs, j => vs[j]?.map .val
  | .rows _ vss holes, j => if holes.contains j then none else vss[j]?.map fun vs => .esl x j 0 vs.length
  | .mix cs, j => match cs[j]? with
    | some (.v y) => some (.val y)
    | some (.r _ _ m _) => some (.esl x j 0 m)
    | some .any => some .any
    | none => none
theorem den_at {x : Nm} {own : Bool} {d : Dat} {j : Nat} {u : Value} {b : A1} (hu : cellsOK η ω w own x d j u) (hb : d.at_ x j = some b) : Den1 η b u := by
  cases d with
  | flat l => exact hu b hb
  | vals vs =>
    have hu : vs[j]? = some u := hu
    have hb : vs[j]?.map A1.val = some b := hb
    rw [hu] at hb; simp at hb; subst hb; exact rfl
  | rows E vss holes =>
    have hb : (if holes.contains j then none else vss[j]?.map fun vs => A1.esl x j 0 vs.length) = some b := hb
    split at hb
    · cases hb
    · rename_i hh
      rw [Option.map_eq_some_iff] at hb
      obtain ⟨vs, hvs, rfl⟩ := hb
      obtain ⟨rfl, h2, _⟩ := hu.2 (by simpa using hh) vs hvs
      exact ⟨⟨_, _, rfl⟩, fun hd _ => ⟨_, rfl, fun _ => rfl, fun h => absurd h (by omega)⟩⟩
  | mix cs =>
    simp only [Dat.at_] at hb
    cases hc : cs[j]? with
    | none => rw [hc] at hb; cases hb
    | some c =>
      rw [hc] at hb
      have hk := hu.2 c hc
      cases c with
      | v y => obtain rfl := Option.some.inj hb; exact hk
      | any => obtain rfl := Option.some.inj hb; exact hu.1
      | r F k m vs =>
        obtain rfl := Option.some.inj hb
        obtain ⟨_, rfl, _, _⟩ := hk
        exact ⟨⟨_, _, rfl⟩, fun hd _ => ⟨_, rfl, fun _ => rfl, fun h => absurd h (by omega)⟩⟩
theorem Dat.at_lt {x : Nm} {d : Dat} {j : Nat} {b : A1} (h : d.at_ x j = some b) : j < d.len := by
  cases d with
  | flat l => exact (List.getElem?_eq_some_iff.1 h).1
  | vals vs =>
    have h : vs[j]?.map A1.val = some b := h
    rw [Option.map_eq_some_iff] at h
    obtain ⟨v, hv, _⟩ := h
    exact (List.getElem?_eq_some_iff.1 hv).1
  | rows E vss holes =>
    have h : (if holes.contains j then none else vss[j]?.map fun vs => A1.esl x j 0 vs.length) = some b := h
    split at h
    · cases h
    · rw [Option.map_eq_some_iff] at h
      obtain ⟨vs, hvs, rfl⟩ := h
      exact (List.getElem?_eq_some_iff.1 hvs).1
  | mix cs =>
    simp only [Dat.at_] at h
    cases hc : cs[j]? with
    | none => rw [hc] at h; cases h
    | some c => exact (List.getElem?_eq_some_iff.1 hc).1

theorem stp_load {T : TypeId} {n : Nm} {i : Nat} {c : Ch} {b : A1} (ht : Nat.blt t nt = true) (hT : oneB P T = true) (hx : S.op x = some (o1 (.ptr n i))) (hc : S.ch n = some c) (hb : c.d.at_ n i = some b) :
    Stp P nt ⟨some t, .load T x, ty, ps, af, gd⟩ S (S.put t (o1 b)) :=
  Stp.pure rfl ht fun _ _ η _ a w hs => by
    obtain ⟨hd, h1, _, h3⟩ := hs.chunk hc
    have hd1 : Den1 η (.ptr n i) (a.eval x) := hs.opv hx
    obtain ⟨bb, o, e1, e2⟩ := hd1.2 hd h1
    obtain ⟨b', o', u, f1, f2, f3⟩ := h3.get (Dat.at_lt hb)
    rw [e1] at f1; injection f1 with f1; injection f1 with f1 f1'; subst f1 f1'
    exact ⟨u, by simp [execOp, e2, run_load1 hT f2], den_at f3 hb⟩
/-- a cell of a row -/
theorem stp_loadE {T : TypeId} {n : Nm} {i j : Nat} {c : Ch} {E : TypeId} {vss : List (List Value)} {holes : List Nat} {vs : List Value} {v : Value} (ht : Nat.blt t nt = true) (hT : oneB P T = true) (hx : S.op x = some (o1 (.eptr n i j))) (hc : S.ch n = some c)
    (hd : c.d = .rows E vss holes) (hh : i ∉ holes) (hi : vss[i]? = some vs) (hj : vs[j]? = some v) : Stp P nt ⟨some t, .load T x, ty, ps, af, gd⟩ S (S.put t (vv v)) :=
  Stp.pure rfl ht fun _ _ η ω a w hs => by
    obtain ⟨hq, h1, _, h3⟩ := hs.chunk hc
    have hd1 : Den1 η (.eptr n i j) (a.eval x) := hs.opv hx
    obtain ⟨bb, o, e1, e2⟩ := hd1.2 hq h1
    rw [hd] at h3
    obtain ⟨b', o', u, f1, f2, f3⟩ := h3.get (j := i) (List.getElem?_eq_some_iff.1 hi).1
    obtain ⟨_, _, g3⟩ := f3.2 hh vs hi
    obtain ⟨b'', o'', u', k1, k2, k3⟩ := g3.get (j := j) (List.getElem?_eq_some_iff.1 hj).1
    rw [e1] at k1; injection k1 with k1; injection k1 with k1 k1'; subst k1 k1'
    rw [hj] at k3
    obtain rfl := Option.some.inj k3
    exact ⟨v, by simp [execOp, e2, run_load1 hT k2], rfl⟩

/-- the slice type T has elements of k cells -/
def elemB (P : Program) (T : TypeId) (k : Nat) : Bool :=
  match P.underlying T with
  | some (.slice e) => match P.info? e with
    | some i => i.size == k
    | none => false
  | _ => false
theorem elemB_spec {T : TypeId} {k : Nat} (h : elemB P T k = true) : ∃ e i, P.underlying T = some (.slice e) ∧ P.info? e = some i ∧ i.size = k := by
  unfold elemB at h
  split at h
  · rename_i e he
    split at h
    · rename_i i hi
      exact ⟨e, i, he, hi, by simpa using h⟩
    · cases h
  · cases h
theorem run_indexAddr {T : TypeId} {k : Nat} (h : elemB P T k = true) {b o n c j : Nat} (hj : j < n) {ki : IntKind} {i : Int} (hi : i = (j : Int)) (w : World) :
    (Instr.indexAt T (.slice (some ⟨b, o, none⟩) n c) (.int ki i)).run P w = .ok (.pointer (some ⟨b, o + j * k, none⟩)) w := by
  obtain ⟨e, inf, h1, h2, rfl⟩ := elemB_spec h
  subst hi
  have hj' : ((j : Int) < (n : Int)) := by omega
  have h0 : (0 : Int) ≤ (j : Int) := by omega
  simp [Instr.indexAt, asIntOf, run_underlying h1, hj, sizeOf, typeInfo, h2, Addr.add_lit]
theorem stp_indexAddr {T : TypeId} {n : Nm} {off len j k : Nat} {c : Ch} {ki : IntKind} {i : Int} (ht : Nat.blt t nt = true) (hx : S.op x = some (o1 (.sl n off len))) (hy : S.op y = some (vv (.int ki i))) (hc : S.ch n = some c) (hk : c.k = k) (hT : elemB P T k = true)
    (hi : i = (j : Int)) (hj : j < len) (hl : (off + len) * k ≤ c.d.len) (hk0 : 0 < k) : Stp P nt ⟨some t, .indexAddr T x y, ty, ps, af, gd⟩ S (S.put t (o1 (.ptr n ((off + j) * k)))) :=
  Stp.pure rfl ht fun _ _ η _ a w hs => by
    obtain ⟨hd, h1, h2, h3⟩ := hs.chunk hc
    have hd1 : Den1 η (.sl n off len) (a.eval x) := hs.opv hx
    obtain ⟨ao, e1, e2, e3⟩ := hd1.2 hd h1
    have hl0 : 0 < c.d.len := Nat.lt_of_lt_of_le (Nat.mul_pos (by omega) hk0) hl
    obtain ⟨b', o', u, f1, f2, f3⟩ := h3.get hl0
    have hao : ao = some ⟨b', o' + off * k, none⟩ := by
      rcases Nat.eq_zero_or_pos off with h0 | h0
      · rw [e2 h0, f1, h0]; simp
      · rw [e3 h0 ?_, f1]
        · simp [h2, hk]
        · have hcap := h3.cap
          rw [h2, hk] at hcap
          have h5 : (off + len) * k ≤ hd.c * k := Nat.le_trans hl hcap
          have := Nat.le_of_mul_le_mul_right h5 hk0
          omega
    subst hao
    refine ⟨.pointer (some ⟨b', o' + off * k + j * k, none⟩), by simp only [execOp, e1, hs.opV hy]; simp [run_indexAddr hT hj hi], ⟨_, rfl⟩, fun hd' he => ?_⟩
    rw [h1] at he; obtain rfl := Option.some.inj he
    exact ⟨b', o', f1, by rw [Nat.add_mul, Nat.add_assoc]⟩
end
end Go.Proofs.YtmdhljleaijkbaaGreatDoor

/- A memory of names: indices of rows and arrays, lengths, slices of slices, aggregates, closures. No program in sight. -/
namespace Go.Proofs.YtmdhljleaijkbaaGreatDoor
open Go.RowKit

section
variable {P : Program} {nt : Nat} {S S' : St} {w0 w : World} {ω0 : Beg} {ω : Own?} {η : Env} {a : Act}
variable {t : Nat} {ty : TypeId} {ps : String} {af : Array Edge} {gd : Option (Nat × Bool)} {x y : Operand} {av : AV}

theorem stp_indexAddrE {T : TypeId} {n : Nm} {i0 off len j : Nat} {c : Ch} {E : TypeId} {vss : List (List Value)} {holes : List Nat} {vs : List Value} {ki : IntKind} {i : Int} (ht : Nat.blt t nt = true) (hx : S.op x = some (o1 (.esl n i0 off len)))
    (hy : S.op y = some (vv (.int ki i))) (hc : S.ch n = some c) (hd : c.d = .rows E vss holes) (hT : elemB P T 1 = true) (hh : i0 ∉ holes) (hi0 : vss[i0]? = some vs) (hi : i = (j : Int)) (hj : j < len) (hl : off + len ≤ vs.length) :
    Stp P nt ⟨some t, .indexAddr T x y, ty, ps, af, gd⟩ S (S.put t (o1 (.eptr n i0 (off + j)))) :=
  Stp.pure rfl ht fun _ _ η _ a w hs => by
    obtain ⟨hq, h1, h2, h3⟩ := hs.chunk hc
    have hd1 : Den1 η (.esl n i0 off len) (a.eval x) := hs.opv hx
    obtain ⟨ao, e1, e2, e3⟩ := hd1.2 hq h1
    rw [hd] at h3
    obtain ⟨_, _, _, _, _, f3⟩ := h3.get (j := i0) (List.getElem?_eq_some_iff.1 hi0).1
    obtain ⟨_, g2, g3⟩ := f3.2 hh vs hi0
    obtain ⟨b', o', u', k1, k2, k3⟩ := g3.get (j := 0) (by omega)
    have hao : ao = some ⟨b', o' + off, none⟩ := by
      rcases Nat.eq_zero_or_pos off with h0 | h0
      · rw [e2 h0, k1, h0]; simp
      · rw [e3 h0 ?_, k1]
        · simp [g2]
        · have hcap := g3.cap
          rw [g2] at hcap
          omega
    subst hao
    refine ⟨.pointer (some ⟨b', o' + off + j * 1, none⟩), by simp only [execOp, e1, hs.opV hy]; simp [run_indexAddr hT hj hi], ⟨_, rfl⟩, fun hd' he => ?_⟩
    exact ⟨b', o', k1, by rw [Nat.mul_one, Nat.add_assoc]⟩

def sliceB (P : Program) (T : TypeId) : Bool :=
  match P.underlying T with
  | some (.slice _) => true
  | _ => false
theorem sliceB_spec {T : TypeId} (h : sliceB P T = true) : ∃ e, P.underlying T = some (.slice e) := by
  unfold sliceB at h
  split at h
  · exact ⟨_, by assumption⟩
  · cases h
theorem run_len {T : TypeId} (h : sliceB P T = true) (ao : Option Addr) (n c : Nat) (w : World) : (Builtin.len_ #[T] ty #[.slice ao n c]).run P w = .ok (.int .i64 n) w := by
  obtain ⟨e, he⟩ := sliceB_spec h
  simp [Builtin.len_, run_underlying he, goInt]
/-- how long a slice is -/
def A1.len : A1 → Option Nat
  | .sl _ _ n => some n
  | .esl _ _ _ n => some n
  | .val (.slice _ n _) => some n
  | _ => none
theorem Den1.len_ {b : A1} {n : Nat} {u : Value} (h : Den1 η b u) (hn : b.len = some n) : ∃ ao c, u = .slice ao n c := by
  cases b with
  | sl x off m => obtain rfl := Option.some.inj hn; exact h.1
  | esl x i off m => obtain rfl := Option.some.inj hn; exact h.1
  | val v =>
    have h : u = v := h
    subst h
    cases u <;> simp [A1.len] at hn
    rename_i ao m c
    subst hn; exact ⟨ao, c, rfl⟩
  | _ => cases hn
theorem stp_len {T : TypeId} {b : A1} {n : Nat} (ht : Nat.blt t nt = true) (hx : S.op x = some (o1 b)) (hn : b.len = some n) (hT : sliceB P T = true) :
    Stp P nt ⟨some t, .call { callee := .builtin .len, args := #[x], argTypes := #[T] }, ty, ps, af, gd⟩ S (S.put t (vv (.int .i64 n))) :=
  Stp.pure rfl ht fun _ _ η _ a w hs => by
    have hd1 : Den1 η b (a.eval x) := hs.opv hx
    obtain ⟨ao, c, e⟩ := hd1.len_ hn
    exact ⟨.int .i64 n, by simp [execOp, resolve, invoke, builtin, e, run_len hT], rfl⟩

theorem run_min {k : IntKind} {m n : Int} (w : World) (ts : Array TypeId) : (Builtin.min_ ts ty #[.int k m, .int k n]).run P w = .ok (.int k (if n < m then n else m)) w := by
  simp [Builtin.min_, Builtin.min2]
theorem stp_min {ts : Array TypeId} {k : IntKind} {m n : Int} (ht : Nat.blt t nt = true) (hx : S.op x = some (vv (.int k m))) (hy : S.op y = some (vv (.int k n))) :
    Stp P nt ⟨some t, .call { callee := .builtin .min, args := #[x, y], argTypes := ts }, ty, ps, af, gd⟩ S (S.put t (vv (.int k (if n < m then n else m)))) :=
  Stp.pure rfl ht fun _ _ η _ a w hs => ⟨_, by simp [execOp, resolve, invoke, builtin, hs.opV hx, hs.opV hy, run_min], rfl⟩
/-- a bound of a slice -/
def bnd (S : St) (z : Option Operand) (dflt l : Nat) : Prop :=
  match z with
  | none => l = dflt
  | some z => ∃ ki i, S.op z = some (vv (.int ki i)) ∧ i = (l : Int)
theorem bnd_none {S : St} {l : Nat} : bnd S none l l := rfl
theorem bnd_some {S : St} {z : Operand} {d l : Nat} {ki : IntKind} {i : Int} (h : S.op z = some (vv (.int ki i))) (hi : i = (l : Int)) : bnd S (some z) d l := ⟨ki, i, h, hi⟩
theorem run_sliceBound {ki : IntKind} {l y : Nat} (h : l ≤ y) (cd : BoundsCode) (w : World) : (Instr.sliceBound (.int ki (l : Int)) y cd).run P w = .ok l w := by
  simp [Instr.sliceBound, asIntOf, h]
theorem run_sliceT {T : TypeId} {e : TypeId} {inf : TypeInfo} (h1 : P.underlying T = some (.slice e)) (h2 : P.info? e = some inf) (hs : SatE w0 ω0 nt S η ω a w) {lo hi : Option Operand} {l h len m : Nat} {ao : Option Addr} (hlo : bnd S lo 0 l) (hhi : bnd S hi len h) (hlh : l ≤ h) (hhm : h ≤ m) :
    (Instr.sliceAt T (.slice ao len m) (lo.map a.eval) (hi.map a.eval) none).run P w = .ok (.slice (if m = l then ao else ao.map (·.add (l * inf.size))) (h - l) (m - l)) w := by
  have key : (Instr.sliceBounds true len m (lo.map a.eval) (hi.map a.eval) none).run P w = .ok (l, h, m) w := by
    unfold Instr.sliceBounds
    cases hi with
    | none =>
      obtain rfl : h = len := hhi
      cases lo with
      | none => obtain rfl : l = 0 := hlo; simp
      | some z => obtain ⟨ki, i, hz, rfl⟩ := hlo; simp [hs.opV hz, run_sliceBound hlh]
    | some z' =>
      obtain ⟨ki', i', hz', rfl⟩ := hhi
      cases lo with
      | none => obtain rfl : l = 0 := hlo; simp [hs.opV hz', run_sliceBound hhm]
      | some z => obtain ⟨ki, i, hz, rfl⟩ := hlo; simp [hs.opV hz', hs.opV hz, run_sliceBound hhm, run_sliceBound hlh]
  simp [Instr.sliceAt, run_underlying h1, Instr.slice, key, sizeOf, typeInfo, h2]
theorem stp_slice {T : TypeId} {n : Nm} {off len k l h : Nat} {c : Ch} {lo hi : Option Operand} (ht : Nat.blt t nt = true) (hx : S.op x = some (o1 (.sl n off len))) (hc : S.ch n = some c) (hk : c.k = k) (hT : elemB P T k = true) (hk0 : 0 < k)
    (hlo : bnd S lo 0 l) (hhi : bnd S hi len h) (hlh : l ≤ h) (hhl : h ≤ len) (hl : (off + len) * k ≤ c.d.len) : Stp P nt ⟨some t, .slice T x lo hi none, ty, ps, af, gd⟩ S (S.put t (o1 (.sl n (off + l) (h - l)))) :=
  Stp.pure rfl ht fun _ _ η _ a w hs => by
    obtain ⟨hd, h1, h2, h3⟩ := hs.chunk hc
    have hd1 : Den1 η (.sl n off len) (a.eval x) := hs.opv hx
    obtain ⟨ao, e1, e2, e3⟩ := hd1.2 hd h1
    obtain ⟨e, inf, g1, g2, rfl⟩ := elemB_spec hT
    have hcap := h3.cap
    rw [h2, hk] at hcap
    have h5 : off + len ≤ hd.c := Nat.le_of_mul_le_mul_right (Nat.le_trans hl hcap) hk0
    refine ⟨.slice (if hd.c - off = l then ao else ao.map (·.add (l * inf.size))) (h - l) (hd.c - off - l), by simp only [execOp, e1]; simp [run_sliceT g1 g2 hs hlo hhi hlh (m := hd.c - off) (by omega)], ⟨_, _, rfl⟩, fun hd' he => ?_⟩
    rw [h1] at he; obtain rfl := Option.some.inj he
    refine ⟨_, by rw [Nat.sub_sub], fun h0 => ?_, fun h0 hlt => ?_⟩
    · obtain ⟨rfl, rfl⟩ : off = 0 ∧ l = 0 := by omega
      rw [e2 rfl]
      split
      · rfl
      · simp [Addr.add]
    · rw [if_neg (by omega)]
      by_cases hl0 : 0 < c.d.len
      · obtain ⟨b', o', u, f1, _, _⟩ := h3.get hl0
        rcases Nat.eq_zero_or_pos off with h00 | h00
        · subst h00; rw [e2 rfl, f1]; simp [Addr.add_lit, h2, hk]
        · rw [e3 h00 (by omega), f1]; simp [Addr.add_lit, h2, hk, Nat.add_mul, Nat.add_assoc]
      · exfalso
        have h6 : (off + len) * inf.size ≤ 0 := by omega
        have h7 : off + len = 0 := by
          rcases Nat.eq_zero_or_pos (off + len) with h8 | h8
          · exact h8
          · have := Nat.mul_pos h8 hk0; omega
        omega
end
end Go.Proofs.YtmdhljleaijkbaaGreatDoor

/- A memory of names: new chunks (boxes, variables, literals, make). No program in sight. -/
namespace Go.Proofs.YtmdhljleaijkbaaGreatDoor
open Go.RowKit

section
variable {P : Program} {nt : Nat} {S S' : St} {w0 w : World} {ω0 : Beg} {ω : Own?} {η : Env} {a : Act}
variable {t : Nat} {ty : TypeId} {ps : String} {af : Array Edge} {gd : Option (Nat × Bool)} {x y : Operand} {av : AV}

def Own?.new (ω : Own?) (b : Nat) (o : Nm × Option Nat) : Own? := fun b' => if b' = b then some o else ω b'
theorem calm_alloc (S : St) (ω : Own?) (w : World) (o : Obj) (ow : Nm × Option Nat) : Calm S ω w (Own?.new ω w.heap.size ow) (w.alloc o) :=
  ⟨rfl, rfl, rfl, by simp, fun b hb _ => ⟨Below.heap_alloc w o b hb, by simp [Own?.new, Nat.ne_of_lt hb]⟩⟩
/-- a new block under the name x -/
theorem SatE.alloc (h : SatE w0 ω0 nt S η ω a w) {x : Nm} {c : Ch} {cs : Array Value} {r : Nat → Hd} {n : Nat} (hown : c.own = true) (hn : cs.size = n * c.k) (hl : c.d.len ≤ n * c.k) (hm : n ≤ maxLen)
    (hc : ∀ j, j < c.d.len → ∃ u, cs[j]? = some u ∧ cellsOK (η.new x ⟨some ⟨w.heap.size, 0, none⟩, n, c.k⟩ r) (Own?.new ω w.heap.size (x, none)) (w.alloc (.cells cs c.E)) true x c.d j u) :
    SatE w0 ω0 nt (S.new x c) (η.new x ⟨some ⟨w.heap.size, 0, none⟩, n, c.k⟩ r) (Own?.new ω w.heap.size (x, none)) a (w.alloc (.cells cs c.E)) :=
  h.lay (calm_alloc S ω w _ _) ⟨rfl, by
    rw [hown]
    refine .inr ⟨w.heap.size, 0, cs, rfl, by simp [Own?.new], heap_alloc_new w _, ⟨rfl, hn⟩, hl, hm, fun j hj => ?_⟩
    obtain ⟨u, h1, h2⟩ := hc j hj
    exact ⟨u, by simpa using h1, h2⟩⟩

def A2.list : A2 → List A1
  | .one a => [a]
  | .agg l => l
theorem den2_cells {a2 : A2} {u : Value} (h : Den2 η a2 u) (h1 : ∀ v, a2 = .one (.val v) → v.oneCell' = true) : u.cells.size = a2.list.length ∧ ∀ (j : Nat) (b : A1), a2.list[j]? = some b → ∃ u', u.cells[j]? = some u' ∧ Den1 η b u' := by
  cases a2 with
  | agg l =>
    obtain ⟨us, rfl, h2, h3⟩ := h
    exact ⟨h2, h3⟩
  | one b =>
    have ho : u.oneCell' = true := Den1.one (a := b) h fun v hv => h1 v (by rw [hv])
    have hc : u.cells = #[u] := by cases u <;> first | rfl | cases ho
    rw [hc]
    refine ⟨rfl, fun j b' hb => ?_⟩
    cases j with
    | zero => simp [A2.list] at hb; subst hb; exact ⟨u, by simp, h⟩
    | succ j => simp [A2.list] at hb
/-- a plain value of the walk's is of one cell -/
def A2.okB : A2 → Bool
  | .one (.val v) => v.oneCell'
  | _ => true
theorem A2.okB_spec {a2 : A2} (h : a2.okB = true) : ∀ v, a2 = .one (.val v) → v.oneCell' = true := by rintro v rfl; exact h

theorem stp_box {T : TypeId} {a2 : A2} (ht : Nat.blt t nt = true) (hx : S.op x = some (.s a2)) (h1 : a2.okB = true) (hf : a2.list.any (A1.has t) = false) :
    Stp P nt ⟨some t, .box T x, ty, ps, af, gd⟩ S ((S.new t ⟨true, T, a2.list.length, .flat a2.list⟩).put t (o1 (.ptr t 0))) :=
  Stp.of _ fun w0 ω0 η ω a w hs => by
    have hd : Den2 η a2 (a.eval x) := hs.opv hx
    obtain ⟨h2, h3⟩ := den2_cells hd (A2.okB_spec h1)
    refine ⟨.pointer (some ⟨w.heap.size, 0, none⟩), w.alloc (.cells (a.eval x).cells T), by simp [execOp, Instr.box, newVar, newRow], ?_⟩
    have hal := hs.alloc (x := t) (c := ⟨true, T, a2.list.length, .flat a2.list⟩) (cs := (a.eval x).cells) (r := fun _ => ⟨none, 0, 1⟩) (n := 1) rfl (by simp [h2]) (by simp [Dat.len]) (by simp [maxLen]) fun j hj => by
      obtain ⟨u, hu, hdu⟩ := h3 j a2.list[j] (List.getElem?_eq_getElem hj)
      refine ⟨u, hu, fun b hb => ?_⟩
      rw [List.getElem?_eq_getElem hj] at hb
      obtain rfl := Option.some.inj hb
      refine hdu.mono fun y hy => Env.new_ne η _ _ y fun e => ?_
      subst e
      have := List.any_eq_false.1 hf _ (List.getElem_mem hj)
      rw [hy] at this; exact this rfl
    exact ⟨_, _, hal.putV (by simpa using ht) ⟨⟨_, rfl⟩, fun hd' he => by simp [Env.new] at he; subst he; exact ⟨_, 0, rfl, by simp⟩⟩⟩

/-- the zero of a type, in cells that are plain -/
theorem stp_alloc {T : TypeId} {z : Value} {i : TypeInfo} (ht : Nat.blt t nt = true) (hi : P.info? T = some i) (hz : i.zero = some z) :
    Stp P nt ⟨some t, .alloc T, ty, ps, af, gd⟩ S ((S.new t ⟨true, T, z.cells.size, .flat (z.cells.toList.map .val)⟩).put t (o1 (.ptr t 0))) :=
  Stp.of _ fun w0 ω0 η ω a w hs => by
    refine ⟨.pointer (some ⟨w.heap.size, 0, none⟩), w.alloc (.cells z.cells T), by simp [execOp, Instr.alloc, zeroValue, typeInfo, hi, hz, newVar, newRow], ?_⟩
    have hal := hs.alloc (x := t) (c := ⟨true, T, z.cells.size, .flat (z.cells.toList.map .val)⟩) (cs := z.cells) (r := fun _ => ⟨none, 0, 1⟩) (n := 1) rfl (by simp) (by simp [Dat.len]) (by simp [maxLen]) fun j hj => by
      have hj' : j < z.cells.size := by simpa [Dat.len] using hj
      refine ⟨z.cells[j], by simp, fun b hb => ?_⟩
      simp [hj'] at hb
      subst hb; exact rfl
    exact ⟨_, _, hal.putV (by simpa using ht) ⟨⟨_, rfl⟩, fun hd' he => by simp [Env.new] at he; subst he; exact ⟨_, 0, rfl, by simp⟩⟩⟩

/-- the slice type T has elements of type E: k cells, few bytes, a zero of k cells -/
def elZ (P : Program) (T E k : Nat) : Bool :=
  match P.underlying T with
  | some (.slice e) => e == E && (match P.info? E with
    | some i => i.size == k && decide (i.bytes ≤ 64) && (match i.zero with | some z => z.cells.size == k | none => false)
    | none => false)
  | _ => false
theorem elZ_spec {T E k : Nat} (h : elZ P T E k = true) : ∃ i z, P.underlying T = some (.slice E) ∧ P.info? E = some i ∧ i.size = k ∧ i.bytes ≤ 64 ∧ i.zero = some z ∧ z.cells.size = k := by
  unfold elZ at h
  split at h
  · rename_i e he
    simp only [Bool.and_eq_true, beq_iff_eq] at h
    obtain ⟨rfl, h⟩ := h
    split at h
    · rename_i i hi
      simp only [Bool.and_eq_true, beq_iff_eq, decide_eq_true_eq] at h
      obtain ⟨⟨h1, h2⟩, h3⟩ := h
      split at h3
      · rename_i z hz
        exact ⟨i, z, he, hi, h1, h2, hz, by simpa using h3⟩
      · cases h3
    · cases h
  · cases h
theorem den_newsl {x : Nm} {b k n c : Nat} {r : Nat → Hd} : Den (η.new x ⟨some ⟨b, 0, none⟩, c, k⟩ r) (o1 (.sl x 0 n)) (.slice (some ⟨b, 0, none⟩) n c) :=
  ⟨⟨_, _, rfl⟩, fun hd' he => by simp [Env.new] at he; subst he; exact ⟨_, rfl, fun _ => rfl, fun h => absurd h (by omega)⟩⟩

theorem range1 (f : Nat → Value) : Array.map f (Array.range 1) = #[f 0] := by apply Array.ext'; simp [Array.toList_range, List.range_succ]
theorem cells_one {v : Value} (h : v.oneCell' = true) : v.cells = #[v] := by cases v <;> first | rfl | cases h
/-- a literal of one element of one cell -/
theorem stp_lit1 {T E : Nat} {x0 : Operand} {b0 : A1} (ht : Nat.blt t nt = true) (hT : elZ P T E 1 = true) (hx : S.op x0 = some (o1 b0)) (h1 : (A2.one b0).okB = true) (hf : b0.has t = false) :
    Stp P nt ⟨some t, .buildSlice T 1 #[(0, x0)], ty, ps, af, gd⟩ S ((S.new t ⟨true, E, 1, .flat [b0]⟩).put t (o1 (.sl t 0 1))) :=
  Stp.of _ fun w0 ω0 η ω a w hs => by
    obtain ⟨i, z, k1, k2, k3, k4, k5, k6⟩ := elZ_spec hT
    have hd0 : Den1 η b0 (a.eval x0) := hs.opv hx
    have ho : (a.eval x0).oneCell' = true := hd0.one fun v hv => A2.okB_spec h1 v (by rw [hv])
    refine ⟨.slice (some ⟨w.heap.size, 0, none⟩) 1 1, w.alloc (.cells #[a.eval x0] E), ?_, ?_⟩
    · simp [execOp, Instr.buildSlice, run_underlying k1, sizeOf, typeInfo, k2, k3, zeroValue, k5, Instr.fill, newRow, cells_one ho, range1]
    · have hal := hs.alloc (x := t) (c := ⟨true, E, 1, .flat [b0]⟩) (cs := #[a.eval x0]) (r := fun _ => ⟨none, 0, 1⟩) (n := 1) rfl (by simp) (by simp [Dat.len]) (by simp [maxLen]) fun j hj => by
        have hj0 : j = 0 := by simp [Dat.len] at hj; omega
        subst hj0
        refine ⟨a.eval x0, by simp, fun b hb => ?_⟩
        simp at hb; subst hb
        exact hd0.mono fun y hy => Env.new_ne η _ _ y fun e => by subst e; rw [hf] at hy; cases hy
      exact ⟨_, _, hal.putV (by simpa using ht) den_newsl⟩
end
end Go.Proofs.YtmdhljleaijkbaaGreatDoor

/- A memory of names: stores. No program in sight. -/
namespace Go.Proofs.YtmdhljleaijkbaaGreatDoor
open Go.RowKit

section
variable {P : Program} {nt : Nat} {S S' : St} {w0 w : World} {ω0 : Beg} {ω : Own?} {η : Env} {a : Act}
variable {t : Nat} {ty : TypeId} {ps : String} {af : Array Edge} {gd : Option (Nat × Bool)} {x y : Operand} {av : AV}

/-- a type of k cells -/
def sizeB (P : Program) (T : TypeId) (k : Nat) : Bool :=
  match P.info? T with
  | some i => i.size == k
  | none => false
theorem sizeB_run {T : TypeId} {k : Nat} (h : sizeB P T k = true) (w : World) : (sizeOf T).run P w = .ok k w := by
  unfold sizeB at h
  split at h
  · rename_i i hi
    have : i.size = k := by simpa using h
    simp [sizeOf, typeInfo, hi, this]
  · cases h
theorem run_store1 {T : TypeId} (h : sizeB P T 1 = true) {p : Addr} {u v : Value} (hc : w.cell? p = some u) (hf : w.frozen? p = false) (h1 : v.oneCell' = true) : (Instr.storeAt T (.pointer (some p)) v).run P w = .ok () (w.setCell p v) := by
  have hst : (store p v).run P w = .ok () (w.setCell p v) := by
    cases v <;> first | (simp [store, Sem.run, hc, hf]; done) | exact absurd h1 (by simp [Value.oneCell'])
  simp [Instr.storeAt, Instr.sureAddr, storeVar, cells_one h1, sizeB_run h, storeCells, Addr.add, hst]

theorem Stp.unit {o : Oper} (hd : o.dst = none) (h : ∀ w0 ω0 η ω a w, SatE w0 ω0 nt S η ω a w → ∃ w', (execOp a.eval o).run P w = .ok .skip w' ∧ Sat w0 ω0 nt S' a w') : Stp P nt o S S' := by
  refine ⟨fun w0 ω0 a w Q ⟨η, ω, hs⟩ => ?_⟩
  obtain ⟨w', h1, h2⟩ := h w0 ω0 η ω a w hs
  unfold Oper.wp
  rw [h1]
  simp only [Oper.upon, hd, Act.put]
  exact h2

theorem calm_setCell {b : Nat} {ow : Nm × Option Nat} (hb : ω b = some ow) (hn : S.ch ow.1 = none) (p : Addr) (hp : p.block = b) (u : Value) : Calm S ω w ω (w.setCell p u) :=
  ⟨rfl, rfl, rfl, by simp [World.setCell], fun b' _ hl => ⟨Below.heap_setCell w p u b' (by
    intro e
    rw [hp] at e; subst e
    rcases hl with h0 | ⟨y, i, c, h0, h1⟩
    · rw [hb] at h0; cases h0
    · rw [hb] at h0; obtain rfl := Option.some.inj h0
      rw [hn] at h1; cases h1), rfl⟩⟩
theorem heap_set {b o : Nat} {cs : Array Value} {E : TypeId} {fr : Nat × Nat} (h : w.heap[b]? = some (.cells cs E fr)) (u : Value) : (w.setCell ⟨b, o, none⟩ u).heap[b]? = some (.cells (cs.setIfInBounds o u) E fr) := by
  simp [World.setCell, Array.getElem?_modify, h]
theorem frozen_of {b o : Nat} {cs : Array Value} {E : TypeId} (h : w.heap[b]? = some (.cells cs E (0, 0))) : w.frozen? ⟨b, o, none⟩ = false := by
  simp [World.frozen?, h]

theorem same_setCell {b : Nat} {ow : Nm × Option Nat} (hb : ω b = some ow) (p : Addr) (hp : p.block = b) (u : Value) : Same ω w ω (w.setCell p u) (fun o => o ≠ some ow) :=
  ⟨by simp [World.setCell], fun b' _ hl => ⟨Below.heap_setCell w p u b' (by
    intro e
    rw [hp] at e; subst e
    exact hl hb), rfl⟩⟩
theorem cellsOK.keep {own : Bool} {n : Nm} {d : Dat} {j : Nat} {u : Value} {w' : World} {p : Option (Nm × Option Nat) → Prop} (hs : Same ω w ω w' p) (hp : p none) (hp' : ∀ i, p (some (n, some i))) (h : cellsOK η ω w own n d j u) : cellsOK η ω w' own n d j u := by
  cases d with
  | flat l => exact h
  | vals vs => exact h
  | rows E vss holes => exact ⟨h.1, fun hj vs hvs => have ⟨h1, h2, h3⟩ := h.2 hj vs hvs; ⟨h1, h2, h3.same hs hp (hp' j) fun _ _ h => h⟩⟩
  | mix cs => exact ⟨h.1, fun c hc => (h.2 c hc).move rfl fun _ _ _ _ _ h3 => h3.same hs hp (hp' j) fun _ _ h => h⟩
theorem SatE.poke (hs : SatE w0 ω0 nt S η ω a w) {n : Nm} {hd : Hd} {c' : Ch} {b : Nat} {ow : Option Nat} (hn : η.h n = some hd) (hb : ω b = some (n, ow)) (p : Addr) (hp : p.block = b) (u : Value) (hc : ChIs η ω (w.setCell p u) n hd c') :
    SatE w0 ω0 nt (S.set n c') η ω a (w.setCell p u) := hs.write hn (calm_setCell hb (by simp [ch_rm]) p hp u) hc

/-- the cell i of a chunk of the call's own turns into v, and nothing else turns -/
theorem SatE.store1 (hs : SatE w0 ω0 nt S η ω a w) {n : Nm} {c : Ch} {d' : Dat} {i : Nat} {p v : Value} {T : TypeId} (hp : Den1 η (.ptr n i) p) (hc : S.ch n = some c) (hown : c.own = true) (hi : i < c.d.len) (hT : sizeB P T 1 = true) (h1 : v.oneCell' = true)
    (hl : d'.len = c.d.len) (hd : ∀ w' j u, j ≠ i → cellsOK η ω w' true n c.d j u → cellsOK η ω w' true n d' j u) (hv : ∀ w', cellsOK η ω w' true n d' i v) :
    ∃ w', (Instr.storeAt T p v).run P w = .ok () w' ∧ SatE w0 ω0 nt (S.set n { c with d := d' }) η ω a w' := by
  obtain ⟨h, e1, e2, e3⟩ := hs.chunk hc
  obtain ⟨b, o, g1, rfl⟩ := hp.2 h e1
  rw [hown] at e3
  rcases e3 with ⟨_, _, h0⟩ | ⟨b', o', cs, f1, f2, f3, f4, f5, f6, f7⟩
  · omega
  rw [g1] at f1; injection f1 with f1; injection f1 with f1 f1'; subst f1 f1'
  obtain ⟨u, hu, _⟩ := f7 i hi
  have hcell : w.cell? ⟨b, o + i, none⟩ = some u := by rw [cell_of_row w b (o + i) cs c.E (0, 0) f3]; exact hu
  have hsz : o + i < cs.size := by
    rcases Nat.lt_or_ge (o + i) cs.size with hlt | hge
    · exact hlt
    · rw [Array.getElem?_eq_none hge] at hu; cases hu
  refine ⟨_, run_store1 hT hcell (frozen_of f3) h1, hs.poke e1 f2 _ rfl v ⟨e2, ?_⟩⟩
  show Vec c.own ω _ (n, none) h c.E d'.len (cellsOK η ω _ c.own n d')
  rw [hown]
  refine .inr ⟨b, o, _, g1, f2, heap_set f3 v, by simpa using f4, by rw [hl]; exact f5, f6, fun j hj => ?_⟩
  rw [hl] at hj
  obtain ⟨u', hu', hk⟩ := f7 j hj
  by_cases e : j = i
  · subst e
    exact ⟨v, by simp [hsz], hv _⟩
  · refine ⟨u', by rw [Array.getElem?_setIfInBounds_ne (by omega)]; exact hu', hd _ j u' e (hk.keep (same_setCell f2 _ rfl v) (by simp) (by simp))⟩

theorem stp_storeF {T : TypeId} {n : Nm} {i : Nat} {c : Ch} {l : List A1} {b : A1} (hx : S.op x = some (o1 (.ptr n i))) (hy : S.op y = some (o1 b)) (hc : S.ch n = some c) (hown : c.own = true) (hd : c.d = .flat l) (hi' : Nat.blt i l.length = true) (hT : sizeB P T 1 = true) (h1 : (A2.one b).okB = true) :
    Stp P nt ⟨none, .store T x y, ty, ps, af, gd⟩ S (S.set n { c with d := .flat (l.set i b) }) :=
  have hi : i < l.length := by simpa using hi'
  Stp.unit rfl fun w0 ω0 η ω a w hs => by
    have hb : Den1 η b (a.eval y) := hs.opv hy
    obtain ⟨w', k1, k2⟩ := hs.store1 (P := P) (T := T) (d' := .flat (l.set i b)) (hs.opv hx) hc hown (by rw [hd]; exact hi) hT (hb.one fun v hv => A2.okB_spec h1 v (by rw [hv])) (by rw [hd]; simp [Dat.len])
      (fun w' j u hj hk b' hb' => by rw [hd] at hk; rw [List.getElem?_set_ne (fun e => hj e.symm)] at hb'; exact hk b' hb')
      (fun w' b' hb' => by simp [List.getElem?_set_self hi] at hb'; subst hb'; exact hb)
    exact ⟨w', by simp [execOp, k1], _, _, k2⟩
theorem stp_storeV {T : TypeId} {n : Nm} {i : Nat} {c : Ch} {vs : List Value} {v : Value} (hx : S.op x = some (o1 (.ptr n i))) (hy : S.op y = some (vv v)) (hc : S.ch n = some c) (hown : c.own = true) (hd : c.d = .vals vs) (hi : i < vs.length) (hT : sizeB P T 1 = true) (h1 : v.oneCell' = true) :
    Stp P nt ⟨none, .store T x y, ty, ps, af, gd⟩ S (S.set n { c with d := .vals (vs.set i v) }) :=
  Stp.unit rfl fun w0 ω0 η ω a w hs => by
    have hb : a.eval y = v := hs.opv hy
    obtain ⟨w', k1, k2⟩ := hs.store1 (P := P) (T := T) (d' := .vals (vs.set i v)) (v := v) (hs.opv hx) hc hown (by rw [hd]; exact hi) hT h1 (by rw [hd]; simp [Dat.len])
      (fun w' j u hj hk => by rw [hd] at hk; show (vs.set i v)[j]? = some u; rw [List.getElem?_set_ne (fun e => hj e.symm)]; exact hk)
      (fun w' => by show (vs.set i v)[i]? = some v; rw [List.getElem?_set_self hi])
    exact ⟨w', by simp [execOp, hb, k1], _, _, k2⟩

end
end Go.Proofs.YtmdhljleaijkbaaGreatDoor
