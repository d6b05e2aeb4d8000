/- Words for the walks of this seat: integer slices that are read, rows that a call owns, and the walk's laws on make and append in those words. No program in sight. -/
import Derived.WalkKit
import Derived.WalkSpells
import Derived.WalkLawsBesides
import Derived.Lib.Hide
import Derived.BigQuiet
import Derived.Deep.QuietTactic
import Derived.Deep.Draws
import Derived.Deep.AppendLies
import Derived.Maps.AppendAt
import Derived.Test.YtljimlejcecleaaDoorRows
import Derived.ProofKit
import Derived.OpenShut
import Derived.SizedLaws
import Derived.ChangeSame
import Derived.Deep.Slices
import Derived.Test.YtljimlejcecleaaDoorProg
import Derived.Laws.CopyOwn
import Derived.Deep.RegionLaw
import Derived.RegionTactic
import Derived.Deep.RegionHeld3
import Derived.Lib.LazyBuf
import Derived.Lib.SliceRun
namespace Go.Proofs.YtljimlejcecleaaDoor
open Go.RowKit

/-- element k of a list of integers, 0 behind its end; closed to the walk's simp -/
def iget (zs : List Int) (k : Nat) : Int := zs.getD k 0
theorem iget_lt {zs : List Int} {k : Nat} (h : k < zs.length) : iget zs k = zs[k] := by simp [iget, h]
theorem iget_mem {zs : List Int} {k : Nat} (h : k < zs.length) : iget zs k ∈ zs := by rw [iget_lt h]; exact List.getElem_mem h
theorem take_iget {zs : List Int} {k : Nat} (h : k < zs.length) : zs.take (k + 1) = zs.take k ++ [iget zs k] := by
  rw [List.take_succ_eq_append_getElem h, iget_lt h]
theorem iget_ext {za zb : List Int} (hl : za.length = zb.length) (h : ∀ k, k < za.length → iget za k = iget zb k) : za = zb := by
  apply List.ext_getElem hl
  intro k h1 h2
  rw [← iget_lt h1, ← iget_lt h2]; exact h k h1
/-- the block of a slice's address -/
def bk (ao : Option Addr) : Option Nat := ao.map (·.block)
theorem ownBlock_slice (ao : Option Addr) (n c : Nat) : (Value.slice ao n c).ownBlock = bk ao := by cases ao <;> rfl

/-- the slice at ao, of n cells, holds xs -/
def Vals (w : World) (ao : Option Addr) (n : Nat) (xs : List Value) : Prop :=
  xs.length = n ∧ n ≤ 17592186044416 ∧ (0 < n → ∃ b off, ao = some ⟨b, off, none⟩ ∧ ∀ j u, xs[j]? = some u → w.cell? ⟨b, off + j, none⟩ = some u)

/-- the slice at ao, of n integers, reads as zs -/
def Ints (w : World) (ao : Option Addr) (n : Nat) (zs : List Int) : Prop :=
  zs.length = n ∧ n ≤ 17592186044416 ∧ (0 < n → ∃ b off, ao = some ⟨b, off, none⟩ ∧ ∀ j, j < n → w.cell? ⟨b, off + j, none⟩ = some (.int .i64 (iget zs j)))

theorem Ints.at_ {w : World} {ao : Option Addr} {n : Nat} {zs : List Int} (h : Ints w ao n zs) {k : Nat} (hk : k < n) :
    ∃ b off, ao = some ⟨b, off, none⟩ ∧ w.cell? ⟨b, off + k, none⟩ = some (.int .i64 (iget zs k)) := by
  obtain ⟨b, off, e, hc⟩ := h.2.2 (by omega)
  exact ⟨b, off, e, hc k hk⟩
theorem Ints.all_ {w : World} {ao : Option Addr} {n : Nat} {zs : List Int} (h : Ints w ao n zs) (hn : 0 < n) :
    ∃ b off, ao = some ⟨b, off, none⟩ ∧ b < w.heap.size ∧ ∀ j, j < n → w.cell? ⟨b, off + j, none⟩ = some (.int .i64 (iget zs j)) := by
  obtain ⟨b, off, e, hc⟩ := h.2.2 hn
  exact ⟨b, off, e, World.block_lt_of_cell? w _ (hc 0 hn), hc⟩
theorem Ints.vals {w : World} {ao : Option Addr} {n : Nat} {zs : List Int} (h : Ints w ao n zs) : Vals w ao n (zs.map (Value.int .i64)) := by
  refine ⟨by simpa using h.1, h.2.1, fun hn => ?_⟩
  obtain ⟨b, off, e, hc⟩ := h.2.2 hn
  refine ⟨b, off, e, fun j u hu => ?_⟩
  have hl := h.1
  have hj : j < zs.length := by have := (List.getElem?_eq_some_iff.1 hu).1; simpa using this
  rw [hc j (by omega), ← hu, List.getElem?_map, List.getElem?_eq_getElem hj, iget_lt hj]; rfl
theorem Ints.drewN {w : World} {ao : Option Addr} {n : Nat} {zs : List Int} (h : Ints w ao n zs) (m : Nat) : Ints (w.drewN m) ao n zs := h
theorem Ints.same {w w' : World} {ao : Option Addr} {n : Nat} {zs : List Int} (h : Ints w ao n zs) (hs : ∀ g, bk ao = some g → g < w.heap.size → w'.heap[g]? = w.heap[g]?) : Ints w' ao n zs := by
  refine ⟨h.1, h.2.1, fun hn => ?_⟩
  obtain ⟨b, off, rfl, hb, hc⟩ := h.all_ hn
  exact ⟨b, off, rfl, fun j hj => (World.cell?_of_block (hs b rfl hb)).trans (hc j hj)⟩
theorem Ints.below {w w' : World} {ao : Option Addr} {n : Nat} {zs : List Int} (h : Ints w ao n zs) (hb : Below w.heap.size w w') : Ints w' ao n zs :=
  h.same fun g _ hg => hb.block g hg
theorem Ints.nil_ (w : World) (ao : Option Addr) : Ints w ao 0 [] := ⟨rfl, by omega, fun h => absurd h (by omega)⟩

/-- the slice at ao, of n cells (one cell an element, of type E), owns the cells xs in a row of the call's own, from block 'base' on -/
def Own (w : World) (base E : Nat) (ao : Option Addr) (n c : Nat) (xs : List Value) : Prop :=
  w.ownsRow base E 1 (.slice ao n c) n xs ∧ n ≤ 4398046511104

section
variable {w w' : World} {base E : Nat} {ao : Option Addr} {n c : Nat} {xs : List Value} {row : Option Nat}
theorem Own.len (h : Own w base E ao n c xs) : xs.length = n := by have := h.1.1; omega
theorem Own.lt (h : Own w base E ao n c xs) : ∀ g, bk ao = some g → base ≤ g ∧ g < w.heap.size := by
  have := h.1.lt
  rw [ownBlock_slice] at this; exact this
theorem Own.drewN (h : Own w base E ao n c xs) (m : Nat) : Own (w.drewN m) base E ao n c xs := h
theorem Own.kept (h : Own w base E ao n c xs) (hg : w.grownBy w' row) (hne : bk ao = none ∨ bk ao ≠ row) : Own w' base E ao n c xs :=
  ⟨h.1.kept hg (by rw [ownBlock_slice]; exact hne), h.2⟩
theorem Own.same (h : Own w base E ao n c xs) (hs : ∀ g, bk ao = some g → w'.heap[g]? = w.heap[g]?) : Own w' base E ao n c xs := by
  refine ⟨⟨h.1.1, ?_⟩, h.2⟩
  rcases h.1.2 with h2 | ⟨g, cap, cur, hv, hg, hh, r⟩
  · exact Or.inl h2
  · refine Or.inr ⟨g, cap, cur, hv, hg, ?_, r⟩
    have : bk ao = some g := by injection hv with h1; subst h1; rfl
    rw [hs g this]; exact hh
theorem Own.below (h : Own w base E ao n c xs) (hb : Below w.heap.size w w') : Own w' base E ao n c xs :=
  h.same fun g hg => hb.block g (h.lt g hg).2
theorem Own.alloc (h : Own w base E ao n c xs) (o : Obj) : Own (w.alloc o) base E ao n c xs := ⟨h.1.alloc o, h.2⟩
theorem Own.mono (h : Own w base E ao n c xs) {base' : Nat} (hb : base' ≤ base) : Own w base' E ao n c xs := by
  refine ⟨⟨h.1.1, ?_⟩, h.2⟩
  rcases h.1.2 with h2 | ⟨g, cap, cur, hv, hg, r⟩
  · exact Or.inl h2
  · exact Or.inr ⟨g, cap, cur, hv, by omega, r⟩
/-- a slice that is not empty: the block, its cells, not frozen -/
theorem Own.form (h : Own w base E ao n c xs) (hn : 0 < n) : ∃ g, ao = some ⟨g, 0, none⟩ ∧ base ≤ g ∧ g < w.heap.size ∧ n ≤ c ∧ (∀ j, j < n → w.cell? ⟨g, j, none⟩ = xs[j]?) ∧ (∀ j, w.frozen? ⟨g, j, none⟩ = false) := by
  obtain ⟨g, cap, hv, hb, hlt⟩ := h.1.form hn
  injection hv with h1 _ h2
  subst h1 h2
  refine ⟨g, rfl, hb, hlt, ?_, fun j hj => h.1.cellAt j (by omega), fun j => h.1.frozenAt j⟩
  rcases h.1.2 with ⟨h2, _⟩ | ⟨g', cap', cur, hv, _, _, hnc, _⟩
  · cases h2
  · injection hv with _ _ h3; subst h3; exact hnc
theorem Own.stored {g : Nat} (h : Own w base E (some ⟨g, 0, none⟩) n c xs) (k : Nat) (u : Value) :
    Own (w.setCell ⟨g, k, none⟩ u) base E (some ⟨g, 0, none⟩) n c (xs.set k u) ∧ w.grownBy (w.setCell ⟨g, k, none⟩ u) (some g) :=
  ⟨⟨(h.1.stored k u).1, h.2⟩, (h.1.stored k u).2⟩
theorem Own.empty_ (w : World) {base : Nat} (E : Nat) (hb : base ≤ w.heap.size) : Own (w.alloc (.cells #[] E)) base E (some ⟨w.heap.size, 0, none⟩) 0 0 [] := ⟨World.ownsRow_made w #[] 0 hb (by simp [maxLen]) rfl, by omega⟩
theorem Own.nil_ (w : World) (base E : Nat) : Own w base E none 0 0 [] := ⟨World.ownsRow_nil w base E 1, by omega⟩
end

/-- what is owned and holds integers reads as them -/
theorem Own.ints {w : World} {base E : Nat} {ao : Option Addr} {n c : Nat} {zs : List Int} (h : Own w base E ao n c (zs.map (Value.int .i64))) : Ints w ao n zs := by
  have hl : zs.length = n := by have := h.len; simpa using this
  refine ⟨hl, by have := h.2; omega, fun hn => ?_⟩
  obtain ⟨g, rfl, _, _, _, hc, _⟩ := h.form hn
  refine ⟨g, 0, rfl, fun j hj => ?_⟩
  rw [Nat.zero_add, hc j hj, List.getElem?_map, List.getElem?_eq_getElem (by omega), iget_lt (by omega)]; rfl

/-- the row of the table of an element type of one cell -/
structure ET (P : Program) (S E : TypeId) (z : Value) (bytes : Nat) : Prop where
  und : P.underlying S = some (.slice E)
  info : (P.info? E).map (fun i => (i.zero, i.size, i.bytes)) = some (some z, 1, bytes)
  one : z.cells = #[z]
  small : bytes ≤ 32

theorem grown_of_below {w w' : World} (h : Below w.heap.size w w') (row : Option Nat) : w.grownBy w' row := ⟨h.os, h.tape, h.output, h.size, fun i hi _ => h.block i hi⟩
theorem grown_tr {a b c : World} {row : Option Nat} (h : a.grownBy b row) (k : b.grownBy c row) : a.grownBy c row :=
  ⟨k.os.trans h.os, k.tape.trans h.tape, k.output.trans h.output, Nat.le_trans h.size k.size, fun i hi hne => (k.block i (Nat.lt_of_lt_of_le hi h.size) hne).trans (h.block i hi hne)⟩
theorem below_drewN {B : Nat} {a w : World} (h : Below B a w) (n : Nat) : Below B a (w.drewN n) := ⟨h.os, h.tape, h.output, h.size, h.block⟩
theorem below_of_quiet {B : Nat} {w w' : World} (h : ∃ m, w' = w.drewN m) : Below B w w' := by
  obtain ⟨m, rfl⟩ := h; exact below_drewN (Below.refl _ _) m

theorem own_lit {w : World} {base E g : Nat} {us : List Value} (hg : w.heap.size = g) (hb : base ≤ w.heap.size) (hn : us.length ≤ 4398046511104) : Own (w.alloc (.cells us.toArray E)) base E (some ⟨g, 0, none⟩) us.length us.length us := by
  subst hg
  exact ⟨by simpa using World.ownsRow_lit (e := E) (size := 1) w us.toArray us.length hb (by simp [maxLen]; omega) (by simp), hn⟩

section
variable {P : Program} {ops : Array Oper} {rest : List Oper} {o : Oper} {a : Act} {Q : Exit → Act → World → Prop}

/-- make([]T, n) -/
theorem wpList_mk {S E : TypeId} {z : Value} {bytes : Nat} (et : ET P S E z bytes) (w : World) (hg : o.guard = none) (l c : Operand) (hop : o.op = Op.makeSlice S l c) (base : Nat)
    (kl kc : IntKind) (L C : Int) (n : Nat) (hl : a.eval l = .int kl L) (hc : a.eval c = .int kc C) (hL : L = (n : Int)) (hC : C = (n : Int)) (hn : n ≤ 4398046511104) (hb : base ≤ w.heap.size)
    (hK : ∀ w', Own w' base E (some ⟨w.heap.size, 0, none⟩) n n (List.replicate n z) → w.grownBy w' none → w'.heap.size = w.heap.size + 1 → wpList P ops Q rest (a.put o.dst (.slice (some ⟨w.heap.size, 0, none⟩) n n)) w') :
    wpList P ops Q (o :: rest) a w := by
  obtain ⟨i, hi, hz, hs, hby⟩ := info_parts et.info
  refine wpList_plain hg fun K hK' => ?_
  have hr := run_make (P := P) w S E i z et.und hi hz kl kc (n : Int) (n : Int) (by omega) (by omega) (by have := et.small; rw [hby]; have : (bytes : Int) * n ≤ 32 * n := Int.mul_le_mul_of_nonneg_right (by omega) (by omega); omega) (by omega)
  simp only [Int.toNat_natCast] at hr
  subst hL; subst hC
  unfold Oper.wp
  simp [execOp, hop, hl, hc, hr, Result.andThen]
  refine hK' _ _ (hK _ ⟨?_, hn⟩ (World.grownBy_alloc w _ none) (by simp))
  have := World.ownsRow_lit (e := E) (size := i.size) w (madeCells z.cells (n * i.size)) n hb (by simp [maxLen]; omega) (size_madeCells _ _)
  rw [hs, et.one, Nat.mul_one, toList_madeCells_one] at this
  rw [et.one, hs, Nat.mul_one]
  exact this

/-- append(s, x) of one element: x lies in a block of its own, just laid -/
theorem wpList_ap1 {S E : TypeId} {z : Value} {bytes : Nat} (et : ET P S E z bytes) (w : World) (hg : o.guard = none) (s x : Operand) (ho : o.op = .call { callee := .builtin .append, args := #[s, x], argTypes := #[S, S] })
    (base : Nat) (ao : Option Addr) (n c : Nat) (xs : List Value) (hs : a.eval s = .slice ao n c) (hown : Own w base E ao n c xs) (u : Value)
    (hx : a.eval x = .slice (some ⟨w.heap.size, 0, none⟩) 1 1) (hu : u.oneCell' = true) (hn : n + 1 ≤ 4398046511104) (hbase : base ≤ w.heap.size)
    (hK : ∀ ao' c' w', Own w' base E ao' (n + 1) c' (xs ++ [u]) → w.grownBy w' (bk ao) → (bk ao' = bk ao ∨ bk ao' = some (w.heap.size + 1)) → wpList P ops Q rest (a.put o.dst (.slice ao' (n + 1) c')) w') :
    wpList P ops Q (o :: rest) a (w.alloc (.cells #[u] E)) := by
  obtain ⟨i, hi, hz, hsz, hby⟩ := info_parts et.info
  refine wpList_append_own_at _ hg s x S ho base E i z 1 bytes et.und hi hz hsz hby (by rw [et.one]; rfl) (by omega) (.slice ao n c) n xs hs (hown.1.alloc _) ⟨w.heap.size, 0, none⟩ 1 1 [u] hx rfl (cell_one_new _ _ _)
    (by intro v hv; simp at hv; subst hv; exact hu) (by simp [maxLen]; omega) (by have := et.small; have : (n + 1) * bytes ≤ (n + 1) * 32 := Nat.mul_le_mul_left _ this; omega) (by simp; omega) ?_
  intro v' w' h1 h2 _ h4
  rw [ownBlock_slice] at h2 h4
  obtain ⟨g, cap, rfl, hb, hlt⟩ := h1.form (by omega)
  refine hK _ _ _ ⟨h1, hn⟩ (grown_tr (World.grownBy_alloc w _ _) h2) ?_
  rw [ownBlock_slice] at h4
  simpa using h4

/-- append(s, y...), y a slice whose cells hold news -/
theorem wpList_apV {S E : TypeId} {z : Value} {bytes : Nat} (et : ET P S E z bytes) (w : World) (hg : o.guard = none) (s x : Operand) (ho : o.op = .call { callee := .builtin .append, args := #[s, x], argTypes := #[S, S] })
    (base : Nat) (ao : Option Addr) (n c : Nat) (xs : List Value) (hs : a.eval s = .slice ao n c) (hown : Own w base E ao n c xs) (ad : Option Addr) (m mc : Nat) (news : List Value)
    (hx : a.eval x = .slice ad m mc) (hr : Vals w ad m news) (h1 : ∀ u ∈ news, u.oneCell' = true) (hn : n + m ≤ 4398046511104) (hbase : base ≤ w.heap.size)
    (hK : ∀ ao' c' w', Own w' base E ao' (n + m) c' (xs ++ news) → w.grownBy w' (bk ao) → (bk ao' = bk ao ∨ bk ao' = some w.heap.size) → wpList P ops Q rest (a.put o.dst (.slice ao' (n + m) c')) w') :
    wpList P ops Q (o :: rest) a w := by
  obtain ⟨i, hi, hz, hsz, hby⟩ := info_parts et.info
  rcases Nat.eq_zero_or_pos m with h0 | h0
  · subst h0
    have hz0 : news = [] := List.eq_nil_of_length_eq_zero hr.1
    subst hz0
    cases ad with
    | none =>
      have hrun : (Builtin.append_ #[S, S] o.type #[.slice ao n c, .slice none 0 mc]).run P w = .ok (.slice ao n c) w := by
        rcases hown.1.2 with ⟨hv, rfl⟩ | ⟨g, cap, cur, hv, _, _, hnc, _⟩
        · rw [hv]; simp [Builtin.append_, run_underlying et.und, sizeOf, typeInfo, hi, Builtin.lenOf, Builtin.firstCells]
        · rw [hv]; simp [Builtin.append_, run_underlying et.und, sizeOf, typeInfo, hi, Builtin.lenOf, Builtin.firstCells, hnc, storeCells]
      refine wpList_plain hg fun K hK' => ?_
      unfold Oper.wp execOp
      simp only [ho, resolve, invoke, builtin, Sem.run_bind, Sem.run_pure, Result.andThen_ok, List.map_toArray, List.map_cons, List.map_nil, hs, hx, hrun]
      exact hK' _ _ (hK ao c w (by simpa using hown) (World.grownBy.refl w _) (.inl rfl))
    | some ad =>
      refine wpList_append_own_at _ hg s x S ho base E i z 1 bytes et.und hi hz hsz hby (by rw [et.one]; rfl) (by omega) (.slice ao n c) n xs hs hown.1 ad 0 mc [] hx rfl (by intro j u hu; simp at hu)
        (by intro v hv; simp at hv) (by simp [maxLen]; omega) (by have := et.small; have : (n + 0) * bytes ≤ (n + 0) * 32 := Nat.mul_le_mul_left _ this; omega) hbase ?_
      intro v' w' h1 h2 h3 h4
      rw [ownBlock_slice] at h2 h4
      rcases h1.2 with ⟨rfl, hn0⟩ | ⟨g, cap, cur, rfl, _, _, _, _⟩
      · have h5 := h3.1 rfl
        obtain ⟨h5, _⟩ := h5
        injection h5 with h5 h6 h7
        subst h5 h6 h7
        exact hK none 0 w' ⟨by simpa using h1, by omega⟩ h2 (.inl rfl)
      · refine hK _ _ _ ⟨by simpa using h1, hn⟩ h2 ?_
        rw [ownBlock_slice] at h4; exact h4
  · obtain ⟨b, off, rfl, hc⟩ := hr.2.2 h0
    have hl := hr.1
    refine wpList_append_own_at _ hg s x S ho base E i z 1 bytes et.und hi hz hsz hby (by rw [et.one]; rfl) (by omega) (.slice ao n c) n xs hs hown.1 ⟨b, off, none⟩ m mc news hx (by simp [hl])
      (by
        intro j u hu
        rw [Addr.add_lit]; exact hc j u hu)
      h1 (by simp [maxLen]; omega) (by have := et.small; have : (n + m) * bytes ≤ (n + m) * 32 := Nat.mul_le_mul_left _ this; omega) hbase ?_
    intro v' w' h1 h2 _ h4
    rw [ownBlock_slice] at h2 h4
    obtain ⟨g, cap, rfl, hb, hlt⟩ := h1.form (by omega)
    refine hK _ _ _ ⟨h1, hn⟩ h2 ?_
    rw [ownBlock_slice] at h4
    simpa using h4
/-- append(s, y...), y a slice that reads as integers -/
theorem wpList_apN {S E : TypeId} {z : Value} {bytes : Nat} (et : ET P S E z bytes) (w : World) (hg : o.guard = none) (s x : Operand) (ho : o.op = .call { callee := .builtin .append, args := #[s, x], argTypes := #[S, S] })
    (base : Nat) (ao : Option Addr) (n c : Nat) (xs : List Value) (hs : a.eval s = .slice ao n c) (hown : Own w base E ao n c xs) (ad : Option Addr) (m mc : Nat) (zs : List Int)
    (hx : a.eval x = .slice ad m mc) (hr : Ints w ad m zs) (hn : n + m ≤ 4398046511104) (hbase : base ≤ w.heap.size)
    (hK : ∀ ao' c' w', Own w' base E ao' (n + m) c' (xs ++ zs.map (Value.int .i64)) → w.grownBy w' (bk ao) → (bk ao' = bk ao ∨ bk ao' = some w.heap.size) → wpList P ops Q rest (a.put o.dst (.slice ao' (n + m) c')) w') :
    wpList P ops Q (o :: rest) a w :=
  wpList_apV et w hg s x ho base ao n c xs hs hown ad m mc (zs.map (Value.int .i64)) hx hr.vals (ints_oneCell _ _) hn hbase hK
end

/-- only blocks from lo to below hi, and new ones, may have turned -/
structure Only (lo hi : Nat) (w w' : World) : Prop where
  os : w'.os = w.os
  tape : w'.tape = w.tape
  output : w'.output = w.output
  size : w.heap.size ≤ w'.heap.size
  block : ∀ k, k < w.heap.size → (k < lo ∨ hi ≤ k) → w'.heap[k]? = w.heap[k]?
theorem Only.below {lo hi : Nat} {w w' : World} (h : Only lo hi w w') {B : Nat} (hB : B ≤ lo) (hw : B ≤ w.heap.size) : Below B w w' := ⟨h.os, h.tape, h.output, h.size, fun k hk => h.block k (by omega) (.inl (by omega))⟩
theorem Only.of_grown {lo hi : Nat} {w w' : World} {row : Option Nat} (h : w.grownBy w' row) (hr : ∀ g, row = some g → lo ≤ g ∧ g < hi) : Only lo hi w w' :=
  ⟨h.os, h.tape, h.output, h.size, fun k hk hd => h.block k hk (fun e => by have := hr k e.symm; omega)⟩
theorem Only.refl (lo hi : Nat) (w : World) : Only lo hi w w := ⟨rfl, rfl, rfl, Nat.le_refl _, fun _ _ _ => rfl⟩
theorem Only.trans {lo hi : Nat} {a b c : World} (h : Only lo hi a b) (k : Only lo hi b c) : Only lo hi a c :=
  ⟨k.os.trans h.os, k.tape.trans h.tape, k.output.trans h.output, Nat.le_trans h.size k.size, fun i hi hd => (k.block i (Nat.lt_of_lt_of_le hi h.size) hd).trans (h.block i hi hd)⟩
theorem Own.only {w w' : World} {base E : Nat} {ao : Option Addr} {n c : Nat} {xs : List Value} {lo hi lo' hi' : Nat} (h : Own w base E ao n c xs) (ho : Only lo hi w w') (hl : ∀ g, bk ao = some g → lo' ≤ g ∧ g < hi') (hd : hi' ≤ lo ∨ hi ≤ lo') : Own w' base E ao n c xs :=
  h.same fun g hg => ho.block g (h.lt g hg).2 (by have := hl g hg; omega)

theorem ret_int {k : IntKind} {a b : Int} (h : a = b) : Ending.returned (.int k a) = .returned (.int k b) := by rw [h]
theorem ret_bool {a b : Bool} (h : a = b) : Ending.returned (.bool a) = .returned (.bool b) := by rw [h]
end Go.Proofs.YtljimlejcecleaaDoor

/- From a walk to the row: what 'post' asks where below the old heap nothing has turned; arguments opened to the words of Base. -/
namespace Go.Proofs.YtljimlejcecleaaDoor
open Go.ChangeShapes Go.WideShapes Go.ChangeAt Go.RowKit Go.Deep

section
variable {H : Type} {enc : TypeId × Value → H} {P : Program}
theorem post_of_below {f : Func} {s : ChangeSpec} {apart fresh handsOn again : Bool} {W W' : World} {args : Array Value} {v : Value} {ds gs : List (DataW H)} {before pa pv : List MemPlace}
    (hW : DataW.Whole enc P f.params.toList s.vars apart W args.toList ds gs before)
    (hres : ∀ (b : Nat) (sp : Nat → Bool) (hd : Bool), DataW.TrodAll enc P W' b sp hd f.resultTypes.toList (v.resultList f.resultTypes.size) (s.fn H (ds ++ gs)).results [])
    (hargs : ∀ sp : Nat → Bool, (∀ p ∈ before, sp p.block = true) → DataW.TrodAll enc P W' 0 sp true f.params.toList args.toList (s.fn H (ds ++ gs)).args pa)
    (hvars : ∀ sp : Nat → Bool, (∀ p ∈ before, sp p.block = true) → DataW.TrodVars enc P W' sp s.vars (s.fn H (ds ++ gs)).vars pv)
    (hps : before = pa ++ pv) (hb : Below W.heap.size W W')
    (hok : ∀ (j : Nat) (t : TypeId) (r : Value), f.resultTypes[j]? = some t → (v.resultList f.resultTypes.size)[j]? = some r → Value.okWide P W' .any 0 t r) :
    s.post enc P f apart fresh handsOn again W args v W' := by
  have hlt : ∀ p ∈ before, p.block < W.heap.size := fun p hp => hW.lt p hp
  have hold : ∀ p ∈ before, (fun b => decide (b < W.heap.size)) p.block = true := fun p hp => by simpa using hlt p hp
  refine ⟨ds, gs, before, [], pa, pv, hW, hres _ _ _, hargs _ hold, hvars _ hold, World.keptBut_mono (fun p hp => ⟨hp, ?_⟩) (hb.frame (· ∈ before)), fun _ => ?_⟩
  · rw [hps, List.mem_append] at hp
    exact Or.inr hp
  · obtain ⟨_, _, _, _, _, hz, hn⟩ := hW
    refine ⟨hok, _, _, ([] ++ pa) ++ pv, ⟨[] ++ pa, pv, trodAll_append (hargs _ (fun _ _ => rfl)) (hres _ _ _), hvars _ (fun _ _ => rfl), rfl, ?_, ?_⟩, ?_⟩
    · intro b off hp
      have hin : MemPlace.cell b off ∈ before := by rw [hps]; simpa using hp
      rw [hb.frozen (hlt _ hin)]
      exact hz b off hin
    · intro ha
      have := hn ha
      rw [hps] at this
      simpa using this
    · intro p hp _
      rw [hps]
      simpa using hp

/-- all arguments read behind the call as before it -/
theorem trodAll_stays (hl : laidOutB P = true) {W W' : World} (hb : Below W.heap.size W W') {sp : Nat → Bool} : ∀ (ts : List TypeId) (vs : List Value) (ds : List (DataW H)) (ps : List MemPlace),
    (∀ t ∈ ts, P.readableRec t = true ∧ t < P.types.size) → (∀ p ∈ ps, p.block < W.heap.size) → (∀ p ∈ ps, sp p.block = true) →
    DataW.TrodAll enc P W 0 (fun _ => true) true ts vs ds ps → DataW.TrodAll enc P W' 0 sp true ts vs ds ps
  | [], vs, ds, ps, _, _, _, h => by
    obtain ⟨rfl, rfl, rfl⟩ := trodAll_nil h
    exact trodAll_mk0
  | t :: ts, vs, ds, ps, ht, hlt, hsp, h => by
    obtain ⟨v, vs', d, ds', p, q, rfl, rfl, rfl, h0, r0⟩ := trodAll_cons h
    exact trodAll_cons_mk (WideElems.Trod_stays hl (ht t (by simp)).1 (ht t (by simp)).2 h0 (fun x hx => hb.same (hlt x (by simp [hx]))) (fun x hx => hsp x (by simp [hx])))
      (trodAll_stays hl hb ts vs' ds' q (fun t' h' => ht t' (by simp [h'])) (fun p' hp => hlt p' (by simp [hp])) (fun p' hp => hsp p' (by simp [hp])) r0)

end
end Go.Proofs.YtljimlejcecleaaDoor

/- Words for slices whose elements are slices: rows that are read, rows that a call owns, all in blocks of their own. No program in sight. -/
namespace Go.Proofs.YtljimlejcecleaaDoor
open Go.RowKit

/-- the block of a value, if it has one, lies from lo to below hi -/
def In (lo hi : Nat) (u : Value) : Prop := ∀ g, u.ownBlock = some g → lo ≤ g ∧ g < hi
theorem In.mono {lo hi lo' hi' : Nat} {u : Value} (h : In lo hi u) (h1 : lo' ≤ lo) (h2 : hi ≤ hi') : In lo' hi' u := fun g hg => by have := h g hg; omega
theorem in_slice {lo hi : Nat} {ao : Option Addr} {n c : Nat} (h : ∀ g, bk ao = some g → lo ≤ g ∧ g < hi) : In lo hi (.slice ao n c) := fun g hg => h g (by rw [ownBlock_slice] at hg; exact hg)

/-- an element's predicate looks at the element's own block alone -/
structure Inner {D : Type} (Ow1 : World → Value → D → Prop) : Prop where
  loc : ∀ {w w' u d}, Ow1 w u d → (∀ g, u.ownBlock = some g → w'.heap[g]? = w.heap[g]?) → Ow1 w' u d
  lt : ∀ {w u d}, Ow1 w u d → ∀ g, u.ownBlock = some g → g < w.heap.size
  one : ∀ {w u d}, Ow1 w u d → u.oneCell' = true

/-- the slice at ao, of n elements us, is a row of the call's own; each element u owns d in a block of its own; all blocks lie from lo to below hi and are different -/
structure OwR {D : Type} (Ow1 : World → Value → D → Prop) (w : World) (lo hi E : Nat) (ao : Option Addr) (n c : Nat) (us : List Value) (ds : List D) : Prop where
  own : Own w lo E ao n c us
  top : ∀ g, bk ao = some g → g < hi
  len : ds.length = n
  el : ∀ (j : Nat) (u : Value) (d : D), us[j]? = some u → ds[j]? = some d → Ow1 w u d
  rng : ∀ (j : Nat) (u : Value), us[j]? = some u → In lo hi u
  out : ∀ (j : Nat) (u : Value) (g : Nat), us[j]? = some u → u.ownBlock = some g → bk ao ≠ some g
  apart : ∀ (i j : Nat) (u u' : Value) (g : Nat), i ≠ j → us[i]? = some u → us[j]? = some u' → u.ownBlock = some g → u'.ownBlock ≠ some g

section
variable {D : Type} {Ow1 : World → Value → D → Prop} {w w' : World} {lo hi E : Nat} {ao : Option Addr} {n c : Nat} {us : List Value} {ds : List D}

theorem OwR.ulen (h : OwR Ow1 w lo hi E ao n c us ds) : us.length = n := h.own.len
theorem OwR.get (h : OwR Ow1 w lo hi E ao n c us ds) {j : Nat} (hj : j < n) : ∃ u d, us[j]? = some u ∧ ds[j]? = some d ∧ Ow1 w u d ∧ In lo hi u :=
  have h1 : j < us.length := by rw [h.ulen]; exact hj
  have h2 : j < ds.length := by rw [h.len]; exact hj
  ⟨us[j], ds[j], List.getElem?_eq_getElem h1, List.getElem?_eq_getElem h2, h.el j _ _ (List.getElem?_eq_getElem h1) (List.getElem?_eq_getElem h2), h.rng j _ (List.getElem?_eq_getElem h1)⟩

/-- nothing in the range has turned -/
theorem OwR.same (I : Inner Ow1) (h : OwR Ow1 w lo hi E ao n c us ds) (hs : ∀ g, lo ≤ g → g < hi → g < w.heap.size → w'.heap[g]? = w.heap[g]?) : OwR Ow1 w' lo hi E ao n c us ds :=
  { own := h.own.same fun g hg => hs g (h.own.lt g hg).1 (h.top g hg) (h.own.lt g hg).2
    top := h.top, len := h.len, rng := h.rng, out := h.out, apart := h.apart
    el := fun j u d hu hd => I.loc (h.el j u d hu hd) fun g hg => hs g (h.rng j u hu g hg).1 (h.rng j u hu g hg).2 (I.lt (h.el j u d hu hd) g hg) }
theorem OwR.below (I : Inner Ow1) (h : OwR Ow1 w lo hi E ao n c us ds) (hb : Below w.heap.size w w') : OwR Ow1 w' lo hi E ao n c us ds := h.same I fun g _ _ hg => hb.block g hg
theorem OwR.only (I : Inner Ow1) (h : OwR Ow1 w lo hi E ao n c us ds) {l k : Nat} (ho : Only l k w w') (hd : hi ≤ l ∨ k ≤ lo) : OwR Ow1 w' lo hi E ao n c us ds :=
  h.same I fun g h1 h2 hg => ho.block g hg (by omega)
theorem OwR.mono (h : OwR Ow1 w lo hi E ao n c us ds) {lo' hi' : Nat} (h1 : lo' ≤ lo) (h2 : hi ≤ hi') : OwR Ow1 w lo' hi' E ao n c us ds :=
  { own := h.own.mono h1, top := fun g hg => Nat.lt_of_lt_of_le (h.top g hg) h2, len := h.len, el := h.el, out := h.out, apart := h.apart
    rng := fun j u hu => (h.rng j u hu).mono h1 h2 }

/-- an element's own block has been written (and new ones laid): element j is now d' -/
theorem OwR.upd (I : Inner Ow1) (h : OwR Ow1 w lo hi E ao n c us ds) {j : Nat} {u : Value} {d' : D} (hu : us[j]? = some u) (hg : w.grownBy w' u.ownBlock) (h' : Ow1 w' u d') : OwR Ow1 w' lo hi E ao n c us (ds.set j d') := by
  refine { own := h.own.kept hg ?_, top := h.top, len := by rw [List.length_set]; exact h.len, rng := h.rng, out := h.out, apart := h.apart, el := ?_ }
  · cases hb : u.ownBlock with
    | none => exact (Option.eq_none_or_eq_some (bk ao)).imp id (fun ⟨g, e⟩ => by rw [e]; simp)
    | some g => exact .inr (h.out j u g hu hb)
  · intro i v d hv hd
    by_cases hij : j = i
    · subst hij
      rw [hu] at hv
      obtain rfl := Option.some.inj hv
      rw [List.getElem?_set_self'] at hd
      cases hdd : ds[j]? with
      | none => rw [hdd] at hd; cases hd
      | some x => rw [hdd] at hd; simp at hd; subst hd; exact h'
    · rw [List.getElem?_set_ne hij] at hd
      refine I.loc (h.el i v d hv hd) fun g hgg => hg.block g (I.lt (h.el i v d hv hd) g hgg) fun e => ?_
      exact h.apart i j v u g (fun e => hij e.symm) hv hu hgg e.symm

/-- element j is replaced: u' is new or in the block of the old one -/
theorem OwR.put (I : Inner Ow1) {g0 : Nat} (h : OwR Ow1 w lo hi E (some ⟨g0, 0, none⟩) n c us ds) {j : Nat} {u u' : Value} {d' : D} (hu : us[j]? = some u) (hg : w.grownBy w' u.ownBlock) (h' : Ow1 w' u' d')
    (hnew : u'.ownBlock = none ∨ u'.ownBlock = u.ownBlock ∨ ∃ g, u'.ownBlock = some g ∧ w.heap.size ≤ g) (hhi : hi ≤ w.heap.size) (hlo : lo ≤ w.heap.size) :
    OwR Ow1 (w'.setCell ⟨g0, j, none⟩ u') lo w'.heap.size E (some ⟨g0, 0, none⟩) n c (us.set j u') (ds.set j d') := by
  have hjl : j < us.length := (List.getElem?_eq_some_iff.1 hu).1
  have hown : Own w' lo E (some ⟨g0, 0, none⟩) n c us := h.own.kept hg (by
    cases hb : u.ownBlock with
    | none => exact .inr (by simp [bk])
    | some g => exact .inr (h.out j u g hu hb))
  have hlt' : ∀ g, u'.ownBlock = some g → g ≠ g0 := by
    intro g hgg e
    subst e
    rcases hnew with hn | hn | ⟨g', hn, hge⟩
    · rw [hn] at hgg; cases hgg
    · rw [hn] at hgg; exact h.out j u g hu hgg rfl
    · rw [hn] at hgg; obtain rfl := Option.some.inj hgg
      have := (h.own.lt g' rfl).2
      omega
  have hset : ∀ g, g ≠ g0 → (w'.setCell ⟨g0, j, none⟩ u').heap[g]? = w'.heap[g]? := fun g hne => Below.heap_setCell _ _ _ _ hne
  have hsz := hg.size
  refine { own := (hown.stored j u').1, top := fun g hgg => Nat.lt_of_lt_of_le (h.top g hgg) (Nat.le_trans hhi hsz), len := by rw [List.length_set]; exact h.len, el := ?_, rng := ?_, out := ?_, apart := ?_ }
  · intro i v d hv hd
    by_cases hij : j = i
    · subst hij
      rw [List.getElem?_set_self hjl] at hv
      obtain rfl := Option.some.inj hv
      rw [List.getElem?_set_self'] at hd
      cases hdd : ds[j]? with
      | none => rw [hdd] at hd; cases hd
      | some x =>
        rw [hdd] at hd; simp at hd; subst hd
        exact I.loc h' fun g hgg => hset g (hlt' g hgg)
    · rw [List.getElem?_set_ne hij] at hd hv
      have h1 : Ow1 w' v d := I.loc (h.el i v d hv hd) fun g hgg => hg.block g (I.lt (h.el i v d hv hd) g hgg) fun e => h.apart i j v u g (fun e => hij e.symm) hv hu hgg e.symm
      exact I.loc h1 fun g hgg => hset g fun e => by subst e; exact h.out i v g hv hgg rfl
  · intro i v hv
    by_cases hij : j = i
    · subst hij
      rw [List.getElem?_set_self hjl] at hv
      obtain rfl := Option.some.inj hv
      intro g hgg
      refine ⟨?_, I.lt h' g hgg⟩
      rcases hnew with hn | hn | ⟨g', hn, hge⟩
      · rw [hn] at hgg; cases hgg
      · rw [hn] at hgg; exact (h.rng j u hu g hgg).1
      · rw [hn] at hgg; obtain rfl := Option.some.inj hgg; omega
    · rw [List.getElem?_set_ne hij] at hv
      exact (h.rng i v hv).mono (Nat.le_refl _) (Nat.le_trans hhi hsz)
  · intro i v g hv hgg
    by_cases hij : j = i
    · subst hij
      rw [List.getElem?_set_self hjl] at hv
      obtain rfl := Option.some.inj hv
      intro e
      exact hlt' g hgg (Option.some.inj e).symm
    · rw [List.getElem?_set_ne hij] at hv
      exact h.out i v g hv hgg
  · intro i k v v' g hik hv hv' hgg
    have key : ∀ x vx, j ≠ x → us[x]? = some vx → ∀ g, u'.ownBlock = some g → vx.ownBlock ≠ some g := by
      intro x vx hx hvx g hgg' e
      rcases hnew with hn | hn | ⟨g', hn, hge⟩
      · rw [hn] at hgg'; cases hgg'
      · rw [hn] at hgg'; exact h.apart j x u vx g hx hu hvx hgg' e
      · rw [hn] at hgg'; obtain rfl := Option.some.inj hgg'
        have := (h.rng x vx hvx g' e).2
        omega
    by_cases hi' : j = i
    · subst hi'
      rw [List.getElem?_set_self hjl] at hv
      obtain rfl := Option.some.inj hv
      rw [List.getElem?_set_ne hik] at hv'
      exact key k v' hik hv' g hgg
    · rw [List.getElem?_set_ne hi'] at hv
      by_cases hk' : j = k
      · subst hk'
        rw [List.getElem?_set_self hjl] at hv'
        obtain rfl := Option.some.inj hv'
        exact fun e => key i v hi' hv g e hgg
      · rw [List.getElem?_set_ne hk'] at hv'
        exact h.apart i k v v' g hik hv hv' hgg

theorem OwR.empty_ (h : Own w lo E ao 0 c []) (hhi : ∀ g, bk ao = some g → g < hi) : OwR Ow1 w lo hi E ao 0 c [] [] :=
  { own := h, top := hhi, len := rfl, el := fun j u d hj _ => by simp at hj, rng := fun j u hj => by simp at hj, out := fun j u g hj => by simp at hj, apart := fun i j u u' g _ hi => by simp at hi }

/-- one element more: u is in a block of its own -/
theorem OwR.push (I : Inner Ow1) (h : OwR Ow1 w lo hi E ao n c us ds) {ao' : Option Addr} {c' hi' : Nat} {u : Value} {d : D} (hown : Own w' lo E ao' (n + 1) c' (us ++ [u])) (hg : w.grownBy w' (bk ao)) (hu : Ow1 w' u d) (hur : In lo hi' u)
    (hao : ∀ g, bk ao' = some g → g < hi') (hhi : hi ≤ hi') (hnew : ∀ g, bk ao' = some g → (bk ao = some g ∨ ∀ (j : Nat) (u : Value), us[j]? = some u → u.ownBlock ≠ some g))
    (hua : ∀ g, u.ownBlock = some g → bk ao' ≠ some g ∧ ∀ (j : Nat) (v : Value), us[j]? = some v → v.ownBlock ≠ some g) : OwR Ow1 w' lo hi' E ao' (n + 1) c' (us ++ [u]) (ds ++ [d]) := by
  have hul : us.length = n := h.ulen
  have split1 : ∀ {j v}, (us ++ [u])[j]? = some v → (us[j]? = some v ∧ j < n) ∨ (j = n ∧ v = u) := by
    intro j v hj
    rw [List.getElem?_append] at hj
    split at hj
    · exact .inl ⟨hj, by omega⟩
    · rw [hul] at hj
      cases hjn : j - n with
      | zero => rw [hjn] at hj; simp at hj; exact .inr ⟨by omega, hj.symm⟩
      | succ k => rw [hjn] at hj; simp at hj
  refine { own := hown, top := hao, len := by rw [List.length_append, h.len]; rfl, el := ?_, rng := ?_, out := ?_, apart := ?_ }
  · intro j v x hv hx
    rcases split1 hv with ⟨h1, hj⟩ | ⟨rfl, rfl⟩
    · rw [List.getElem?_append_left (by rw [h.len]; exact hj)] at hx
      refine I.loc (h.el j v x h1 hx) fun g hgg => hg.block g (I.lt (h.el j v x h1 hx) g hgg) fun e => h.out j v g h1 hgg e.symm
    · rw [List.getElem?_append_right (by rw [h.len]; exact Nat.le_refl _), h.len, Nat.sub_self] at hx
      simp at hx; subst hx; exact hu
  · intro j v hv
    rcases split1 hv with ⟨h1, hj⟩ | ⟨rfl, rfl⟩
    · exact (h.rng j v h1).mono (Nat.le_refl _) hhi
    · exact hur
  · intro j v g hv hgg
    rcases split1 hv with ⟨h1, hj⟩ | ⟨rfl, rfl⟩
    · intro e
      rcases hnew g e with h2 | h2
      · exact h.out j v g h1 hgg h2
      · exact h2 j v h1 hgg
    · exact (hua g hgg).1
  · intro i j v v' g hij hv hv' hgg
    rcases split1 hv with ⟨h1, hi1⟩ | ⟨rfl, rfl⟩
    · rcases split1 hv' with ⟨h2, hj1⟩ | ⟨rfl, rfl⟩
      · exact h.apart i j v v' g hij h1 h2 hgg
      · exact fun e => (hua g e).2 i v h1 hgg
    · rcases split1 hv' with ⟨h2, hj1⟩ | ⟨rfl, _⟩
      · exact (hua g hgg).2 j v' h2
      · exact absurd rfl hij

/-- a row that is written out: u0, u1, .. are owned already, in blocks of their own -/
theorem OwR.lit (I : Inner Ow1) (hlo : lo ≤ w.heap.size) (hhi : hi ≤ w.heap.size) (hl : us.length = n) (hd : ds.length = n) (hn : n ≤ 4398046511104) (hel : ∀ (j : Nat) (u : Value) (d : D), us[j]? = some u → ds[j]? = some d → Ow1 w u d) (hr : ∀ (j : Nat) (u : Value), us[j]? = some u → In lo hi u)
    (ha : ∀ (i j : Nat) (u u' : Value) (g : Nat), i ≠ j → us[i]? = some u → us[j]? = some u' → u.ownBlock = some g → u'.ownBlock ≠ some g) :
    OwR Ow1 (w.alloc (.cells us.toArray E)) lo (w.heap.size + 1) E (some ⟨w.heap.size, 0, none⟩) n n us ds :=
  { own := ⟨by simpa using World.ownsRow_lit (e := E) (size := 1) w us.toArray n hlo (by simp [maxLen]; omega) (by simpa using hl), hn⟩
    top := fun g hg => by simp [bk] at hg; omega
    len := hd
    el := fun j u d hu hdd => I.loc (hel j u d hu hdd) fun g hg => Below.heap_alloc w _ g (I.lt (hel j u d hu hdd) g hg)
    rng := fun j u hu => (hr j u hu).mono (Nat.le_refl _) (by omega)
    out := fun j u g hu hg e => by
      have := (hr j u hu g hg).2
      simp [bk] at e
      omega
    apart := ha }
/-- the cell of element j -/
theorem OwR.cell {g0 : Nat} (h : OwR Ow1 w lo hi E (some ⟨g0, 0, none⟩) n c us ds) {j : Nat} {u : Value} (hu : us[j]? = some u) : w.cell? ⟨g0, j, none⟩ = some u := by
  have hj : j < n := by have := (List.getElem?_eq_some_iff.1 hu).1; rw [h.ulen] at this; exact this
  obtain ⟨g', hg, _, _, _, hc, _⟩ := h.own.form (by omega)
  obtain rfl : g0 = g' := by injection hg with hg; injection hg
  rw [hc j hj, hu]
end

/-- element k of a list of lists, the empty one behind its end; closed to simp -/
def lget {α : Type} (zss : List (List α)) (k : Nat) : List α := zss.getD k []
theorem lget_lt {α : Type} {zss : List (List α)} {k : Nat} (h : k < zss.length) : lget zss k = zss[k] := by simp [lget, h]
theorem lget_get? {α : Type} {zss : List (List α)} {k : Nat} {z : List α} (h : zss[k]? = some z) : lget zss k = z := by simp [lget, h]
theorem get?_lget {α : Type} {zss : List (List α)} {k : Nat} (h : k < zss.length) : zss[k]? = some (lget zss k) := by rw [lget_lt h, List.getElem?_eq_getElem h]
theorem take_lget {α : Type} {zss : List (List α)} {k : Nat} (h : k < zss.length) : zss.take (k + 1) = zss.take k ++ [lget zss k] := by rw [List.take_succ_eq_append_getElem h, lget_lt h]
theorem drop_lget {α : Type} {zss : List (List α)} {k : Nat} (h : k < zss.length) : zss.drop k = lget zss k :: zss.drop (k + 1) := by rw [List.drop_eq_getElem_cons h, lget_lt h]
theorem lget_mem {α : Type} {zss : List (List α)} {k : Nat} (h : k < zss.length) : lget zss k ∈ zss := by rw [lget_lt h]; exact List.getElem_mem h

/-- v is a slice that reads as integers -/
def RdS (w : World) (v : Value) (zs : List Int) : Prop := ∃ ao n c, v = .slice ao n c ∧ Ints w ao n zs
/-- v is a slice that owns its integers -/
def OwS (E : Nat) (w : World) (v : Value) (zs : List Int) : Prop := ∃ ao n c, v = .slice ao n c ∧ Own w 0 E ao n c (zs.map (Value.int .i64))
theorem OwS.rd {E : Nat} {w : World} {v : Value} {zs : List Int} (h : OwS E w v zs) : RdS w v zs := by
  obtain ⟨ao, n, c, rfl, ho⟩ := h
  exact ⟨ao, n, c, rfl, ho.ints⟩
theorem innerS (E : Nat) : Inner (OwS E) :=
  { loc := fun {w w' u d} h hs => by
      obtain ⟨ao, n, c, rfl, ho⟩ := h
      exact ⟨ao, n, c, rfl, ho.same fun g hg => hs g (by rw [ownBlock_slice]; exact hg)⟩
    lt := fun {w u d} h g hg => by
      obtain ⟨ao, n, c, rfl, ho⟩ := h
      rw [ownBlock_slice] at hg
      exact (ho.lt g hg).2
    one := fun {w u d} h => by obtain ⟨ao, n, c, rfl, _⟩ := h; rfl }
theorem RdS.below {w w' : World} {v : Value} {zs : List Int} (h : RdS w v zs) (hb : Below w.heap.size w w') : RdS w' v zs := by
  obtain ⟨ao, n, c, rfl, hi⟩ := h
  exact ⟨ao, n, c, rfl, hi.below hb⟩

/-- the slice at ao, of n slices of integers, reads as zss -/
def Intss (w : World) (ao : Option Addr) (n : Nat) (zss : List (List Int)) : Prop :=
  zss.length = n ∧ n ≤ 17592186044416 ∧ (0 < n → ∃ b off, ao = some ⟨b, off, none⟩ ∧ ∀ j, j < n → ∃ u, w.cell? ⟨b, off + j, none⟩ = some u ∧ RdS w u (lget zss j))
theorem Intss.at_ {w : World} {ao : Option Addr} {n : Nat} {zss : List (List Int)} (h : Intss w ao n zss) {k : Nat} (hk : k < n) :
    ∃ b off a' n' c', ao = some ⟨b, off, none⟩ ∧ w.cell? ⟨b, off + k, none⟩ = some (.slice a' n' c') ∧ Ints w a' n' (lget zss k) := by
  obtain ⟨b, off, e, hc⟩ := h.2.2 (by omega)
  obtain ⟨u, h1, a', n', c', rfl, h2⟩ := hc k hk
  exact ⟨b, off, a', n', c', e, h1, h2⟩
theorem Intss.drewN {w : World} {ao : Option Addr} {n : Nat} {zss : List (List Int)} (h : Intss w ao n zss) (m : Nat) : Intss (w.drewN m) ao n zss := h
theorem Intss.below {w w' : World} {ao : Option Addr} {n : Nat} {zss : List (List Int)} (h : Intss w ao n zss) (hb : Below w.heap.size w w') : Intss w' ao n zss := by
  refine ⟨h.1, h.2.1, fun hn => ?_⟩
  obtain ⟨b, off, rfl, hc⟩ := h.2.2 hn
  refine ⟨b, off, rfl, fun j hj => ?_⟩
  obtain ⟨u, h1, h2⟩ := hc j hj
  exact ⟨u, (hb.cell (p := ⟨b, off + j, none⟩) (World.block_lt_of_cell? w _ h1)).trans h1, h2.below hb⟩
theorem Intss.nil_ (w : World) (ao : Option Addr) : Intss w ao 0 [] := ⟨rfl, by omega, fun h => absurd h (by omega)⟩
theorem OwR.intss {E1 : Nat} {w : World} {lo hi E : Nat} {ao : Option Addr} {n c : Nat} {us : List Value} {zss : List (List Int)} (h : OwR (OwS E1) w lo hi E ao n c us zss) : Intss w ao n zss := by
  refine ⟨h.len, by have := h.own.2; omega, fun hn => ?_⟩
  obtain ⟨g, rfl, _, _, _, _, _⟩ := h.own.form hn
  refine ⟨g, 0, rfl, fun j hj => ?_⟩
  obtain ⟨u, d, hu, hd, h1, _⟩ := h.get hj
  refine ⟨u, by rw [Nat.zero_add]; exact h.cell hu, ?_⟩
  rw [lget_get? hd]; exact h1.rd

/-- v is a slice that reads as lists of integers -/
def RdSS (w : World) (v : Value) (zss : List (List Int)) : Prop := ∃ ao n c, v = .slice ao n c ∧ Intss w ao n zss
/-- v is a slice that owns its lists of integers, in blocks from lo to below hi -/
def OwSS (E1 E : Nat) (w : World) (lo hi : Nat) (v : Value) (zss : List (List Int)) : Prop := ∃ ao n c us, v = .slice ao n c ∧ OwR (OwS E1) w lo hi E ao n c us zss
theorem OwSS.rd {E1 E : Nat} {w : World} {lo hi : Nat} {v : Value} {zss : List (List Int)} (h : OwSS E1 E w lo hi v zss) : RdSS w v zss := by
  obtain ⟨ao, n, c, us, rfl, ho⟩ := h
  exact ⟨ao, n, c, rfl, ho.intss⟩
theorem OwSS.below {E1 E : Nat} {w w' : World} {lo hi : Nat} {v : Value} {zss : List (List Int)} (h : OwSS E1 E w lo hi v zss) (hb : Below w.heap.size w w') : OwSS E1 E w' lo hi v zss := by
  obtain ⟨ao, n, c, us, rfl, ho⟩ := h
  exact ⟨ao, n, c, us, rfl, ho.below (innerS E1) hb⟩
theorem OwSS.only {E1 E : Nat} {w w' : World} {lo hi : Nat} {v : Value} {zss : List (List Int)} (h : OwSS E1 E w lo hi v zss) {l k : Nat} (ho : Only l k w w') (hd : hi ≤ l ∨ k ≤ lo) : OwSS E1 E w' lo hi v zss := by
  obtain ⟨ao, n, c, us, rfl, h1⟩ := h
  exact ⟨ao, n, c, us, rfl, h1.only (innerS E1) ho hd⟩
theorem OwSS.mono {E1 E : Nat} {w : World} {lo hi lo' hi' : Nat} {v : Value} {zss : List (List Int)} (h : OwSS E1 E w lo hi v zss) (h1 : lo' ≤ lo) (h2 : hi ≤ hi') : OwSS E1 E w lo' hi' v zss := by
  obtain ⟨ao, n, c, us, rfl, ho⟩ := h
  exact ⟨ao, n, c, us, rfl, ho.mono h1 h2⟩
theorem RdSS.below {w w' : World} {v : Value} {zss : List (List Int)} (h : RdSS w v zss) (hb : Below w.heap.size w w') : RdSS w' v zss := by
  obtain ⟨ao, n, c, rfl, hi⟩ := h
  exact ⟨ao, n, c, rfl, hi.below hb⟩
/-- v owns its integers in a block from lo to below hi -/
def OwnS (E : Nat) (w : World) (lo hi : Nat) (v : Value) (zs : List Int) : Prop := OwS E w v zs ∧ In lo hi v
theorem OwnS.rd {E : Nat} {w : World} {lo hi : Nat} {v : Value} {zs : List Int} (h : OwnS E w lo hi v zs) : RdS w v zs := h.1.rd
theorem OwnS.below {E : Nat} {w w' : World} {lo hi : Nat} {v : Value} {zs : List Int} (h : OwnS E w lo hi v zs) (hb : Below w.heap.size w w') : OwnS E w' lo hi v zs :=
  ⟨(innerS E).loc h.1 fun g hg => hb.block g ((innerS E).lt h.1 g hg), h.2⟩
theorem OwnS.only {E : Nat} {w w' : World} {lo hi : Nat} {v : Value} {zs : List Int} (h : OwnS E w lo hi v zs) {l k : Nat} (ho : Only l k w w') (hd : hi ≤ l ∨ k ≤ lo) : OwnS E w' lo hi v zs :=
  ⟨(innerS E).loc h.1 fun g hg => ho.block g ((innerS E).lt h.1 g hg) (by have := h.2 g hg; omega), h.2⟩
theorem OwnS.of {E : Nat} {w : World} {base : Nat} {ao : Option Addr} {n c : Nat} {zs : List Int} (h : Own w base E ao n c (zs.map (Value.int .i64))) : OwnS E w base w.heap.size (.slice ao n c) zs :=
  ⟨⟨ao, n, c, rfl, h.mono (Nat.zero_le _)⟩, in_slice h.lt⟩

/-- k, k + 1, .. : n numbers -/
def marks (k : Int) (n : Nat) : List Int := (List.range n).map fun j : Nat => k + (j : Int)
theorem length_marks (k : Int) (n : Nat) : (marks k n).length = n := by simp [marks]
theorem marks_succ (k : Int) (n : Nat) : marks k (n + 1) = marks k n ++ [k + n] := by simp [marks, List.range_succ]
theorem iget_marks (k : Int) (n j : Nat) (h : j < n) : iget (marks k n) j = k + j := by
  rw [iget_lt (by rw [length_marks]; exact h)]; simp [marks]
/-- what the laws' marks leave in lists of lists: k, k + 1, .. through all of them -/
def marksSS (k : Int) : List (List Int) → List (List Int)
  | [] => []
  | zs :: r => marks k zs.length :: marksSS (k + zs.length) r
def lenSS (zss : List (List Int)) : Nat := (zss.map List.length).sum
theorem lenSS_take {zss : List (List Int)} {k : Nat} (h : k < zss.length) : lenSS (zss.take (k + 1)) = lenSS (zss.take k) + (lget zss k).length := by
  unfold lenSS; rw [take_lget h, List.map_append, List.sum_append]; simp
theorem lenSS_take_le (zss : List (List Int)) (k : Nat) : lenSS (zss.take k) ≤ lenSS zss := by
  conv => rhs; rw [← List.take_append_drop k zss]
  unfold lenSS; rw [List.map_append, List.sum_append]; omega
theorem length_marksSS (k : Int) (zss : List (List Int)) : (marksSS k zss).length = zss.length := by
  induction zss generalizing k with
  | nil => rfl
  | cons z r ih => simp [marksSS, ih]
theorem lget_marksSS {k : Int} {zss : List (List Int)} {j : Nat} (h : j < zss.length) : lget (marksSS k zss) j = marks (k + lenSS (zss.take j)) (lget zss j).length := by
  induction zss generalizing k j with
  | nil => simp at h
  | cons z r ih =>
    cases j with
    | zero => simp [marksSS, lget, lenSS]
    | succ j =>
      have := ih (k := k + z.length) (j := j) (by simpa using h)
      simp only [marksSS, lget, List.getD_cons_succ, List.take_succ_cons] at this ⊢
      rw [this]
      congr 1
      simp [lenSS]; omega
theorem marksSS_take {k : Int} {zss : List (List Int)} {j : Nat} (h : j < zss.length) : (marksSS k zss).take (j + 1) = (marksSS k zss).take j ++ [marks (k + lenSS (zss.take j)) (lget zss j).length] := by
  rw [take_lget (by rw [length_marksSS]; exact h), lget_marksSS h]

/-- a struct of one slice of slices, as a value: the mirror and the program's maniplex alike -/
def RdM (w : World) (v : Value) (zss : List (List Int)) : Prop := ∃ ao n c, v = .agg #[.slice ao n c] ∧ Intss w ao n zss
def OwM (E1 E : Nat) (w : World) (lo hi : Nat) (v : Value) (zss : List (List Int)) : Prop := ∃ ao n c us, v = .agg #[.slice ao n c] ∧ OwR (OwS E1) w lo hi E ao n c us zss
theorem OwM.rd {E1 E : Nat} {w : World} {lo hi : Nat} {v : Value} {zss : List (List Int)} (h : OwM E1 E w lo hi v zss) : RdM w v zss := by
  obtain ⟨ao, n, c, us, rfl, ho⟩ := h
  exact ⟨ao, n, c, rfl, ho.intss⟩
theorem OwM.below {E1 E : Nat} {w w' : World} {lo hi : Nat} {v : Value} {zss : List (List Int)} (h : OwM E1 E w lo hi v zss) (hb : Below w.heap.size w w') : OwM E1 E w' lo hi v zss := by
  obtain ⟨ao, n, c, us, rfl, ho⟩ := h
  exact ⟨ao, n, c, us, rfl, ho.below (innerS E1) hb⟩
theorem OwM.only {E1 E : Nat} {w w' : World} {lo hi : Nat} {v : Value} {zss : List (List Int)} (h : OwM E1 E w lo hi v zss) {l k : Nat} (ho : Only l k w w') (hd : hi ≤ l ∨ k ≤ lo) : OwM E1 E w' lo hi v zss := by
  obtain ⟨ao, n, c, us, rfl, h1⟩ := h
  exact ⟨ao, n, c, us, rfl, h1.only (innerS E1) ho hd⟩
theorem OwM.mono {E1 E : Nat} {w : World} {lo hi lo' hi' : Nat} {v : Value} {zss : List (List Int)} (h : OwM E1 E w lo hi v zss) (h1 : lo' ≤ lo) (h2 : hi ≤ hi') : OwM E1 E w lo' hi' v zss := by
  obtain ⟨ao, n, c, us, rfl, ho⟩ := h
  exact ⟨ao, n, c, us, rfl, ho.mono h1 h2⟩
theorem RdM.below {w w' : World} {v : Value} {zss : List (List Int)} (h : RdM w v zss) (hb : Below w.heap.size w w') : RdM w' v zss := by
  obtain ⟨ao, n, c, rfl, hi⟩ := h
  exact ⟨ao, n, c, rfl, hi.below hb⟩

/-- a struct of an integer and a slice of slices, as a value: a presentation -/
abbrev PresD : Type := Int × List (List Int)
def RdP (w : World) (v : Value) (d : PresD) : Prop := ∃ ao n c, v = .agg #[.int .i64 d.1, .slice ao n c] ∧ Intss w ao n d.2
def OwP (E1 E : Nat) (w : World) (lo hi : Nat) (v : Value) (d : PresD) : Prop := ∃ ao n c us, v = .agg #[.int .i64 d.1, .slice ao n c] ∧ OwR (OwS E1) w lo hi E ao n c us d.2
theorem OwP.rd {E1 E : Nat} {w : World} {lo hi : Nat} {v : Value} {d : PresD} (h : OwP E1 E w lo hi v d) : RdP w v d := by
  obtain ⟨ao, n, c, us, rfl, ho⟩ := h
  exact ⟨ao, n, c, rfl, ho.intss⟩
theorem OwP.below {E1 E : Nat} {w w' : World} {lo hi : Nat} {v : Value} {d : PresD} (h : OwP E1 E w lo hi v d) (hb : Below w.heap.size w w') : OwP E1 E w' lo hi v d := by
  obtain ⟨ao, n, c, us, rfl, ho⟩ := h
  exact ⟨ao, n, c, us, rfl, ho.below (innerS E1) hb⟩
theorem OwP.only {E1 E : Nat} {w w' : World} {lo hi : Nat} {v : Value} {d : PresD} (h : OwP E1 E w lo hi v d) {l k : Nat} (ho : Only l k w w') (hd : hi ≤ l ∨ k ≤ lo) : OwP E1 E w' lo hi v d := by
  obtain ⟨ao, n, c, us, rfl, h1⟩ := h
  exact ⟨ao, n, c, us, rfl, h1.only (innerS E1) ho hd⟩
theorem RdP.below {w w' : World} {v : Value} {d : PresD} (h : RdP w v d) (hb : Below w.heap.size w w') : RdP w' v d := by
  obtain ⟨ao, n, c, rfl, hi⟩ := h
  exact ⟨ao, n, c, rfl, hi.below hb⟩

theorem OwM.form {E1 E : Nat} {w : World} {lo hi : Nat} {v : Value} {zss : List (List Int)} (h : OwM E1 E w lo hi v zss) : ∃ ao n c, v = .agg #[.slice ao n c] := by
  obtain ⟨ao, n, c, us, rfl, _⟩ := h
  exact ⟨ao, n, c, rfl⟩
theorem OwP.form {E1 E : Nat} {w : World} {lo hi : Nat} {v : Value} {d : PresD} (h : OwP E1 E w lo hi v d) : ∃ ao n c, v = .agg #[.int .i64 d.1, .slice ao n c] := by
  obtain ⟨ao, n, c, us, rfl, _⟩ := h
  exact ⟨ao, n, c, rfl⟩
theorem below_alloc1 (w : World) (o : Obj) : Below w.heap.size w (w.alloc o) := (Below.refl _ _).alloc (Nat.le_refl _) o
theorem below_alloc2 (w : World) (o o' : Obj) : Below w.heap.size w ((w.alloc o).alloc o') := (below_alloc1 w o).alloc (by simp) o'
/-- block g is just the cells cs of type t, none frozen -/
def Blk (w : World) (g : Nat) (t : TypeId) (cs : Array Value) : Prop := w.heap[g]? = some (.cells cs t (0, 0))
theorem Blk.lt {w : World} {g : Nat} {t : TypeId} {cs : Array Value} (h : Blk w g t cs) : g < w.heap.size := by
  rcases Nat.lt_or_ge g w.heap.size with hlt | hge
  · exact hlt
  · unfold Blk at h; rw [Array.getElem?_eq_none hge] at h; cases h
theorem Blk.cell {w : World} {g : Nat} {t : TypeId} {cs : Array Value} (h : Blk w g t cs) (i : Nat) : w.cell? ⟨g, i, none⟩ = cs[i]? := cell_of_row w g i cs t (0, 0) h
theorem Blk.frozen {w : World} {g : Nat} {t : TypeId} {cs : Array Value} (h : Blk w g t cs) (i : Nat) : w.frozen? ⟨g, i, none⟩ = false := by
  unfold Blk at h; simp [World.frozen?, h]
theorem Blk.new (w : World) (t : TypeId) (cs : Array Value) : Blk (w.alloc (.cells cs t)) w.heap.size t cs := heap_alloc_new w _
theorem blk_at {w : World} {t : TypeId} {cs : Array Value} {k : Nat} (h : w.heap.size = k) : Blk (w.alloc (.cells cs t)) k t cs := h ▸ Blk.new w t cs
theorem Blk.alloc {w : World} {g : Nat} {t : TypeId} {cs : Array Value} (h : Blk w g t cs) (o : Obj) : Blk (w.alloc o) g t cs := (Below.heap_alloc w o g h.lt).trans h
theorem Blk.set_ {w : World} {g : Nat} {t : TypeId} {cs : Array Value} (h : Blk w g t cs) (i : Nat) (u : Value) : Blk (w.setCell ⟨g, i, none⟩ u) g t (cs.setIfInBounds i u) := by
  unfold Blk at h ⊢
  simp [World.setCell, Array.getElem?_modify, h]
theorem Blk.far {w : World} {g : Nat} {t : TypeId} {cs : Array Value} (h : Blk w g t cs) {p : Addr} (hp : g ≠ p.block) (u : Value) : Blk (w.setCell p u) g t cs := (Below.heap_setCell w p u g hp).trans h
theorem Blk.below {w w' : World} {g : Nat} {t : TypeId} {cs : Array Value} {B : Nat} (h : Blk w g t cs) (hb : Below B w w') (hg : g < B) : Blk w' g t cs := (hb.block g hg).trans h
theorem Blk.belowS {w w' : World} {g : Nat} {t : TypeId} {cs : Array Value} (h : Blk w g t cs) (hb : Below w.heap.size w w') : Blk w' g t cs := h.below hb h.lt
theorem Blk.only {w w' : World} {g : Nat} {t : TypeId} {cs : Array Value} {lo hi : Nat} (h : Blk w g t cs) (ho : Only lo hi w w') (hg : g < lo ∨ hi ≤ g) : Blk w' g t cs := (ho.block g h.lt hg).trans h
theorem Blk.drewN {w : World} {g : Nat} {t : TypeId} {cs : Array Value} (h : Blk w g t cs) (m : Nat) : Blk (w.drewN m) g t cs := h
end Go.Proofs.YtljimlejcecleaaDoor

/- The laws' own helpers on []int64: the copy, the comparison, the marks. -/
namespace Go.Proofs.YtljimlejcecleaaDoor
open Go.RowKit

theorem etI : ET Tryd.prog 22 2 (.int .i64 0) 8 := ⟨Tryd.underlying22, by kernel_rfl, rfl, by omega⟩

theorem get_pad {pre : List Int} {k n : Nat} (hk : pre.length = k) (h : k < n) : ((pre ++ List.replicate (n - k) 0).map (Value.int .i64))[k]? = some (.int .i64 0) := by
  rw [List.getElem?_map, List.getElem?_append_right (by omega), hk, Nat.sub_self, List.getElem?_replicate, if_pos (by omega)]; rfl
theorem set_pad {pre : List Int} {k n : Nat} (hk : pre.length = k) (h : k < n) (x : Int) : (pre ++ List.replicate (n - k) 0).set k x = (pre ++ [x]) ++ List.replicate (n - (k + 1)) 0 := by
  rw [List.set_append_right _ _ (by omega), hk, Nat.sub_self, show n - k = (n - (k + 1)) + 1 by omega, List.replicate_succ]; simp

set_option maxHeartbeats 400000 in
theorem eqInts_any (a b : Option Addr) (na nb ca cb : Nat) (za zb : List Int) (w : World) (ha : Ints w a na za) (hb : Ints w b nb zb) :
    Calls Tryd.prog 7 #[.slice a na ca, .slice b nb cb] w fun e w' => e = .returned (.bool (decide (za = zb))) ∧ ∃ m, w' = w.drewN m := by
  have hla := ha.2.1
  have hlb := hb.2.1
  by_cases hl : na = nb
  · subst hl
    have hl' : ((na : Int) != (na:Int)) = false := by simp
    go_enter Tryd.func7, Tryd.ntmps7
    go_wp2
    go_loopw [5] (fun i wr => ∃ k : Nat, k ≤ na ∧ i = .int .i64 k ∧ za.take k = zb.take k ∧ ∃ m, wr = w.drewN m) (fun i _ => na - (intOf i).toNat)
    case atStart => exact ⟨0, Nat.zero_le _, rfl, rfl, 0, rfl⟩
    case round =>
      obtain ⟨k, hk, rfl, hpre, m, rfl⟩ := hrel
      have HP := Lib.hid hpre
      clear hpre
      by_cases hlt : k < na
      · obtain ⟨ba, oa, rfl, hca⟩ := ha.at_ hlt
        obtain ⟨bb, ob, rfl, hcb⟩ := hb.at_ hlt
        have h1 := ha.1
        have h2 := hb.1
        have H1 := Lib.hid h1
        have H2 := Lib.hid h2
        clear h1 h2
        by_cases he : iget za k = iget zb k
        · have he' : (iget za k != iget zb k) = false := by simp [he]
          have HE := Lib.hid he
          clear he
          go_wp2_with fail
          go_quiet (fail)
          go_wp2
          go_roundw
          case rel => exact ⟨k + 1, by omega, by go_num, by rw [take_iget (by rw [H1.out]; omega), take_iget (by rw [H2.out]; omega), HP.out, HE.out], _, rfl⟩
          case measure => simp [intOf]; omega
        · have he' : (iget za k != iget zb k) = true := by simp [he]
          have HE := Lib.hid he
          clear he
          go_wp2_with fail
          go_quiet (fail)
          go_wp2
          go_ret
          exact ⟨ret_bool (by symm; rw [decide_eq_false_iff_not]; intro e; exact HE.out (by rw [e])), _, World.drewN_drewN _ _ _⟩
      · obtain rfl : k = na := by omega
        have h1 := ha.1
        have h2 := hb.1
        have hab : za = zb := by have := HP.out; rwa [List.take_of_length_le (by omega), List.take_of_length_le (by omega)] at this
        have HA := Lib.hid hab
        clear h1 h2 hab
        go_wp2
        go_ret
        exact ⟨ret_bool (by symm; simpa using HA.out), _, rfl⟩
  · have hl' : ((na : Int) != (nb:Int)) = true := by simp; omega
    go_enter Tryd.func7, Tryd.ntmps7
    go_wp2
    go_ret
    refine ⟨ret_bool ?_, 0, rfl⟩
    symm
    rw [decide_eq_false_iff_not]
    intro e
    exact hl (by rw [← ha.1, ← hb.1, e])

set_option maxHeartbeats 400000 in
theorem markInts_any (ao : Option Addr) (n c : Nat) (zs : List Int) (k0 : Int) (w : World) (base : Nat) (h : Own w base 2 ao n c (zs.map (Value.int .i64))) (hk0 : 0 ≤ k0) (hk1 : k0 ≤ 1125899906842624) :
    Calls Tryd.prog 8 #[.slice ao n c, .int .i64 k0] w fun e w' => e = .returned (.int .i64 (k0 + n)) ∧ Own w' base 2 ao n c ((marks k0 n).map (Value.int .i64)) ∧ w.grownBy w' (bk ao) ∧ w'.heap.size = w.heap.size := by
  have hn := h.2
  have hlen : zs.length = n := by have := h.len; simpa using this
  go_enter Tryd.func8, Tryd.ntmps8
  go_wp2
  go_loopw [1, 5] (fun m i wr => ∃ k : Nat, k ≤ n ∧ i = .int .i64 k ∧ m = .int .i64 (k0 + k) ∧ Own wr base 2 ao n c ((marks k0 k ++ zs.drop k).map (Value.int .i64)) ∧ w.grownBy wr (bk ao) ∧ wr.heap.size = w.heap.size) (fun _ i _ => n - (intOf i).toNat)
  case atStart => exact ⟨0, Nat.zero_le _, rfl, by simp, by simpa [marks] using h, World.grownBy.refl _ _, rfl⟩
  case round =>
    obtain ⟨k, hk, rfl, rfl, ho, hg, hsz⟩ := hrel
    have HSZ := Lib.hid hsz
    clear hsz
    by_cases hlt : k < n
    · obtain ⟨g, rfl, _, hgl, _, hcell, hfr⟩ := ho.form (by omega)
      have hc2 : wr.cell? ⟨g, k, none⟩ = some (.int .i64 (iget zs k)) := by
        rw [hcell k hlt, List.getElem?_map, List.getElem?_append_right (by simp [length_marks])]
        simp [length_marks, iget, hlen, hlt]
      have hf := hfr k
      obtain ⟨st1, st2⟩ := ho.stored k (.int .i64 (k0 + k))
      have HS1 := Lib.hid st1
      have HS2 := Lib.hid st2
      have HL := Lib.hid hlen
      clear st1 st2 hcell hfr hlen
      go_wp2
      go_roundw
      case rel =>
        refine ⟨k + 1, by omega, by go_num, by congr 1; omega, ?_, grown_tr hg HS2.out, by have := HSZ.out; simpa [World.setCell] using this⟩
        have h1 := HS1.out
        rw [← List.map_set, List.set_append_right _ _ (by simp [length_marks])] at h1
        have e : (zs.drop k).set (k - (marks k0 k).length) (k0 + k) = (k0 + k) :: zs.drop (k + 1) := by
          rw [length_marks, Nat.sub_self, List.drop_eq_getElem_cons (by rw [HL.out]; omega)]; rfl
        rw [e] at h1
        rw [marks_succ, List.append_assoc]
        exact h1
      case measure => simp [intOf]; omega
    · obtain rfl : k = n := by omega
      have HL := Lib.hid hlen
      clear hlen
      go_wp2
      go_ret
      exact ⟨rfl, by simpa [List.drop_of_length_le (Nat.le_of_eq HL.out)] using ho, hg, HSZ.out⟩

set_option maxHeartbeats 400000 in
theorem heldInts_any (ao : Option Addr) (n c : Nat) (k0 : Int) (w : World) (h : Ints w ao n (marks k0 n)) (hk0 : 0 ≤ k0) (hk1 : k0 ≤ 1125899906842624) :
    Calls Tryd.prog 9 #[.slice ao n c, .int .i64 k0] w fun e w' => e = .returned (.int .i64 (k0 + n)) ∧ w' = w := by
  have hn := h.2.1
  go_enter Tryd.func9, Tryd.ntmps9
  go_wp2
  go_loop [1, 5] (fun m i => ∃ k : Nat, k ≤ n ∧ i = .int .i64 k ∧ m = .int .i64 (k0 + k)) (fun _ i => n - (intOf i).toNat)
  case atStart => exact ⟨0, Nat.zero_le _, rfl, by simp⟩
  case round =>
    obtain ⟨k, hk, rfl, rfl⟩ := hrel
    by_cases hlt : k < n
    · obtain ⟨b, off, rfl, hc⟩ := h.at_ hlt
      rw [iget_marks _ _ _ hlt] at hc
      have he : ((k0 + k : Int) != (k0 + k : Int)) = false := by simp
      go_wp2
      go_round
      case rel => exact ⟨k + 1, by omega, by go_num, by congr 1; omega⟩
      case measure => simp [intOf]; omega
    · obtain rfl : k = n := by omega
      go_wp2
      go_ret
      exact ⟨rfl, rfl⟩
end Go.Proofs.YtljimlejcecleaaDoor

/- The laws' helpers on []int64 in the words of Nest. -/
namespace Go.Proofs.YtljimlejcecleaaDoor
open Go.RowKit

end Go.Proofs.YtljimlejcecleaaDoor

/- The laws' helpers on [][]int64. -/
namespace Go.Proofs.YtljimlejcecleaaDoor
open Go.RowKit

theorem etSS : ET Tryd.prog 28 22 (.slice none 0 0) 24 := ⟨Tryd.underlying28, by kernel_rfl, rfl, by omega⟩

set_option maxHeartbeats 400000 in
theorem law_eqSS {v v' : Value} {zss : List (List Int)} (w : World) (h : RdSS w v zss) (h' : RdSS w v' zss) :
    Calls Tryd.prog 24 #[v, v'] w fun e w' => e = .returned (.bool true) ∧ Below w.heap.size w w' := by
  obtain ⟨ao, n, c, rfl, hi⟩ := h
  obtain ⟨ao', n', c', rfl, hi'⟩ := h'
  obtain rfl : n = n' := by rw [← hi.1, ← hi'.1]
  have hbd := hi.2.1
  have hl' : ((n : Int) != (n:Int)) = false := by simp
  go_enter Tryd.func24, Tryd.ntmps24
  go_wp2
  go_loopw [5] (fun i wr => ∃ k : Nat, k ≤ n ∧ i = .int .i64 k ∧ Below w.heap.size w wr) (fun i _ => n - (intOf i).toNat)
  case atStart => exact ⟨0, Nat.zero_le _, rfl, Below.refl _ _⟩
  case round =>
    obtain ⟨k, hk, rfl, hb⟩ := hrel
    by_cases hlt : k < n
    · obtain ⟨b1, o1, a1, n1, c1, rfl, hc1, hin1⟩ := (hi.below hb).at_ hlt
      obtain ⟨b2, o2, a2, n2, c2, rfl, hc2, hin2⟩ := (hi'.below hb).at_ hlt
      have HH := Lib.hid hi
      have HH' := Lib.hid hi'
      clear hi hi'
      go_wp2_with fail
      go_quiet ((go_at_call 7; exact Calls.quiet_of (eqInts_any a1 a2 n1 n2 c1 c2 (lget zss k) (lget zss k) _ (hin1.drewN _) (hin2.drewN _))))
      go_wp2
      go_roundw
      case rel => exact ⟨k + 1, by omega, by go_num, below_drewN hb _⟩
      case measure => simp [intOf]; omega
    · obtain rfl : k = n := by omega
      go_wp2
      go_ret
      exact ⟨rfl, hb⟩

set_option maxHeartbeats 800000 in
theorem law_markSS {v : Value} {zss : List (List Int)} {lo hi : Nat} (k0 : Int) (w : World) (h : OwSS 2 22 w lo hi v zss) (hk0 : 0 ≤ k0) (hk1 : k0 + lenSS zss ≤ 1125899906842624) :
    Calls Tryd.prog 25 #[v, .int .i64 k0] w fun e w' => e = .returned (.int .i64 (k0 + lenSS zss)) ∧ OwSS 2 22 w' lo hi v (marksSS k0 zss) ∧ Only lo hi w w' := by
  obtain ⟨ao, n, c, us, rfl, ho⟩ := h
  have hl := ho.len
  have hn := ho.own.2
  have HL := Lib.hid hl
  clear hl
  go_enter Tryd.func25, Tryd.ntmps25
  go_wp2
  go_loopw [1, 5] (fun m i wr => ∃ k : Nat, k ≤ n ∧ i = .int .i64 k ∧ m = .int .i64 (k0 + lenSS (zss.take k)) ∧ OwR (OwS 2) wr lo hi 22 ao n c us ((marksSS k0 zss).take k ++ zss.drop k) ∧ Only lo hi w wr) (fun _ i _ => n - (intOf i).toNat)
  case atStart => exact ⟨0, Nat.zero_le _, rfl, by simp [lenSS], by simpa using ho, Only.refl _ _ _⟩
  case round =>
    obtain ⟨k, hk, rfl, rfl, h1, hon⟩ := hrel
    have hle := lenSS_take_le zss k
    by_cases hlt : k < n
    · have hkz : k < zss.length := by rw [HL.out]; exact hlt
      have HK := Lib.hid hkz
      obtain ⟨u, d, hu, hd, hou, hru⟩ := h1.get hlt
      have hdz : d = lget zss k := by
        rw [List.getElem?_append_right (by simp [length_marksSS]; omega)] at hd
        rw [show k - ((marksSS k0 zss).take k).length = 0 by simp [length_marksSS]; omega, drop_lget hkz] at hd
        simpa using hd.symm
      subst hdz
      obtain ⟨a', n', c', rfl, ho'⟩ := hou
      obtain ⟨g, rfl, -, -, -, -, -⟩ := ho.own.form (by omega)
      have hc := h1.cell hu
      have hsum := lenSS_take hkz
      have hle2 := lenSS_take_le zss (k + 1)
      have HS := Lib.hid hsum
      have HD := Lib.hid hd
      have HU := Lib.hid hu
      have HR := Lib.hid hru
      have hk2 : k0 + (lenSS (zss.take k) : Int) ≤ 1125899906842624 := by omega
      have hk3 : 0 ≤ k0 + (lenSS (zss.take k) : Int) := by omega
      clear hsum hle2 hd hu hru hkz
      go_wp2_with fail
      refine (markInts_any a' n' c' (lget zss k) _ wr 0 ho' hk3 hk2).mono ?_
      rintro e w2 ⟨rfl, o2, g2, z2⟩
      have hn' : (lget zss k).length = n' := by have := ho'.len; simpa using this
      have HN := Lib.hid hn'
      have hup := h1.upd (innerS _) (d' := marks (k0 + lenSS (zss.take k)) n') HU.out (by rw [ownBlock_slice]; exact g2) ⟨a', n', c', rfl, o2⟩
      have HP := Lib.hid hup
      have hon2 : Only lo hi w w2 := hon.trans (Only.of_grown g2 (fun g hg => HR.out g (by rw [ownBlock_slice]; exact hg)))
      clear hup hn' h1 o2 g2 z2 ho'
      go_wp2
      go_roundw
      case rel =>
        refine ⟨k + 1, by omega, by go_num, ?_, ?_, hon2⟩
        · congr 1
          rw [HS.out, HN.out]; omega
        · have := HP.out
          rw [List.set_append_right _ _ (by simp [length_marksSS]; omega), show k - ((marksSS k0 zss).take k).length = 0 by simp [length_marksSS, HL.out]; omega, drop_lget HK.out] at this
          rw [marksSS_take HK.out, HN.out, List.append_assoc]
          exact this
      case measure => simp [intOf]; omega
    · obtain rfl : k = n := by omega
      go_wp2
      go_ret
      refine ⟨ret_int (by rw [List.take_of_length_le (Nat.le_of_eq HL.out)]), ⟨_, _, _, us, rfl, ?_⟩, hon⟩
      simpa [List.take_of_length_le, List.drop_of_length_le, length_marksSS, HL.out] using h1

set_option maxHeartbeats 800000 in
theorem law_heldSS {v : Value} {zss : List (List Int)} (k0 : Int) (w : World) (h : RdSS w v (marksSS k0 zss)) (hk0 : 0 ≤ k0) (hk1 : k0 + lenSS zss ≤ 1125899906842624) :
    Calls Tryd.prog 26 #[v, .int .i64 k0] w fun e w' => e = .returned (.int .i64 (k0 + lenSS zss)) ∧ Below w.heap.size w w' := by
  obtain ⟨ao, n, c, rfl, hi⟩ := h
  have hbd := hi.2.1
  have hl : zss.length = n := by rw [← hi.1, length_marksSS]
  have HL := Lib.hid hl
  clear hl
  go_enter Tryd.func26, Tryd.ntmps26
  go_wp2
  go_loopw [1, 5] (fun m i wr => ∃ k : Nat, k ≤ n ∧ i = .int .i64 k ∧ m = .int .i64 (k0 + lenSS (zss.take k)) ∧ Below w.heap.size w wr) (fun _ i _ => n - (intOf i).toNat)
  case atStart => exact ⟨0, Nat.zero_le _, rfl, by simp [lenSS], Below.refl _ _⟩
  case round =>
    obtain ⟨k, hk, rfl, rfl, hb⟩ := hrel
    have hle := lenSS_take_le zss k
    by_cases hlt : k < n
    · obtain ⟨b1, o1, a1, n1, c1, rfl, hc1, hin1⟩ := (hi.below hb).at_ hlt
      have hkz : k < zss.length := by rw [HL.out]; exact hlt
      rw [lget_marksSS hkz] at hin1
      have hn1 : (lget zss k).length = n1 := by have := hin1.1; rwa [length_marks] at this
      have hsum := lenSS_take hkz
      have hle2 := lenSS_take_le zss (k + 1)
      rw [hn1] at hin1 hsum
      have HS := Lib.hid hsum
      have HH := Lib.hid hi
      have hk2 : k0 + (lenSS (zss.take k) : Int) ≤ 1125899906842624 := by omega
      have hk3 : 0 ≤ k0 + (lenSS (zss.take k) : Int) := by omega
      have hk4 : 0 ≤ k0 + (lenSS (zss.take k) : Int) + n1 := by omega
      clear hsum hle2 hkz hn1 hi
      go_wp2_with fail
      refine (heldInts_any a1 n1 c1 _ wr hin1 hk3 hk2).mono ?_
      rintro e w2 ⟨rfl, rfl⟩
      go_wp2
      go_roundw
      case rel => exact ⟨k + 1, by omega, by go_num, by congr 1; rw [HS.out]; omega, hb⟩
      case measure => simp [intOf]; omega
    · obtain rfl : k = n := by omega
      go_wp2
      go_ret
      exact ⟨ret_int (by rw [List.take_of_length_le (Nat.le_of_eq HL.out)]), hb⟩

end Go.Proofs.YtljimlejcecleaaDoor

/- The laws' helpers on maniplexes: comparison and marks. -/
namespace Go.Proofs.YtljimlejcecleaaDoor
open Go.RowKit

set_option maxHeartbeats 400000 in
theorem law_eqM {v v' : Value} {d : List (List Int)} (w : World) (h : RdM w v d) (h' : RdM w v' d) :
    Calls Tryd.prog 12 #[v, v'] w fun e w' => e = .returned (.bool true) ∧ Below w.heap.size w w' := by
  obtain ⟨ao, n, c, rfl, hi⟩ := h
  obtain ⟨ao', n', c', rfl, hi'⟩ := h'
  go_enter Tryd.func12, Tryd.ntmps12
  go_wp2_with fail
  have hb : Below w.heap.size w ((w.alloc (.cells #[.slice ao n c] 30)).alloc (.cells #[.slice ao' n' c'] 30)) := ((Below.refl _ _).alloc (Nat.le_refl _) _).alloc (by simp) _
  refine (law_eqSS _ ⟨_, _, _, rfl, hi.below hb⟩ ⟨_, _, _, rfl, hi'.below hb⟩).mono ?_
  rintro e w1 ⟨rfl, b1⟩
  go_wp2
  go_ret
  exact ⟨rfl, hb.trans (b1.mono hb.size)⟩

set_option maxHeartbeats 400000 in
theorem law_markM {v : Value} {d : List (List Int)} {lo hi : Nat} (k0 : Int) (w : World) (h : OwM 2 22 w lo hi v d) (hk0 : 0 ≤ k0) (hk1 : k0 + lenSS d ≤ 1125899906842624) :
    Calls Tryd.prog 13 #[v, .int .i64 k0] w fun e w' => e = .returned (.int .i64 (k0 + lenSS d)) ∧ OwM 2 22 w' lo hi v (marksSS k0 d) ∧ Only lo hi w w' := by
  obtain ⟨ao, n, c, us, rfl, ho⟩ := h
  go_enter Tryd.func13, Tryd.ntmps13
  go_wp2_with fail
  have hb : Below w.heap.size w (w.alloc (.cells #[.slice ao n c] 30)) := (Below.refl _ _).alloc (Nat.le_refl _) _
  refine (law_markSS k0 _ ⟨ao, n, c, us, rfl, ho.below (innerS _) hb⟩ hk0 hk1).mono ?_
  rintro e w1 ⟨rfl, ⟨a2, n2, c2, us2, e2, o2⟩, q1⟩
  injection e2 with e3 e4 e5
  subst e3 e4 e5
  go_wp2
  go_ret
  refine ⟨rfl, ⟨_, _, _, us2, rfl, o2⟩, ⟨q1.os.trans hb.os, q1.tape.trans hb.tape, q1.output.trans hb.output, Nat.le_trans hb.size q1.size, fun g hg hd => (q1.block g (Nat.lt_of_lt_of_le hg hb.size) hd).trans (hb.block g hg)⟩⟩

set_option maxHeartbeats 400000 in
theorem law_heldM {v : Value} {d : List (List Int)} (k0 : Int) (w : World) (h : RdM w v (marksSS k0 d)) (hk0 : 0 ≤ k0) (hk1 : k0 + lenSS d ≤ 1125899906842624) :
    Calls Tryd.prog 14 #[v, .int .i64 k0] w fun e w' => e = .returned (.int .i64 (k0 + lenSS d)) ∧ Below w.heap.size w w' := by
  obtain ⟨ao, n, c, rfl, hi⟩ := h
  go_enter Tryd.func14, Tryd.ntmps14
  go_wp2_with fail
  have hb : Below w.heap.size w (w.alloc (.cells #[.slice ao n c] 30)) := (Below.refl _ _).alloc (Nat.le_refl _) _
  refine (law_heldSS k0 _ ⟨_, _, _, rfl, hi.below hb⟩ hk0 hk1).mono ?_
  rintro e w1 ⟨rfl, b1⟩
  have h2 : 0 ≤ k0 + (lenSS d : Int) := by omega
  go_wp2
  go_ret
  exact ⟨rfl, hb.trans (b1.mono hb.size)⟩
end Go.Proofs.YtljimlejcecleaaDoor

/- Lists of points and of marks; lists that lead points. No program in sight. -/
namespace Go.Proofs.YtljimlejcecleaaDoor

/-- where a word leads a point -/
def leadL (qs : List (List Int)) (c : Int) (w : List Int) : Int := w.foldl (fun c g => iget (lget qs g.toNat) c.toNat) c
/-- each list holds m points, each leads within them -/
structure Leads (qs : List (List Int)) (m : Nat) : Prop where
  len : ∀ k, k < qs.length → (lget qs k).length = m
  within : ∀ k, k < qs.length → ∀ x, x < m → 0 ≤ iget (lget qs k) x ∧ iget (lget qs k) x < m
theorem Leads.lead {qs : List (List Int)} {m : Nat} (h : Leads qs m) {c : Int} (hc : 0 ≤ c ∧ c < m) {w : List Int} (hw : ∀ z ∈ w, 0 ≤ z ∧ z < qs.length) : 0 ≤ leadL qs c w ∧ leadL qs c w < m := by
  induction w generalizing c with
  | nil => exact hc
  | cons g r ih =>
    have h1 := hw g (List.mem_cons_self ..)
    have h2 := h.within g.toNat (by omega) c.toNat (by omega)
    exact ih h2 fun z hz => hw z (List.mem_cons_of_mem _ hz)

def bat (bs : List Bool) (k : Nat) : Bool := bs.getD k false
def bcnt (bs : List Bool) : Nat := (bs.filter fun b => b).length
theorem bcnt_le (bs : List Bool) : bcnt bs ≤ bs.length := List.length_filter_le _ _
def bTo (T : List (List Int)) (c g : Nat) : Nat := (iget (lget T g) c).toNat
end Go.Proofs.YtljimlejcecleaaDoor

/- Groups of permutations, on lists: the search for the elements, ascending lists of lists. No program in sight. -/
namespace Go.Proofs.YtljimlejcecleaaDoor

/-- p, then q -/
def thenL (p q : List Int) : List Int := p.map fun x => iget q x.toNat
theorem thenL_len (p q : List Int) : (thenL p q).length = p.length := by simp [thenL]
def unitL (n : Nat) : List Int := (List.range n).map fun (i : Nat) => (i : Int)
/-- one list comes before another one -/
def ltL : List Int → List Int → Bool
  | [], [] => false
  | [], _ :: _ => true
  | _ :: _, [] => false
  | a :: r, b :: s => if a < b then true else if b < a then false else ltL r s
theorem ltL_irr : ∀ a : List Int, ltL a a = false
  | [] => rfl
  | a :: r => by unfold ltL; rw [if_neg (by omega), if_neg (by omega)]; exact ltL_irr r
theorem ltL_tri : ∀ a b : List Int, ltL a b = true ∨ a = b ∨ ltL b a = true
  | [], [] => .inr (.inl rfl)
  | [], _ :: _ => .inl rfl
  | _ :: _, [] => .inr (.inr rfl)
  | a :: r, b :: s => by
    unfold ltL
    by_cases h1 : a < b
    · left; rw [if_pos h1]
    · by_cases h2 : b < a
      · right; right; rw [if_pos h2]
      · obtain rfl : a = b := by omega
        rw [if_neg h1, if_neg h1]
        rcases ltL_tri r s with h | h | h
        · exact .inl h
        · exact .inr (.inl (by rw [h]))
        · right; right; rw [if_neg h1, if_neg h1]; exact h
theorem ltL_trans : ∀ {a b c : List Int}, ltL a b = true → ltL b c = true → ltL a c = true
  | [], [], _, h, _ => by simp [ltL] at h
  | [], _ :: _, [], _, h => by simp [ltL] at h
  | [], _ :: _, _ :: _, _, _ => rfl
  | _ :: _, [], _, h, _ => by simp [ltL] at h
  | _ :: _, _ :: _, [], _, h => by simp [ltL] at h
  | a :: r, b :: s, c :: t, h1, h2 => by
    unfold ltL at h1 h2 ⊢
    by_cases hab : a < b
    · by_cases hbc : b < c
      · rw [if_pos (by omega)]
      · rw [if_neg hbc] at h2
        by_cases hcb : c < b
        · rw [if_pos hcb] at h2; cases h2
        · rw [if_pos (by omega)]
    · rw [if_neg hab] at h1
      by_cases hba : b < a
      · rw [if_pos hba] at h1; cases h1
      · rw [if_neg hba] at h1
        by_cases hbc : b < c
        · rw [if_pos (by omega)]
        · rw [if_neg hbc] at h2
          by_cases hcb : c < b
          · rw [if_pos hcb] at h2; cases h2
          · rw [if_neg hcb] at h2
            rw [if_neg (by omega), if_neg (by omega)]
            exact ltL_trans h1 h2
theorem ltL_asym {a b : List Int} (h : ltL a b = true) : ltL b a = false := by
  cases h2 : ltL b a with
  | false => rfl
  | true => have := ltL_trans h h2; rw [ltL_irr] at this; cases this
/-- ascending -/
def AscL (xs : List (List Int)) : Prop := xs.Pairwise fun a b => ltL a b = true
theorem ascL_uniq : ∀ {xs ys : List (List Int)}, AscL xs → AscL ys → (∀ z, z ∈ xs ↔ z ∈ ys) → xs = ys
  | [], [], _, _, _ => rfl
  | [], y :: _, _, _, h => by have := (h y).2 (by simp); simp at this
  | x :: _, [], _, _, h => by have := (h x).1 (by simp); simp at this
  | x :: xs, y :: ys, hx, hy, h => by
    have hx' := List.pairwise_cons.1 hx
    have hy' := List.pairwise_cons.1 hy
    have hxy : x = y := by
      have h1 := (h x).1 (by simp)
      have h2 := (h y).2 (by simp)
      rw [List.mem_cons] at h1 h2
      rcases h1 with h1 | h1
      · exact h1
      · rcases h2 with h2 | h2
        · exact h2.symm
        · have a := hy'.1 x h1
          have b := hx'.1 y h2
          rw [ltL_asym a] at b; cases b
    subst hxy
    have := ascL_uniq hx'.2 hy'.2 fun z => by
      constructor
      · intro hz
        have := (h z).1 (List.mem_cons_of_mem _ hz)
        rcases List.mem_cons.1 this with e | e
        · subst e; have := hx'.1 z hz; rw [ltL_irr] at this; cases this
        · exact e
      · intro hz
        have := (h z).2 (List.mem_cons_of_mem _ hz)
        rcases List.mem_cons.1 this with e | e
        · subst e; have := hy'.1 z hz; rw [ltL_irr] at this; cases this
        · exact e
    rw [this]
/-- how many stand before p -/
def lowL (xs : List (List Int)) (p : List Int) : Nat := (xs.filter fun a => ltL a p).length
theorem lowL_le (xs : List (List Int)) (p : List Int) : lowL xs p ≤ xs.length := List.length_filter_le _ _
theorem lowL_at : ∀ {xs : List (List Int)} {p : List Int}, AscL xs → ∀ j, j < xs.length → (ltL (lget xs j) p = true ↔ j < lowL xs p)
  | [], _, _, j, h => by simp at h
  | x :: xs, p, hx, j, hj => by
    have hx' := List.pairwise_cons.1 hx
    cases hp : ltL x p with
    | true =>
      have e : lowL (x :: xs) p = lowL xs p + 1 := by simp [lowL, hp]
      rw [e]
      cases j with
      | zero => simp [lget, hp]
      | succ j =>
        have := lowL_at hx'.2 (p := p) j (by simpa using hj)
        have e2 : lget (x :: xs) (j + 1) = lget xs j := by simp [lget]
        rw [e2, this]; omega
    | false =>
      have hall : ∀ a ∈ xs, ltL a p = false := fun a ha => by
        cases h : ltL a p with
        | false => rfl
        | true => have := ltL_trans (hx'.1 a ha) h; rw [hp] at this; cases this
      have e : lowL (x :: xs) p = 0 := by
        have : xs.filter (fun a => ltL a p) = [] := List.filter_eq_nil_iff.2 fun a ha => by rw [hall a ha]; simp
        simp [lowL, hp, this]
      rw [e]
      constructor
      · intro h
        cases j with
        | zero => simp [lget, hp] at h
        | succ j =>
          have e2 : lget (x :: xs) (j + 1) = lget xs j := by simp [lget]
          rw [e2, hall _ (lget_mem (by simpa using hj))] at h; cases h
      · intro h; omega
/-- a list is put at its place -/
def putAt (xs : List (List Int)) (p : List Int) : List (List Int) := xs.take (lowL xs p) ++ p :: xs.drop (lowL xs p)
theorem mem_low {xs : List (List Int)} {p : List Int} (h : AscL xs) : p ∈ xs ↔ lowL xs p < xs.length ∧ lget xs (lowL xs p) = p := by
  constructor
  · intro hp
    obtain ⟨j, hj, e⟩ := List.getElem_of_mem hp
    have ej : lget xs j = p := by rw [lget_lt hj]; exact e
    have h1 : ¬ j < lowL xs p := fun q => by have := (lowL_at h j hj).2 q; rw [ej, ltL_irr] at this; cases this
    have h2 : ¬ lowL xs p < j := fun q => by
      have hl : lowL xs p < xs.length := by omega
      have hn : ¬ (ltL (lget xs (lowL xs p)) p = true) := fun t => by have := (lowL_at h _ hl).1 t; omega
      have := List.pairwise_iff_getElem.1 h _ _ hl hj q
      rw [← lget_lt hl, ← lget_lt hj, ej] at this
      exact hn this
    obtain rfl : lowL xs p = j := by omega
    exact ⟨hj, ej⟩
  · rintro ⟨h1, h2⟩
    rw [← h2]; exact lget_mem h1
theorem putAt_asc {xs : List (List Int)} {p : List Int} (h : AscL xs) (hp : p ∉ xs) : AscL (putAt xs p) ∧ ∀ z, z ∈ putAt xs p ↔ z ∈ xs ∨ z = p := by
  have htd := List.take_append_drop (lowL xs p) xs
  have hlt : ∀ a ∈ xs.take (lowL xs p), ltL a p = true := fun a ha => by
    obtain ⟨j, hj, e⟩ := List.getElem_of_mem ha
    rw [List.length_take] at hj
    rw [List.getElem_take] at e
    have := (lowL_at h (p := p) j (by omega)).2 (by omega)
    rw [lget_lt (by omega), e] at this; exact this
  have hgt : ∀ a ∈ xs.drop (lowL xs p), ltL p a = true := fun a ha => by
    obtain ⟨j, hj, e⟩ := List.getElem_of_mem ha
    rw [List.length_drop] at hj
    rw [List.getElem_drop] at e
    rcases ltL_tri a p with t | t | t
    · have := (lowL_at h (lowL xs p + j) (by omega)).1 (by rw [lget_lt (by omega), e]; exact t)
      omega
    · subst t; exact absurd (by rw [← e]; exact List.getElem_mem _) hp
    · exact t
  have h' := h
  unfold AscL at h'
  rw [← htd, List.pairwise_append] at h'
  refine ⟨?_, fun z => ?_⟩
  · unfold AscL putAt
    rw [List.pairwise_append, List.pairwise_cons]
    refine ⟨h'.1, ⟨hgt, h'.2.1⟩, fun a ha b hb => ?_⟩
    rcases List.mem_cons.1 hb with e | e
    · subst e; exact hlt a ha
    · exact h'.2.2 a ha b e
  · unfold putAt
    rw [List.mem_append, List.mem_cons]
    have : z ∈ xs ↔ z ∈ xs.take (lowL xs p) ∨ z ∈ xs.drop (lowL xs p) := by rw [← List.mem_append, htd]
    rw [this]
    constructor
    · rintro (h1 | h1 | h1)
      · exact .inl (.inl h1)
      · exact .inr h1
      · exact .inl (.inr h1)
    · rintro ((h1 | h1) | h1)
      · exact .inl h1
      · exact .inr (.inr h1)
      · exact .inr (.inl h1)
/-- one element times one generator -/
def stepG (gs es : List (List Int)) (i k : Nat) : List (List Int) := if thenL (lget es i) (lget gs k) ∈ es then es else es ++ [thenL (lget es i) (lget gs k)]
def rowG (gs es : List (List Int)) (i : Nat) : Nat → List (List Int)
  | 0 => es
  | k + 1 => stepG gs (rowG gs es i k) i k
theorem stepG_len (gs es : List (List Int)) (i k : Nat) : es.length ≤ (stepG gs es i k).length ∧ (stepG gs es i k).length ≤ es.length + 1 := by
  unfold stepG; split
  · omega
  · rw [List.length_append]; simp
theorem rowG_len (gs es : List (List Int)) (i : Nat) : ∀ k, es.length ≤ (rowG gs es i k).length ∧ (rowG gs es i k).length ≤ es.length + k
  | 0 => ⟨Nat.le_refl _, Nat.le_refl _⟩
  | k + 1 => by
    have h1 := rowG_len gs es i k
    have h2 := stepG_len gs (rowG gs es i k) i k
    show es.length ≤ (stepG gs (rowG gs es i k) i k).length ∧ (stepG gs (rowG gs es i k) i k).length ≤ es.length + (k + 1)
    omega
/-- the elements, if there are no more than 1000 -/
def runG (gs : List (List Int)) : Nat → Nat → List (List Int) → Option (List (List Int))
  | 0, _, _ => none
  | f + 1, i, es => if i < es.length then (if 1000 < (rowG gs es i gs.length).length then none else runG gs f (i + 1) (rowG gs es i gs.length)) else some es
theorem runG_go {gs es : List (List Int)} {f i : Nat} (h : i < es.length) (h2 : (rowG gs es i gs.length).length ≤ 1000) : runG gs (f + 1) i es = runG gs f (i + 1) (rowG gs es i gs.length) := by
  have e : runG gs (f + 1) i es = if i < es.length then (if 1000 < (rowG gs es i gs.length).length then none else runG gs f (i + 1) (rowG gs es i gs.length)) else some es := rfl
  rw [e]; rw [if_pos h, if_neg (by omega)]
theorem runG_bad {gs es : List (List Int)} {f i : Nat} (h : i < es.length) (h2 : 1000 < (rowG gs es i gs.length).length) : runG gs (f + 1) i es = none := by
  have e : runG gs (f + 1) i es = if i < es.length then (if 1000 < (rowG gs es i gs.length).length then none else runG gs f (i + 1) (rowG gs es i gs.length)) else some es := rfl
  rw [e]; rw [if_pos h, if_pos h2]
theorem runG_end {gs es : List (List Int)} {f i : Nat} (h : ¬ i < es.length) : runG gs (f + 1) i es = some es := by
  have e : runG gs (f + 1) i es = if i < es.length then (if 1000 < (rowG gs es i gs.length).length then none else runG gs f (i + 1) (rowG gs es i gs.length)) else some es := rfl
  rw [e]; rw [if_neg h]
def grpE (gs : List (List Int)) (n : Nat) : Option (List (List Int)) := runG gs 1002 0 [unitL n]
end Go.Proofs.YtljimlejcecleaaDoor

/- slices.Repeat at []int64. -/
namespace Go.Proofs.YtljimlejcecleaaDoor
open Go.RowKit

theorem Own.of_heap {w w' : World} {base E g T : Nat} {xs ys : List Value} (h : Own w base E (some ⟨g, 0, none⟩) T T xs) (hh : w'.heap[g]? = some (.cells ys.toArray E (0, 0))) (hl : ys.length = T) : Own w' base E (some ⟨g, 0, none⟩) T T ys := by
  refine ⟨⟨by rw [hl, Nat.mul_one], .inr ⟨g, T, ys.toArray, rfl, (h.lt g rfl).1, hh, Nat.le_refl _, by have := h.2; simp [maxLen]; omega, by simp [hl], ?_⟩⟩, h.2⟩
  simp [← hl]
section
variable {P : Program} {ops : Array Oper} {rest : List Oper} {o : Oper} {a : Act} {Q : Exit → Act → World → Prop}
end

end Go.Proofs.YtljimlejcecleaaDoor

/- within and its twin in the reference; slices.IndexFunc and slices.ContainsFunc at []int64, over any predicate that only reads or makes memory. -/
namespace Go.Proofs.YtljimlejcecleaaDoor
open Go.RowKit

/-- n lies between lo and hi -/
def inB (n lo hi : Int) : Bool := decide (lo ≤ n) && decide (n ≤ hi)
theorem inB_true {n lo hi : Int} : inB n lo hi = true ↔ lo ≤ n ∧ n ≤ hi := by simp [inB]
theorem within_any (n lo hi : Int) (w : World) : Calls Tryd.prog 22 #[.int .i64 n, .int .i64 lo, .int .i64 hi] w fun e w' => e = .returned (.bool (inB n lo hi)) ∧ w' = w := by
  by_cases h : lo ≤ n
  · have h1 : decide (lo ≤ n) = true := by simpa using h
    go_enter Tryd.func22, Tryd.ntmps22
    go_wp2
    go_ret
    exact ⟨ret_bool (by simp [inB, h]), rfl⟩
  · have h1 : decide (lo ≤ n) = false := by simpa using h
    have h2 : inB n lo hi = false := by simp [inB, h1]
    have H2 := Lib.hid h2
    clear h2
    go_enter Tryd.func22, Tryd.ntmps22
    go_wp2
    go_ret
    exact ⟨ret_bool H2.out.symm, rfl⟩

theorem specIn_any (n lo hi : Int) (w : World) : Calls Tryd.prog 20 #[.int .i64 n, .int .i64 lo, .int .i64 hi] w fun e w' => e = .returned (.bool (inB n lo hi)) ∧ w' = w := by
  by_cases h : lo ≤ n
  · have h1 : decide (lo ≤ n) = true := by simpa using h
    go_enter Tryd.func20, Tryd.ntmps20
    go_wp2
    go_ret
    exact ⟨ret_bool (by simp [inB, h]), rfl⟩
  · have h1 : decide (lo ≤ n) = false := by simpa using h
    have h2 : inB n lo hi = false := by simp [inB, h1]
    have H2 := Lib.hid h2
    clear h2
    go_enter Tryd.func20, Tryd.ntmps20
    go_wp2
    go_ret
    exact ⟨ret_bool H2.out.symm, rfl⟩

end Go.Proofs.YtljimlejcecleaaDoor

/- IsDiagram, the program's and the reference's. -/
namespace Go.Proofs.YtljimlejcecleaaDoor
open Go.RowKit

end Go.Proofs.YtljimlejcecleaaDoor

/- The presentation of a diagram: what both call. -/
namespace Go.Proofs.YtljimlejcecleaaDoor
open Go.RowKit

end Go.Proofs.YtljimlejcecleaaDoor

/- The presentation of a diagram: the data, and how one relator more is laid. -/
namespace Go.Proofs.YtljimlejcecleaaDoor
open Go.RowKit

end Go.Proofs.YtljimlejcecleaaDoor

/- Groups of permutations: the reference's l01Less, l01Same, l01Then, l01Put. guards: -/
namespace Go.Proofs.YtljimlejcecleaaDoor
open Go.RowKit

theorem iget_cons_drop {x : List Int} {k : Nat} (h : k < x.length) : x.drop k = iget x k :: x.drop (k + 1) := by rw [List.drop_eq_getElem_cons h, iget_lt h]
theorem ltL_step {x y : List Int} {n k : Nat} (hx : x.length = n) (hy : y.length = n) (hk : k < n) : ltL (x.drop k) (y.drop k) = if iget x k < iget y k then true else if iget y k < iget x k then false else ltL (x.drop (k + 1)) (y.drop (k + 1)) := by
  rw [iget_cons_drop (by omega : k < x.length), iget_cons_drop (by omega : k < y.length)]; rfl
theorem thenL_take {p q : List Int} {k : Nat} (h : k < p.length) : thenL (p.take (k + 1)) q = thenL (p.take k) q ++ [iget q (iget p k).toNat] := by
  unfold thenL
  rw [List.take_succ_eq_append_getElem h, List.map_append, iget_lt h]; rfl
/-- the lists of a spine: each in a block of numbers that nothing writes any more -/
structure SpF (w : World) (lo : Nat) (ao : Option Addr) (n c : Nat) (us : List Value) (ds : List (List Int)) : Prop where
  own : Own w lo 22 ao n c us
  len : ds.length = n
  row : ∀ (j : Nat) (u : Value) (d : List Int), us[j]? = some u → ds[j]? = some d → ∃ a m k, u = .slice a m k ∧ Own w lo 2 a m k (d.map (Value.int .i64))
theorem Own.typG {w : World} {lo E n c : Nat} {ao : Option Addr} {xs : List Value} (h : Own w lo E ao n c xs) {g : Nat} (hg : bk ao = some g) : ∃ cs, w.heap[g]? = some (.cells cs E (0, 0)) := by
  rcases h.1.2 with h2 | ⟨g', cap, cur, hv, _, hh, _⟩
  · have h2 := h2.1
    injection h2 with h3; subst h3; cases hg
  · injection hv with h3; subst h3
    obtain rfl := Option.some.inj hg
    exact ⟨cur, hh⟩
theorem own_neT {w : World} {lo lo' E E' n n' c c' : Nat} {ao ao' : Option Addr} {xs xs' : List Value} (h : Own w lo E ao n c xs) (h' : Own w lo' E' ao' n' c' xs') (hE : E ≠ E') {g : Nat} (hg : bk ao = some g) : bk ao' ≠ some g := fun e => by
  obtain ⟨cs, h1⟩ := h.typG hg
  obtain ⟨cs', h2⟩ := h'.typG e
  rw [h1] at h2
  injection h2 with h2
  injection h2 with _ h2
  exact hE h2
section
variable {w w' : World} {lo : Nat} {ao : Option Addr} {n c : Nat} {us : List Value} {ds : List (List Int)}
theorem SpF.at_ (h : SpF w lo ao n c us ds) {j : Nat} (hj : j < n) : ∃ g a m k, ao = some ⟨g, 0, none⟩ ∧ w.cell? ⟨g, j, none⟩ = some (.slice a m k) ∧ us[j]? = some (.slice a m k) ∧ Own w lo 2 a m k ((lget ds j).map (Value.int .i64)) := by
  have hl := h.own.len
  have hd := h.len
  obtain ⟨g, rfl, -, -, -, hc, -⟩ := h.own.form (by omega)
  have hu := List.getElem?_eq_getElem (by omega : j < us.length)
  obtain ⟨a, m, k, e, ho⟩ := h.row j _ _ hu (get?_lget (by omega))
  exact ⟨g, a, m, k, rfl, by rw [hc j hj, hu, e], by rw [hu, e], ho⟩
/-- another spine has grown -/
theorem SpF.far (h : SpF w lo ao n c us ds) {b : Option Addr} {nb cb : Nat} {vs : List Value} {lob : Nat} (hb : Own w lob 22 b nb cb vs) (hg : w.grownBy w' (bk b)) (hne : ∀ g, bk ao = some g → bk b ≠ some g) : SpF w' lo ao n c us ds :=
  ⟨h.own.same fun g e => hg.block g (h.own.lt g e).2 (fun q => hne g e q.symm), h.len, fun j u d hu hd => by
    obtain ⟨a, m, k, e, ho⟩ := h.row j u d hu hd
    exact ⟨a, m, k, e, ho.same fun g eg => hg.block g (ho.lt g eg).2 (fun q => own_neT ho hb (by decide) eg q.symm)⟩⟩
theorem SpF.below (h : SpF w lo ao n c us ds) (hb : Below w.heap.size w w') : SpF w' lo ao n c us ds :=
  ⟨h.own.below hb, h.len, fun j u d hu hd => by
    obtain ⟨a, m, k, e, ho⟩ := h.row j u d hu hd
    exact ⟨a, m, k, e, ho.below hb⟩⟩
theorem SpF.push (h : SpF w lo ao n c us ds) {a' : Option Addr} {m' k' c' : Nat} {a2 : Option Addr} {d : List Int} (ho : Own w lo 2 a' m' k' (d.map (Value.int .i64))) (hg : w.grownBy w' (bk ao)) (hown : Own w' lo 22 a2 (n + 1) c' (us ++ [.slice a' m' k'])) : SpF w' lo a2 (n + 1) c' (us ++ [.slice a' m' k']) (ds ++ [d]) := by
  have hl := h.own.len
  have hd := h.len
  have keep : ∀ {a m k} {x : List Int}, Own w lo 2 a m k (x.map (Value.int .i64)) → Own w' lo 2 a m k (x.map (Value.int .i64)) := fun ho => ho.same fun g eg => hg.block g (ho.lt g eg).2 (fun q => own_neT ho h.own (by decide) eg q.symm)
  refine ⟨hown, by rw [List.length_append, hd]; rfl, fun j u x hu hx => ?_⟩
  by_cases hj : j < n
  · rw [List.getElem?_append_left (by omega)] at hu hx
    obtain ⟨a, m, k, e, ho⟩ := h.row j u x hu hx
    exact ⟨a, m, k, e, keep ho⟩
  · have hj2 : j = n := by have := (List.getElem?_eq_some_iff.1 hx).1; rw [List.length_append] at this; simp at this; omega
    subst hj2
    rw [List.getElem?_append_right (by omega), hl, Nat.sub_self] at hu
    rw [List.getElem?_append_right (by omega), hd, Nat.sub_self] at hx
    simp at hu hx
    subst hu hx
    exact ⟨_, _, _, rfl, keep ho⟩
end
end Go.Proofs.YtljimlejcecleaaDoor

/- A memory of names: the state of a walk as named chunks of memory (vectors of plain values, flat cells, rows of rows), with the world behind it. No program in sight. -/
namespace Go.Proofs.YtljimlejcecleaaDoor
open Go.RowKit

abbrev Nm := Nat
/-- a value of one cell, as the walk knows it: a plain value; a slice or a pointer into chunk x; a slice or a pointer into row i of chunk x -/
inductive A1 where
  | val (v : Value)
  | any
  | sl (x : Nm) (off n : Nat)
  | ptr (x : Nm) (off : Nat)
  | esl (x : Nm) (i off n : Nat)
  | eptr (x : Nm) (i off : Nat)
  | clo (f : Fn) (xs : List (Nm × Nat))
inductive A2 where
  | one (a : A1)
  | agg (l : List A1)
inductive AV where
  | s (a : A2)
  | tup (l : List A2)
abbrev o1 (a : A1) : AV := .s (.one a)
abbrev vv (v : Value) : AV := .s (.one (.val v))

structure Hd where
  ao : Option Addr
  c : Nat
  k : Nat
structure Env where
  h : Nm → Option Hd
  r : Nm → Nat → Hd

def slAt (h : Hd) (off n : Nat) (u : Value) : Prop :=
  ∃ ao, u = .slice ao n (h.c - off) ∧ (off = 0 → ao = h.ao) ∧ (0 < off → off < h.c → ao = h.ao.map fun p => ⟨p.block, p.off + off * h.k, none⟩)
def ptAt (h : Hd) (off : Nat) (u : Value) : Prop := ∃ b o, h.ao = some ⟨b, o, none⟩ ∧ u = .pointer (some ⟨b, o + off, none⟩)

def Den1 (η : Env) : A1 → Value → Prop
  | .val v, u => u = v
  | .any, u => u.oneCell' = true
  | .sl x off n, u => (∃ ao c, u = .slice ao n c) ∧ ∀ h, η.h x = some h → slAt h off n u
  | .ptr x off, u => (∃ p, u = .pointer p) ∧ ∀ h, η.h x = some h → ptAt h off u
  | .esl x i off n, u => (∃ ao c, u = .slice ao n c) ∧ ∀ h, η.h x = some h → slAt (η.r x i) off n u
  | .eptr x i off, u => (∃ p, u = .pointer p) ∧ ∀ h, η.h x = some h → ptAt (η.r x i) off u
  | .clo f xs, u => ∃ us : Array Value, u = .func f #[] us ∧ us.size = xs.length ∧ ∀ (j : Nat) (p : Nm × Nat), xs[j]? = some p → ∃ q, us[j]? = some q ∧ (∃ p', q = .pointer p') ∧ ∀ h, η.h p.1 = some h → ptAt h p.2 q
def Den2 (η : Env) : A2 → Value → Prop
  | .one a, u => Den1 η a u
  | .agg l, u => ∃ us : Array Value, u = .agg us ∧ us.size = l.length ∧ ∀ (j : Nat) (a : A1), l[j]? = some a → ∃ u', us[j]? = some u' ∧ Den1 η a u'
def Den (η : Env) : AV → Value → Prop
  | .s a, u => Den2 η a u
  | .tup l, u => ∃ us : Array Value, u = .tuple us ∧ us.size = l.length ∧ ∀ (j : Nat) (a : A2), l[j]? = some a → ∃ u', us[j]? = some u' ∧ Den2 η a u'

def A1.has (x : Nm) : A1 → Bool
  | .sl y _ _ | .ptr y _ | .esl y _ _ _ | .eptr y _ _ => Nat.beq x y
  | .clo _ xs => xs.any fun p => Nat.beq x p.1
  | .val _ | .any => false
def A2.has (x : Nm) : A2 → Bool
  | .one a => a.has x
  | .agg l => l.any (A1.has x)
def AV.has (x : Nm) : AV → Bool
  | .s a => a.has x
  | .tup l => l.any (A2.has x)
def A1.forget (x : Nm) (a : A1) : A1 := bif a.has x then .any else a

/-- a cell of a mixed vector: a plain value; a row of m elements of k cells each; something -/
inductive Cel where
  | v (x : Value)
  | r (F : TypeId) (k m : Nat) (vs : List Value)
  | any
inductive Dat where
  | flat (l : List A1)
  | vals (vs : List Value)
  | rows (E : TypeId) (vss : List (List Value)) (holes : List Nat)
  | mix (cs : List Cel)
structure Ch where
  own : Bool
  E : TypeId
  k : Nat
  d : Dat
def Dat.len : Dat → Nat
  | .flat l => l.length
  | .vals vs => vs.length
  | .rows _ vss _ => vss.length
  | .mix cs => cs.length
def Dat.forget (x : Nm) : Dat → Dat
  | .flat l => .flat (l.map (A1.forget x))
  | d => d
def Ch.forget (x : Nm) (c : Ch) : Ch := { c with d := c.d.forget x }

/-- the owner of a block: a chunk, or a row of a chunk -/
abbrev Own? := Nat → Option (Nm × Option Nat)

def VecO (ω : Own?) (w : World) (ow : Nm × Option Nat) (h : Hd) (E : TypeId) (len : Nat) (cell : Nat → Value → Prop) : Prop :=
  (h.ao = none ∧ h.c = 0 ∧ len = 0) ∨
  ∃ b o cs, h.ao = some ⟨b, o, none⟩ ∧ ω b = some ow ∧ w.heap[b]? = some (.cells cs E (0, 0)) ∧ (o = 0 ∧ cs.size = h.c * h.k) ∧ len ≤ h.c * h.k ∧ h.c ≤ maxLen ∧
    ∀ j, j < len → ∃ u, cs[o + j]? = some u ∧ cell j u
def VecR (ω : Own?) (w : World) (h : Hd) (len : Nat) (cell : Nat → Value → Prop) : Prop :=
  len ≤ h.c * h.k ∧ ∀ j, j < len → ∃ b o u, h.ao = some ⟨b, o, none⟩ ∧ ω b = none ∧ b < w.heap.size ∧ w.cell? ⟨b, o + j, none⟩ = some u ∧ cell j u
def Vec (own : Bool) (ω : Own?) (w : World) (ow : Nm × Option Nat) (h : Hd) (E : TypeId) (len : Nat) (cell : Nat → Value → Prop) : Prop :=
  match own with
  | true => VecO ω w ow h E len cell
  | false => VecR ω w h len cell

def celOK (η : Env) (ω : Own?) (w : World) (own : Bool) (x : Nm) (j : Nat) : Cel → Value → Prop
  | .v y, u => u = y
  | .any, _ => True
  | .r F k m vs, u => vs.length = m * k ∧ u = .slice (η.r x j).ao m (η.r x j).c ∧ (η.r x j).k = k ∧ Vec own ω w (x, some j) (η.r x j) F vs.length fun i u => vs[i]? = some u
theorem celOK.move {η η' : Env} {ω ω' : Own?} {w w' : World} {own own' : Bool} {x x' : Nm} {j : Nat} {c : Cel} {u : Value} (hr : η'.r x' j = η.r x j)
    (hv : ∀ F k m vs, c = .r F k m vs → Vec own ω w (x, some j) (η.r x j) F vs.length (fun i u => vs[i]? = some u) → Vec own' ω' w' (x', some j) (η.r x j) F vs.length (fun i u => vs[i]? = some u)) (h : celOK η ω w own x j c u) : celOK η' ω' w' own' x' j c u := by
  cases c with
  | v y => exact h
  | any => trivial
  | r F k m vs =>
    obtain ⟨h0, h1, h2, h3⟩ := h
    unfold celOK
    rw [hr]
    exact ⟨h0, h1, h2, hv F k m vs rfl h3⟩
def cellsOK (η : Env) (ω : Own?) (w : World) (own : Bool) (x : Nm) : Dat → Nat → Value → Prop
  | .flat l, j, u => ∀ a, l[j]? = some a → Den1 η a u
  | .vals vs, j, u => vs[j]? = some u
  | .rows E vss holes, j, u => u.oneCell' = true ∧ (j ∉ holes → ∀ vs, vss[j]? = some vs → u = .slice (η.r x j).ao vs.length (η.r x j).c ∧ (η.r x j).k = 1 ∧ Vec own ω w (x, some j) (η.r x j) E vs.length fun i u => vs[i]? = some u)
  | .mix cs, j, u => u.oneCell' = true ∧ ∀ c, cs[j]? = some c → celOK η ω w own x j c u

def ChIs (η : Env) (ω : Own?) (w : World) (x : Nm) (h : Hd) (c : Ch) : Prop := h.k = c.k ∧ Vec c.own ω w (x, none) h c.E c.d.len (cellsOK η ω w c.own x c.d)

def Mem (η : Env) (ω : Own?) (w : World) (ch : Nm → Option Ch) : Prop :=
  (∀ x c, ch x = some c → ∃ h, η.h x = some h ∧ ChIs η ω w x h c) ∧ (∀ x, ch x = none → η.h x = none)

/-- what was not owned has not turned -/
structure Fr (ω : Own?) (w : World) (ω' : Own?) (w' : World) : Prop where
  os : w'.os = w.os
  tape : w'.tape = w.tape
  output : w'.output = w.output
  size : w.heap.size ≤ w'.heap.size
  block : ∀ b, b < w.heap.size → ω b = none → w'.heap[b]? = w.heap[b]? ∧ ω' b = none
theorem Fr.refl (ω : Own?) (w : World) : Fr ω w ω w := ⟨rfl, rfl, rfl, Nat.le_refl _, fun _ _ h => ⟨rfl, h⟩⟩
theorem Fr.trans {ω ω' ω'' : Own?} {w w' w'' : World} (h : Fr ω w ω' w') (k : Fr ω' w' ω'' w'') : Fr ω w ω'' w'' :=
  ⟨k.os.trans h.os, k.tape.trans h.tape, k.output.trans h.output, Nat.le_trans h.size k.size, fun b hb hn =>
    have h1 := h.block b hb hn
    have h2 := k.block b (Nat.lt_of_lt_of_le hb h.size) h1.2
    ⟨h2.1.trans h1.1, h2.2⟩⟩

structure St where
  sl : Nat → Option AV
  ch : Nm → Option Ch
  /-- values that stand in no slot (the arguments), as they are known now -/
  ph : Nat → Option AV
/-- what is fixed at the call's begin: the owners, and values to remember -/
structure Beg where
  own : Own?
  ph : List Value
def St.put (S : St) (t : Nat) (av : AV) : St := { S with sl := fun t' => bif Nat.beq t' t then some av else S.sl t' }
def St.new (S : St) (x : Nm) (c : Ch) : St :=
  { sl := fun t => (S.sl t).bind fun av => bif av.has x then none else some av
    ph := fun t => (S.ph t).bind fun av => bif av.has x then none else some av
    ch := fun y => bif Nat.beq y x then some c else (S.ch y).map (Ch.forget x) }
def St.set (S : St) (x : Nm) (c : Ch) : St := { S with ch := fun y => bif Nat.beq y x then some c else S.ch y }
def St.rm (S : St) (x : Nm) : St := { S with ch := fun y => bif Nat.beq y x then none else S.ch y }

/-- the state S holds in the frame a and the world w; w0, ω0: the world and the owners at the call's begin; nt: the number of slots -/
structure SatE (w0 : World) (ω0 : Beg) (nt : Nat) (S : St) (η : Env) (ω : Own?) (a : Act) (w : World) : Prop where
  dfr : a.defers = []
  tsz : a.tmps.size = nt
  slots : ∀ t av, S.sl t = some av → ∃ u, a.tmps[t]? = some u ∧ Den η av u
  phs : ∀ t av, S.ph t = some av → ∃ u, ω0.ph[t]? = some u ∧ Den η av u
  mem : Mem η ω w S.ch
  fr : Fr ω0.own w0 ω w
def Sat (w0 : World) (ω0 : Beg) (nt : Nat) (S : St) (a : Act) (w : World) : Prop := ∃ η ω, SatE w0 ω0 nt S η ω a w

section
variable {w0 w : World} {ω0 : Beg} {ω : Own?} {nt : Nat} {S : St} {η : Env} {a : Act}

theorem beq_true {x y : Nat} (h : Nat.beq x y = true) : x = y := Nat.eq_of_beq_eq_true h
theorem beq_ne {x y : Nat} (h : x ≠ y) : Nat.beq x y = false := by
  cases hb : Nat.beq x y with
  | true => exact absurd (beq_true hb) h
  | false => rfl
theorem sl_put (S : St) (t t' : Nat) (av : AV) : (S.put t av).sl t' = if t' = t then some av else S.sl t' := by
  unfold St.put
  by_cases h : t' = t
  · subst h; simp
  · simp only [beq_ne h, if_neg h, cond_false]
theorem ch_rm (S : St) (x y : Nm) : (S.rm x).ch y = if y = x then none else S.ch y := by
  unfold St.rm
  by_cases h : y = x
  · subst h; simp
  · simp only [beq_ne h, if_neg h, cond_false]
theorem ch_new (S : St) (x y : Nm) (c : Ch) : (S.new x c).ch y = if y = x then some c else (S.ch y).map (Ch.forget x) := by
  unfold St.new
  by_cases h : y = x
  · subst h; simp
  · simp only [beq_ne h, if_neg h, cond_false]
theorem sl_new {S : St} {x : Nm} {c : Ch} {t : Nat} {av : AV} (h : (S.new x c).sl t = some av) : S.sl t = some av ∧ av.has x = false := by
  unfold St.new at h
  simp only at h
  cases hs : S.sl t with
  | none => rw [hs] at h; cases h
  | some b =>
    rw [hs] at h
    simp only [Option.bind_some] at h
    cases hb : b.has x with
    | true => rw [hb] at h; cases h
    | false => rw [hb] at h; simp at h; subst h; exact ⟨rfl, hb⟩

theorem ph_new {S : St} {x : Nm} {c : Ch} {t : Nat} {av : AV} (h : (S.new x c).ph t = some av) : S.ph t = some av ∧ av.has x = false := by
  unfold St.new at h
  simp only at h
  cases hs : S.ph t with
  | none => rw [hs] at h; cases h
  | some b =>
    rw [hs] at h
    simp only [Option.bind_some] at h
    cases hb : b.has x with
    | true => rw [hb] at h; cases h
    | false => rw [hb] at h; simp at h; subst h; exact ⟨rfl, hb⟩
theorem SatE.putV (h : SatE w0 ω0 nt S η ω a w) {t : Nat} {av : AV} {u : Value} (ht : t < nt) (hd : Den η av u) : SatE w0 ω0 nt (S.put t av) η ω (a.put (some t) u) w :=
  { dfr := h.dfr
    tsz := by simp only [Act.put, Array.size_setIfInBounds]; exact h.tsz
    mem := h.mem, fr := h.fr, phs := h.phs
    slots := fun t' av' ht' => by
      rw [sl_put] at ht'
      simp only [Act.put, Array.getElem?_setIfInBounds, h.tsz]
      by_cases e : t' = t
      · subst e
        rw [if_pos rfl] at ht'
        obtain rfl := Option.some.inj ht'
        exact ⟨u, by simp [ht], hd⟩
      · rw [if_neg e] at ht'
        obtain ⟨u', h1, h2⟩ := h.slots t' av' ht'
        exact ⟨u', by rw [if_neg fun e' => e e'.symm]; exact h1, h2⟩ }

theorem Vec.get {own : Bool} {ow : Nm × Option Nat} {h : Hd} {E : TypeId} {len : Nat} {cell : Nat → Value → Prop} (hv : Vec own ω w ow h E len cell) {j : Nat} (hj : j < len) :
    ∃ b o u, h.ao = some ⟨b, o, none⟩ ∧ w.cell? ⟨b, o + j, none⟩ = some u ∧ cell j u := by
  cases own with
  | true =>
    rcases hv with ⟨_, _, h0⟩ | ⟨b, o, cs, h1, _, h2, _, _, _, h3⟩
    · omega
    · obtain ⟨u, hu, hc⟩ := h3 j hj
      exact ⟨b, o, u, h1, by rw [cell_of_row w b (o + j) cs E (0, 0) h2]; exact hu, hc⟩
  | false =>
    obtain ⟨b, o, u, h1, _, _, h2, h3⟩ := hv.2 j hj
    exact ⟨b, o, u, h1, h2, h3⟩
theorem Vec.cap {own : Bool} {ow : Nm × Option Nat} {h : Hd} {E : TypeId} {len : Nat} {cell : Nat → Value → Prop} (hv : Vec own ω w ow h E len cell) : len ≤ h.c * h.k := by
  cases own with
  | true => rcases hv with ⟨_, _, h0⟩ | ⟨b, o, cs, h1, _, h2, _, h3, _⟩ <;> omega
  | false => exact hv.1
end
end Go.Proofs.YtljimlejcecleaaDoor

/- A memory of names: how it goes on when names are laid, dropped, and written. No program in sight. -/
namespace Go.Proofs.YtljimlejcecleaaDoor
open Go.RowKit

def A1.mono (η η' : Env) (a : A1) : Prop := ∀ x, a.has x = true → η'.h x = none ∨ (η'.h x = η.h x ∧ ∀ i, η'.r x i = η.r x i)
theorem beq_r (x : Nat) : Nat.beq x x = true := by simp
theorem Den1.mono {η η' : Env} {a : A1} {u : Value} (hm : a.mono η η') (h : Den1 η a u) : Den1 η' a u := by
  cases a with
  | val v => exact h
  | any => exact h
  | sl x off n => exact ⟨h.1, fun hd he => (hm x (beq_r x)).elim (fun e => by rw [e] at he; cases he) (fun e => h.2 hd (e.1 ▸ he))⟩
  | ptr x off => exact ⟨h.1, fun hd he => (hm x (beq_r x)).elim (fun e => by rw [e] at he; cases he) (fun e => h.2 hd (e.1 ▸ he))⟩
  | esl x i off n => exact ⟨h.1, fun hd he => (hm x (beq_r x)).elim (fun e => by rw [e] at he; cases he) (fun e => by rw [e.2 i]; exact h.2 hd (e.1 ▸ he))⟩
  | eptr x i off => exact ⟨h.1, fun hd he => (hm x (beq_r x)).elim (fun e => by rw [e] at he; cases he) (fun e => by rw [e.2 i]; exact h.2 hd (e.1 ▸ he))⟩
  | clo f xs =>
    obtain ⟨us, h1, h2, h3⟩ := h
    refine ⟨us, h1, h2, fun j p hp => ?_⟩
    obtain ⟨q, hq, hq1, hq2⟩ := h3 j p hp
    refine ⟨q, hq, hq1, fun hd he => ?_⟩
    have hx : (A1.clo f xs).has p.1 = true := by simp only [A1.has, List.any_eq_true]; exact ⟨p, List.mem_of_getElem? hp, beq_r _⟩
    exact (hm p.1 hx).elim (fun e => by rw [e] at he; cases he) (fun e => hq2 hd (e.1 ▸ he))
theorem Den1.one {η : Env} {a : A1} {u : Value} (h : Den1 η a u) (hv : ∀ v, a = .val v → v.oneCell' = true) : u.oneCell' = true := by
  cases a with
  | val v => have h : u = v := h; subst h; exact hv _ rfl
  | any => exact h
  | sl x off n => obtain ⟨⟨ao, c, rfl⟩, _⟩ := h; rfl
  | ptr x off => obtain ⟨⟨ao, rfl⟩, _⟩ := h; rfl
  | esl x i off n => obtain ⟨⟨ao, c, rfl⟩, _⟩ := h; rfl
  | eptr x i off => obtain ⟨⟨ao, rfl⟩, _⟩ := h; rfl
  | clo f xs => obtain ⟨us, rfl, _⟩ := h; rfl
theorem has_not_val {a : A1} {x : Nm} (h : a.has x = true) : ∀ v, a = .val v → v.oneCell' = true := by rintro v rfl; cases h
theorem Den1.forget {η η' : Env} {a : A1} {u : Value} {x : Nm} (hm : ∀ y, y ≠ x → η'.h y = none ∨ (η'.h y = η.h y ∧ ∀ i, η'.r y i = η.r y i)) (h : Den1 η a u) : Den1 η' (a.forget x) u := by
  unfold A1.forget
  cases hx : a.has x with
  | true => exact h.one (has_not_val hx)
  | false => exact Den1.mono (a := a) (fun y hy => hm y fun e => by rw [e, hx] at hy; cases hy) h
def A2.mono (η η' : Env) (a : A2) : Prop := ∀ x, a.has x = true → η'.h x = none ∨ (η'.h x = η.h x ∧ ∀ i, η'.r x i = η.r x i)
theorem Den2.mono {η η' : Env} {a : A2} {u : Value} (hm : a.mono η η') (h : Den2 η a u) : Den2 η' a u := by
  cases a with
  | one a => exact Den1.mono hm h
  | agg l =>
    obtain ⟨us, h1, h2, h3⟩ := h
    refine ⟨us, h1, h2, fun j a ha => ?_⟩
    obtain ⟨u', h4, h5⟩ := h3 j a ha
    exact ⟨u', h4, h5.mono fun x hx => hm x (by simp only [A2.has, List.any_eq_true]; exact ⟨a, List.mem_of_getElem? ha, hx⟩)⟩
def AV.mono (η η' : Env) (a : AV) : Prop := ∀ x, a.has x = true → η'.h x = none ∨ (η'.h x = η.h x ∧ ∀ i, η'.r x i = η.r x i)
theorem Den.mono {η η' : Env} {a : AV} {u : Value} (hm : a.mono η η') (h : Den η a u) : Den η' a u := by
  cases a with
  | s a => exact Den2.mono hm h
  | tup l =>
    obtain ⟨us, h1, h2, h3⟩ := h
    refine ⟨us, h1, h2, fun j a ha => ?_⟩
    obtain ⟨u', h4, h5⟩ := h3 j a ha
    exact ⟨u', h4, h5.mono fun x hx => hm x (by simp only [AV.has, List.any_eq_true]; exact ⟨a, List.mem_of_getElem? ha, hx⟩)⟩

section
variable {w0 w w' : World} {ω0 : Beg} {ω ω' : Own?} {nt : Nat} {S : St} {η η' : Env} {a : Act}

/-- the blocks that answer to p have not turned -/
def Same (ω : Own?) (w : World) (ω' : Own?) (w' : World) (p : Option (Nm × Option Nat) → Prop) : Prop :=
  w.heap.size ≤ w'.heap.size ∧ ∀ b, b < w.heap.size → p (ω b) → w'.heap[b]? = w.heap[b]? ∧ ω' b = ω b

theorem lt_of_heap {b : Nat} {o : Obj} (h : w.heap[b]? = some o) : b < w.heap.size := by
  rcases Nat.lt_or_ge b w.heap.size with hlt | hge
  · exact hlt
  · rw [Array.getElem?_eq_none hge] at h; cases h

theorem Vec.same {own : Bool} {ow : Nm × Option Nat} {h : Hd} {E : TypeId} {len : Nat} {cell cell' : Nat → Value → Prop} {p : Option (Nm × Option Nat) → Prop} (hs : Same ω w ω' w' p) (hp : p none) (hp' : p (some ow))
    (hc : ∀ j u, cell j u → cell' j u) (hv : Vec own ω w ow h E len cell) : Vec own ω' w' ow h E len cell' := by
  cases own with
  | true =>
    rcases hv with h0 | ⟨b, o, cs, h1, h2, h3, h4, h5, h6, h7⟩
    · exact .inl h0
    · have hb := hs.2 b (lt_of_heap h3) (by rw [h2]; exact hp')
      refine .inr ⟨b, o, cs, h1, hb.2.trans h2, hb.1.trans h3, h4, h5, h6, fun j hj => ?_⟩
      obtain ⟨u, hu, hcu⟩ := h7 j hj
      exact ⟨u, hu, hc j u hcu⟩
  | false =>
    refine ⟨hv.1, fun j hj => ?_⟩
    obtain ⟨b, o, u, h1, h2, h3, h4, h5⟩ := hv.2 j hj
    have hb := hs.2 b h3 (by rw [h2]; exact hp)
    exact ⟨b, o, u, h1, hb.2.trans h2, Nat.lt_of_lt_of_le h3 hs.1, (World.cell?_of_block hb.1).trans h4, hc j u h5⟩

theorem ChIs.same {x : Nm} {h : Hd} {c : Ch} {p : Option (Nm × Option Nat) → Prop} (hs : Same ω w ω' w' p) (hp : p none) (hp' : ∀ i, p (some (x, i))) (hr : ∀ i, η'.r x i = η.r x i)
    (hm : ∀ l, c.d = .flat l → ∀ a ∈ l, a.mono η η') (hc : ChIs η ω w x h c) : ChIs η' ω' w' x h c := by
  refine ⟨hc.1, hc.2.same hs hp (hp' none) fun j u hu => ?_⟩
  cases hd : c.d with
  | flat l => rw [hd] at hu; exact fun a ha => (hu a ha).mono (hm l hd a (List.mem_of_getElem? ha))
  | vals vs => rw [hd] at hu; exact hu
  | rows E vss holes =>
    rw [hd] at hu
    refine ⟨hu.1, fun hj vs hvs => ?_⟩
    obtain ⟨h1, h2, h3⟩ := hu.2 hj vs hvs
    rw [hr j]
    exact ⟨h1, h2, h3.same hs hp (hp' (some j)) fun _ _ h => h⟩
  | mix cs => rw [hd] at hu; exact ⟨hu.1, fun c hc => (hu.2 c hc).move (hr j) fun _ _ _ _ _ h3 => h3.same hs hp (hp' (some j)) fun _ _ h => h⟩

theorem ChIs.forget {x y : Nm} {h : Hd} {c : Ch} {p : Option (Nm × Option Nat) → Prop} (hs : Same ω w ω' w' p) (hp : p none) (hp' : ∀ i, p (some (x, i))) (hr : ∀ i, η'.r x i = η.r x i)
    (hm : ∀ z, z ≠ y → η'.h z = none ∨ (η'.h z = η.h z ∧ ∀ i, η'.r z i = η.r z i)) (hc : ChIs η ω w x h c) : ChIs η' ω' w' x h (c.forget y) := by
  refine ⟨hc.1, ?_⟩
  have hl : (c.forget y).d.len = c.d.len := by unfold Ch.forget Dat.forget; cases c.d <;> simp [Dat.len]
  rw [hl]
  refine hc.2.same hs hp (hp' none) fun j u hu => ?_
  unfold Ch.forget Dat.forget
  cases hd : c.d with
  | flat l =>
    rw [hd] at hu
    intro a ha
    simp only [List.getElem?_map, Option.map_eq_some_iff] at ha
    obtain ⟨b, hb, rfl⟩ := ha
    exact (hu b hb).forget hm
  | vals vs => rw [hd] at hu; exact hu
  | rows E vss holes =>
    rw [hd] at hu
    refine ⟨hu.1, fun hj vs hvs => ?_⟩
    obtain ⟨h1, h2, h3⟩ := hu.2 hj vs hvs
    rw [hr j]
    exact ⟨h1, h2, h3.same hs hp (hp' (some j)) fun _ _ h => h⟩
  | mix cs => rw [hd] at hu; exact ⟨hu.1, fun c hc => (hu.2 c hc).move (hr j) fun _ _ _ _ _ h3 => h3.same hs hp (hp' (some j)) fun _ _ h => h⟩

/-- the owners that are alive, and nobody -/
def live (S : St) (o : Option (Nm × Option Nat)) : Prop := o = none ∨ ∃ y i c, o = some (y, i) ∧ S.ch y = some c
structure Calm (S : St) (ω : Own?) (w : World) (ω' : Own?) (w' : World) : Prop where
  os : w'.os = w.os
  tape : w'.tape = w.tape
  output : w'.output = w.output
  same : Same ω w ω' w' (live S)
theorem Calm.fr {ω0 : Own?} (h : Calm S ω w ω' w') (hf : Fr ω0 w0 ω w) : Fr ω0 w0 ω' w' :=
  ⟨h.os.trans hf.os, h.tape.trans hf.tape, h.output.trans hf.output, Nat.le_trans hf.size h.same.1, fun b hb hn => by
    have h1 := hf.block b hb hn
    have h2 := h.same.2 b (Nat.lt_of_lt_of_le hb hf.size) (.inl h1.2)
    exact ⟨h2.1.trans h1.1, h2.2.trans h1.2⟩⟩

/-- the environment with a new name -/
def Env.new (η : Env) (x : Nm) (hd : Hd) (r : Nat → Hd) : Env := { h := fun y => if y = x then some hd else η.h y, r := fun y i => if y = x then r i else η.r y i }
theorem Env.new_ne (η : Env) {x : Nm} (hd : Hd) (r : Nat → Hd) (y : Nm) (h : y ≠ x) : (η.new x hd r).h y = none ∨ ((η.new x hd r).h y = η.h y ∧ ∀ i, (η.new x hd r).r y i = η.r y i) :=
  .inr ⟨by simp [Env.new, h], fun i => by simp [Env.new, h]⟩

/-- a chunk is laid under a name that is free -/
theorem SatE.lay (h : SatE w0 ω0 nt S η ω a w) {x : Nm} {c : Ch} {hd : Hd} {r : Nat → Hd} (hk : Calm S ω w ω' w') (hc : ChIs (η.new x hd r) ω' w' x hd c) : SatE w0 ω0 nt (S.new x c) (η.new x hd r) ω' a w' :=
  { dfr := h.dfr, tsz := h.tsz, fr := hk.fr h.fr
    slots := fun t av ht => by
      obtain ⟨h1, h2⟩ := sl_new ht
      obtain ⟨u, h3, h4⟩ := h.slots t av h1
      exact ⟨u, h3, h4.mono fun y hy => Env.new_ne η hd r y fun e => by rw [e, h2] at hy; cases hy⟩
    phs := fun t av ht => by
      obtain ⟨h1, h2⟩ := ph_new ht
      obtain ⟨u, h3, h4⟩ := h.phs t av h1
      exact ⟨u, h3, h4.mono fun y hy => Env.new_ne η hd r y fun e => by rw [e, h2] at hy; cases hy⟩
    mem := ⟨fun y d hy => by
      rw [ch_new] at hy
      by_cases e : y = x
      · subst e
        rw [if_pos rfl] at hy
        obtain rfl := Option.some.inj hy
        exact ⟨hd, by simp [Env.new], hc⟩
      · rw [if_neg e, Option.map_eq_some_iff] at hy
        obtain ⟨d', hy', rfl⟩ := hy
        obtain ⟨h', e1, e2⟩ := h.mem.1 y d' hy'
        exact ⟨h', by simp [Env.new, e, e1], e2.forget hk.same (.inl rfl) (fun i => .inr ⟨y, i, d', rfl, hy'⟩) (fun i => by simp [Env.new, e]) fun z hz => Env.new_ne η hd r z hz⟩,
     fun y hy => by
      rw [ch_new] at hy
      by_cases e : y = x
      · rw [if_pos e] at hy; cases hy
      · rw [if_neg e, Option.map_eq_none_iff] at hy
        simp [Env.new, e, h.mem.2 y hy]⟩ }

/-- a name is dropped -/
def Env.drop (η : Env) (x : Nm) : Env := { η with h := fun y => if y = x then none else η.h y }
theorem Env.drop_any (η : Env) (x y : Nm) : (η.drop x).h y = none ∨ ((η.drop x).h y = η.h y ∧ ∀ i, (η.drop x).r y i = η.r y i) := by
  by_cases e : y = x
  · exact .inl (by simp [Env.drop, e])
  · exact .inr ⟨by simp [Env.drop, e], fun _ => rfl⟩
theorem Same.refl (ω : Own?) (w : World) (p : Option (Nm × Option Nat) → Prop) : Same ω w ω w p := ⟨Nat.le_refl _, fun _ _ _ => ⟨rfl, rfl⟩⟩
theorem Calm.refl (S : St) (ω : Own?) (w : World) : Calm S ω w ω w := ⟨rfl, rfl, rfl, Same.refl _ _ _⟩
theorem SatE.drop (h : SatE w0 ω0 nt S η ω a w) (x : Nm) : SatE w0 ω0 nt (S.rm x) (η.drop x) ω a w :=
  { dfr := h.dfr, tsz := h.tsz, fr := h.fr
    slots := fun t av ht => by
      obtain ⟨u, h3, h4⟩ := h.slots t av ht
      exact ⟨u, h3, h4.mono fun y _ => Env.drop_any η x y⟩
    phs := fun t av ht => by
      obtain ⟨u, h3, h4⟩ := h.phs t av ht
      exact ⟨u, h3, h4.mono fun y _ => Env.drop_any η x y⟩
    mem := ⟨fun y d hy => by
      rw [ch_rm] at hy
      by_cases e : y = x
      · rw [if_pos e] at hy; cases hy
      · rw [if_neg e] at hy
        obtain ⟨h', e1, e2⟩ := h.mem.1 y d hy
        exact ⟨h', by simp [Env.drop, e, e1], ChIs.same (η := η) (p := fun _ => True) (Same.refl _ _ _) trivial (fun _ => trivial) (fun _ => rfl) (fun l _ a _ z _ => Env.drop_any η x z) e2⟩,
     fun y hy => by
      rw [ch_rm] at hy
      by_cases e : y = x
      · simp [Env.drop, e]
      · rw [if_neg e] at hy
        simp [Env.drop, e, h.mem.2 y hy]⟩ }

end
end Go.Proofs.YtljimlejcecleaaDoor

/- A memory of names: the operations that make no memory, and the loads. No program in sight. -/
namespace Go.Proofs.YtljimlejcecleaaDoor
open Go.RowKit

def cv : Value → AV
  | .agg cs => .s (.agg (cs.toList.map .val))
  | v => vv v
def St.op (S : St) : Operand → Option AV
  | .tmp t => S.sl t
  | .const v => some (cv v)
  | .func f => some (o1 (.clo (.func f) []))
  | .global _ => none

structure Stp (P : Program) (nt : Nat) (o : Oper) (S S' : St) : Prop where
  go : ∀ (w0 : World) (ω0 : Beg) (a : Act) (w : World) (Q : Exit → Act → World → Prop), Sat w0 ω0 nt S a w → o.wp P a w (Sat w0 ω0 nt S') Q

section
variable {P : Program} {nt : Nat} {S S' : St} {w0 w : World} {ω0 : Beg} {ω : Own?} {η : Env} {a : Act}

theorem Stp.of (o : Oper) (h : ∀ w0 ω0 η ω a w, SatE w0 ω0 nt S η ω a w → ∃ v w', (execOp a.eval o).run P w = .ok (.value v) w' ∧ Sat w0 ω0 nt S' (a.put o.dst v) w') : Stp P nt o S S' := by
  refine ⟨fun w0 ω0 a w Q ⟨η, ω, hs⟩ => ?_⟩
  obtain ⟨v, w', h1, h2⟩ := h w0 ω0 η ω a w hs
  unfold Oper.wp
  rw [h1]
  exact h2
theorem Stp.pure {o : Oper} {t : Nat} {av : AV} (hd : o.dst = some t) (ht : Nat.blt t nt = true) (h : ∀ w0 ω0 η ω a w, SatE w0 ω0 nt S η ω a w → ∃ v, (execOp a.eval o).run P w = .ok (.value v) w ∧ Den η av v) : Stp P nt o S (S.put t av) := by
  refine Stp.of o fun w0 ω0 η ω a w hs => ?_
  obtain ⟨v, h1, h2⟩ := h w0 ω0 η ω a w hs
  exact ⟨v, w, h1, η, ω, by rw [hd]; exact hs.putV (by simpa using ht) h2⟩

variable {t : Nat} {ty : TypeId} {ps : String} {af : Array Edge} {gd : Option (Nat × Bool)} {x y : Operand} {av : AV}

/-- a cell behind a name -/
theorem SatE.chunk (h : SatE w0 ω0 nt S η ω a w) {x : Nm} {c : Ch} (hx : S.ch x = some c) : ∃ hd, η.h x = some hd ∧ hd.k = c.k ∧ Vec c.own ω w (x, none) hd c.E c.d.len (cellsOK η ω w c.own x c.d) :=
  have ⟨hd, h1, h2, h3⟩ := h.mem.1 x c hx
  ⟨hd, h1, h2, h3⟩

/-- a type of one cell -/
def oneB (P : Program) (T : TypeId) : Bool :=
  match P.underlying T with
  | some (.struct _) | some (.array _ _) | none => false
  | _ => true
theorem oneB_agg {T : TypeId} (h : oneB P T = true) (w : World) : (isAgg T).run P w = .ok false w := by
  unfold oneB at h
  cases hu : P.underlying T with
  | none => rw [hu] at h; cases h
  | some d => rw [hu] at h; cases d <;> first | (cases h; done) | simp [isAgg, run_underlying hu]
/-- what lies in cell j of a chunk -/
def Dat.at_ (x : Nm) : Dat → Nat → Option A1
  | .flat l, j => l[j]?
  | .vals vs, j => vs[j]?.map .val
  | .rows _ vss holes, j => if holes.contains j then none else vss[j]?.map fun vs => .esl x j 0 vs.length
  | .mix cs, j => match cs[j]? with
    | some (.v y) => some (.val y)
    | some (.r _ _ m _) => some (.esl x j 0 m)
    | some .any => some .any
    | none => none
theorem den_at {x : Nm} {own : Bool} {d : Dat} {j : Nat} {u : Value} {b : A1} (hu : cellsOK η ω w own x d j u) (hb : d.at_ x j = some b) : Den1 η b u := by
  cases d with
  | flat l => exact hu b hb
  | vals vs =>
    have hu : vs[j]? = some u := hu
    have hb : vs[j]?.map A1.val = some b := hb
    rw [hu] at hb; simp at hb; subst hb; exact rfl
  | rows E vss holes =>
    have hb : (if holes.contains j then none else vss[j]?.map fun vs => A1.esl x j 0 vs.length) = some b := hb
    split at hb
    · cases hb
    · rename_i hh
      rw [Option.map_eq_some_iff] at hb
      obtain ⟨vs, hvs, rfl⟩ := hb
      obtain ⟨rfl, h2, _⟩ := hu.2 (by simpa using hh) vs hvs
      exact ⟨⟨_, _, rfl⟩, fun hd _ => ⟨_, rfl, fun _ => rfl, fun h => absurd h (by omega)⟩⟩
  | mix cs =>
    simp only [Dat.at_] at hb
    cases hc : cs[j]? with
    | none => rw [hc] at hb; cases hb
    | some c =>
      rw [hc] at hb
      have hk := hu.2 c hc
      cases c with
      | v y => obtain rfl := Option.some.inj hb; exact hk
      | any => obtain rfl := Option.some.inj hb; exact hu.1
      | r F k m vs =>
        obtain rfl := Option.some.inj hb
        obtain ⟨_, rfl, _, _⟩ := hk
        exact ⟨⟨_, _, rfl⟩, fun hd _ => ⟨_, rfl, fun _ => rfl, fun h => absurd h (by omega)⟩⟩
theorem Dat.at_lt {x : Nm} {d : Dat} {j : Nat} {b : A1} (h : d.at_ x j = some b) : j < d.len := by
  cases d with
  | flat l => exact (List.getElem?_eq_some_iff.1 h).1
  | vals vs =>
    have h : vs[j]?.map A1.val = some b := h
    rw [Option.map_eq_some_iff] at h
    obtain ⟨v, hv, _⟩ := h
    exact (List.getElem?_eq_some_iff.1 hv).1
  | rows E vss holes =>
    have h : (if holes.contains j then none else vss[j]?.map fun vs => A1.esl x j 0 vs.length) = some b := h
    split at h
    · cases h
    · rw [Option.map_eq_some_iff] at h
      obtain ⟨vs, hvs, rfl⟩ := h
      exact (List.getElem?_eq_some_iff.1 hvs).1
  | mix cs =>
    simp only [Dat.at_] at h
    cases hc : cs[j]? with
    | none => rw [hc] at h; cases h
    | some c => exact (List.getElem?_eq_some_iff.1 hc).1

end
end Go.Proofs.YtljimlejcecleaaDoor

/- A memory of names: indices of rows and arrays, lengths, slices of slices, aggregates, closures. No program in sight. -/
namespace Go.Proofs.YtljimlejcecleaaDoor
open Go.RowKit

section
variable {P : Program} {nt : Nat} {S S' : St} {w0 w : World} {ω0 : Beg} {ω : Own?} {η : Env} {a : Act}
variable {t : Nat} {ty : TypeId} {ps : String} {af : Array Edge} {gd : Option (Nat × Bool)} {x y : Operand} {av : AV}

/-- how long a slice is -/
def A1.len : A1 → Option Nat
  | .sl _ _ n => some n
  | .esl _ _ _ n => some n
  | .val (.slice _ n _) => some n
  | _ => none
end
end Go.Proofs.YtljimlejcecleaaDoor

/- A memory of names: new chunks (boxes, variables, literals, make). No program in sight. -/
namespace Go.Proofs.YtljimlejcecleaaDoor
open Go.RowKit

section
variable {P : Program} {nt : Nat} {S S' : St} {w0 w : World} {ω0 : Beg} {ω : Own?} {η : Env} {a : Act}
variable {t : Nat} {ty : TypeId} {ps : String} {af : Array Edge} {gd : Option (Nat × Bool)} {x y : Operand} {av : AV}

def Own?.new (ω : Own?) (b : Nat) (o : Nm × Option Nat) : Own? := fun b' => if b' = b then some o else ω b'
theorem calm_alloc (S : St) (ω : Own?) (w : World) (o : Obj) (ow : Nm × Option Nat) : Calm S ω w (Own?.new ω w.heap.size ow) (w.alloc o) :=
  ⟨rfl, rfl, rfl, by simp, fun b hb _ => ⟨Below.heap_alloc w o b hb, by simp [Own?.new, Nat.ne_of_lt hb]⟩⟩
/-- a new block under the name x -/
theorem SatE.alloc (h : SatE w0 ω0 nt S η ω a w) {x : Nm} {c : Ch} {cs : Array Value} {r : Nat → Hd} {n : Nat} (hown : c.own = true) (hn : cs.size = n * c.k) (hl : c.d.len ≤ n * c.k) (hm : n ≤ maxLen)
    (hc : ∀ j, j < c.d.len → ∃ u, cs[j]? = some u ∧ cellsOK (η.new x ⟨some ⟨w.heap.size, 0, none⟩, n, c.k⟩ r) (Own?.new ω w.heap.size (x, none)) (w.alloc (.cells cs c.E)) true x c.d j u) :
    SatE w0 ω0 nt (S.new x c) (η.new x ⟨some ⟨w.heap.size, 0, none⟩, n, c.k⟩ r) (Own?.new ω w.heap.size (x, none)) a (w.alloc (.cells cs c.E)) :=
  h.lay (calm_alloc S ω w _ _) ⟨rfl, by
    rw [hown]
    refine .inr ⟨w.heap.size, 0, cs, rfl, by simp [Own?.new], heap_alloc_new w _, ⟨rfl, hn⟩, hl, hm, fun j hj => ?_⟩
    obtain ⟨u, h1, h2⟩ := hc j hj
    exact ⟨u, by simpa using h1, h2⟩⟩

def A2.list : A2 → List A1
  | .one a => [a]
  | .agg l => l
/-- a plain value of the walk's is of one cell -/
def A2.okB : A2 → Bool
  | .one (.val v) => v.oneCell'
  | _ => true
theorem A2.okB_spec {a2 : A2} (h : a2.okB = true) : ∀ v, a2 = .one (.val v) → v.oneCell' = true := by rintro v rfl; exact h

end
end Go.Proofs.YtljimlejcecleaaDoor

/- A memory of names: stores. No program in sight. -/
namespace Go.Proofs.YtljimlejcecleaaDoor
open Go.RowKit

section
variable {P : Program} {nt : Nat} {S S' : St} {w0 w : World} {ω0 : Beg} {ω : Own?} {η : Env} {a : Act}
variable {t : Nat} {ty : TypeId} {ps : String} {af : Array Edge} {gd : Option (Nat × Bool)} {x y : Operand} {av : AV}

/-- a type of k cells -/
def sizeB (P : Program) (T : TypeId) (k : Nat) : Bool :=
  match P.info? T with
  | some i => i.size == k
  | none => false
theorem sizeB_run {T : TypeId} {k : Nat} (h : sizeB P T k = true) (w : World) : (sizeOf T).run P w = .ok k w := by
  unfold sizeB at h
  split at h
  · rename_i i hi
    have : i.size = k := by simpa using h
    simp [sizeOf, typeInfo, hi, this]
  · cases h
theorem cellsOK.keep {own : Bool} {n : Nm} {d : Dat} {j : Nat} {u : Value} {w' : World} {p : Option (Nm × Option Nat) → Prop} (hs : Same ω w ω w' p) (hp : p none) (hp' : ∀ i, p (some (n, some i))) (h : cellsOK η ω w own n d j u) : cellsOK η ω w' own n d j u := by
  cases d with
  | flat l => exact h
  | vals vs => exact h
  | rows E vss holes => exact ⟨h.1, fun hj vs hvs => have ⟨h1, h2, h3⟩ := h.2 hj vs hvs; ⟨h1, h2, h3.same hs hp (hp' j) fun _ _ h => h⟩⟩
  | mix cs => exact ⟨h.1, fun c hc => (h.2 c hc).move rfl fun _ _ _ _ _ h3 => h3.same hs hp (hp' j) fun _ _ h => h⟩
end
end Go.Proofs.YtljimlejcecleaaDoor

/- A memory of names: the walk over operations and code. No program in sight. -/
namespace Go.Proofs.YtljimlejcecleaaDoor
open Go.RowKit

/-- a state that is written out -/
def lk {α : Type} (t : Nat) : List (Nat × α) → Option α
  | [] => none
  | (t', a) :: r => bif Nat.beq t t' then some a else lk t r
def St.of (sl : List (Nat × AV)) (ch : List (Nm × Ch)) (ph : List (Nat × AV) := []) : St := { sl := fun t => lk t sl, ch := fun x => lk x ch, ph := fun t => lk t ph }

section
variable {P : Program} {nt : Nat} {w0 : World} {ω0 : Beg} {S S1 S' : St} {Q : Exit → Act → World → Prop}

structure Run (P : Program) (w0 : World) (ω0 : Beg) (nt : Nat) (ops : Array Oper) (Q : Exit → Act → World → Prop) (S : St) (rest : List Oper) : Prop where
  go : ∀ a w, Sat w0 ω0 nt S a w → wpList P ops Q rest a w
structure Goes (P : Program) (w0 : World) (ω0 : Beg) (nt : Nat) (S : St) (c : Code) (Q : Exit → Act → World → Prop) : Prop where
  go : ∀ a w, Sat w0 ω0 nt S a w → c.wp P Q a w
structure Fin (w0 : World) (ω0 : Beg) (nt : Nat) (S : St) (e : Exit) (Q : Exit → Act → World → Prop) : Prop where
  go : ∀ a w, Sat w0 ω0 nt S a w → Q e a w
structure Wk (S S' : St) : Prop where
  go : ∀ w0 ω0 nt a w, Sat w0 ω0 nt S a w → Sat w0 ω0 nt S' a w

variable {ops : Array Oper} {rest : List Oper} {o : Oper}
theorem Wk.refl (S : St) : Wk S S := ⟨fun _ _ _ _ _ h => h⟩
theorem Wk.trans {S2 : St} (h : Wk S S1) (k : Wk S1 S2) : Wk S S2 := ⟨fun _ _ _ _ _ x => k.go _ _ _ _ _ (h.go _ _ _ _ _ x)⟩

/-- every row of the list is so in the state -/
def allSl (S : St) : List (Nat × AV) → Prop
  | [] => True
  | (t, av) :: r => S.sl t = some av ∧ allSl S r
def allCh (S : St) : List (Nm × Ch) → Prop
  | [] => True
  | (x, c) :: r => S.ch x = some c ∧ allCh S r
theorem allSl_lk : ∀ {l : List (Nat × AV)} {t : Nat} {av : AV}, allSl S l → lk t l = some av → S.sl t = some av
  | [], _, _, _, h => by cases h
  | (t', av') :: r, t, av, h, hl => by
    unfold lk at hl
    cases hb : Nat.beq t t' with
    | true => rw [hb] at hl; simp at hl; subst hl; rw [beq_true hb]; exact h.1
    | false => rw [hb] at hl; exact allSl_lk h.2 hl
def allPh (S : St) : List (Nat × AV) → Prop
  | [] => True
  | (t, av) :: r => S.ph t = some av ∧ allPh S r
theorem allPh_lk : ∀ {l : List (Nat × AV)} {t : Nat} {av : AV}, allPh S l → lk t l = some av → S.ph t = some av
  | [], _, _, _, h => by cases h
  | (t', av') :: r, t, av, h, hl => by
    unfold lk at hl
    cases hb : Nat.beq t t' with
    | true => rw [hb] at hl; simp at hl; subst hl; rw [beq_true hb]; exact h.1
    | false => rw [hb] at hl; exact allPh_lk h.2 hl
theorem allCh_lk : ∀ {l : List (Nm × Ch)} {t : Nat} {av : Ch}, allCh S l → lk t l = some av → S.ch t = some av
  | [], _, _, _, h => by cases h
  | (t', av') :: r, t, av, h, hl => by
    unfold lk at hl
    cases hb : Nat.beq t t' with
    | true => rw [hb] at hl; simp at hl; subst hl; rw [beq_true hb]; exact h.1
    | false => rw [hb] at hl; exact allCh_lk h.2 hl
open Classical in
theorem Wk.less (hs : ∀ t av, S'.sl t = some av → S.sl t = some av) (hc : ∀ x c, S'.ch x = some c → S.ch x = some c) (hp : ∀ t av, S'.ph t = some av → S.ph t = some av) : Wk S S' := by
  refine ⟨fun w0 ω0 nt a w ⟨η, ω, h⟩ => ?_⟩
  have key : ∀ x, (if S'.ch x = none then none else η.h x) = none ∨ ((if S'.ch x = none then none else η.h x) = η.h x ∧ ∀ i, η.r x i = η.r x i) := fun x => by
    by_cases e : S'.ch x = none
    · exact .inl (if_pos e)
    · exact .inr ⟨if_neg e, fun _ => rfl⟩
  refine ⟨{ η with h := fun x => if S'.ch x = none then none else η.h x }, ω, ⟨h.dfr, h.tsz, fun t av ht => ?_, fun t av ht => ?_, ⟨fun x c hx => ?_, fun x hx => if_pos hx⟩, h.fr⟩⟩
  · obtain ⟨u, h1, h2⟩ := h.slots t av (hs t av ht)
    exact ⟨u, h1, h2.mono fun y _ => key y⟩
  · obtain ⟨u, h1, h2⟩ := h.phs t av (hp t av ht)
    exact ⟨u, h1, h2.mono fun y _ => key y⟩
  · obtain ⟨hd, h1, h2⟩ := h.mem.1 x c (hc x c hx)
    refine ⟨hd, by simp [hx, h1], ChIs.same (η := η) (p := fun _ => True) (Same.refl _ _ _) trivial (fun _ => trivial) (fun _ => rfl) (fun l _ a _ z _ => key z) h2⟩
theorem Wk.of {sl ph : List (Nat × AV)} {ch : List (Nm × Ch)} (hs : allSl S sl) (hc : allCh S ch) (hp : allPh S ph) : Wk S (St.of sl ch ph) := Wk.less (fun _ _ h => allSl_lk hs h) (fun _ _ h => allCh_lk hc h) (fun _ _ h => allPh_lk hp h)
end
end Go.Proofs.YtljimlejcecleaaDoor

/- A memory of names: contracts of functions; how a walk begins and ends; calls. No program in sight. -/
namespace Go.Proofs.YtljimlejcecleaaDoor
open Go.RowKit

def DenL (η : Env) (avs : List AV) (us : List Value) : Prop := us.length = avs.length ∧ ∀ (j : Nat) (av : AV), avs[j]? = some av → ∃ u, us[j]? = some u ∧ Den η av u
/-- what a call leaves: a value, chunks, and what is known of the arguments -/
def Left (w : World) (ω : Own?) (us : List Value) (outs : List (Nm × Ch)) (res : AV) (back : List (Nat × AV)) (e : Ending) (w' : World) : Prop :=
  ∃ v η' ω', e = .returned v ∧ Den η' res v ∧ Mem η' ω' w' (fun x => lk x outs) ∧ Fr ω w ω' w' ∧ ∀ t av, lk t back = some av → ∃ u, us[t]? = some u ∧ Den η' av u
/-- the contract of a function in names: it takes the chunks ins and the arguments args; it leaves the chunks outs and the result res -/
def FC (P : Program) (f : FuncId) (ins : List (Nm × Ch)) (args : List AV) (outs : List (Nm × Ch)) (res : AV) (back : List (Nat × AV)) : Prop :=
  ∀ w η ω us, Mem η ω w (fun x => lk x ins) → DenL η args us → Calls P f us.toArray w (Left w ω us outs res back)

section
variable {P : Program} {nt : Nat} {S S' : St} {w0 w : World} {ω0 : Beg} {ω : Own?} {η : Env} {a : Act}

/-- the sum of the cells of a struct or an array -/
def aggB (P : Program) (T : TypeId) (k : Nat) : Bool :=
  match P.underlying T with
  | some (.struct _) | some (.array _ _) => sizeB P T k
  | _ => false
theorem aggB_agg {T : TypeId} {k : Nat} (h : aggB P T k = true) (w : World) : (isAgg T).run P w = .ok true w := by
  unfold aggB at h
  cases hu : P.underlying T with
  | none => rw [hu] at h; cases h
  | some d => rw [hu] at h; cases d <;> first | (cases h; done) | simp [isAgg, run_underlying hu]
theorem aggB_size {T : TypeId} {k : Nat} (h : aggB P T k = true) : sizeB P T k = true := by
  unfold aggB at h
  cases hu : P.underlying T with
  | none => rw [hu] at h; cases h
  | some d => rw [hu] at h; cases d <;> first | (cases h; done) | exact h
theorem run_loadAgg {T : TypeId} {k : Nat} (h : aggB P T k = true) {b o : Nat} {us : List Value} (hl : us.length = k) (hc : ∀ j u, us[j]? = some u → w.cell? ⟨b, o + j, none⟩ = some u) : (loadVar T ⟨b, o, none⟩).run P w = .ok (.agg us.toArray) w := by
  have hr := run_loadCells_list (P := P) w ⟨b, o, none⟩ us fun j u hu => by rw [Addr.add_lit]; exact hc j u hu
  rw [hl] at hr
  simp [loadVar, aggB_agg h, sizeB_run (aggB_size h), hr]
/-- the cells of a flat chunk, read as a struct -/
theorem SatE.readAgg (hs : SatE w0 ω0 nt S η ω a w) {n : Nm} {i k : Nat} {c : Ch} {l : List A1} {T : TypeId} {p : Value} (hp : Den1 η (.ptr n i) p) (hc : S.ch n = some c) (hd : c.d = .flat l) (hk : i + k ≤ l.length) (hk0 : 0 < k) (hT : aggB P T k = true) :
    ∃ ad u, p = .pointer (some ad) ∧ (loadVar T ad).run P w = .ok u w ∧ Den2 η (.agg ((l.drop i).take k)) u := by
  obtain ⟨h, e1, e2, e3⟩ := hs.chunk hc
  obtain ⟨b, o, g1, rfl⟩ := hp.2 h e1
  rw [hd] at e3
  have key : ∀ j, j < k → ∃ u, w.cell? ⟨b, o + i + j, none⟩ = some u ∧ ∀ b1, l[i + j]? = some b1 → Den1 η b1 u := fun j hj => by
    obtain ⟨b', o', u, f1, f2, f3⟩ := e3.get (j := i + j) (by show i + j < l.length; omega)
    rw [g1] at f1; injection f1 with f1; injection f1 with f1 f1'; subst f1 f1'
    exact ⟨u, by rw [Nat.add_assoc]; exact f2, f3⟩
  refine ⟨_, .agg ((List.range k).map fun j => (w.cell? ⟨b, o + i + j, none⟩).getD undef).toArray, rfl, run_loadAgg hT (by simp) fun j u hu => ?_, ⟨_, rfl, by simp; omega, fun j b1 hb1 => ?_⟩⟩
  · rw [List.getElem?_map, Option.map_eq_some_iff] at hu
    obtain ⟨j', hj', rfl⟩ := hu
    have hjk : j < k := by have := (List.getElem?_eq_some_iff.1 hj').1; simpa using this
    rw [List.getElem?_range hjk] at hj'
    obtain rfl := Option.some.inj hj'
    obtain ⟨u, hu, _⟩ := key j hjk
    rw [hu]; rfl
  · have hjk : j < k := by have := (List.getElem?_eq_some_iff.1 hb1).1; simp at this; omega
    rw [List.getElem?_take, if_pos hjk, List.getElem?_drop] at hb1
    obtain ⟨u, hu, hdu⟩ := key j hjk
    exact ⟨u, by simp [hjk, hu], hdu b1 hb1⟩

def resSem (tmps : Array Value) : ResultVar → Sem Value
  | .tmp t => pure (tmps.getD t undef)
  | .cell b t => do loadVar t (← asAddr (tmps.getD b undef))
/-- a result as the state has it -/
inductive ResB (P : Program) (S : St) : ResultVar → A2 → Prop where
  | tmp {t : Nat} {b : A2} (h : S.sl t = some (.s b)) : ResB P S (.tmp t) b
  | cell {t : Nat} {T : TypeId} {n : Nm} {k : Nat} {c : Ch} {l : List A1} (h : S.sl t = some (o1 (.ptr n 0))) (hc : S.ch n = some c) (hd : c.d = .flat l) (hk : l.length = k) (hk0 : Nat.blt 0 k = true) (hT : aggB P T k = true) : ResB P S (.cell t T) (.agg l)
  | one {t : Nat} {T : TypeId} {n : Nm} {c : Ch} {b : A1} (h : S.sl t = some (o1 (.ptr n 0))) (hc : S.ch n = some c) (hb : c.d.at_ n 0 = some b) (hT : oneB P T = true) : ResB P S (.cell t T) (.one b)
theorem SatE.res (hs : SatE w0 ω0 nt S η ω a w) {r : ResultVar} {b : A2} (h : ResB P S r b) : ∃ u, (resSem a.tmps r).run P w = .ok u w ∧ Den2 η b u := by
  cases h with
  | tmp h =>
    obtain ⟨u, h1, h2⟩ := hs.slots _ _ h
    exact ⟨u, by simp [resSem, h1], h2⟩
  | cell h hc hd hk hk0 hT =>
    obtain ⟨p, h1, h2⟩ := hs.slots _ _ h
    obtain ⟨ad, u, rfl, h4, h5⟩ := hs.readAgg (P := P) h2 hc hd (by omega) (by simpa using hk0) hT
    refine ⟨u, by simp [resSem, h1, asAddr, h4], ?_⟩
    rw [List.drop_zero, List.take_of_length_le (by omega)] at h5; exact h5
  | one h hc hb hT =>
    obtain ⟨p, h1, h2⟩ := hs.slots _ _ h
    obtain ⟨hd, e1, e2, e3⟩ := hs.chunk hc
    obtain ⟨bb, o, g1, rfl⟩ := (show Den1 η (.ptr _ 0) p from h2).2 hd e1
    obtain ⟨b', o', u, f1, f2, f3⟩ := e3.get (Dat.at_lt hb)
    rw [g1] at f1; injection f1 with f1; injection f1 with f1 f1'; subst f1 f1'
    simp only [Nat.add_zero] at f2 h1
    exact ⟨u, by simp [resSem, h1, asAddr, loadVar, oneB_agg hT, f2], den_at f3 hb⟩

theorem SatE.left (hs : SatE w0 ω0 nt S η ω a w) {outs : List (Nm × Ch)} {res : AV} {back : List (Nat × AV)} {v : Value} (hc : allCh S outs) (hb : allPh S back) (hv : Den η res v) : Left w0 ω0.own ω0.ph outs res back (.returned v) w := by
  classical
  have key : ∀ x, (if lk x outs = none then none else η.h x) = none ∨ ((if lk x outs = none then none else η.h x) = η.h x ∧ ∀ i, η.r x i = η.r x i) := fun x => by
    by_cases e : lk x outs = none
    · exact .inl (if_pos e)
    · exact .inr ⟨if_neg e, fun _ => rfl⟩
  refine ⟨v, { η with h := fun x => if lk x outs = none then none else η.h x }, ω, rfl, hv.mono fun y _ => key y, ⟨fun x c hx => ?_, fun x hx => if_pos hx⟩, hs.fr, fun t av ht => ?_⟩
  · obtain ⟨hd, h1, h2⟩ := hs.mem.1 x c (allCh_lk hc hx)
    refine ⟨hd, by simp [hx, h1], ChIs.same (η := η) (p := fun _ => True) (Same.refl _ _ _) trivial (fun _ => trivial) (fun _ => rfl) (fun l _ a _ z _ => key z) h2⟩
  · obtain ⟨u, h1, h2⟩ := hs.phs t av (allPh_lk hb ht)
    exact ⟨u, h1, h2.mono fun y _ => key y⟩

end
end Go.Proofs.YtljimlejcecleaaDoor

/- A memory of names: a call of a function by its contract in names. No program in sight. -/
namespace Go.Proofs.YtljimlejcecleaaDoor
open Go.RowKit

def A1.bad (o k : Nm → Bool) : A1 → Bool
  | .val _ | .any => false
  | .sl x _ _ | .esl x _ _ _ | .eptr x _ _ => o x
  | .ptr x _ => o x && !k x
  | .clo _ xs => xs.any fun p => o p.1 && !k p.1
def A2.bad (o k : Nm → Bool) : A2 → Bool
  | .one a => a.bad o k
  | .agg l => l.any (A1.bad o k)
def AV.bad (o k : Nm → Bool) : AV → Bool
  | .s a => a.bad o k
  | .tup l => l.any (A2.bad o k)
def Dat.clean (o k : Nm → Bool) : Dat → Dat
  | .flat l => .flat (l.map fun a => bif a.bad o k then .any else a)
  | d => d
def Ch.clean (o k : Nm → Bool) (c : Ch) : Ch := { c with d := c.d.clean o k }
def A1.names : A1 → List Nm
  | .sl y _ _ | .ptr y _ | .esl y _ _ _ | .eptr y _ _ => [y]
  | .clo _ xs => xs.map (·.1)
  | .val _ | .any => []
def A2.names : A2 → List Nm
  | .one a => a.names
  | .agg l => l.flatMap A1.names
def AV.names : AV → List Nm
  | .s a => a.names
  | .tup l => l.flatMap A2.names
def Ch.names (c : Ch) : List Nm := match c.d with
  | .flat l => l.flatMap A1.names
  | _ => []
theorem ptAt.ao {h h' : Hd} {off : Nat} {u : Value} (e : h'.ao = h.ao) (p : ptAt h off u) : ptAt h' off u := by
  obtain ⟨b, o, h1, h2⟩ := p
  exact ⟨b, o, e.trans h1, h2⟩
def consB (ins : List (Nm × Ch)) (x : Nm) : Bool := match lk x ins with | some c => c.own | none => false
def inL (l : List (Nm × Ch)) (x : Nm) : Bool := (lk x l).isSome
def memB (l : List Nm) (x : Nm) : Bool := l.any (Nat.beq x)
def St.after (S : St) (ins outs : List (Nm × Ch)) (kp : List Nm) : St :=
  { sl := fun t => (S.sl t).bind fun av => bif av.bad (inL outs) (memB kp) then none else some av
    ph := fun t => (S.ph t).bind fun av => bif av.bad (inL outs) (memB kp) then none else some av
    ch := fun y => match lk y outs with
      | some c => some c
      | none => bif consB ins y then none else (S.ch y).map (Ch.clean (inL outs) (memB kp)) }
/-- what an argument may be taken for: something that is less known -/
def toL : List A1 → List A1 → Prop
  | [], [] => True
  | a :: r, b :: l => (a = b ∨ (b = .any ∧ (A2.one a).okB = true)) ∧ toL r l
  | _, _ => False
def AV.to : AV → AV → Prop
  | .s (.agg l), .s (.agg l') => toL l l'
  | a, b => a = b
def allTo : List AV → List AV → Prop
  | [], [] => True
  | a :: r, b :: l => a.to b ∧ allTo r l
  | _, _ => False
theorem toL_at : ∀ {l l' : List A1}, toL l l' → l.length = l'.length ∧ ∀ (j : Nat) (b : A1), l'[j]? = some b → ∃ a, l[j]? = some a ∧ (a = b ∨ (b = .any ∧ (A2.one a).okB = true))
  | [], [], _ => ⟨rfl, fun j b h => by simp at h⟩
  | a :: r, b :: l, h => by
    obtain ⟨h1, h2⟩ := toL_at h.2
    refine ⟨by simp [h1], fun j c hj => ?_⟩
    cases j with
    | zero => simp at hj; subst hj; exact ⟨a, by simp, h.1⟩
    | succ j => exact h2 j c (by simpa using hj)
  | [], _ :: _, h => h.elim
  | _ :: _, [], h => h.elim
theorem Den.to {η : Env} {a b : AV} {u : Value} (h : a.to b) (hd : Den η a u) : Den η b u := by
  match a, b, h, hd with
  | .s (.agg l), .s (.agg l'), h, hd =>
    obtain ⟨h1, h2⟩ := toL_at h
    obtain ⟨us, rfl, h3, h4⟩ := hd
    refine ⟨us, rfl, h3.trans h1, fun j c hj => ?_⟩
    obtain ⟨a, ha, hab⟩ := h2 j c hj
    obtain ⟨u', hu', hda⟩ := h4 j a ha
    refine ⟨u', hu', ?_⟩
    rcases hab with rfl | ⟨rfl, ho⟩
    · exact hda
    · exact hda.one fun v hv => A2.okB_spec ho v (by rw [hv])
  | .s (.one _), b, h, hd => have h : _ = b := h; exact h ▸ hd
  | .tup _, b, h, hd => have h : _ = b := h; exact h ▸ hd
  | .s (.agg l), .s (.one _), h, hd => have h : AV.s (.agg l) = _ := h; exact h ▸ hd
  | .s (.agg l), .tup _, h, hd => have h : AV.s (.agg l) = _ := h; exact h ▸ hd
theorem DenL.to {η : Env} : ∀ {avs avs' : List AV} {us : List Value}, allTo avs avs' → DenL η avs us → DenL η avs' us
  | [], [], us, _, hd => hd
  | a :: r, b :: l, us, h, hd => by
    cases us with
    | nil => exact absurd hd.1 (by simp)
    | cons u us =>
      have hd' : DenL η r us := ⟨by simpa using hd.1, fun j av hj => by
        obtain ⟨u', h1, h2⟩ := hd.2 (j + 1) av (by simpa using hj)
        exact ⟨u', by simpa using h1, h2⟩⟩
      obtain ⟨h1, h2⟩ := DenL.to h.2 hd'
      refine ⟨by simpa using h1, fun j av hj => ?_⟩
      cases j with
      | zero =>
        simp at hj; subst hj
        obtain ⟨u', h3, h4⟩ := hd.2 0 a (by simp)
        simp at h3; subst h3
        exact ⟨u, by simp, h4.to h.1⟩
      | succ j =>
        obtain ⟨u', h3, h4⟩ := h2 j av (by simpa using hj)
        exact ⟨u', by simpa using h3, h4⟩
  | [], _ :: _, _, h, _ => h.elim
  | _ :: _, [], _, h, _ => h.elim

section
variable {P : Program} {nt : Nat} {S S' : St} {w0 w : World} {ω0 : Beg} {ω : Own?} {η : Env} {a : Act}

theorem ChIs.own {ω' : Own?} {x : Nm} {h : Hd} {c : Ch} (hc : ChIs η ω w x h c) (hs : Same ω w ω' w (fun o => o = none ∨ ∃ i, o = some (x, i))) {η' : Env} (hr : ∀ i, η'.r x i = η.r x i) (hm : ∀ l, c.d = .flat l → ∀ a ∈ l, a.mono η η') : ChIs η' ω' w x h c :=
  ChIs.same hs (.inl rfl) (fun i => .inr ⟨i, rfl⟩) hr hm hc

theorem VecO.same {ω' : Own?} {w' : World} {ow : Nm × Option Nat} {h : Hd} {E : TypeId} {len : Nat} {cell cell' : Nat → Value → Prop} (hs : ∀ b, b < w.heap.size → ω b = some ow → w'.heap[b]? = w.heap[b]? ∧ ω' b = some ow)
    (hc : ∀ j u, cell j u → cell' j u) (hv : VecO ω w ow h E len cell) : VecO ω' w' ow h E len cell' := by
  rcases hv with h0 | ⟨b, o, cs, h1, h2, h3, h4, h5, h6, h7⟩
  · exact .inl h0
  · have hb := hs b (lt_of_heap h3) h2
    refine .inr ⟨b, o, cs, h1, hb.2, hb.1.trans h3, h4, h5, h6, fun j hj => ?_⟩
    obtain ⟨u, hu, hcu⟩ := h7 j hj
    exact ⟨u, hu, hc j u hcu⟩
theorem lk_mem {α : Type} : ∀ {l : List (Nat × α)} {t : Nat} {a : α}, lk t l = some a → (t, a) ∈ l
  | [], _, _, h => by cases h
  | (t', a') :: r, t, a, h => by
    unfold lk at h
    cases hb : Nat.beq t t' with
    | true => rw [hb] at h; simp at h; subst h; rw [beq_true hb]; exact List.mem_cons_self
    | false => rw [hb] at h; exact List.mem_cons_of_mem _ (lk_mem h)
end
end Go.Proofs.YtljimlejcecleaaDoor

/- A memory of names: a contract under other names. No program in sight. -/
namespace Go.Proofs.YtljimlejcecleaaDoor
open Go.RowKit

def A1.ren (σ : Nm → Nm) : A1 → A1
  | .val v => .val v
  | .any => .any
  | .sl x o n => .sl (σ x) o n
  | .ptr x o => .ptr (σ x) o
  | .esl x i o n => .esl (σ x) i o n
  | .eptr x i o => .eptr (σ x) i o
  | .clo f xs => .clo f (xs.map fun p => (σ p.1, p.2))
def A2.ren (σ : Nm → Nm) : A2 → A2
  | .one a => .one (a.ren σ)
  | .agg l => .agg (l.map (A1.ren σ))
def AV.ren (σ : Nm → Nm) : AV → AV
  | .s a => .s (a.ren σ)
  | .tup l => .tup (l.map (A2.ren σ))
def Dat.ren (σ : Nm → Nm) : Dat → Dat
  | .flat l => .flat (l.map (A1.ren σ))
  | .vals vs => .vals vs
  | .rows E vss holes => .rows E vss holes
  | .mix cs => .mix cs
def Ch.ren (σ : Nm → Nm) (c : Ch) : Ch := ⟨c.own, c.E, c.k, c.d.ren σ⟩
def renL (σ : Nm → Nm) (l : List (Nm × Ch)) : List (Nm × Ch) := l.map fun p => (σ p.1, p.2.ren σ)
def renB (σ : Nm → Nm) (l : List (Nat × AV)) : List (Nat × AV) := l.map fun p => (p.1, p.2.ren σ)

def Env.pull (η : Env) (σ : Nm → Nm) : Env := { h := fun x => η.h (σ x), r := fun x => η.r (σ x) }
theorem den1_ren {η : Env} {σ : Nm → Nm} {a : A1} {u : Value} : Den1 η (a.ren σ) u ↔ Den1 (η.pull σ) a u := by
  cases a with
  | clo f xs =>
    constructor
    · rintro ⟨us, h1, h2, h3⟩
      refine ⟨us, h1, by simpa using h2, fun j p hp => ?_⟩
      exact h3 j (σ p.1, p.2) (by simp [hp])
    · rintro ⟨us, h1, h2, h3⟩
      refine ⟨us, h1, by simpa using h2, fun j p hp => ?_⟩
      simp only [List.getElem?_map, Option.map_eq_some_iff] at hp
      obtain ⟨q, hq, rfl⟩ := hp
      exact h3 j q hq
  | _ => exact Iff.rfl
theorem den2_ren {η : Env} {σ : Nm → Nm} {a : A2} {u : Value} : Den2 η (a.ren σ) u ↔ Den2 (η.pull σ) a u := by
  cases a with
  | one a => exact den1_ren
  | agg l =>
    constructor
    · rintro ⟨us, h1, h2, h3⟩
      refine ⟨us, h1, by simpa using h2, fun j a ha => ?_⟩
      obtain ⟨u', h4, h5⟩ := h3 j (a.ren σ) (by simp [ha])
      exact ⟨u', h4, den1_ren.1 h5⟩
    · rintro ⟨us, h1, h2, h3⟩
      refine ⟨us, h1, by simpa using h2, fun j a ha => ?_⟩
      simp only [List.getElem?_map, Option.map_eq_some_iff] at ha
      obtain ⟨q, hq, rfl⟩ := ha
      obtain ⟨u', h4, h5⟩ := h3 j q hq
      exact ⟨u', h4, den1_ren.2 h5⟩
theorem den_ren {η : Env} {σ : Nm → Nm} {a : AV} {u : Value} : Den η (a.ren σ) u ↔ Den (η.pull σ) a u := by
  cases a with
  | s a => exact den2_ren
  | tup l =>
    constructor
    · rintro ⟨us, h1, h2, h3⟩
      refine ⟨us, h1, by simpa using h2, fun j a ha => ?_⟩
      obtain ⟨u', h4, h5⟩ := h3 j (a.ren σ) (by simp [ha])
      exact ⟨u', h4, den2_ren.1 h5⟩
    · rintro ⟨us, h1, h2, h3⟩
      refine ⟨us, h1, by simpa using h2, fun j a ha => ?_⟩
      simp only [List.getElem?_map, Option.map_eq_some_iff] at ha
      obtain ⟨q, hq, rfl⟩ := ha
      obtain ⟨u', h4, h5⟩ := h3 j q hq
      exact ⟨u', h4, den2_ren.2 h5⟩

section
variable {η : Env} {ω ω' : Own?} {w : World} {σ : Nm → Nm}
theorem Vec.ow {own : Bool} {ow ow' : Nm × Option Nat} {h : Hd} {E : TypeId} {len : Nat} {cell cell' : Nat → Value → Prop} (hn : ∀ b, ω b = none → ω' b = none) (ho : ∀ b, ω b = some ow → ω' b = some ow') (hc : ∀ j u, cell j u → cell' j u) (hv : Vec own ω w ow h E len cell) : Vec own ω' w ow' h E len cell' := by
  cases own with
  | true =>
    rcases hv with h0 | ⟨b, o, cs, h1, h2, h3, h4, h5, h6, h7⟩
    · exact .inl h0
    · refine .inr ⟨b, o, cs, h1, ho b h2, h3, h4, h5, h6, fun j hj => ?_⟩
      obtain ⟨u, hu, hcu⟩ := h7 j hj
      exact ⟨u, hu, hc j u hcu⟩
  | false =>
    refine ⟨hv.1, fun j hj => ?_⟩
    obtain ⟨b, o, u, h1, h2, h3, h4, h5⟩ := hv.2 j hj
    exact ⟨b, o, u, h1, hn b h2, h3, h4, hc j u h5⟩
theorem dat_len_ren (d : Dat) : (d.ren σ).len = d.len := by cases d <;> simp [Dat.ren, Dat.len]
theorem ChIs.pull {x : Nm} {h : Hd} {c : Ch} (hn : ∀ b, ω b = none → ω' b = none) (ho : ∀ b i, ω b = some (σ x, i) → ω' b = some (x, i)) (hc : ChIs η ω w (σ x) h (c.ren σ)) : ChIs (η.pull σ) ω' w x h c := by
  refine ⟨hc.1, ?_⟩
  have h2 : Vec c.own ω w (σ x, none) h c.E (c.d.ren σ).len (cellsOK η ω w c.own (σ x) (c.d.ren σ)) := hc.2
  rw [dat_len_ren] at h2
  refine h2.ow hn (fun b => ho b none) fun j u hu => ?_
  cases hd : c.d with
  | flat l => rw [hd] at hu; exact fun a ha => den1_ren.1 (hu (a.ren σ) (by simp [ha]))
  | vals vs => rw [hd] at hu; exact hu
  | rows E vss holes =>
    rw [hd] at hu
    refine ⟨hu.1, fun hj vs hvs => ?_⟩
    obtain ⟨h1, h2, h3⟩ := hu.2 hj vs hvs
    exact ⟨h1, h2, h3.ow hn (fun b => ho b (some j)) fun _ _ h => h⟩
  | mix cs => rw [hd] at hu; exact ⟨hu.1, fun c hc => celOK.move (η := η) (η' := η.pull σ) (x := σ x) (x' := x) rfl (fun _ _ _ _ _ h3 => h3.ow hn (fun b => ho b (some j)) fun _ _ h => h) (hu.2 c hc)⟩
theorem ChIs.push {x : Nm} {h : Hd} {c : Ch} (hn : ∀ b, ω b = none → ω' b = none) (ho : ∀ b i, ω b = some (x, i) → ω' b = some (σ x, i)) (hc : ChIs (η.pull σ) ω w x h c) : ChIs η ω' w (σ x) h (c.ren σ) := by
  refine ⟨hc.1, ?_⟩
  show Vec c.own ω' w (σ x, none) h c.E (c.d.ren σ).len (cellsOK η ω' w c.own (σ x) (c.d.ren σ))
  rw [dat_len_ren]
  refine hc.2.ow hn (fun b => ho b none) fun j u hu => ?_
  cases hd : c.d with
  | flat l =>
    rw [hd] at hu
    intro a ha
    simp only [List.getElem?_map, Option.map_eq_some_iff] at ha
    obtain ⟨q, hq, rfl⟩ := ha
    exact den1_ren.2 (hu q hq)
  | vals vs => rw [hd] at hu; exact hu
  | rows E vss holes =>
    rw [hd] at hu
    refine ⟨hu.1, fun hj vs hvs => ?_⟩
    obtain ⟨h1, h2, h3⟩ := hu.2 hj vs hvs
    exact ⟨h1, h2, h3.ow hn (fun b => ho b (some j)) fun _ _ h => h⟩
  | mix cs => rw [hd] at hu; exact ⟨hu.1, fun c hc => celOK.move (η := η.pull σ) (η' := η) (x := x) (x' := σ x) rfl (fun _ _ _ _ _ h3 => h3.ow hn (fun b => ho b (some j)) fun _ _ h => h) (hu.2 c hc)⟩
theorem lk_renL (hi : ∀ x y, σ x = σ y → x = y) : ∀ (l : List (Nm × Ch)) (x : Nm), lk (σ x) (renL σ l) = (lk x l).map (Ch.ren σ)
  | [], _ => rfl
  | (y, c) :: r, x => by
    simp only [renL, List.map_cons, lk]
    by_cases e : x = y
    · subst e; simp
    · rw [beq_ne e, beq_ne fun h => e (hi _ _ h)]; exact lk_renL hi r x
theorem lk_renL_mem {l : List (Nm × Ch)} {y : Nm} {c : Ch} (h : lk y (renL σ l) = some c) : ∃ x, σ x = y := by
  obtain ⟨p, _, hp⟩ := List.mem_map.1 (lk_mem h)
  simp only [Prod.mk.injEq] at hp
  exact ⟨p.1, hp.1⟩
theorem lk_renB : ∀ (l : List (Nat × AV)) (t : Nat), lk t (renB σ l) = (lk t l).map (AV.ren σ)
  | [], _ => rfl
  | (y, c) :: r, t => by
    simp only [renB, List.map_cons, lk]
    cases Nat.beq t y with
    | true => rfl
    | false => exact lk_renB r t

open Classical in
theorem FC.ren {P : Program} {f : FuncId} {ins outs : List (Nm × Ch)} {args : List AV} {res : AV} {back : List (Nat × AV)} (hi : ∀ x y, σ x = σ y → x = y) (h : FC P f ins args outs res back) : FC P f (renL σ ins) (args.map (AV.ren σ)) (renL σ outs) (res.ren σ) (renB σ back) := by
  intro w η ω us hm hd
  let inv : Nm → Option Nm := fun y => if h : ∃ x, σ x = y then some (Classical.choose h) else none
  have hinv : ∀ x, inv (σ x) = some x := fun x => by
    have hx : ∃ z, σ z = σ x := ⟨x, rfl⟩
    simp only [inv, dif_pos hx]
    exact congrArg some (hi _ _ (Classical.choose_spec hx))
  let ω1 : Own? := fun b => (ω b).bind fun o => (inv o.1).map fun x => (x, o.2)
  have m1 : Mem (η.pull σ) ω1 w fun x => lk x ins := by
    refine ⟨fun x c hx => ?_, fun x hx => ?_⟩
    · have hx : lk x ins = some c := hx
      obtain ⟨hq, h1, h2⟩ := hm.1 (σ x) (c.ren σ) (by show lk (σ x) (renL σ ins) = _; rw [lk_renL hi, hx]; rfl)
      exact ⟨hq, h1, ChIs.pull (ω := ω) (fun b hb => by simp only [ω1, hb]; rfl) (fun b i hb => by simp only [ω1, hb, Option.bind_some, hinv, Option.map_some]) h2⟩
    · have hx : lk x ins = none := hx
      exact hm.2 (σ x) (by show lk (σ x) (renL σ ins) = none; rw [lk_renL hi, hx]; rfl)
  have d1 : DenL (η.pull σ) args us := by
    refine ⟨by have := hd.1; simpa using this, fun j av hj => ?_⟩
    obtain ⟨u, h1, h2⟩ := hd.2 j (av.ren σ) (by simp [hj])
    exact ⟨u, h1, den_ren.1 h2⟩
  refine (h w _ ω1 us m1 d1).mono fun e w' hl => ?_
  obtain ⟨v, η2, ω2, he, hv, hm2, hfr, hb⟩ := hl
  let η3 : Env := { h := fun y => (inv y).bind η2.h, r := fun y => match inv y with | some x => η2.r x | none => fun _ => ⟨none, 0, 1⟩ }
  have hp : η3.pull σ = η2 := by
    have h1 : (η3.pull σ).h = η2.h := by funext x; simp only [Env.pull, η3, hinv, Option.bind_some]
    have h2 : (η3.pull σ).r = η2.r := by funext x; simp only [Env.pull, η3, hinv]
    cases hq : η3.pull σ; rw [hq] at h1 h2; cases η2; simp only at h1 h2; rw [h1, h2]
  refine ⟨v, η3, fun b => (ω2 b).map fun o => (σ o.1, o.2), he, den_ren.2 (hp ▸ hv), ⟨fun y c hy => ?_, fun y hy => ?_⟩, ⟨hfr.os, hfr.tape, hfr.output, hfr.size, fun b hb1 hb2 => ?_⟩, fun t av ht => ?_⟩
  · have hy : lk y (renL σ outs) = some c := hy
    obtain ⟨x, rfl⟩ := lk_renL_mem hy
    rw [lk_renL hi, Option.map_eq_some_iff] at hy
    obtain ⟨c0, hc0, rfl⟩ := hy
    obtain ⟨hq, h1, h2⟩ := hm2.1 x c0 hc0
    refine ⟨hq, by simp only [η3, hinv, Option.bind_some]; exact h1, ?_⟩
    refine ChIs.push (ω := ω2) (fun b hb => by simp [hb]) (fun b i hb => by simp [hb]) ?_
    rw [hp]; exact h2
  · have hy : lk y (renL σ outs) = none := hy
    cases hiv : inv y with
    | none => simp only [η3, hiv, Option.bind_none]
    | some x =>
      have hxy : σ x = y := by
        simp only [inv] at hiv
        split at hiv
        · rename_i hx; have := Option.some.inj hiv; rw [← this]; exact Classical.choose_spec hx
        · cases hiv
      subst hxy
      rw [lk_renL hi, Option.map_eq_none_iff] at hy
      simp only [η3, hiv, Option.bind_some]
      exact hm2.2 x hy
  · have h1 : ω1 b = none := by simp only [ω1, hb2]; rfl
    obtain ⟨h2, h3⟩ := hfr.block b hb1 h1
    exact ⟨h2, by simp [h3]⟩
  · rw [lk_renB, Option.map_eq_some_iff] at ht
    obtain ⟨a0, ha0, rfl⟩ := ht
    obtain ⟨u, h1, h2⟩ := hb t a0 ha0
    exact ⟨u, h1, den_ren.2 (hp ▸ h2)⟩
end

end Go.Proofs.YtljimlejcecleaaDoor

/- A memory of names: structs loaded and stored whole; the everyday forms of the rules. No program in sight. -/
namespace Go.Proofs.YtljimlejcecleaaDoor
open Go.RowKit

section
variable {P : Program} {nt : Nat} {S S' : St} {w0 w : World} {ω0 : Beg} {ω : Own?} {η : Env} {a : Act}
variable {t : Nat} {ty : TypeId} {ps : String} {af : Array Edge} {gd : Option (Nat × Bool)} {x y : Operand} {av : AV}

end
end Go.Proofs.YtljimlejcecleaaDoor

/- A memory of names: append. No program in sight. -/
namespace Go.Proofs.YtljimlejcecleaaDoor
open Go.RowKit

/-- what append leaves of a vector of the call's own -/
structure Grown (ω : Own?) (w w' : World) (ow : Nm × Option Nat) (h' : Hd) (E : TypeId) (k nk : Nat) (news : List Value) (cell : Nat → Value → Prop) : Prop where
  k_ : h'.k = k
  os : w'.os = w.os
  tape : w'.tape = w.tape
  output : w'.output = w.output
  size : w.heap.size ≤ w'.heap.size
  other : ∀ b, b < w.heap.size → ω b ≠ some ow → w'.heap[b]? = w.heap[b]?
  vec : ∃ b o cs, h'.ao = some ⟨b, o, none⟩ ∧ Own?.new ω w.heap.size ow b = some ow ∧ w'.heap[b]? = some (.cells cs E (0, 0)) ∧ (o = 0 ∧ cs.size = h'.c * k) ∧ nk + news.length ≤ h'.c * k ∧ h'.c ≤ maxLen ∧
    (∀ j, j < nk → ∃ u, cs[o + j]? = some u ∧ cell j u) ∧ ∀ j v, news[j]? = some v → cs[o + nk + j]? = some v
end Go.Proofs.YtljimlejcecleaaDoor

/- A memory of names: append and make as operations of the walk. No program in sight. -/
namespace Go.Proofs.YtljimlejcecleaaDoor
open Go.RowKit

/-- what a slice reads as, m elements of k cells -/
structure Reads (S : St) (b : A1) (m k : Nat) (news : List Value) : Prop where
  len : news.length = m * k
  go : ∀ {w0 ω0 nt η ω a w u}, SatE w0 ω0 nt S η ω a w → Den1 η b u → ∃ ad c, u = .slice ad m c ∧ ∀ (j : Nat) (v : Value), news[j]? = some v → ∃ bb o, ad = some ⟨bb, o, none⟩ ∧ w.cell? ⟨bb, o + j, none⟩ = some v
section
variable {P : Program} {nt : Nat} {S S' : St} {w0 w : World} {ω0 : Beg} {ω : Own?} {η : Env} {a : Act}
variable {t : Nat} {ty : TypeId} {ps : String} {af : Array Edge} {gd : Option (Nat × Bool)} {x y : Operand} {av : AV}

/-- the cells of a slice of a chunk -/
theorem SatE.slice (hs : SatE w0 ω0 nt S η ω a w) {n : Nm} {off m k : Nat} {c : Ch} {u : Value} (hd : Den1 η (.sl n off m) u) (hc : S.ch n = some c) (hk : c.k = k) (hk0 : 0 < k) (hl : (off + m) * k ≤ c.d.len) :
    ∃ ad cp, u = .slice ad m cp ∧ ∀ j, j < m * k → ∃ bb o v, ad = some ⟨bb, o, none⟩ ∧ w.cell? ⟨bb, o + j, none⟩ = some v ∧ cellsOK η ω w c.own n c.d (off * k + j) v := by
  obtain ⟨hd', e1, e2, e3⟩ := hs.chunk hc
  obtain ⟨ao, rfl, f1, f2⟩ := hd.2 hd' e1
  refine ⟨ao, _, rfl, fun j hj => ?_⟩
  have hlt : off * k + j < c.d.len := Nat.lt_of_lt_of_le (by rw [Nat.add_mul]; omega) hl
  obtain ⟨b', o', v, g1, g2, g3⟩ := e3.get hlt
  have hcap := e3.cap
  rw [e2, hk] at hcap
  have h5 : off + m ≤ hd'.c := Nat.le_of_mul_le_mul_right (Nat.le_trans hl hcap) hk0
  have hm : 0 < m := by
    rcases Nat.eq_zero_or_pos m with h8 | h8
    · subst h8; simp at hj
    · exact h8
  refine ⟨b', o' + off * k, v, ?_, by rw [Nat.add_assoc]; exact g2, g3⟩
  rcases Nat.eq_zero_or_pos off with h0 | h0
  · rw [f1 h0, g1, h0]; simp
  · rw [f2 h0 (by omega), g1, e2, hk]; rfl

end
end Go.Proofs.YtljimlejcecleaaDoor

/- A memory of names: rows that are appended and laid into rows; make; what is nil; structs stored whole. No program in sight. -/
namespace Go.Proofs.YtljimlejcecleaaDoor
open Go.RowKit

section
variable {P : Program} {nt : Nat} {S S' : St} {w0 w : World} {ω0 : Beg} {ω : Own?} {η : Env} {a : Act}
variable {t : Nat} {ty : TypeId} {ps : String} {af : Array Edge} {gd : Option (Nat × Bool)} {x y : Operand} {av : AV}

end
end Go.Proofs.YtljimlejcecleaaDoor

/- A memory of names: structs stored whole, rows laid into rows, nil cells. No program in sight. -/
namespace Go.Proofs.YtljimlejcecleaaDoor
open Go.RowKit

def A1.hasE (x : Nm) : A1 → Bool
  | .esl y _ _ _ | .eptr y _ _ => Nat.beq x y
  | _ => false
def A2.hasE (x : Nm) : A2 → Bool
  | .one a => a.hasE x
  | .agg l => l.any (A1.hasE x)
def AV.hasE (x : Nm) : AV → Bool
  | .s a => a.hasE x
  | .tup l => l.any (A2.hasE x)
structure RowTurn (η η' : Env) (n : Nm) : Prop where
  h : ∀ y, η'.h y = η.h y
  r : ∀ y, y ≠ n → ∀ i, η'.r y i = η.r y i
theorem Den1.cut {η η' : Env} {n : Nm} {a : A1} {u : Value} (ht : RowTurn η η' n) (hb : a.hasE n = false) (h : Den1 η a u) : Den1 η' a u := by
  cases a with
  | esl x i off m =>
    have hne : x ≠ n := fun e => by subst e; simp [A1.hasE] at hb
    exact ⟨h.1, fun hd he => by rw [ht.r x hne i]; exact h.2 hd (ht.h x ▸ he)⟩
  | eptr x i off =>
    have hne : x ≠ n := fun e => by subst e; simp [A1.hasE] at hb
    exact ⟨h.1, fun hd he => by rw [ht.r x hne i]; exact h.2 hd (ht.h x ▸ he)⟩
  | sl x off m => exact ⟨h.1, fun hd he => h.2 hd (ht.h x ▸ he)⟩
  | ptr x off => exact ⟨h.1, fun hd he => h.2 hd (ht.h x ▸ he)⟩
  | val v => exact h
  | any => exact h
  | clo f xs =>
    obtain ⟨us, h1, h2, h3⟩ := h
    refine ⟨us, h1, h2, fun j p hp => ?_⟩
    obtain ⟨q, hq, hq1, hq2⟩ := h3 j p hp
    exact ⟨q, hq, hq1, fun hd he => hq2 hd (ht.h p.1 ▸ he)⟩
theorem Den2.cut {η η' : Env} {n : Nm} {a : A2} {u : Value} (ht : RowTurn η η' n) (hb : a.hasE n = false) (h : Den2 η a u) : Den2 η' a u := by
  cases a with
  | one a => exact Den1.cut ht hb h
  | agg l =>
    obtain ⟨us, h1, h2, h3⟩ := h
    refine ⟨us, h1, h2, fun j a ha => ?_⟩
    obtain ⟨u', h4, h5⟩ := h3 j a ha
    exact ⟨u', h4, h5.cut ht (by have := List.any_eq_false.1 (show l.any (A1.hasE n) = false from hb) a (List.mem_of_getElem? ha); simpa using this)⟩
theorem Den.cut {η η' : Env} {n : Nm} {a : AV} {u : Value} (ht : RowTurn η η' n) (hb : a.hasE n = false) (h : Den η a u) : Den η' a u := by
  cases a with
  | s a => exact Den2.cut ht hb h
  | tup l =>
    obtain ⟨us, h1, h2, h3⟩ := h
    refine ⟨us, h1, h2, fun j a ha => ?_⟩
    obtain ⟨u', h4, h5⟩ := h3 j a ha
    exact ⟨u', h4, h5.cut ht (by have := List.any_eq_false.1 (show l.any (A2.hasE n) = false from hb) a (List.mem_of_getElem? ha); simpa using this)⟩

section
variable {P : Program} {nt : Nat} {S S' : St} {w0 w : World} {ω0 : Beg} {ω : Own?} {η : Env} {a : Act}
variable {t : Nat} {ty : TypeId} {ps : String} {af : Array Edge} {gd : Option (Nat × Bool)} {x y : Operand} {av : AV}

end
end Go.Proofs.YtljimlejcecleaaDoor

/- A memory of names: a region that draws its order. Its first operations read, or make memory; whatever comes behind waits for all of them. No program in sight. -/
namespace Go.Proofs.YtljimlejcecleaaDoor
open Go.RowKit

structure Add where
  t : Nat
  av : AV
  news : Option (Nm × Ch)
def St.newO (S : St) : Option (Nm × Ch) → St
  | none => S
  | some (x, c) => S.new x c
def St.add (S : St) (A : Add) : St := (S.newO A.news).put A.t A.av
def memN (l : List Nat) (x : Nat) : Bool := l.any (Nat.beq x)
def noK : Nm → Bool := fun _ => false
/-- no name of the list, no slot of the list -/
def St.clear (S : St) (ds nms : List Nat) : St :=
  { sl := fun t => bif memN ds t then none else (S.sl t).bind fun av => bif av.bad (memN nms) noK then none else some av
    ph := fun t => (S.ph t).bind fun av => bif av.bad (memN nms) noK then none else some av
    ch := fun x => bif memN nms x then none else (S.ch x).map (Ch.clean (memN nms) noK) }
def Add.chAt (A : Add) (x : Nm) : Option Ch := match A.news with
  | some (y, c) => bif Nat.beq x y then some c else none
  | none => none
structure St.le (S S1 : St) : Prop where
  sl : ∀ t av, S.sl t = some av → S1.sl t = some av
  ch : ∀ x c, S.ch x = some c → S1.ch x = some c
theorem St.le.op {S S1 : St} (h : S.le S1) {x : Operand} {av : AV} (hx : S.op x = some av) : S1.op x = some av := by
  cases x with
  | tmp t => exact h.sl t av hx
  | const v => exact hx
  | func f => exact hx
  | global g => cases hx

def newNms (l : List Add) : List Nm := l.filterMap fun A => A.news.map (·.1)
def Add.names (A : Add) : List Nm := A.av.names ++ (match A.news with | some (_, c) => c.names | none => [])
/-- whoever names what another operation of the region makes waits for it -/
def mentionB (cls : List (List Nat)) (adds : List Add) : Bool :=
  adds.zipIdx.all fun p => p.1.names.all fun y => adds.zipIdx.all fun q => match q.1.news with
    | some (x, _) => !(Nat.beq x y) || Nat.beq q.2 p.2 || memN (cls.getD p.2 []) q.2
    | none => true
end Go.Proofs.YtljimlejcecleaaDoor

/- A memory of names: a region that draws its order, walked once. No program in sight. -/
namespace Go.Proofs.YtljimlejcecleaaDoor
open Go.RowKit

section
variable {P : Program} {nt : Nat} {w0 w : World} {ω0 : Beg} {S S1 : St} {Q : Exit → Act → World → Prop} {a : Act}

def lkTR (ℓ : Nat → Bool) (t : Nat) : List Add → Option AV
  | [] => none
  | A :: r => bif Nat.beq t A.t && ℓ r.length then some A.av else lkTR ℓ t r
def lkNR (ℓ : Nat → Bool) (x : Nm) : List Add → Option Ch
  | [] => none
  | A :: r => match (bif ℓ r.length then A.chAt x else none) with
    | some c => some c
    | none => lkNR ℓ x r
/-- the same with the last operation in front -/
def St.partR (S : St) (ℓ : Nat → Bool) (done : List Add) : St :=
  { sl := fun t => match lkTR ℓ t done with | some av => some av | none => S.sl t
    ph := S.ph
    ch := fun x => match lkNR ℓ x done with | some c => some c | none => S.ch x }
/-- the operations, one behind the other in the text's order: each may look at what it depends on alone -/
inductive Draw (P : Program) (nt : Nat) (S : St) (cls : List (List Nat)) (sk : List Nat) : List Oper → List Add → List Add → Prop where
  | nil {done : List Add} : Draw P nt S cls sk [] done done
  | skip {o : Oper} {rest : List Oper} {done all : List Add} (A : Add) (hs : memN sk done.length = true) (k : Draw P nt S cls sk rest (A :: done) all) : Draw P nt S cls sk (o :: rest) done all
  | cons {o : Oper} {rest : List Oper} {done all : List Add} (A : Add) (hg : o.guard = none)
      (h : ∀ S1, (S.partR (memN (cls.getD done.length [])) done).le S1 → Stp P nt o S1 (S1.add A)) (k : Draw P nt S cls sk rest (A :: done) all) : Draw P nt S cls sk (o :: rest) done all
structure ClsOK (ops : Array Oper) (nA : Nat) (sk : List Nat) (cls : List (List Nat)) : Prop where
  size : nA ≤ ops.size
  less : ∀ i o, ops[i]? = some o → i < nA → memN sk i = false → ∀ e ∈ o.after, Region.binds .any e = true → e.on < i ∧ memN sk e.on = false
  dep : ∀ i o, ops[i]? = some o → ∀ j ∈ cls.getD i [], ∃ e ∈ o.after, Region.binds .any e = true ∧ (j = e.on ∨ j ∈ cls.getD e.on [])
  late : ∀ i o, ops[i]? = some o → (nA ≤ i ∨ memN sk i = true) → ∀ j, j < nA → memN sk j = false → j ∈ cls.getD i []
  lt : ∀ i o, ops[i]? = some o → i < nA → ∀ j ∈ cls.getD i [], j < i
/-- the checks on what the operations make -/
structure AddsOK (adds : List Add) (cls : List (List Nat)) (ds nms : List Nat) : Prop where
  t : (adds.map (·.t)).Nodup
  n : (newNms adds).Nodup
  ds : ∀ A ∈ adds, A.t ∈ ds
  nms : ∀ A ∈ adds, ∀ x c, A.news = some (x, c) → x ∈ nms
  ment : mentionB cls adds = true
/-- what comes behind the first operations, whatever is to come -/
structure Rest (P : Program) (w0 : World) (ω0 : Beg) (nt : Nat) (ops : Array Oper) (Q : Exit → Act → World → Prop) (n : Nat) (L : Array Bool) (S : St) : Prop where
  go : ∀ a w, Sat w0 ω0 nt S a w → wpAny P .any ops Q n L a w

end
end Go.Proofs.YtljimlejcecleaaDoor

/- A memory of names: the steps of a region that draws its order. No program in sight. -/
namespace Go.Proofs.YtljimlejcecleaaDoor
open Go.RowKit

section
variable {P : Program} {nt : Nat} {w0 w : World} {ω0 : Beg} {S S1 : St} {Q : Exit → Act → World → Prop} {cls : List (List Nat)} {sk : List Nat} {o : Oper} {rest : List Oper} {done all : List Add}
end
end Go.Proofs.YtljimlejcecleaaDoor

/- A memory of names: everyday forms of alloc and append. No program in sight. -/
namespace Go.Proofs.YtljimlejcecleaaDoor
open Go.RowKit


section
variable {P : Program} {nt : Nat} {S S' : St} {w0 w : World} {ω0 : Beg} {ω : Own?} {η : Env} {a : Act}
variable {t : Nat} {ty : TypeId} {ps : String} {af : Array Edge} {gd : Option (Nat × Bool)} {x y : Operand} {av : AV}
end
section
variable {P : Program} {nt : Nat} {w0 : World} {ω0 : Beg} {S S1 S' : St} {Q : Exit → Act → World → Prop}
end
end Go.Proofs.YtljimlejcecleaaDoor

/- A memory of names: a region that draws its order, in which one operation of the first ones is free to come at any time. No program in sight. -/
namespace Go.Proofs.YtljimlejcecleaaDoor
open Go.RowKit

section
variable {P : Program} {nt : Nat} {w0 w : World} {ω0 : Beg} {S S1 : St} {Q : Exit → Act → World → Prop} {a : Act}

structure ClsFOK (ops : Array Oper) (nA : Nat) (sk : List Nat) (f : Nat) (cls : List (List Nat)) : Prop where
  size : nA ≤ ops.size
  less : ∀ i o, ops[i]? = some o → i < nA → memN sk i = false → ∀ e ∈ o.after, Region.binds .any e = true → e.on < i ∧ memN sk e.on = false
  dep : ∀ i o, ops[i]? = some o → ∀ j ∈ cls.getD i [], ∃ e ∈ o.after, Region.binds .any e = true ∧ (j = e.on ∨ j ∈ cls.getD e.on [])
  late : ∀ i o, ops[i]? = some o → (nA ≤ i ∨ memN sk i = true) → ∀ j, j < nA → memN sk j = false → j ≠ f → j ∈ cls.getD i []
  lt : ∀ i o, ops[i]? = some o → i < nA → ∀ j ∈ cls.getD i [], j < i
end
end Go.Proofs.YtljimlejcecleaaDoor

/- A memory of names: guards, picks, nil slices inside of aggregates. No program in sight. -/
namespace Go.Proofs.YtljimlejcecleaaDoor
open Go.RowKit

section
variable {P : Program} {nt : Nat} {S S1 S' : St} {w0 w : World} {ω0 : Beg} {ω : Own?} {η : Env} {a : Act} {Q : Exit → Act → World → Prop} {ops : Array Oper} {rest : List Oper} {o : Oper}
variable {t : Nat} {ty : TypeId} {ps : String} {af : Array Edge} {gd : Option (Nat × Bool)} {x y z : Operand} {av : AV}

end
end Go.Proofs.YtljimlejcecleaaDoor

/- A memory of names: make of integers; small steps. No program in sight. -/
namespace Go.Proofs.YtljimlejcecleaaDoor
open Go.RowKit

section
variable {P : Program} {nt : Nat} {S S1 : St} {w0 w : World} {ω0 : Beg} {ω : Own?} {η : Env} {a : Act} {Q : Exit → Act → World → Prop}
variable {t : Nat} {ty : TypeId} {ps : String} {af : Array Edge} {gd : Option (Nat × Bool)} {x y : Operand} {av : AV}
end
end Go.Proofs.YtljimlejcecleaaDoor

/- Walks in names: shifts, bits, conversions between integers, three results. -/
namespace Go.Proofs.YtljimlejcecleaaDoor
open Go.RowKit

section
variable {P : Program} {nt : Nat} {S : St} {t : Nat} {ty : TypeId} {ps : String} {af : Array Edge} {gd : Option (Nat × Bool)} {x y : Operand}
end
section
variable {P : Program} {w0 : World} {ω0 : Beg} {nt : Nat} {S : St}
end
end Go.Proofs.YtljimlejcecleaaDoor

/- Cosets that some generators lead to, and the first fault of intersections, on lists. No program in sight. -/
namespace Go.Proofs.YtljimlejcecleaaDoor

/-- whether a mask holds a generator -/
def mBit (mask g : Nat) : Bool := mask / 2 ^ g % 2 == 1
/-- which are met, the queue -/
abbrev MSt := List Bool × List Int
def mStep (T : List (List Int)) (mask c : Nat) (s : MSt) (g : Nat) : MSt := if mBit mask g = true ∧ bat s.1 (bTo T c g) = false then (s.1.set (bTo T c g) true, s.2 ++ [(bTo T c g : Int)]) else s
def mRow (T : List (List Int)) (mask ng c : Nat) (s : MSt) : MSt := (List.range ng).foldl (mStep T mask c) s
def mLoop (T : List (List Int)) (mask ng : Nat) : Nat → Nat → MSt → MSt
  | 0, _, s => s
  | f + 1, i, s => if i < s.2.length then mLoop T mask ng f (i + 1) (mRow T mask ng (iget s.2 i).toNat s) else s
def mStart (n : Nat) : MSt := ((List.replicate n false).set 0 true, [0])
def mem (T : List (List Int)) (ng n mask : Nat) : MSt := mLoop T mask ng (n + 1) 0 (mStart n)
structure MOK (n : Nat) (s : MSt) : Prop where
  l : s.1.length = n
  q : ∀ k, k < s.2.length → ∃ d : Nat, iget s.2 k = (d : Int) ∧ d < n ∧ bat s.1 d = true
  cnt : bcnt s.1 = s.2.length
  cov : ∀ d, d < n → bat s.1 d = true → ∃ k, k < s.2.length ∧ iget s.2 k = (d : Int)
theorem MOK.le {n : Nat} {s : MSt} (h : MOK n s) : s.2.length ≤ n := by
  have := bcnt_le s.1; rw [h.cnt, h.l] at this; exact this
structure MGrow (s s' : MSt) : Prop where
  len : s.2.length ≤ s'.2.length
  pre : ∀ k, k < s.2.length → iget s'.2 k = iget s.2 k
  met : ∀ d, bat s.1 d = true → bat s'.1 d = true
theorem MGrow.refl (s : MSt) : MGrow s s := ⟨Nat.le_refl _, fun _ _ => rfl, fun _ h => h⟩
theorem MGrow.trans {a b c : MSt} (h : MGrow a b) (k : MGrow b c) : MGrow a c :=
  ⟨Nat.le_trans h.len k.len, fun i hi => (k.pre i (Nat.lt_of_lt_of_le hi h.len)).trans (h.pre i hi), fun d hd => k.met d (h.met d hd)⟩
section
variable {T : List (List Int)} {ng n mask : Nat}
end
end Go.Proofs.YtljimlejcecleaaDoor

/- Walks in names: bits of masks. No program in sight. -/
namespace Go.Proofs.YtljimlejcecleaaDoor
open Go.RowKit

section
variable {P : Program} {nt : Nat} {S S' S2 : St} {t : Nat} {ty : TypeId} {ps : String} {af : Array Edge} {gd : Option (Nat × Bool)} {x y : Operand} {o : Oper}
/-- a step behind a loss of knowledge -/
theorem Stp.pre (h : Wk S S') (k : Stp P nt o S' S2) : Stp P nt o S S2 :=
  ⟨fun w0 ω0 a w Q hs => k.go w0 ω0 a w Q (h.go _ _ _ _ _ hs)⟩
end
end Go.Proofs.YtljimlejcecleaaDoor

/- A memory of names: a region that draws, with several operations free to come at any time. No program in sight. -/
namespace Go.Proofs.YtljimlejcecleaaDoor
open Go.RowKit

section
variable {P : Program} {nt : Nat} {S S1 : St} {w0 w : World} {ω0 : Beg} {ω : Own?} {η : Env} {a : Act} {Q : Exit → Act → World → Prop}

def AllSubs : List Nat → (List Nat → Prop) → Prop
  | [], p => p []
  | f :: r, p => AllSubs r p ∧ AllSubs r (fun ks => p (f :: ks))
theorem AllSubs.filter {q : Nat → Bool} : ∀ {fs : List Nat} {p : List Nat → Prop}, AllSubs fs p → p (fs.filter q)
  | [], p, h => h
  | f :: r, p, h => by
    rw [List.filter_cons]
    split
    · exact AllSubs.filter (p := fun ks => p (f :: ks)) h.2
    · exact AllSubs.filter (p := p) h.1
theorem AllSubs.map {p p' : List Nat → Prop} (h : ∀ ks, p ks → p' ks) : ∀ {fs : List Nat}, AllSubs fs p → AllSubs fs p'
  | [], k => h _ k
  | _ :: _, k => ⟨AllSubs.map h k.1, AllSubs.map (fun ks => h _) k.2⟩
structure ClsLOK (ops : Array Oper) (nA : Nat) (sk : List Nat) (fs : List Nat) (cls : List (List Nat)) : Prop where
  size : nA ≤ ops.size
  less : ∀ i o, ops[i]? = some o → i < nA → memN sk i = false → ∀ e ∈ o.after, Region.binds .any e = true → e.on < i ∧ memN sk e.on = false
  dep : ∀ i o, ops[i]? = some o → ∀ j ∈ cls.getD i [], ∃ e ∈ o.after, Region.binds .any e = true ∧ (j = e.on ∨ j ∈ cls.getD e.on [])
  late : ∀ i o, ops[i]? = some o → (nA ≤ i ∨ memN sk i = true) → ∀ j, j < nA → memN sk j = false → memN fs j = false → j ∈ cls.getD i []
  lt : ∀ i o, ops[i]? = some o → i < nA → ∀ j ∈ cls.getD i [], j < i
end
end Go.Proofs.YtljimlejcecleaaDoor

/- From contracts in names to contracts in words (RdS, OwSS, ..), and back. No program in sight. -/
namespace Go.Proofs.YtljimlejcecleaaDoor
open Go.RowKit

/-- nobody's blocks -/
def noOwn : Own? := fun _ => none
/-- a chunk that is only read lies at the head h, its rows at the heads r -/
def Hv (w : World) (x : Nm) (c : Ch) (h : Hd) (r : Nat → Hd) : Prop := ∀ η : Env, (∀ i, η.r x i = r i) → ChIs η noOwn w x h c
abbrev Lay := List (Nm × (Ch × Hd × (Nat → Hd)))
def envOf (l : Lay) : Env := { h := fun x => (lk x l).map fun q => q.2.1, r := fun x i => match lk x l with | some q => q.2.2 i | none => ⟨none, 0, 1⟩ }
theorem lk_map {α β : Type} (f : α → β) : ∀ (l : List (Nat × α)) (x : Nat), lk x (l.map fun p => (p.1, f p.2)) = (lk x l).map f
  | [], x => rfl
  | p :: r, x => by
    simp only [List.map_cons, lk]
    rw [lk_map f r x]
    cases Nat.beq x p.1 <;> rfl
theorem mem_of {w : World} {l : Lay} (h : ∀ p ∈ l, Hv w p.1 p.2.1 p.2.2.1 p.2.2.2) : Mem (envOf l) noOwn w (fun x => lk x (l.map fun p => (p.1, p.2.1))) := by
  have hl : ∀ x, lk x (l.map fun p => (p.1, p.2.1)) = (lk x l).map fun q => q.1 := fun x => lk_map (fun q => q.1) l x
  refine ⟨fun x c hx => ?_, fun x hx => ?_⟩
  · replace hx := (hl x).symm.trans hx
    obtain ⟨q, hq, rfl⟩ := Option.map_eq_some_iff.1 hx
    refine ⟨q.2.1, by simp [envOf, hq], h (x, q) (lk_mem hq) _ fun i => by simp [envOf, hq]⟩
  · replace hx := (hl x).symm.trans hx
    have : lk x l = none := by simpa using hx
    simp [envOf, this]
/-- what a contract in names says of a call whose arguments are only read -/
theorem FC.call {P : Program} {f : FuncId} {ins outs : List (Nm × Ch)} {args : List AV} {res : AV} {back : List (Nat × AV)} (h : FC P f ins args outs res back) {w : World} {l : Lay} {us : List Value} (hl : ∀ p ∈ l, Hv w p.1 p.2.1 p.2.2.1 p.2.2.2) (hi : (l.map fun p => (p.1, p.2.1)) = ins)
    (hd : DenL (envOf l) args us) : Calls P f us.toArray w fun e w' => ∃ v η ω, e = .returned v ∧ Den η res v ∧ Mem η ω w' (fun x => lk x outs) ∧ Below w.heap.size w w' ∧ ∀ b, b < w.heap.size → ω b = none := by
  subst hi
  refine (h w (envOf l) noOwn us (mem_of hl) hd).mono ?_
  rintro e w' ⟨v, η, ω, he, h1, h2, h3, _⟩
  exact ⟨v, η, ω, he, h1, h2, ⟨h3.os, h3.tape, h3.output, h3.size, fun b hb => (h3.block b hb rfl).1⟩, fun b hb => (h3.block b hb rfl).2⟩

section
variable {η : Env} {ω : Own?} {w' : World} {lo : Nat} {outs : List (Nm × Ch)}
/-- a vector of the call's own is a row of the words -/
theorem VecO.own {ow : Nm × Option Nat} {h : Hd} {E : Nat} {xs : List Value} {len : Nat} {cell : Nat → Value → Prop} (hk : h.k = 1) (hv : VecO ω w' ow h E len cell) (hlo : ∀ b, b < lo → ω b = none) (hn : len ≤ 4398046511104) (hx : xs.length = len)
    (hc : ∀ j u, j < len → (∃ b o, h.ao = some ⟨b, o, none⟩ ∧ w'.cell? ⟨b, o + j, none⟩ = some u) → xs[j]? = some u) :
    Own w' lo E h.ao len h.c xs ∧ ∀ g, bk h.ao = some g → g < w'.heap.size ∧ ω g = some ow := by
  rcases hv with ⟨h1, h2, h3⟩ | ⟨b, o, cs, h1, h2, h3, ⟨h4, h4'⟩, h5, h6, h7⟩
  · subst h3
    refine ⟨⟨⟨by simpa using hx, .inl ⟨by rw [h1, h2], rfl⟩⟩, hn⟩, fun g hg => by rw [h1] at hg; cases hg⟩
  · subst h4
    rw [hk, Nat.mul_one] at h4' h5
    have hb : lo ≤ b := by
      rcases Nat.lt_or_ge b lo with h8 | h8
      · rw [hlo b h8] at h2; cases h2
      · exact h8
    refine ⟨⟨⟨by simpa using hx, .inr ⟨b, h.c, cs, by rw [h1], hb, h3, h5, h6, by rw [h4', Nat.mul_one], ?_⟩⟩, hn⟩, fun g hg => ?_⟩
    · apply List.ext_getElem?
      intro j
      rw [Nat.mul_one, List.getElem?_take]
      by_cases hj : j < len
      · obtain ⟨u, hu, _⟩ := h7 j hj
        rw [Nat.zero_add] at hu
        rw [if_pos hj, hc j u hj ⟨b, 0, h1, by rw [Nat.zero_add, cell_of_row w' b j cs E (0, 0) h3]; exact hu⟩]
        simpa using hu
      · rw [if_neg hj, List.getElem?_eq_none (by omega)]
    · rw [h1] at hg
      simp [bk] at hg
      subst hg
      exact ⟨lt_of_heap h3, h2⟩
end

section
variable {η : Env} {ω : Own?} {w : World} {ins : List (Nm × Ch)}
end
end Go.Proofs.YtljimlejcecleaaDoor

/- A memory of names: calls that make one vector; rows taken out and laid back; slices of rows; literals of rows and of arrays. No program in sight. -/
namespace Go.Proofs.YtljimlejcecleaaDoor
open Go.RowKit

section
variable {P : Program} {nt : Nat} {S S1 S2 : St} {w0 w : World} {ω0 : Beg} {ω : Own?} {η : Env} {a : Act} {Q : Exit → Act → World → Prop} {ops : Array Oper} {rest : List Oper}
variable {t : Nat} {ty : TypeId} {ps : String} {af : Array Edge} {gd : Option (Nat × Bool)} {x y : Operand} {av : AV} {o : Oper}

end
end Go.Proofs.YtljimlejcecleaaDoor

/- A memory of names: a call that turns one vector of the caller's in place; quotients and remainders. No program in sight. -/
namespace Go.Proofs.YtljimlejcecleaaDoor
open Go.RowKit

section
variable {P : Program} {nt : Nat} {S S' S2 : St} {t : Nat} {ty : TypeId} {ps : String} {af : Array Edge} {gd : Option (Nat × Bool)} {x y : Operand} {o : Oper}
end
end Go.Proofs.YtljimlejcecleaaDoor

/- A memory of names: mixed vectors: structs with slices in them, and rows of structs. No program in sight. -/
namespace Go.Proofs.YtljimlejcecleaaDoor
open Go.RowKit

section
variable {P : Program} {nt : Nat} {S S1 S2 : St} {w0 w : World} {ω0 : Beg} {ω : Own?} {η : Env} {a : Act} {Q : Exit → Act → World → Prop} {ops : Array Oper} {rest : List Oper}
variable {t : Nat} {ty : TypeId} {ps : String} {af : Array Edge} {gd : Option (Nat × Bool)} {x y : Operand} {av : AV} {o : Oper}

/-- plain cells, of which a nil slice may be taken for an empty row -/
def celNew : Cel → Value → Prop
  | .v y, u => u = y
  | .r _ _ m vs, u => m = 0 ∧ vs = [] ∧ u = .slice none 0 0
  | .any, _ => True
def celK : Cel → Nat
  | .r _ k _ _ => k
  | _ => 1
theorem celNew.ok {own : Bool} {n : Nm} {j : Nat} {c : Cel} {u : Value} (hr : η.r n j = ⟨none, 0, celK c⟩) (h : celNew c u) : celOK η ω w true n j c u := by
  cases c with
  | v y => exact h
  | any => trivial
  | r F k m vs =>
    obtain ⟨rfl, rfl, rfl⟩ := h
    refine ⟨by simp, by rw [hr], by rw [hr]; rfl, ?_⟩
    rw [hr]
    exact .inl ⟨rfl, rfl, rfl⟩
end
end Go.Proofs.YtljimlejcecleaaDoor
