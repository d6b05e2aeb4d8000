/- Words for the walks of this seat: integer slices that are read, rows that a call owns, and the walk's laws on make and append in those words. No program in sight. -/
import Derived.WalkKit
import Derived.WalkSpells
import Derived.WalkLawsBesides
import Derived.Lib.Hide
import Derived.BigQuiet
import Derived.Deep.QuietTactic
import Derived.Deep.Draws
import Derived.Deep.AppendLies
import Derived.Maps.AppendAt
import Derived.Test.YtnfkhgamnapgmaaRows
import Derived.ProofKit
import Derived.OpenShut
import Derived.SizedLaws
import Derived.ChangeSame
import Derived.Deep.Slices
import Derived.Deep.Matrix
import Derived.Lib.SmallJoins
import Derived.Test.YtnfkhgamnapgmaaProg
import Derived.Laws.CopyOwn
import Derived.Deep.RegionLaw
import Derived.RegionTactic
import Derived.Deep.RegionHeld3
import Derived.Lib.AppendZeros
namespace Go.Proofs.Ytnfkhgamnapgmaa
open Go.RowKit

/-- element k of a list of integers, 0 behind its end; closed to the walk's simp -/
def iget (zs : List Int) (k : Nat) : Int := zs.getD k 0
theorem iget_lt {zs : List Int} {k : Nat} (h : k < zs.length) : iget zs k = zs[k] := by simp [iget, h]
theorem iget_mem {zs : List Int} {k : Nat} (h : k < zs.length) : iget zs k ∈ zs := by rw [iget_lt h]; exact List.getElem_mem h
theorem take_iget {zs : List Int} {k : Nat} (h : k < zs.length) : zs.take (k + 1) = zs.take k ++ [iget zs k] := by
  rw [List.take_succ_eq_append_getElem h, iget_lt h]
theorem all_take_iget {zs : List Int} {p : Int → Bool} {k : Nat} (h : k < zs.length) : (zs.take (k + 1)).all p = ((zs.take k).all p && p (iget zs k)) := by
  rw [take_iget h, List.all_append]; simp
theorem any_take_iget {zs : List Int} {p : Int → Bool} {k : Nat} (h : k < zs.length) : (zs.take (k + 1)).any p = ((zs.take k).any p || p (iget zs k)) := by
  rw [take_iget h, List.any_append]; simp
theorem all_false_at {zs : List Int} {p : Int → Bool} {k : Nat} (h : k < zs.length) (hp : p (iget zs k) = false) : zs.all p = false := by
  rw [List.all_eq_false]; exact ⟨_, iget_mem h, by simp [hp]⟩

/-- the block of a slice's address -/
def bk (ao : Option Addr) : Option Nat := ao.map (·.block)
theorem ownBlock_slice (ao : Option Addr) (n c : Nat) : (Value.slice ao n c).ownBlock = bk ao := by cases ao <;> rfl

/-- the slice at ao, of n cells, holds xs -/
def Vals (w : World) (ao : Option Addr) (n : Nat) (xs : List Value) : Prop :=
  xs.length = n ∧ n ≤ 17592186044416 ∧ (0 < n → ∃ b off, ao = some ⟨b, off, none⟩ ∧ ∀ j u, xs[j]? = some u → w.cell? ⟨b, off + j, none⟩ = some u)

/-- the slice at ao, of n integers, reads as zs -/
def Ints (w : World) (ao : Option Addr) (n : Nat) (zs : List Int) : Prop :=
  zs.length = n ∧ n ≤ 17592186044416 ∧ (0 < n → ∃ b off, ao = some ⟨b, off, none⟩ ∧ ∀ j, j < n → w.cell? ⟨b, off + j, none⟩ = some (.int .i64 (iget zs j)))

theorem Ints.at_ {w : World} {ao : Option Addr} {n : Nat} {zs : List Int} (h : Ints w ao n zs) {k : Nat} (hk : k < n) :
    ∃ b off, ao = some ⟨b, off, none⟩ ∧ w.cell? ⟨b, off + k, none⟩ = some (.int .i64 (iget zs k)) := by
  obtain ⟨b, off, e, hc⟩ := h.2.2 (by omega)
  exact ⟨b, off, e, hc k hk⟩
theorem Ints.all_ {w : World} {ao : Option Addr} {n : Nat} {zs : List Int} (h : Ints w ao n zs) (hn : 0 < n) :
    ∃ b off, ao = some ⟨b, off, none⟩ ∧ b < w.heap.size ∧ ∀ j, j < n → w.cell? ⟨b, off + j, none⟩ = some (.int .i64 (iget zs j)) := by
  obtain ⟨b, off, e, hc⟩ := h.2.2 hn
  exact ⟨b, off, e, World.block_lt_of_cell? w _ (hc 0 hn), hc⟩
theorem Ints.vals {w : World} {ao : Option Addr} {n : Nat} {zs : List Int} (h : Ints w ao n zs) : Vals w ao n (zs.map (Value.int .i64)) := by
  refine ⟨by simpa using h.1, h.2.1, fun hn => ?_⟩
  obtain ⟨b, off, e, hc⟩ := h.2.2 hn
  refine ⟨b, off, e, fun j u hu => ?_⟩
  have hl := h.1
  have hj : j < zs.length := by have := (List.getElem?_eq_some_iff.1 hu).1; simpa using this
  rw [hc j (by omega), ← hu, List.getElem?_map, List.getElem?_eq_getElem hj, iget_lt hj]; rfl
theorem Ints.drewN {w : World} {ao : Option Addr} {n : Nat} {zs : List Int} (h : Ints w ao n zs) (m : Nat) : Ints (w.drewN m) ao n zs := h
theorem Ints.same {w w' : World} {ao : Option Addr} {n : Nat} {zs : List Int} (h : Ints w ao n zs) (hs : ∀ g, bk ao = some g → g < w.heap.size → w'.heap[g]? = w.heap[g]?) : Ints w' ao n zs := by
  refine ⟨h.1, h.2.1, fun hn => ?_⟩
  obtain ⟨b, off, rfl, hb, hc⟩ := h.all_ hn
  exact ⟨b, off, rfl, fun j hj => (World.cell?_of_block (hs b rfl hb)).trans (hc j hj)⟩
theorem Ints.below {w w' : World} {ao : Option Addr} {n : Nat} {zs : List Int} (h : Ints w ao n zs) (hb : Below w.heap.size w w') : Ints w' ao n zs :=
  h.same fun g _ hg => hb.block g hg
theorem Ints.of_none {w : World} {n : Nat} {zs : List Int} (h : Ints w none n zs) : n = 0 ∧ zs = [] := by
  rcases Nat.eq_zero_or_pos n with h0 | h0
  · exact ⟨h0, List.eq_nil_of_length_eq_zero (h.1.trans h0)⟩
  · obtain ⟨b, off, e, _⟩ := h.2.2 h0
    cases e
theorem Ints.nil_ (w : World) (ao : Option Addr) : Ints w ao 0 [] := ⟨rfl, by omega, fun h => absurd h (by omega)⟩

/-- the slice at ao, of n cells (one cell an element, of type E), owns the cells xs in a row of the call's own, from block 'base' on -/
def Own (w : World) (base E : Nat) (ao : Option Addr) (n c : Nat) (xs : List Value) : Prop :=
  w.ownsRow base E 1 (.slice ao n c) n xs ∧ n ≤ 4398046511104

section
variable {w w' : World} {base E : Nat} {ao : Option Addr} {n c : Nat} {xs : List Value} {row : Option Nat}
theorem Own.len (h : Own w base E ao n c xs) : xs.length = n := by have := h.1.1; omega
theorem Own.lt (h : Own w base E ao n c xs) : ∀ g, bk ao = some g → base ≤ g ∧ g < w.heap.size := by
  have := h.1.lt
  rw [ownBlock_slice] at this; exact this
theorem Own.drewN (h : Own w base E ao n c xs) (m : Nat) : Own (w.drewN m) base E ao n c xs := h
theorem Own.kept (h : Own w base E ao n c xs) (hg : w.grownBy w' row) (hne : bk ao = none ∨ bk ao ≠ row) : Own w' base E ao n c xs :=
  ⟨h.1.kept hg (by rw [ownBlock_slice]; exact hne), h.2⟩
theorem Own.same (h : Own w base E ao n c xs) (hs : ∀ g, bk ao = some g → w'.heap[g]? = w.heap[g]?) : Own w' base E ao n c xs := by
  refine ⟨⟨h.1.1, ?_⟩, h.2⟩
  rcases h.1.2 with h2 | ⟨g, cap, cur, hv, hg, hh, r⟩
  · exact Or.inl h2
  · refine Or.inr ⟨g, cap, cur, hv, hg, ?_, r⟩
    have : bk ao = some g := by injection hv with h1; subst h1; rfl
    rw [hs g this]; exact hh
theorem Own.below (h : Own w base E ao n c xs) (hb : Below w.heap.size w w') : Own w' base E ao n c xs :=
  h.same fun g hg => hb.block g (h.lt g hg).2
theorem Own.alloc (h : Own w base E ao n c xs) (o : Obj) : Own (w.alloc o) base E ao n c xs := ⟨h.1.alloc o, h.2⟩
theorem Own.mono (h : Own w base E ao n c xs) {base' : Nat} (hb : base' ≤ base) : Own w base' E ao n c xs := by
  refine ⟨⟨h.1.1, ?_⟩, h.2⟩
  rcases h.1.2 with h2 | ⟨g, cap, cur, hv, hg, r⟩
  · exact Or.inl h2
  · exact Or.inr ⟨g, cap, cur, hv, by omega, r⟩
/-- a slice that is not empty: the block, its cells, not frozen -/
theorem Own.form (h : Own w base E ao n c xs) (hn : 0 < n) : ∃ g, ao = some ⟨g, 0, none⟩ ∧ base ≤ g ∧ g < w.heap.size ∧ n ≤ c ∧ (∀ j, j < n → w.cell? ⟨g, j, none⟩ = xs[j]?) ∧ (∀ j, w.frozen? ⟨g, j, none⟩ = false) := by
  obtain ⟨g, cap, hv, hb, hlt⟩ := h.1.form hn
  injection hv with h1 _ h2
  subst h1 h2
  refine ⟨g, rfl, hb, hlt, ?_, fun j hj => h.1.cellAt j (by omega), fun j => h.1.frozenAt j⟩
  rcases h.1.2 with ⟨h2, _⟩ | ⟨g', cap', cur, hv, _, _, hnc, _⟩
  · cases h2
  · injection hv with _ _ h3; subst h3; exact hnc
theorem Own.stored {g : Nat} (h : Own w base E (some ⟨g, 0, none⟩) n c xs) (k : Nat) (u : Value) :
    Own (w.setCell ⟨g, k, none⟩ u) base E (some ⟨g, 0, none⟩) n c (xs.set k u) ∧ w.grownBy (w.setCell ⟨g, k, none⟩ u) (some g) :=
  ⟨⟨(h.1.stored k u).1, h.2⟩, (h.1.stored k u).2⟩
theorem Own.empty_ (w : World) {base : Nat} (E : Nat) (hb : base ≤ w.heap.size) : Own (w.alloc (.cells #[] E)) base E (some ⟨w.heap.size, 0, none⟩) 0 0 [] := ⟨World.ownsRow_made w #[] 0 hb (by simp [maxLen]) rfl, by omega⟩
theorem Own.nil_ (w : World) (base E : Nat) : Own w base E none 0 0 [] := ⟨World.ownsRow_nil w base E 1, by omega⟩
end

/-- what is owned and holds integers reads as them -/
theorem Own.ints {w : World} {base E : Nat} {ao : Option Addr} {n c : Nat} {zs : List Int} (h : Own w base E ao n c (zs.map (Value.int .i64))) : Ints w ao n zs := by
  have hl : zs.length = n := by have := h.len; simpa using this
  refine ⟨hl, by have := h.2; omega, fun hn => ?_⟩
  obtain ⟨g, rfl, _, _, _, hc, _⟩ := h.form hn
  refine ⟨g, 0, rfl, fun j hj => ?_⟩
  rw [Nat.zero_add, hc j hj, List.getElem?_map, List.getElem?_eq_getElem (by omega), iget_lt (by omega)]; rfl

/-- the row of the table of an element type of one cell -/
structure ET (P : Program) (S E : TypeId) (z : Value) (bytes : Nat) : Prop where
  und : P.underlying S = some (.slice E)
  info : (P.info? E).map (fun i => (i.zero, i.size, i.bytes)) = some (some z, 1, bytes)
  one : z.cells = #[z]
  small : bytes ≤ 32

theorem grown_of_below {w w' : World} (h : Below w.heap.size w w') (row : Option Nat) : w.grownBy w' row := ⟨h.os, h.tape, h.output, h.size, fun i hi _ => h.block i hi⟩
theorem grown_tr {a b c : World} {row : Option Nat} (h : a.grownBy b row) (k : b.grownBy c row) : a.grownBy c row :=
  ⟨k.os.trans h.os, k.tape.trans h.tape, k.output.trans h.output, Nat.le_trans h.size k.size, fun i hi hne => (k.block i (Nat.lt_of_lt_of_le hi h.size) hne).trans (h.block i hi hne)⟩
theorem below_drewN {B : Nat} {a w : World} (h : Below B a w) (n : Nat) : Below B a (w.drewN n) := ⟨h.os, h.tape, h.output, h.size, h.block⟩
section
variable {P : Program} {ops : Array Oper} {rest : List Oper} {o : Oper} {a : Act} {Q : Exit → Act → World → Prop}

/-- make([]T, n) -/
theorem wpList_mk {S E : TypeId} {z : Value} {bytes : Nat} (et : ET P S E z bytes) (w : World) (hg : o.guard = none) (l c : Operand) (hop : o.op = Op.makeSlice S l c) (base : Nat)
    (kl kc : IntKind) (L C : Int) (n : Nat) (hl : a.eval l = .int kl L) (hc : a.eval c = .int kc C) (hL : L = (n : Int)) (hC : C = (n : Int)) (hn : n ≤ 4398046511104) (hb : base ≤ w.heap.size)
    (hK : ∀ w', Own w' base E (some ⟨w.heap.size, 0, none⟩) n n (List.replicate n z) → w.grownBy w' none → w'.heap.size = w.heap.size + 1 → wpList P ops Q rest (a.put o.dst (.slice (some ⟨w.heap.size, 0, none⟩) n n)) w') :
    wpList P ops Q (o :: rest) a w := by
  obtain ⟨i, hi, hz, hs, hby⟩ := info_parts et.info
  refine wpList_plain hg fun K hK' => ?_
  have hr := run_make (P := P) w S E i z et.und hi hz kl kc (n : Int) (n : Int) (by omega) (by omega) (by have := et.small; rw [hby]; have : (bytes : Int) * n ≤ 32 * n := Int.mul_le_mul_of_nonneg_right (by omega) (by omega); omega) (by omega)
  simp only [Int.toNat_natCast] at hr
  subst hL; subst hC
  unfold Oper.wp
  simp [execOp, hop, hl, hc, hr, Result.andThen]
  refine hK' _ _ (hK _ ⟨?_, hn⟩ (World.grownBy_alloc w _ none) (by simp))
  have := World.ownsRow_lit (e := E) (size := i.size) w (madeCells z.cells (n * i.size)) n hb (by simp [maxLen]; omega) (size_madeCells _ _)
  rw [hs, et.one, Nat.mul_one, toList_madeCells_one] at this
  rw [et.one, hs, Nat.mul_one]
  exact this

/-- append(s, x) of one element: x lies in a block of its own, just laid -/
theorem wpList_ap1 {S E : TypeId} {z : Value} {bytes : Nat} (et : ET P S E z bytes) (w : World) (hg : o.guard = none) (s x : Operand) (ho : o.op = .call { callee := .builtin .append, args := #[s, x], argTypes := #[S, S] })
    (base : Nat) (ao : Option Addr) (n c : Nat) (xs : List Value) (hs : a.eval s = .slice ao n c) (hown : Own w base E ao n c xs) (u : Value)
    (hx : a.eval x = .slice (some ⟨w.heap.size, 0, none⟩) 1 1) (hu : u.oneCell' = true) (hn : n + 1 ≤ 4398046511104) (hbase : base ≤ w.heap.size)
    (hK : ∀ ao' c' w', Own w' base E ao' (n + 1) c' (xs ++ [u]) → w.grownBy w' (bk ao) → (bk ao' = bk ao ∨ bk ao' = some (w.heap.size + 1)) → wpList P ops Q rest (a.put o.dst (.slice ao' (n + 1) c')) w') :
    wpList P ops Q (o :: rest) a (w.alloc (.cells #[u] E)) := by
  obtain ⟨i, hi, hz, hsz, hby⟩ := info_parts et.info
  refine wpList_append_own_at _ hg s x S ho base E i z 1 bytes et.und hi hz hsz hby (by rw [et.one]; rfl) (by omega) (.slice ao n c) n xs hs (hown.1.alloc _) ⟨w.heap.size, 0, none⟩ 1 1 [u] hx rfl (cell_one_new _ _ _)
    (by intro v hv; simp at hv; subst hv; exact hu) (by simp [maxLen]; omega) (by have := et.small; have : (n + 1) * bytes ≤ (n + 1) * 32 := Nat.mul_le_mul_left _ this; omega) (by simp; omega) ?_
  intro v' w' h1 h2 _ h4
  rw [ownBlock_slice] at h2 h4
  obtain ⟨g, cap, rfl, hb, hlt⟩ := h1.form (by omega)
  refine hK _ _ _ ⟨h1, hn⟩ (grown_tr (World.grownBy_alloc w _ _) h2) ?_
  rw [ownBlock_slice] at h4
  simpa using h4

/-- append(s, y...), y a slice whose cells hold news -/
theorem wpList_apV {S E : TypeId} {z : Value} {bytes : Nat} (et : ET P S E z bytes) (w : World) (hg : o.guard = none) (s x : Operand) (ho : o.op = .call { callee := .builtin .append, args := #[s, x], argTypes := #[S, S] })
    (base : Nat) (ao : Option Addr) (n c : Nat) (xs : List Value) (hs : a.eval s = .slice ao n c) (hown : Own w base E ao n c xs) (ad : Option Addr) (m mc : Nat) (news : List Value)
    (hx : a.eval x = .slice ad m mc) (hr : Vals w ad m news) (h1 : ∀ u ∈ news, u.oneCell' = true) (hn : n + m ≤ 4398046511104) (hbase : base ≤ w.heap.size)
    (hK : ∀ ao' c' w', Own w' base E ao' (n + m) c' (xs ++ news) → w.grownBy w' (bk ao) → (bk ao' = bk ao ∨ bk ao' = some w.heap.size) → wpList P ops Q rest (a.put o.dst (.slice ao' (n + m) c')) w') :
    wpList P ops Q (o :: rest) a w := by
  obtain ⟨i, hi, hz, hsz, hby⟩ := info_parts et.info
  rcases Nat.eq_zero_or_pos m with h0 | h0
  · subst h0
    have hz0 : news = [] := List.eq_nil_of_length_eq_zero hr.1
    subst hz0
    cases ad with
    | none =>
      have hrun : (Builtin.append_ #[S, S] o.type #[.slice ao n c, .slice none 0 mc]).run P w = .ok (.slice ao n c) w := by
        rcases hown.1.2 with ⟨hv, rfl⟩ | ⟨g, cap, cur, hv, _, _, hnc, _⟩
        · rw [hv]; simp [Builtin.append_, run_underlying et.und, sizeOf, typeInfo, hi, Builtin.lenOf, Builtin.firstCells]
        · rw [hv]; simp [Builtin.append_, run_underlying et.und, sizeOf, typeInfo, hi, Builtin.lenOf, Builtin.firstCells, hnc, storeCells]
      refine wpList_plain hg fun K hK' => ?_
      unfold Oper.wp execOp
      simp only [ho, resolve, invoke, builtin, Sem.run_bind, Sem.run_pure, Result.andThen_ok, List.map_toArray, List.map_cons, List.map_nil, hs, hx, hrun]
      exact hK' _ _ (hK ao c w (by simpa using hown) (World.grownBy.refl w _) (.inl rfl))
    | some ad =>
      refine wpList_append_own_at _ hg s x S ho base E i z 1 bytes et.und hi hz hsz hby (by rw [et.one]; rfl) (by omega) (.slice ao n c) n xs hs hown.1 ad 0 mc [] hx rfl (by intro j u hu; simp at hu)
        (by intro v hv; simp at hv) (by simp [maxLen]; omega) (by have := et.small; have : (n + 0) * bytes ≤ (n + 0) * 32 := Nat.mul_le_mul_left _ this; omega) hbase ?_
      intro v' w' h1 h2 h3 h4
      rw [ownBlock_slice] at h2 h4
      rcases h1.2 with ⟨rfl, hn0⟩ | ⟨g, cap, cur, rfl, _, _, _, _⟩
      · have h5 := h3.1 rfl
        obtain ⟨h5, _⟩ := h5
        injection h5 with h5 h6 h7
        subst h5 h6 h7
        exact hK none 0 w' ⟨by simpa using h1, by omega⟩ h2 (.inl rfl)
      · refine hK _ _ _ ⟨by simpa using h1, hn⟩ h2 ?_
        rw [ownBlock_slice] at h4; exact h4
  · obtain ⟨b, off, rfl, hc⟩ := hr.2.2 h0
    have hl := hr.1
    refine wpList_append_own_at _ hg s x S ho base E i z 1 bytes et.und hi hz hsz hby (by rw [et.one]; rfl) (by omega) (.slice ao n c) n xs hs hown.1 ⟨b, off, none⟩ m mc news hx (by simp [hl])
      (by
        intro j u hu
        rw [Addr.add_lit]; exact hc j u hu)
      h1 (by simp [maxLen]; omega) (by have := et.small; have : (n + m) * bytes ≤ (n + m) * 32 := Nat.mul_le_mul_left _ this; omega) hbase ?_
    intro v' w' h1 h2 _ h4
    rw [ownBlock_slice] at h2 h4
    obtain ⟨g, cap, rfl, hb, hlt⟩ := h1.form (by omega)
    refine hK _ _ _ ⟨h1, hn⟩ h2 ?_
    rw [ownBlock_slice] at h4
    simpa using h4
/-- append(s, y...), y a slice that reads as integers -/
theorem wpList_apN {S E : TypeId} {z : Value} {bytes : Nat} (et : ET P S E z bytes) (w : World) (hg : o.guard = none) (s x : Operand) (ho : o.op = .call { callee := .builtin .append, args := #[s, x], argTypes := #[S, S] })
    (base : Nat) (ao : Option Addr) (n c : Nat) (xs : List Value) (hs : a.eval s = .slice ao n c) (hown : Own w base E ao n c xs) (ad : Option Addr) (m mc : Nat) (zs : List Int)
    (hx : a.eval x = .slice ad m mc) (hr : Ints w ad m zs) (hn : n + m ≤ 4398046511104) (hbase : base ≤ w.heap.size)
    (hK : ∀ ao' c' w', Own w' base E ao' (n + m) c' (xs ++ zs.map (Value.int .i64)) → w.grownBy w' (bk ao) → (bk ao' = bk ao ∨ bk ao' = some w.heap.size) → wpList P ops Q rest (a.put o.dst (.slice ao' (n + m) c')) w') :
    wpList P ops Q (o :: rest) a w :=
  wpList_apV et w hg s x ho base ao n c xs hs hown ad m mc (zs.map (Value.int .i64)) hx hr.vals (ints_oneCell _ _) hn hbase hK
end

/-- only blocks from lo to below hi, and new ones, may have turned -/
structure Only (lo hi : Nat) (w w' : World) : Prop where
  os : w'.os = w.os
  tape : w'.tape = w.tape
  output : w'.output = w.output
  size : w.heap.size ≤ w'.heap.size
  block : ∀ k, k < w.heap.size → (k < lo ∨ hi ≤ k) → w'.heap[k]? = w.heap[k]?
theorem Only.below {lo hi : Nat} {w w' : World} (h : Only lo hi w w') {B : Nat} (hB : B ≤ lo) (hw : B ≤ w.heap.size) : Below B w w' := ⟨h.os, h.tape, h.output, h.size, fun k hk => h.block k (by omega) (.inl (by omega))⟩
theorem Only.of_grown {lo hi : Nat} {w w' : World} {row : Option Nat} (h : w.grownBy w' row) (hr : ∀ g, row = some g → lo ≤ g ∧ g < hi) : Only lo hi w w' :=
  ⟨h.os, h.tape, h.output, h.size, fun k hk hd => h.block k hk (fun e => by have := hr k e.symm; omega)⟩
theorem Only.refl (lo hi : Nat) (w : World) : Only lo hi w w := ⟨rfl, rfl, rfl, Nat.le_refl _, fun _ _ _ => rfl⟩
theorem Only.trans {lo hi : Nat} {a b c : World} (h : Only lo hi a b) (k : Only lo hi b c) : Only lo hi a c :=
  ⟨k.os.trans h.os, k.tape.trans h.tape, k.output.trans h.output, Nat.le_trans h.size k.size, fun i hi hd => (k.block i (Nat.lt_of_lt_of_le hi h.size) hd).trans (h.block i hi hd)⟩
theorem Own.only {w w' : World} {base E : Nat} {ao : Option Addr} {n c : Nat} {xs : List Value} {lo hi lo' hi' : Nat} (h : Own w base E ao n c xs) (ho : Only lo hi w w') (hl : ∀ g, bk ao = some g → lo' ≤ g ∧ g < hi') (hd : hi' ≤ lo ∨ hi ≤ lo') : Own w' base E ao n c xs :=
  h.same fun g hg => ho.block g (h.lt g hg).2 (by have := hl g hg; omega)

theorem ret_int {k : IntKind} {a b : Int} (h : a = b) : Ending.returned (.int k a) = .returned (.int k b) := by rw [h]
theorem ret_bool {a b : Bool} (h : a = b) : Ending.returned (.bool a) = .returned (.bool b) := by rw [h]
end Go.Proofs.Ytnfkhgamnapgmaa

/- From a walk to the row: what 'post' asks where below the old heap nothing has turned; arguments opened to the words of Base. -/
namespace Go.Proofs.Ytnfkhgamnapgmaa
open Go.ChangeShapes Go.WideShapes Go.ChangeAt Go.RowKit Go.Deep

section
variable {H : Type} {enc : TypeId × Value → H} {P : Program}
theorem post_of_below {f : Func} {s : ChangeSpec} {apart fresh handsOn again : Bool} {W W' : World} {args : Array Value} {v : Value} {ds gs : List (DataW H)} {before pa pv : List MemPlace}
    (hW : DataW.Whole enc P f.params.toList s.vars apart W args.toList ds gs before)
    (hres : ∀ (b : Nat) (sp : Nat → Bool) (hd : Bool), DataW.TrodAll enc P W' b sp hd f.resultTypes.toList (v.resultList f.resultTypes.size) (s.fn H (ds ++ gs)).results [])
    (hargs : ∀ sp : Nat → Bool, (∀ p ∈ before, sp p.block = true) → DataW.TrodAll enc P W' 0 sp true f.params.toList args.toList (s.fn H (ds ++ gs)).args pa)
    (hvars : ∀ sp : Nat → Bool, (∀ p ∈ before, sp p.block = true) → DataW.TrodVars enc P W' sp s.vars (s.fn H (ds ++ gs)).vars pv)
    (hps : before = pa ++ pv) (hb : Below W.heap.size W W')
    (hok : ∀ (j : Nat) (t : TypeId) (r : Value), f.resultTypes[j]? = some t → (v.resultList f.resultTypes.size)[j]? = some r → Value.okWide P W' .any 0 t r) :
    s.post enc P f apart fresh handsOn again W args v W' := by
  have hlt : ∀ p ∈ before, p.block < W.heap.size := fun p hp => hW.lt p hp
  have hold : ∀ p ∈ before, (fun b => decide (b < W.heap.size)) p.block = true := fun p hp => by simpa using hlt p hp
  refine ⟨ds, gs, before, [], pa, pv, hW, hres _ _ _, hargs _ hold, hvars _ hold, World.keptBut_mono (fun p hp => ⟨hp, ?_⟩) (hb.frame (· ∈ before)), fun _ => ?_⟩
  · rw [hps, List.mem_append] at hp
    exact Or.inr hp
  · obtain ⟨_, _, _, _, _, hz, hn⟩ := hW
    refine ⟨hok, _, _, ([] ++ pa) ++ pv, ⟨[] ++ pa, pv, trodAll_append (hargs _ (fun _ _ => rfl)) (hres _ _ _), hvars _ (fun _ _ => rfl), rfl, ?_, ?_⟩, ?_⟩
    · intro b off hp
      have hin : MemPlace.cell b off ∈ before := by rw [hps]; simpa using hp
      rw [hb.frozen (hlt _ hin)]
      exact hz b off hin
    · intro ha
      have := hn ha
      rw [hps] at this
      simpa using this
    · intro p hp _
      rw [hps]
      simpa using hp

/-- all arguments read behind the call as before it -/
theorem trodAll_stays (hl : laidOutB P = true) {W W' : World} (hb : Below W.heap.size W W') {sp : Nat → Bool} : ∀ (ts : List TypeId) (vs : List Value) (ds : List (DataW H)) (ps : List MemPlace),
    (∀ t ∈ ts, P.readableRec t = true ∧ t < P.types.size) → (∀ p ∈ ps, p.block < W.heap.size) → (∀ p ∈ ps, sp p.block = true) →
    DataW.TrodAll enc P W 0 (fun _ => true) true ts vs ds ps → DataW.TrodAll enc P W' 0 sp true ts vs ds ps
  | [], vs, ds, ps, _, _, _, h => by
    obtain ⟨rfl, rfl, rfl⟩ := trodAll_nil h
    exact trodAll_mk0
  | t :: ts, vs, ds, ps, ht, hlt, hsp, h => by
    obtain ⟨v, vs', d, ds', p, q, rfl, rfl, rfl, h0, r0⟩ := trodAll_cons h
    exact trodAll_cons_mk (WideElems.Trod_stays hl (ht t (by simp)).1 (ht t (by simp)).2 h0 (fun x hx => hb.same (hlt x (by simp [hx]))) (fun x hx => hsp x (by simp [hx])))
      (trodAll_stays hl hb ts vs' ds' q (fun t' h' => ht t' (by simp [h'])) (fun p' hp => hlt p' (by simp [hp])) (fun p' hp => hsp p' (by simp [hp])) r0)

end
end Go.Proofs.Ytnfkhgamnapgmaa

/- Words for slices whose elements are slices: rows that are read, rows that a call owns, all in blocks of their own. No program in sight. -/
namespace Go.Proofs.Ytnfkhgamnapgmaa
open Go.RowKit

/-- the block of a value, if it has one, lies from lo to below hi -/
def In (lo hi : Nat) (u : Value) : Prop := ∀ g, u.ownBlock = some g → lo ≤ g ∧ g < hi
theorem In.mono {lo hi lo' hi' : Nat} {u : Value} (h : In lo hi u) (h1 : lo' ≤ lo) (h2 : hi ≤ hi') : In lo' hi' u := fun g hg => by have := h g hg; omega
theorem in_slice {lo hi : Nat} {ao : Option Addr} {n c : Nat} (h : ∀ g, bk ao = some g → lo ≤ g ∧ g < hi) : In lo hi (.slice ao n c) := fun g hg => h g (by rw [ownBlock_slice] at hg; exact hg)

/-- an element's predicate looks at the element's own block alone -/
structure Inner {D : Type} (Ow1 : World → Value → D → Prop) : Prop where
  loc : ∀ {w w' u d}, Ow1 w u d → (∀ g, u.ownBlock = some g → w'.heap[g]? = w.heap[g]?) → Ow1 w' u d
  lt : ∀ {w u d}, Ow1 w u d → ∀ g, u.ownBlock = some g → g < w.heap.size
  one : ∀ {w u d}, Ow1 w u d → u.oneCell' = true

/-- the slice at ao, of n elements us, is a row of the call's own; each element u owns d in a block of its own; all blocks lie from lo to below hi and are different -/
structure OwR {D : Type} (Ow1 : World → Value → D → Prop) (w : World) (lo hi E : Nat) (ao : Option Addr) (n c : Nat) (us : List Value) (ds : List D) : Prop where
  own : Own w lo E ao n c us
  top : ∀ g, bk ao = some g → g < hi
  len : ds.length = n
  el : ∀ (j : Nat) (u : Value) (d : D), us[j]? = some u → ds[j]? = some d → Ow1 w u d
  rng : ∀ (j : Nat) (u : Value), us[j]? = some u → In lo hi u
  out : ∀ (j : Nat) (u : Value) (g : Nat), us[j]? = some u → u.ownBlock = some g → bk ao ≠ some g
  apart : ∀ (i j : Nat) (u u' : Value) (g : Nat), i ≠ j → us[i]? = some u → us[j]? = some u' → u.ownBlock = some g → u'.ownBlock ≠ some g

section
variable {D : Type} {Ow1 : World → Value → D → Prop} {w w' : World} {lo hi E : Nat} {ao : Option Addr} {n c : Nat} {us : List Value} {ds : List D}

theorem OwR.ulen (h : OwR Ow1 w lo hi E ao n c us ds) : us.length = n := h.own.len
theorem OwR.get (h : OwR Ow1 w lo hi E ao n c us ds) {j : Nat} (hj : j < n) : ∃ u d, us[j]? = some u ∧ ds[j]? = some d ∧ Ow1 w u d ∧ In lo hi u :=
  have h1 : j < us.length := by rw [h.ulen]; exact hj
  have h2 : j < ds.length := by rw [h.len]; exact hj
  ⟨us[j], ds[j], List.getElem?_eq_getElem h1, List.getElem?_eq_getElem h2, h.el j _ _ (List.getElem?_eq_getElem h1) (List.getElem?_eq_getElem h2), h.rng j _ (List.getElem?_eq_getElem h1)⟩

/-- nothing in the range has turned -/
theorem OwR.same (I : Inner Ow1) (h : OwR Ow1 w lo hi E ao n c us ds) (hs : ∀ g, lo ≤ g → g < hi → g < w.heap.size → w'.heap[g]? = w.heap[g]?) : OwR Ow1 w' lo hi E ao n c us ds :=
  { own := h.own.same fun g hg => hs g (h.own.lt g hg).1 (h.top g hg) (h.own.lt g hg).2
    top := h.top, len := h.len, rng := h.rng, out := h.out, apart := h.apart
    el := fun j u d hu hd => I.loc (h.el j u d hu hd) fun g hg => hs g (h.rng j u hu g hg).1 (h.rng j u hu g hg).2 (I.lt (h.el j u d hu hd) g hg) }
theorem OwR.below (I : Inner Ow1) (h : OwR Ow1 w lo hi E ao n c us ds) (hb : Below w.heap.size w w') : OwR Ow1 w' lo hi E ao n c us ds := h.same I fun g _ _ hg => hb.block g hg
theorem OwR.only (I : Inner Ow1) (h : OwR Ow1 w lo hi E ao n c us ds) {l k : Nat} (ho : Only l k w w') (hd : hi ≤ l ∨ k ≤ lo) : OwR Ow1 w' lo hi E ao n c us ds :=
  h.same I fun g h1 h2 hg => ho.block g hg (by omega)
theorem OwR.mono (h : OwR Ow1 w lo hi E ao n c us ds) {lo' hi' : Nat} (h1 : lo' ≤ lo) (h2 : hi ≤ hi') : OwR Ow1 w lo' hi' E ao n c us ds :=
  { own := h.own.mono h1, top := fun g hg => Nat.lt_of_lt_of_le (h.top g hg) h2, len := h.len, el := h.el, out := h.out, apart := h.apart
    rng := fun j u hu => (h.rng j u hu).mono h1 h2 }

/-- an element's own block has been written (and new ones laid): element j is now d' -/
theorem OwR.upd (I : Inner Ow1) (h : OwR Ow1 w lo hi E ao n c us ds) {j : Nat} {u : Value} {d' : D} (hu : us[j]? = some u) (hg : w.grownBy w' u.ownBlock) (h' : Ow1 w' u d') : OwR Ow1 w' lo hi E ao n c us (ds.set j d') := by
  refine { own := h.own.kept hg ?_, top := h.top, len := by rw [List.length_set]; exact h.len, rng := h.rng, out := h.out, apart := h.apart, el := ?_ }
  · cases hb : u.ownBlock with
    | none => exact (Option.eq_none_or_eq_some (bk ao)).imp id (fun ⟨g, e⟩ => by rw [e]; simp)
    | some g => exact .inr (h.out j u g hu hb)
  · intro i v d hv hd
    by_cases hij : j = i
    · subst hij
      rw [hu] at hv
      obtain rfl := Option.some.inj hv
      rw [List.getElem?_set_self'] at hd
      cases hdd : ds[j]? with
      | none => rw [hdd] at hd; cases hd
      | some x => rw [hdd] at hd; simp at hd; subst hd; exact h'
    · rw [List.getElem?_set_ne hij] at hd
      refine I.loc (h.el i v d hv hd) fun g hgg => hg.block g (I.lt (h.el i v d hv hd) g hgg) fun e => ?_
      exact h.apart i j v u g (fun e => hij e.symm) hv hu hgg e.symm

/-- element j is replaced: u' is new or in the block of the old one -/
theorem OwR.put (I : Inner Ow1) {g0 : Nat} (h : OwR Ow1 w lo hi E (some ⟨g0, 0, none⟩) n c us ds) {j : Nat} {u u' : Value} {d' : D} (hu : us[j]? = some u) (hg : w.grownBy w' u.ownBlock) (h' : Ow1 w' u' d')
    (hnew : u'.ownBlock = none ∨ u'.ownBlock = u.ownBlock ∨ ∃ g, u'.ownBlock = some g ∧ w.heap.size ≤ g) (hhi : hi ≤ w.heap.size) (hlo : lo ≤ w.heap.size) :
    OwR Ow1 (w'.setCell ⟨g0, j, none⟩ u') lo w'.heap.size E (some ⟨g0, 0, none⟩) n c (us.set j u') (ds.set j d') := by
  have hjl : j < us.length := (List.getElem?_eq_some_iff.1 hu).1
  have hown : Own w' lo E (some ⟨g0, 0, none⟩) n c us := h.own.kept hg (by
    cases hb : u.ownBlock with
    | none => exact .inr (by simp [bk])
    | some g => exact .inr (h.out j u g hu hb))
  have hlt' : ∀ g, u'.ownBlock = some g → g ≠ g0 := by
    intro g hgg e
    subst e
    rcases hnew with hn | hn | ⟨g', hn, hge⟩
    · rw [hn] at hgg; cases hgg
    · rw [hn] at hgg; exact h.out j u g hu hgg rfl
    · rw [hn] at hgg; obtain rfl := Option.some.inj hgg
      have := (h.own.lt g' rfl).2
      omega
  have hset : ∀ g, g ≠ g0 → (w'.setCell ⟨g0, j, none⟩ u').heap[g]? = w'.heap[g]? := fun g hne => Below.heap_setCell _ _ _ _ hne
  have hsz := hg.size
  refine { own := (hown.stored j u').1, top := fun g hgg => Nat.lt_of_lt_of_le (h.top g hgg) (Nat.le_trans hhi hsz), len := by rw [List.length_set]; exact h.len, el := ?_, rng := ?_, out := ?_, apart := ?_ }
  · intro i v d hv hd
    by_cases hij : j = i
    · subst hij
      rw [List.getElem?_set_self hjl] at hv
      obtain rfl := Option.some.inj hv
      rw [List.getElem?_set_self'] at hd
      cases hdd : ds[j]? with
      | none => rw [hdd] at hd; cases hd
      | some x =>
        rw [hdd] at hd; simp at hd; subst hd
        exact I.loc h' fun g hgg => hset g (hlt' g hgg)
    · rw [List.getElem?_set_ne hij] at hd hv
      have h1 : Ow1 w' v d := I.loc (h.el i v d hv hd) fun g hgg => hg.block g (I.lt (h.el i v d hv hd) g hgg) fun e => h.apart i j v u g (fun e => hij e.symm) hv hu hgg e.symm
      exact I.loc h1 fun g hgg => hset g fun e => by subst e; exact h.out i v g hv hgg rfl
  · intro i v hv
    by_cases hij : j = i
    · subst hij
      rw [List.getElem?_set_self hjl] at hv
      obtain rfl := Option.some.inj hv
      intro g hgg
      refine ⟨?_, I.lt h' g hgg⟩
      rcases hnew with hn | hn | ⟨g', hn, hge⟩
      · rw [hn] at hgg; cases hgg
      · rw [hn] at hgg; exact (h.rng j u hu g hgg).1
      · rw [hn] at hgg; obtain rfl := Option.some.inj hgg; omega
    · rw [List.getElem?_set_ne hij] at hv
      exact (h.rng i v hv).mono (Nat.le_refl _) (Nat.le_trans hhi hsz)
  · intro i v g hv hgg
    by_cases hij : j = i
    · subst hij
      rw [List.getElem?_set_self hjl] at hv
      obtain rfl := Option.some.inj hv
      intro e
      exact hlt' g hgg (Option.some.inj e).symm
    · rw [List.getElem?_set_ne hij] at hv
      exact h.out i v g hv hgg
  · intro i k v v' g hik hv hv' hgg
    have key : ∀ x vx, j ≠ x → us[x]? = some vx → ∀ g, u'.ownBlock = some g → vx.ownBlock ≠ some g := by
      intro x vx hx hvx g hgg' e
      rcases hnew with hn | hn | ⟨g', hn, hge⟩
      · rw [hn] at hgg'; cases hgg'
      · rw [hn] at hgg'; exact h.apart j x u vx g hx hu hvx hgg' e
      · rw [hn] at hgg'; obtain rfl := Option.some.inj hgg'
        have := (h.rng x vx hvx g' e).2
        omega
    by_cases hi' : j = i
    · subst hi'
      rw [List.getElem?_set_self hjl] at hv
      obtain rfl := Option.some.inj hv
      rw [List.getElem?_set_ne hik] at hv'
      exact key k v' hik hv' g hgg
    · rw [List.getElem?_set_ne hi'] at hv
      by_cases hk' : j = k
      · subst hk'
        rw [List.getElem?_set_self hjl] at hv'
        obtain rfl := Option.some.inj hv'
        exact fun e => key i v hi' hv g e hgg
      · rw [List.getElem?_set_ne hk'] at hv'
        exact h.apart i k v v' g hik hv hv' hgg

/-- a row that holds nothing yet: n nil slices -/
theorem OwR.blank {dz : D} {v : Value} (hv : v.ownBlock = none) (h : Own w lo E ao n c (List.replicate n v)) (h0 : Ow1 w v dz) (hhi : ∀ g, bk ao = some g → g < hi) : OwR Ow1 w lo hi E ao n c (List.replicate n v) (List.replicate n dz) :=
  have hu : ∀ {j u}, (List.replicate n v)[j]? = some u → u = v := fun {j u} hu => by
    rw [List.getElem?_replicate] at hu; split at hu
    · exact (Option.some.inj hu).symm
    · cases hu
  { own := h, top := hhi, len := by simp
    el := fun j u d hj hd => by
      obtain rfl := hu hj
      rw [List.getElem?_replicate] at hd; split at hd
      · obtain rfl := Option.some.inj hd; exact h0
      · cases hd
    rng := fun j u hj g hg => by obtain rfl := hu hj; rw [hv] at hg; cases hg
    out := fun j u g hj hg => by obtain rfl := hu hj; rw [hv] at hg; cases hg
    apart := fun i j u u' g _ hi _ hg => by obtain rfl := hu hi; rw [hv] at hg; cases hg }

theorem OwR.empty_ (h : Own w lo E ao 0 c []) (hhi : ∀ g, bk ao = some g → g < hi) : OwR Ow1 w lo hi E ao 0 c [] [] :=
  { own := h, top := hhi, len := rfl, el := fun j u d hj _ => by simp at hj, rng := fun j u hj => by simp at hj, out := fun j u g hj => by simp at hj, apart := fun i j u u' g _ hi => by simp at hi }

/-- one element more: u is in a block of its own -/
theorem OwR.push (I : Inner Ow1) (h : OwR Ow1 w lo hi E ao n c us ds) {ao' : Option Addr} {c' hi' : Nat} {u : Value} {d : D} (hown : Own w' lo E ao' (n + 1) c' (us ++ [u])) (hg : w.grownBy w' (bk ao)) (hu : Ow1 w' u d) (hur : In lo hi' u)
    (hao : ∀ g, bk ao' = some g → g < hi') (hhi : hi ≤ hi') (hnew : ∀ g, bk ao' = some g → (bk ao = some g ∨ ∀ (j : Nat) (u : Value), us[j]? = some u → u.ownBlock ≠ some g))
    (hua : ∀ g, u.ownBlock = some g → bk ao' ≠ some g ∧ ∀ (j : Nat) (v : Value), us[j]? = some v → v.ownBlock ≠ some g) : OwR Ow1 w' lo hi' E ao' (n + 1) c' (us ++ [u]) (ds ++ [d]) := by
  have hul : us.length = n := h.ulen
  have split1 : ∀ {j v}, (us ++ [u])[j]? = some v → (us[j]? = some v ∧ j < n) ∨ (j = n ∧ v = u) := by
    intro j v hj
    rw [List.getElem?_append] at hj
    split at hj
    · exact .inl ⟨hj, by omega⟩
    · rw [hul] at hj
      cases hjn : j - n with
      | zero => rw [hjn] at hj; simp at hj; exact .inr ⟨by omega, hj.symm⟩
      | succ k => rw [hjn] at hj; simp at hj
  refine { own := hown, top := hao, len := by rw [List.length_append, h.len]; rfl, el := ?_, rng := ?_, out := ?_, apart := ?_ }
  · intro j v x hv hx
    rcases split1 hv with ⟨h1, hj⟩ | ⟨rfl, rfl⟩
    · rw [List.getElem?_append_left (by rw [h.len]; exact hj)] at hx
      refine I.loc (h.el j v x h1 hx) fun g hgg => hg.block g (I.lt (h.el j v x h1 hx) g hgg) fun e => h.out j v g h1 hgg e.symm
    · rw [List.getElem?_append_right (by rw [h.len]; exact Nat.le_refl _), h.len, Nat.sub_self] at hx
      simp at hx; subst hx; exact hu
  · intro j v hv
    rcases split1 hv with ⟨h1, hj⟩ | ⟨rfl, rfl⟩
    · exact (h.rng j v h1).mono (Nat.le_refl _) hhi
    · exact hur
  · intro j v g hv hgg
    rcases split1 hv with ⟨h1, hj⟩ | ⟨rfl, rfl⟩
    · intro e
      rcases hnew g e with h2 | h2
      · exact h.out j v g h1 hgg h2
      · exact h2 j v h1 hgg
    · exact (hua g hgg).1
  · intro i j v v' g hij hv hv' hgg
    rcases split1 hv with ⟨h1, hi1⟩ | ⟨rfl, rfl⟩
    · rcases split1 hv' with ⟨h2, hj1⟩ | ⟨rfl, rfl⟩
      · exact h.apart i j v v' g hij h1 h2 hgg
      · exact fun e => (hua g e).2 i v h1 hgg
    · rcases split1 hv' with ⟨h2, hj1⟩ | ⟨rfl, _⟩
      · exact (hua g hgg).2 j v' h2
      · exact absurd rfl hij

/-- the cell of element j -/
theorem OwR.cell {g0 : Nat} (h : OwR Ow1 w lo hi E (some ⟨g0, 0, none⟩) n c us ds) {j : Nat} {u : Value} (hu : us[j]? = some u) : w.cell? ⟨g0, j, none⟩ = some u := by
  have hj : j < n := by have := (List.getElem?_eq_some_iff.1 hu).1; rw [h.ulen] at this; exact this
  obtain ⟨g', hg, _, _, _, hc, _⟩ := h.own.form (by omega)
  obtain rfl : g0 = g' := by injection hg with hg; injection hg
  rw [hc j hj, hu]
end

/-- element k of a list of lists, the empty one behind its end; closed to simp -/
def lget {α : Type} (zss : List (List α)) (k : Nat) : List α := zss.getD k []
theorem lget_lt {α : Type} {zss : List (List α)} {k : Nat} (h : k < zss.length) : lget zss k = zss[k] := by simp [lget, h]
theorem lget_get? {α : Type} {zss : List (List α)} {k : Nat} {z : List α} (h : zss[k]? = some z) : lget zss k = z := by simp [lget, h]
theorem take_lget {α : Type} {zss : List (List α)} {k : Nat} (h : k < zss.length) : zss.take (k + 1) = zss.take k ++ [lget zss k] := by rw [List.take_succ_eq_append_getElem h, lget_lt h]
theorem drop_lget {α : Type} {zss : List (List α)} {k : Nat} (h : k < zss.length) : zss.drop k = lget zss k :: zss.drop (k + 1) := by rw [List.drop_eq_getElem_cons h, lget_lt h]
theorem lget_mem {α : Type} {zss : List (List α)} {k : Nat} (h : k < zss.length) : lget zss k ∈ zss := by rw [lget_lt h]; exact List.getElem_mem h

/-- v is a slice that reads as integers -/
def RdS (w : World) (v : Value) (zs : List Int) : Prop := ∃ ao n c, v = .slice ao n c ∧ Ints w ao n zs
/-- v is a slice that owns its integers -/
def OwS (E : Nat) (w : World) (v : Value) (zs : List Int) : Prop := ∃ ao n c, v = .slice ao n c ∧ Own w 0 E ao n c (zs.map (Value.int .i64))
theorem OwS.rd {E : Nat} {w : World} {v : Value} {zs : List Int} (h : OwS E w v zs) : RdS w v zs := by
  obtain ⟨ao, n, c, rfl, ho⟩ := h
  exact ⟨ao, n, c, rfl, ho.ints⟩
theorem innerS (E : Nat) : Inner (OwS E) :=
  { loc := fun {w w' u d} h hs => by
      obtain ⟨ao, n, c, rfl, ho⟩ := h
      exact ⟨ao, n, c, rfl, ho.same fun g hg => hs g (by rw [ownBlock_slice]; exact hg)⟩
    lt := fun {w u d} h g hg => by
      obtain ⟨ao, n, c, rfl, ho⟩ := h
      rw [ownBlock_slice] at hg
      exact (ho.lt g hg).2
    one := fun {w u d} h => by obtain ⟨ao, n, c, rfl, _⟩ := h; rfl }
theorem RdS.below {w w' : World} {v : Value} {zs : List Int} (h : RdS w v zs) (hb : Below w.heap.size w w') : RdS w' v zs := by
  obtain ⟨ao, n, c, rfl, hi⟩ := h
  exact ⟨ao, n, c, rfl, hi.below hb⟩

/-- the slice at ao, of n slices of integers, reads as zss -/
def Intss (w : World) (ao : Option Addr) (n : Nat) (zss : List (List Int)) : Prop :=
  zss.length = n ∧ n ≤ 17592186044416 ∧ (0 < n → ∃ b off, ao = some ⟨b, off, none⟩ ∧ ∀ j, j < n → ∃ u, w.cell? ⟨b, off + j, none⟩ = some u ∧ RdS w u (lget zss j))
theorem Intss.at_ {w : World} {ao : Option Addr} {n : Nat} {zss : List (List Int)} (h : Intss w ao n zss) {k : Nat} (hk : k < n) :
    ∃ b off a' n' c', ao = some ⟨b, off, none⟩ ∧ w.cell? ⟨b, off + k, none⟩ = some (.slice a' n' c') ∧ Ints w a' n' (lget zss k) := by
  obtain ⟨b, off, e, hc⟩ := h.2.2 (by omega)
  obtain ⟨u, h1, a', n', c', rfl, h2⟩ := hc k hk
  exact ⟨b, off, a', n', c', e, h1, h2⟩
theorem Intss.drewN {w : World} {ao : Option Addr} {n : Nat} {zss : List (List Int)} (h : Intss w ao n zss) (m : Nat) : Intss (w.drewN m) ao n zss := h
theorem Intss.below {w w' : World} {ao : Option Addr} {n : Nat} {zss : List (List Int)} (h : Intss w ao n zss) (hb : Below w.heap.size w w') : Intss w' ao n zss := by
  refine ⟨h.1, h.2.1, fun hn => ?_⟩
  obtain ⟨b, off, rfl, hc⟩ := h.2.2 hn
  refine ⟨b, off, rfl, fun j hj => ?_⟩
  obtain ⟨u, h1, h2⟩ := hc j hj
  exact ⟨u, (hb.cell (p := ⟨b, off + j, none⟩) (World.block_lt_of_cell? w _ h1)).trans h1, h2.below hb⟩
theorem Intss.nil_ (w : World) (ao : Option Addr) : Intss w ao 0 [] := ⟨rfl, by omega, fun h => absurd h (by omega)⟩
theorem OwR.intss {E1 : Nat} {w : World} {lo hi E : Nat} {ao : Option Addr} {n c : Nat} {us : List Value} {zss : List (List Int)} (h : OwR (OwS E1) w lo hi E ao n c us zss) : Intss w ao n zss := by
  refine ⟨h.len, by have := h.own.2; omega, fun hn => ?_⟩
  obtain ⟨g, rfl, _, _, _, _, _⟩ := h.own.form hn
  refine ⟨g, 0, rfl, fun j hj => ?_⟩
  obtain ⟨u, d, hu, hd, h1, _⟩ := h.get hj
  refine ⟨u, by rw [Nat.zero_add]; exact h.cell hu, ?_⟩
  rw [lget_get? hd]; exact h1.rd

/-- v is a slice that reads as lists of integers -/
def RdSS (w : World) (v : Value) (zss : List (List Int)) : Prop := ∃ ao n c, v = .slice ao n c ∧ Intss w ao n zss
/-- v is a slice that owns its lists of integers, in blocks from lo to below hi -/
def OwSS (E1 E : Nat) (w : World) (lo hi : Nat) (v : Value) (zss : List (List Int)) : Prop := ∃ ao n c us, v = .slice ao n c ∧ OwR (OwS E1) w lo hi E ao n c us zss
theorem OwSS.rd {E1 E : Nat} {w : World} {lo hi : Nat} {v : Value} {zss : List (List Int)} (h : OwSS E1 E w lo hi v zss) : RdSS w v zss := by
  obtain ⟨ao, n, c, us, rfl, ho⟩ := h
  exact ⟨ao, n, c, rfl, ho.intss⟩
theorem OwSS.below {E1 E : Nat} {w w' : World} {lo hi : Nat} {v : Value} {zss : List (List Int)} (h : OwSS E1 E w lo hi v zss) (hb : Below w.heap.size w w') : OwSS E1 E w' lo hi v zss := by
  obtain ⟨ao, n, c, us, rfl, ho⟩ := h
  exact ⟨ao, n, c, us, rfl, ho.below (innerS E1) hb⟩
theorem OwSS.only {E1 E : Nat} {w w' : World} {lo hi : Nat} {v : Value} {zss : List (List Int)} (h : OwSS E1 E w lo hi v zss) {l k : Nat} (ho : Only l k w w') (hd : hi ≤ l ∨ k ≤ lo) : OwSS E1 E w' lo hi v zss := by
  obtain ⟨ao, n, c, us, rfl, h1⟩ := h
  exact ⟨ao, n, c, us, rfl, h1.only (innerS E1) ho hd⟩
theorem OwSS.mono {E1 E : Nat} {w : World} {lo hi lo' hi' : Nat} {v : Value} {zss : List (List Int)} (h : OwSS E1 E w lo hi v zss) (h1 : lo' ≤ lo) (h2 : hi ≤ hi') : OwSS E1 E w lo' hi' v zss := by
  obtain ⟨ao, n, c, us, rfl, ho⟩ := h
  exact ⟨ao, n, c, us, rfl, ho.mono h1 h2⟩
theorem RdSS.below {w w' : World} {v : Value} {zss : List (List Int)} (h : RdSS w v zss) (hb : Below w.heap.size w w') : RdSS w' v zss := by
  obtain ⟨ao, n, c, rfl, hi⟩ := h
  exact ⟨ao, n, c, rfl, hi.below hb⟩
theorem set_padL {α : Type} {pre : List α} {k n : Nat} {z : α} (hk : pre.length = k) (h : k < n) (x : α) : (pre ++ List.replicate (n - k) z).set k x = (pre ++ [x]) ++ List.replicate (n - (k + 1)) z := by
  rw [List.set_append_right _ _ (by omega), hk, Nat.sub_self, show n - k = (n - (k + 1)) + 1 by omega, List.replicate_succ]; simp

/-- v owns its integers in a block from lo to below hi -/
def OwnS (E : Nat) (w : World) (lo hi : Nat) (v : Value) (zs : List Int) : Prop := OwS E w v zs ∧ In lo hi v
theorem OwnS.rd {E : Nat} {w : World} {lo hi : Nat} {v : Value} {zs : List Int} (h : OwnS E w lo hi v zs) : RdS w v zs := h.1.rd
theorem OwnS.below {E : Nat} {w w' : World} {lo hi : Nat} {v : Value} {zs : List Int} (h : OwnS E w lo hi v zs) (hb : Below w.heap.size w w') : OwnS E w' lo hi v zs :=
  ⟨(innerS E).loc h.1 fun g hg => hb.block g ((innerS E).lt h.1 g hg), h.2⟩
theorem OwnS.only {E : Nat} {w w' : World} {lo hi : Nat} {v : Value} {zs : List Int} (h : OwnS E w lo hi v zs) {l k : Nat} (ho : Only l k w w') (hd : hi ≤ l ∨ k ≤ lo) : OwnS E w' lo hi v zs :=
  ⟨(innerS E).loc h.1 fun g hg => ho.block g ((innerS E).lt h.1 g hg) (by have := h.2 g hg; omega), h.2⟩
theorem OwnS.of {E : Nat} {w : World} {base : Nat} {ao : Option Addr} {n c : Nat} {zs : List Int} (h : Own w base E ao n c (zs.map (Value.int .i64))) : OwnS E w base w.heap.size (.slice ao n c) zs :=
  ⟨⟨ao, n, c, rfl, h.mono (Nat.zero_le _)⟩, in_slice h.lt⟩

/-- k, k + 1, .. : n numbers -/
def marks (k : Int) (n : Nat) : List Int := (List.range n).map fun j : Nat => k + (j : Int)
theorem length_marks (k : Int) (n : Nat) : (marks k n).length = n := by simp [marks]
theorem marks_succ (k : Int) (n : Nat) : marks k (n + 1) = marks k n ++ [k + n] := by simp [marks, List.range_succ]
theorem iget_marks (k : Int) (n j : Nat) (h : j < n) : iget (marks k n) j = k + j := by
  rw [iget_lt (by rw [length_marks]; exact h)]; simp [marks]
/-- what the laws' marks leave in lists of lists: k, k + 1, .. through all of them -/
def marksSS (k : Int) : List (List Int) → List (List Int)
  | [] => []
  | zs :: r => marks k zs.length :: marksSS (k + zs.length) r
def lenSS (zss : List (List Int)) : Nat := (zss.map List.length).sum
theorem lenSS_take {zss : List (List Int)} {k : Nat} (h : k < zss.length) : lenSS (zss.take (k + 1)) = lenSS (zss.take k) + (lget zss k).length := by
  unfold lenSS; rw [take_lget h, List.map_append, List.sum_append]; simp
theorem lenSS_take_le (zss : List (List Int)) (k : Nat) : lenSS (zss.take k) ≤ lenSS zss := by
  conv => rhs; rw [← List.take_append_drop k zss]
  unfold lenSS; rw [List.map_append, List.sum_append]; omega
theorem len_le_lenSS {zss : List (List Int)} {k : Nat} (h : k < zss.length) : (lget zss k).length ≤ lenSS zss := by
  have h1 := lenSS_take h
  have h2 := lenSS_take_le zss (k + 1)
  omega
theorem length_marksSS (k : Int) (zss : List (List Int)) : (marksSS k zss).length = zss.length := by
  induction zss generalizing k with
  | nil => rfl
  | cons z r ih => simp [marksSS, ih]
theorem lget_marksSS {k : Int} {zss : List (List Int)} {j : Nat} (h : j < zss.length) : lget (marksSS k zss) j = marks (k + lenSS (zss.take j)) (lget zss j).length := by
  induction zss generalizing k j with
  | nil => simp at h
  | cons z r ih =>
    cases j with
    | zero => simp [marksSS, lget, lenSS]
    | succ j =>
      have := ih (k := k + z.length) (j := j) (by simpa using h)
      simp only [marksSS, lget, List.getD_cons_succ, List.take_succ_cons] at this ⊢
      rw [this]
      congr 1
      simp [lenSS]; omega
theorem marksSS_take {k : Int} {zss : List (List Int)} {j : Nat} (h : j < zss.length) : (marksSS k zss).take (j + 1) = (marksSS k zss).take j ++ [marks (k + lenSS (zss.take j)) (lget zss j).length] := by
  rw [take_lget (by rw [length_marksSS]; exact h), lget_marksSS h]

/-- a struct of one slice of slices, as a value: the mirror and the program's maniplex alike -/
def RdM (w : World) (v : Value) (zss : List (List Int)) : Prop := ∃ ao n c, v = .agg #[.slice ao n c] ∧ Intss w ao n zss
def OwM (E1 E : Nat) (w : World) (lo hi : Nat) (v : Value) (zss : List (List Int)) : Prop := ∃ ao n c us, v = .agg #[.slice ao n c] ∧ OwR (OwS E1) w lo hi E ao n c us zss
theorem OwM.rd {E1 E : Nat} {w : World} {lo hi : Nat} {v : Value} {zss : List (List Int)} (h : OwM E1 E w lo hi v zss) : RdM w v zss := by
  obtain ⟨ao, n, c, us, rfl, ho⟩ := h
  exact ⟨ao, n, c, rfl, ho.intss⟩
theorem OwM.below {E1 E : Nat} {w w' : World} {lo hi : Nat} {v : Value} {zss : List (List Int)} (h : OwM E1 E w lo hi v zss) (hb : Below w.heap.size w w') : OwM E1 E w' lo hi v zss := by
  obtain ⟨ao, n, c, us, rfl, ho⟩ := h
  exact ⟨ao, n, c, us, rfl, ho.below (innerS E1) hb⟩
theorem OwM.only {E1 E : Nat} {w w' : World} {lo hi : Nat} {v : Value} {zss : List (List Int)} (h : OwM E1 E w lo hi v zss) {l k : Nat} (ho : Only l k w w') (hd : hi ≤ l ∨ k ≤ lo) : OwM E1 E w' lo hi v zss := by
  obtain ⟨ao, n, c, us, rfl, h1⟩ := h
  exact ⟨ao, n, c, us, rfl, h1.only (innerS E1) ho hd⟩
theorem OwM.mono {E1 E : Nat} {w : World} {lo hi lo' hi' : Nat} {v : Value} {zss : List (List Int)} (h : OwM E1 E w lo hi v zss) (h1 : lo' ≤ lo) (h2 : hi ≤ hi') : OwM E1 E w lo' hi' v zss := by
  obtain ⟨ao, n, c, us, rfl, ho⟩ := h
  exact ⟨ao, n, c, us, rfl, ho.mono h1 h2⟩
theorem RdM.below {w w' : World} {v : Value} {zss : List (List Int)} (h : RdM w v zss) (hb : Below w.heap.size w w') : RdM w' v zss := by
  obtain ⟨ao, n, c, rfl, hi⟩ := h
  exact ⟨ao, n, c, rfl, hi.below hb⟩

/-- a struct of an integer and a slice of slices, as a value: a presentation -/
abbrev PresD : Type := Int × List (List Int)
def RdP (w : World) (v : Value) (d : PresD) : Prop := ∃ ao n c, v = .agg #[.int .i64 d.1, .slice ao n c] ∧ Intss w ao n d.2
def OwP (E1 E : Nat) (w : World) (lo hi : Nat) (v : Value) (d : PresD) : Prop := ∃ ao n c us, v = .agg #[.int .i64 d.1, .slice ao n c] ∧ OwR (OwS E1) w lo hi E ao n c us d.2
theorem OwP.rd {E1 E : Nat} {w : World} {lo hi : Nat} {v : Value} {d : PresD} (h : OwP E1 E w lo hi v d) : RdP w v d := by
  obtain ⟨ao, n, c, us, rfl, ho⟩ := h
  exact ⟨ao, n, c, rfl, ho.intss⟩
theorem OwP.below {E1 E : Nat} {w w' : World} {lo hi : Nat} {v : Value} {d : PresD} (h : OwP E1 E w lo hi v d) (hb : Below w.heap.size w w') : OwP E1 E w' lo hi v d := by
  obtain ⟨ao, n, c, us, rfl, ho⟩ := h
  exact ⟨ao, n, c, us, rfl, ho.below (innerS E1) hb⟩
theorem OwP.only {E1 E : Nat} {w w' : World} {lo hi : Nat} {v : Value} {d : PresD} (h : OwP E1 E w lo hi v d) {l k : Nat} (ho : Only l k w w') (hd : hi ≤ l ∨ k ≤ lo) : OwP E1 E w' lo hi v d := by
  obtain ⟨ao, n, c, us, rfl, h1⟩ := h
  exact ⟨ao, n, c, us, rfl, h1.only (innerS E1) ho hd⟩
theorem RdP.below {w w' : World} {v : Value} {d : PresD} (h : RdP w v d) (hb : Below w.heap.size w w') : RdP w' v d := by
  obtain ⟨ao, n, c, rfl, hi⟩ := h
  exact ⟨ao, n, c, rfl, hi.below hb⟩

theorem below_tr {w W W' : World} (k : Below W.heap.size W W') (h : Below w.heap.size w W) : Below w.heap.size w W' := h.trans (k.mono h.size)
theorem below_drew1 (w : World) : Below w.heap.size w w.drew := (Below.refl _ _).drew
theorem OwM.form {E1 E : Nat} {w : World} {lo hi : Nat} {v : Value} {zss : List (List Int)} (h : OwM E1 E w lo hi v zss) : ∃ ao n c, v = .agg #[.slice ao n c] := by
  obtain ⟨ao, n, c, us, rfl, _⟩ := h
  exact ⟨ao, n, c, rfl⟩
theorem OwP.form {E1 E : Nat} {w : World} {lo hi : Nat} {v : Value} {d : PresD} (h : OwP E1 E w lo hi v d) : ∃ ao n c, v = .agg #[.int .i64 d.1, .slice ao n c] := by
  obtain ⟨ao, n, c, us, rfl, _⟩ := h
  exact ⟨ao, n, c, rfl⟩
theorem below_alloc1 (w : World) (o : Obj) : Below w.heap.size w (w.alloc o) := (Below.refl _ _).alloc (Nat.le_refl _) o
theorem below_alloc2 (w : World) (o o' : Obj) : Below w.heap.size w ((w.alloc o).alloc o') := (below_alloc1 w o).alloc (by simp) o'
theorem below_alloc3 (w : World) (o o' o'' : Obj) : Below w.heap.size w (((w.alloc o).alloc o').alloc o'') := (below_alloc2 w o o').alloc (by simp; omega) o''
/-- block g is just the cells cs of type t, none frozen -/
def Blk (w : World) (g : Nat) (t : TypeId) (cs : Array Value) : Prop := w.heap[g]? = some (.cells cs t (0, 0))
theorem Blk.lt {w : World} {g : Nat} {t : TypeId} {cs : Array Value} (h : Blk w g t cs) : g < w.heap.size := by
  rcases Nat.lt_or_ge g w.heap.size with hlt | hge
  · exact hlt
  · unfold Blk at h; rw [Array.getElem?_eq_none hge] at h; cases h
theorem Blk.cell {w : World} {g : Nat} {t : TypeId} {cs : Array Value} (h : Blk w g t cs) (i : Nat) : w.cell? ⟨g, i, none⟩ = cs[i]? := cell_of_row w g i cs t (0, 0) h
theorem Blk.frozen {w : World} {g : Nat} {t : TypeId} {cs : Array Value} (h : Blk w g t cs) (i : Nat) : w.frozen? ⟨g, i, none⟩ = false := by
  unfold Blk at h; simp [World.frozen?, h]
theorem Blk.new (w : World) (t : TypeId) (cs : Array Value) : Blk (w.alloc (.cells cs t)) w.heap.size t cs := heap_alloc_new w _
theorem blk_at {w : World} {t : TypeId} {cs : Array Value} {k : Nat} (h : w.heap.size = k) : Blk (w.alloc (.cells cs t)) k t cs := h ▸ Blk.new w t cs
theorem Blk.alloc {w : World} {g : Nat} {t : TypeId} {cs : Array Value} (h : Blk w g t cs) (o : Obj) : Blk (w.alloc o) g t cs := (Below.heap_alloc w o g h.lt).trans h
theorem Blk.set_ {w : World} {g : Nat} {t : TypeId} {cs : Array Value} (h : Blk w g t cs) (i : Nat) (u : Value) : Blk (w.setCell ⟨g, i, none⟩ u) g t (cs.setIfInBounds i u) := by
  unfold Blk at h ⊢
  simp [World.setCell, Array.getElem?_modify, h]
theorem Blk.far {w : World} {g : Nat} {t : TypeId} {cs : Array Value} (h : Blk w g t cs) {p : Addr} (hp : g ≠ p.block) (u : Value) : Blk (w.setCell p u) g t cs := (Below.heap_setCell w p u g hp).trans h
theorem Blk.below {w w' : World} {g : Nat} {t : TypeId} {cs : Array Value} {B : Nat} (h : Blk w g t cs) (hb : Below B w w') (hg : g < B) : Blk w' g t cs := (hb.block g hg).trans h
theorem Blk.belowS {w w' : World} {g : Nat} {t : TypeId} {cs : Array Value} (h : Blk w g t cs) (hb : Below w.heap.size w w') : Blk w' g t cs := h.below hb h.lt
theorem Blk.only {w w' : World} {g : Nat} {t : TypeId} {cs : Array Value} {lo hi : Nat} (h : Blk w g t cs) (ho : Only lo hi w w') (hg : g < lo ∨ hi ≤ g) : Blk w' g t cs := (ho.block g h.lt hg).trans h
theorem Blk.drewN {w : World} {g : Nat} {t : TypeId} {cs : Array Value} (h : Blk w g t cs) (m : Nat) : Blk (w.drewN m) g t cs := h
end Go.Proofs.Ytnfkhgamnapgmaa

/- Arguments of nested slices and structs opened to the words of Nest. -/
namespace Go.Proofs.Ytnfkhgamnapgmaa
open Go.ChangeShapes Go.WideShapes Go.ChangeAt Go.RowKit Go.Deep Go.Joins

section
variable {H : Type} {enc : TypeId × Value → H} {P : Program}
theorem weights_le {ts : List TypeId} {ds : List (DataW H)} (h : (DataW.weightsEach P ts ds).all (· ≤ reachBytes) = true) {j : Nat} {t : TypeId} {d : DataW H} (ht : ts[j]? = some t) (hd : ds[j]? = some d) : ∀ m ∈ d.weights P t, m ≤ reachBytes := by
  intro m hm
  have := List.all_eq_true.1 h _ (DataW.weights_mem_each ht hd m hm)
  simpa using this
theorem mem_weightsAll {e : TypeId} : ∀ {ds : List (DataW H)} {d : DataW H} {m : Nat}, d ∈ ds → m ∈ d.weights P e → m ∈ DataW.weightsAll P e ds
  | [], d, m, h, _ => by cases h
  | x :: r, d, m, h, hm => by
    rw [DataW.weightsAll, List.mem_append]
    rcases List.mem_cons.1 h with rfl | h
    · exact .inl hm
    · exact .inr (mem_weightsAll h hm)

/-- a slice of slices of integers, as it is read -/
theorem open_intss {W : World} {t e q : TypeId} {fuel : Nat} {cs : List Value} {x : DataW H × List MemPlace} (ht : P.underlying t = some (.slice e)) (he : P.underlying e = some (.slice q)) (hq : P.underlying q = some (.int .i64))
    (ce : P.cellsOf e = 1) (cq : P.cellsOf q = 1) (be : P.bytesOf e = 24) (bq : P.bytesOf q = 8) (h : DataW.trod enc P W 0 (fun _ => true) true fuel t cs = some x) (hw : ∀ m ∈ x.1.weights P t, m ≤ reachBytes) :
    ∃ ao n c zss, cs = [.slice ao n c] ∧ Intss W ao n zss := by
  rcases open_int_rows ht he hq ce cq h with ⟨rfl, rfl⟩ | ⟨a, len, cap, A, L, C, Z, rfl, _, hl, hm, rfl, hx⟩
  · exact ⟨_, _, _, [], rfl, Intss.nil_ _ _⟩
  · have hlen : (len + (cap - len)) * 24 ≤ reachBytes := by
      have := hw ((len + (cap - len)) * P.bytesOf e) (by simp [DataW.weights, ht])
      rwa [be] at this
    simp only [reachBytes] at hlen
    refine ⟨_, _, _, (List.range len).map (fun r => (Z r).take (L r)), rfl, ⟨by simp, by omega, fun hn => ?_⟩⟩
    obtain ⟨b, off, spot⟩ := a
    have hspot : spot = none := by simpa [Addr.add] using World.cell?_spot (hx 0 (by omega)).1
    subst hspot
    refine ⟨b, off, rfl, fun j hj => ?_⟩
    obtain ⟨h1, h2, h3, h4, _, h6, h7⟩ := hx j (by omega)
    rw [Addr.add_lit] at h1
    refine ⟨_, h1, ?_⟩
    have hz : lget ((List.range len).map (fun r => (Z r).take (L r))) j = (Z j).take (L j) := by simp [lget, hj]
    rw [hz]
    refine ⟨_, _, _, rfl, ?_⟩
    cases hA : A j with
    | none =>
      have := h6 hA
      have h0 : L j = 0 := by omega
      rw [h0]
      exact ⟨by simp, by omega, fun h => absurd h (by omega)⟩
    | some a' =>
      have hin : intRow .i64 (A j) (L j) (Z j) ∈ (List.range len).map fun r => intRow (H := H) .i64 (A r) (L r) (Z r) := List.mem_map.2 ⟨j, List.mem_range.2 hj, rfl⟩
      have hwj : ((Z j).length) * 8 ≤ reachBytes := by
        have hmem : ((lits (H := H) .i64 ((Z j).take (L j))).length + (lits (H := H) .i64 ((Z j).drop (L j))).length) * P.bytesOf q ∈ (intRow (H := H) .i64 (A j) (L j) (Z j)).weights P e := by
          rw [hA]; simp [intRow, DataW.weights, he]
        have := hw _ (by
          simp only [DataW.weights, ht]
          exact List.mem_cons_of_mem _ (List.mem_append_left _ (mem_weightsAll hin hmem)))
        rw [bq] at this
        simp only [lits, List.length_map, List.length_take, List.length_drop] at this
        simp only [reachBytes] at this ⊢
        omega
      simp only [reachBytes] at hwj
      refine ⟨by simp; omega, by omega, fun hn0 => ?_⟩
      obtain ⟨b', off', spot'⟩ := a'
      obtain ⟨_, hc⟩ := h7 _ hA
      have hspot : spot' = none := by simpa [Addr.add] using World.cell?_spot (hc 0 (by omega))
      subst hspot
      refine ⟨b', off', rfl, fun i hi => ?_⟩
      have := hc i (by omega)
      rw [Addr.add_lit] at this
      rw [this, iget]
      simp [hi]

/-- an argument of type [][]int64 -/
theorem openSS {W : World} {base : Nat} {t e q : TypeId} {v : Value} {d : DataW H} {p : List MemPlace} (ht : P.underlying t = some (.slice e)) (he : P.underlying e = some (.slice q)) (hq : P.underlying q = some (.int .i64))
    (ce : P.cellsOf e = 1) (cq : P.cellsOf q = 1) (be : P.bytesOf e = 24) (bq : P.bytesOf q = 8) (hv : Value.okWide P W .any base t v) (h : DataW.Trod enc P W 0 (fun _ => true) true t v d p) (hw : ∀ m ∈ d.weights P t, m ≤ reachBytes) :
    ∃ zss, RdSS W v zss := by
  obtain ⟨a0, len, cap, rfl⟩ := okWide_slice ht hv
  obtain ⟨fuel, hf⟩ := h
  obtain ⟨ao, n, c, zss, hcs, hi⟩ := open_intss ht he hq ce cq be bq hf hw
  simp [Value.cells] at hcs
  obtain ⟨rfl, rfl, rfl⟩ := hcs
  exact ⟨zss, _, _, _, rfl, hi⟩

/-- an argument that is a struct of an integer and a slice of slices -/
theorem openP {W : World} {base : Nat} {s t e q : TypeId} {f0 f1 : Field} {v : Value} {d : DataW H} {p : List MemPlace} (hs : P.underlying s = some (.struct #[f0, f1])) (hone : oneCellFields P #[f0, f1] = true) (hC : P.cellsOf s = 2)
    (hf0 : f0.type = q) (hf1 : f1.type = t) (ht : P.underlying t = some (.slice e)) (he : P.underlying e = some (.slice q)) (hq : P.underlying q = some (.int .i64))
    (ce : P.cellsOf e = 1) (cq : P.cellsOf q = 1) (be : P.bytesOf e = 24) (bq : P.bytesOf q = 8) (hv : Value.okWide P W .any base s v) (h : DataW.Trod enc P W 0 (fun _ => true) true s v d p) (hw : ∀ m ∈ d.weights P s, m ≤ reachBytes) :
    ∃ dd : PresD, RdP W v dd ∧ (Lit.int .i64 dd.1).wf = true := by
  obtain ⟨v0, v1, y0, y1, n, rfl, rfl, rfl, h0, h1⟩ := open_agg2 hs hone hC hv h
  rw [hf0] at h0
  rw [hf1] at h1
  obtain ⟨z, e0, _, hwf⟩ := DataW.trod_int hq h0
  obtain ⟨ao, n, c, zss, hcs, hi⟩ := open_intss ht he hq ce cq be bq h1 (by
    intro m hm
    refine hw m ?_
    simp only [DataW.weights, hs]
    refine DataW.weights_mem_each (j := 1) (t := t) (d := y1.1) ?_ rfl m hm
    simp [hf1])
  simp at e0 hcs
  subst e0 hcs
  exact ⟨(z, zss), ⟨ao, n, c, rfl, hi⟩, hwf⟩
end
end Go.Proofs.Ytnfkhgamnapgmaa

/- The laws' own helpers on []int64: the copy, the comparison, the marks. -/
namespace Go.Proofs.Ytnfkhgamnapgmaa
open Go.RowKit

theorem etI : ET Try.prog 22 2 (.int .i64 0) 8 := ⟨Try.underlying22, by kernel_rfl, rfl, by omega⟩

theorem get_pad {pre : List Int} {k n : Nat} (hk : pre.length = k) (h : k < n) : ((pre ++ List.replicate (n - k) 0).map (Value.int .i64))[k]? = some (.int .i64 0) := by
  rw [List.getElem?_map, List.getElem?_append_right (by omega), hk, Nat.sub_self, List.getElem?_replicate, if_pos (by omega)]; rfl
theorem set_pad {pre : List Int} {k n : Nat} (hk : pre.length = k) (h : k < n) (x : Int) : (pre ++ List.replicate (n - k) 0).set k x = (pre ++ [x]) ++ List.replicate (n - (k + 1)) 0 := by
  rw [List.set_append_right _ _ (by omega), hk, Nat.sub_self, show n - k = (n - (k + 1)) + 1 by omega, List.replicate_succ]; simp

set_option maxHeartbeats 400000 in
theorem toInts_any (ao : Option Addr) (n c : Nat) (zs : List Int) (w : World) (h : Ints w ao n zs) (hn : n ≤ 4398046511104) :
    Calls Try.prog 16 #[.slice ao n c] w fun e w' => ∃ ao' c', e = .returned (.slice ao' n c') ∧ Own w' w.heap.size 2 ao' n c' (zs.map (Value.int .i64)) ∧ Below w.heap.size w w' := by
  have hlen := h.1
  go_enter Try.func16, Try.ntmps16
  go_wp2_with (at_make; refine wpList_mk etI _ rfl _ _ rfl w.heap.size _ _ _ _ n rfl rfl rfl rfl hn (Nat.le_refl _) ?_; intro w1 hown hgrow hsz)
  have hb1 : Below w.heap.size w w1 := (Below.refl _ _).grown hgrow (Nat.le_refl _) (by simp)
  clear hgrow
  go_loopw [4] (fun i wr => ∃ k : Nat, k ≤ n ∧ i = .int .i64 k ∧ Own wr w.heap.size 2 (some ⟨w.heap.size, 0, none⟩) n n ((zs.take k ++ List.replicate (n - k) 0).map (Value.int .i64)) ∧ Below w.heap.size w wr) (fun i _ => n - (intOf i).toNat)
  case atStart => exact ⟨0, Nat.zero_le _, rfl, by simpa using hown, hb1⟩
  case round =>
    obtain ⟨k, hk, rfl, ho, hb⟩ := hrel
    clear hown hb1 hsz
    by_cases hlt : k < n
    · obtain ⟨b, off, rfl, hc⟩ := (h.below hb).at_ hlt
      obtain ⟨g, hg, _, hgl, _, hcell, hfr⟩ := ho.form (by omega)
      obtain rfl : g = w.heap.size := by injection hg with hg; injection hg with hg; exact hg.symm
      have hc2 : wr.cell? ⟨w.heap.size, k, none⟩ = some (.int .i64 0) := by
        rw [hcell k hlt]; exact get_pad (by simp; omega) hlt
      have hf := hfr k
      obtain ⟨st1, st2⟩ := ho.stored k (.int .i64 (iget zs k))
      have HS1 := Lib.hid st1
      have HS2 := Lib.hid st2
      clear st1 st2 hg hcell hfr
      go_wp2
      go_roundw
      case rel =>
        refine ⟨k + 1, by omega, by go_num, ?_, ?_⟩
        · have h1 := HS1.out
          rw [← List.map_set, set_pad (by simp; omega) hlt] at h1
          rw [take_iget (by omega)]
          exact h1
        · exact hb.grown HS2.out hb.size (by intro g hg; injection hg with hg; omega)
      case measure => simp [intOf]; omega
    · obtain rfl : k = n := by omega
      go_wp2
      go_ret
      exact ⟨_, _, rfl, by simpa [List.take_of_length_le (Nat.le_of_eq hlen)] using ho, hb⟩

set_option maxHeartbeats 400000 in
theorem eqInts_any (a b : Option Addr) (na nb ca cb : Nat) (za zb : List Int) (w : World) (ha : Ints w a na za) (hb : Ints w b nb zb) :
    Calls Try.prog 19 #[.slice a na ca, .slice b nb cb] w fun e w' => e = .returned (.bool (decide (za = zb))) ∧ ∃ m, w' = w.drewN m := by
  have hla := ha.2.1
  have hlb := hb.2.1
  by_cases hl : na = nb
  · subst hl
    have hl' : ((na : Int) != (na:Int)) = false := by simp
    go_enter Try.func19, Try.ntmps19
    go_wp2
    go_loopw [5] (fun i wr => ∃ k : Nat, k ≤ na ∧ i = .int .i64 k ∧ za.take k = zb.take k ∧ ∃ m, wr = w.drewN m) (fun i _ => na - (intOf i).toNat)
    case atStart => exact ⟨0, Nat.zero_le _, rfl, rfl, 0, rfl⟩
    case round =>
      obtain ⟨k, hk, rfl, hpre, m, rfl⟩ := hrel
      have HP := Lib.hid hpre
      clear hpre
      by_cases hlt : k < na
      · obtain ⟨ba, oa, rfl, hca⟩ := ha.at_ hlt
        obtain ⟨bb, ob, rfl, hcb⟩ := hb.at_ hlt
        have h1 := ha.1
        have h2 := hb.1
        have H1 := Lib.hid h1
        have H2 := Lib.hid h2
        clear h1 h2
        by_cases he : iget za k = iget zb k
        · have he' : (iget za k != iget zb k) = false := by simp [he]
          have HE := Lib.hid he
          clear he
          go_wp2_with fail
          go_quiet (fail)
          go_wp2
          go_roundw
          case rel => exact ⟨k + 1, by omega, by go_num, by rw [take_iget (by rw [H1.out]; omega), take_iget (by rw [H2.out]; omega), HP.out, HE.out], _, rfl⟩
          case measure => simp [intOf]; omega
        · have he' : (iget za k != iget zb k) = true := by simp [he]
          have HE := Lib.hid he
          clear he
          go_wp2_with fail
          go_quiet (fail)
          go_wp2
          go_ret
          exact ⟨ret_bool (by symm; rw [decide_eq_false_iff_not]; intro e; exact HE.out (by rw [e])), _, World.drewN_drewN _ _ _⟩
      · obtain rfl : k = na := by omega
        have h1 := ha.1
        have h2 := hb.1
        have hab : za = zb := by have := HP.out; rwa [List.take_of_length_le (by omega), List.take_of_length_le (by omega)] at this
        have HA := Lib.hid hab
        clear h1 h2 hab
        go_wp2
        go_ret
        exact ⟨ret_bool (by symm; simpa using HA.out), _, rfl⟩
  · have hl' : ((na : Int) != (nb:Int)) = true := by simp; omega
    go_enter Try.func19, Try.ntmps19
    go_wp2
    go_ret
    refine ⟨ret_bool ?_, 0, rfl⟩
    symm
    rw [decide_eq_false_iff_not]
    intro e
    exact hl (by rw [← ha.1, ← hb.1, e])

set_option maxHeartbeats 400000 in
theorem markInts_any (ao : Option Addr) (n c : Nat) (zs : List Int) (k0 : Int) (w : World) (base : Nat) (h : Own w base 2 ao n c (zs.map (Value.int .i64))) (hk0 : 0 ≤ k0) (hk1 : k0 ≤ 1125899906842624) :
    Calls Try.prog 20 #[.slice ao n c, .int .i64 k0] w fun e w' => e = .returned (.int .i64 (k0 + n)) ∧ Own w' base 2 ao n c ((marks k0 n).map (Value.int .i64)) ∧ w.grownBy w' (bk ao) ∧ w'.heap.size = w.heap.size := by
  have hn := h.2
  have hlen : zs.length = n := by have := h.len; simpa using this
  go_enter Try.func20, Try.ntmps20
  go_wp2
  go_loopw [1, 5] (fun m i wr => ∃ k : Nat, k ≤ n ∧ i = .int .i64 k ∧ m = .int .i64 (k0 + k) ∧ Own wr base 2 ao n c ((marks k0 k ++ zs.drop k).map (Value.int .i64)) ∧ w.grownBy wr (bk ao) ∧ wr.heap.size = w.heap.size) (fun _ i _ => n - (intOf i).toNat)
  case atStart => exact ⟨0, Nat.zero_le _, rfl, by simp, by simpa [marks] using h, World.grownBy.refl _ _, rfl⟩
  case round =>
    obtain ⟨k, hk, rfl, rfl, ho, hg, hsz⟩ := hrel
    have HSZ := Lib.hid hsz
    clear hsz
    by_cases hlt : k < n
    · obtain ⟨g, rfl, _, hgl, _, hcell, hfr⟩ := ho.form (by omega)
      have hc2 : wr.cell? ⟨g, k, none⟩ = some (.int .i64 (iget zs k)) := by
        rw [hcell k hlt, List.getElem?_map, List.getElem?_append_right (by simp [length_marks])]
        simp [length_marks, iget, hlen, hlt]
      have hf := hfr k
      obtain ⟨st1, st2⟩ := ho.stored k (.int .i64 (k0 + k))
      have HS1 := Lib.hid st1
      have HS2 := Lib.hid st2
      have HL := Lib.hid hlen
      clear st1 st2 hcell hfr hlen
      go_wp2
      go_roundw
      case rel =>
        refine ⟨k + 1, by omega, by go_num, by congr 1; omega, ?_, grown_tr hg HS2.out, by have := HSZ.out; simpa [World.setCell] using this⟩
        have h1 := HS1.out
        rw [← List.map_set, List.set_append_right _ _ (by simp [length_marks])] at h1
        have e : (zs.drop k).set (k - (marks k0 k).length) (k0 + k) = (k0 + k) :: zs.drop (k + 1) := by
          rw [length_marks, Nat.sub_self, List.drop_eq_getElem_cons (by rw [HL.out]; omega)]; rfl
        rw [e] at h1
        rw [marks_succ, List.append_assoc]
        exact h1
      case measure => simp [intOf]; omega
    · obtain rfl : k = n := by omega
      have HL := Lib.hid hlen
      clear hlen
      go_wp2
      go_ret
      exact ⟨rfl, by simpa [List.drop_of_length_le (Nat.le_of_eq HL.out)] using ho, hg, HSZ.out⟩

set_option maxHeartbeats 400000 in
theorem heldInts_any (ao : Option Addr) (n c : Nat) (k0 : Int) (w : World) (h : Ints w ao n (marks k0 n)) (hk0 : 0 ≤ k0) (hk1 : k0 ≤ 1125899906842624) :
    Calls Try.prog 25 #[.slice ao n c, .int .i64 k0] w fun e w' => e = .returned (.int .i64 (k0 + n)) ∧ w' = w := by
  have hn := h.2.1
  go_enter Try.func25, Try.ntmps25
  go_wp2
  go_loop [1, 5] (fun m i => ∃ k : Nat, k ≤ n ∧ i = .int .i64 k ∧ m = .int .i64 (k0 + k)) (fun _ i => n - (intOf i).toNat)
  case atStart => exact ⟨0, Nat.zero_le _, rfl, by simp⟩
  case round =>
    obtain ⟨k, hk, rfl, rfl⟩ := hrel
    by_cases hlt : k < n
    · obtain ⟨b, off, rfl, hc⟩ := h.at_ hlt
      rw [iget_marks _ _ _ hlt] at hc
      have he : ((k0 + k : Int) != (k0 + k : Int)) = false := by simp
      go_wp2
      go_round
      case rel => exact ⟨k + 1, by omega, by go_num, by congr 1; omega⟩
      case measure => simp [intOf]; omega
    · obtain rfl : k = n := by omega
      go_wp2
      go_ret
      exact ⟨rfl, rfl⟩
end Go.Proofs.Ytnfkhgamnapgmaa

/- The laws' helpers on []int64 in the words of Nest. -/
namespace Go.Proofs.Ytnfkhgamnapgmaa
open Go.RowKit

end Go.Proofs.Ytnfkhgamnapgmaa

/- The laws' helpers on [][]int64. -/
namespace Go.Proofs.Ytnfkhgamnapgmaa
open Go.RowKit

theorem etSS : ET Try.prog 23 22 (.slice none 0 0) 24 := ⟨Try.underlying23, by kernel_rfl, rfl, by omega⟩

set_option maxHeartbeats 800000 in
theorem toIntss_any (ao : Option Addr) (n c : Nat) (zss : List (List Int)) (w : World) (h : Intss w ao n zss) (hn : n ≤ 1048576) (hle : lenSS zss ≤ 1048576) :
    Calls Try.prog 48 #[.slice ao n c] w fun e w' => ∃ ao' c' us, e = .returned (.slice ao' n c') ∧ OwR (OwS 2) w' w.heap.size w'.heap.size 22 ao' n c' us zss ∧ Below w.heap.size w w' := by
  have hl := h.1
  have HL := Lib.hid hl
  clear hl
  go_enter Try.func48, Try.ntmps48
  go_wp2_with (at_make; refine wpList_mk etSS _ rfl _ _ rfl w.heap.size _ _ _ _ n rfl rfl rfl rfl (by omega) (Nat.le_refl _) ?_; intro w1 hown hgrow hsz)
  have hb1 : Below w.heap.size w w1 := (Below.refl _ _).grown hgrow (Nat.le_refl _) (by simp)
  clear hgrow
  go_loopw [4] (fun i wr => ∃ (k : Nat) (us : List Value), k ≤ n ∧ i = .int .i64 k ∧ OwR (OwS 2) wr w.heap.size wr.heap.size 22 (some ⟨w.heap.size, 0, none⟩) n n us (zss.take k ++ List.replicate (n - k) []) ∧ Below w.heap.size w wr) (fun i _ => n - (intOf i).toNat)
  case atStart =>
    refine ⟨0, List.replicate n (.slice none 0 0), Nat.zero_le _, rfl, ?_, hb1⟩
    have := OwR.blank (Ow1 := OwS 2) (dz := ([] : List Int)) (hi := w1.heap.size) rfl hown ⟨none, 0, 0, rfl, Own.nil_ _ _ _⟩ (fun g hg => (hown.lt g hg).2)
    simpa using this
  case round =>
    obtain ⟨k, us, hk, rfl, ho, hb⟩ := hrel
    clear hown hb1 hsz
    by_cases hlt : k < n
    · obtain ⟨b, off, a', n', c', rfl, hc, hin⟩ := (h.below hb).at_ hlt
      obtain ⟨u, d, hu, hd, hou, hru⟩ := ho.get hlt
      have hn' : n' ≤ 1048576 := by have := hin.1; have := len_le_lenSS (zss := zss) (k := k) (by rw [HL.out]; exact hlt); omega
      go_wp2_with fail
      refine (toInts_any a' n' c' _ wr hin (by omega)).mono ?_
      rintro e w2 ⟨a2, c2, rfl, o2, b2⟩
      have o3 := ho.below (innerS _) b2
      have hc2 := o3.cell hu
      have hf2 := o3.own.1.frozenAt k
      have HP := ho.put (innerS _) (w' := w2) (u' := .slice a2 n' c2) (d' := lget zss k) hu (grown_of_below b2 _) ⟨a2, n', c2, rfl, o2.mono (Nat.zero_le _)⟩
        (by
          cases hbk : bk a2 with
          | none => exact .inl (by rw [ownBlock_slice]; exact hbk)
          | some g => exact .inr (.inr ⟨g, by rw [ownBlock_slice]; exact hbk, (o2.lt g hbk).1⟩)) (Nat.le_refl _) hb.size
      have HP2 := Lib.hid HP
      have HB2 : Below w.heap.size w (w2.setCell ⟨w.heap.size, k, none⟩ (.slice a2 n' c2)) := (hb.trans (b2.mono hb.size)).setCell (Nat.le_refl _) _
      have HB := Lib.hid HB2
      have hsz2 : (w2.setCell ⟨w.heap.size, k, none⟩ (.slice a2 n' c2)).heap.size = w2.heap.size := by simp [World.setCell]
      have HZ := Lib.hid hsz2
      clear HP HB2 hsz2 hu hd hou hru o3 o2 ho
      go_wp2
      go_roundw
      case rel =>
        refine ⟨k + 1, us.set k (.slice a2 n' c2), by omega, by go_num, ?_, HB.out⟩
        rw [HZ.out, take_lget (by rw [HL.out]; exact hlt), ← set_padL (by simp [HL.out]; omega) hlt]
        exact HP2.out
      case measure => simp [intOf]; omega
    · obtain rfl : k = n := by omega
      go_wp2
      go_ret
      refine ⟨_, _, us, rfl, ?_, hb⟩
      simpa [List.take_of_length_le (Nat.le_of_eq HL.out)] using ho

theorem law_toSS {v : Value} {zss : List (List Int)} (w : World) (h : RdSS w v zss) (hn : zss.length + lenSS zss ≤ 1048576) :
    Calls Try.prog 48 #[v] w fun e w' => ∃ v', e = .returned v' ∧ OwSS 2 22 w' w.heap.size w'.heap.size v' zss ∧ Below w.heap.size w w' := by
  obtain ⟨ao, n, c, rfl, hi⟩ := h
  have hl := hi.1
  refine (toIntss_any ao n c zss w hi (by omega) (by omega)).mono ?_
  rintro e w' ⟨a', c', us, rfl, ho, hb⟩
  exact ⟨_, rfl, ⟨a', n, c', us, rfl, ho⟩, hb⟩

set_option maxHeartbeats 400000 in
theorem law_eqSS {v v' : Value} {zss : List (List Int)} (w : World) (h : RdSS w v zss) (h' : RdSS w v' zss) :
    Calls Try.prog 50 #[v, v'] w fun e w' => e = .returned (.bool true) ∧ Below w.heap.size w w' := by
  obtain ⟨ao, n, c, rfl, hi⟩ := h
  obtain ⟨ao', n', c', rfl, hi'⟩ := h'
  obtain rfl : n = n' := by rw [← hi.1, ← hi'.1]
  have hbd := hi.2.1
  have hl' : ((n : Int) != (n:Int)) = false := by simp
  go_enter Try.func50, Try.ntmps50
  go_wp2
  go_loopw [5] (fun i wr => ∃ k : Nat, k ≤ n ∧ i = .int .i64 k ∧ Below w.heap.size w wr) (fun i _ => n - (intOf i).toNat)
  case atStart => exact ⟨0, Nat.zero_le _, rfl, Below.refl _ _⟩
  case round =>
    obtain ⟨k, hk, rfl, hb⟩ := hrel
    by_cases hlt : k < n
    · obtain ⟨b1, o1, a1, n1, c1, rfl, hc1, hin1⟩ := (hi.below hb).at_ hlt
      obtain ⟨b2, o2, a2, n2, c2, rfl, hc2, hin2⟩ := (hi'.below hb).at_ hlt
      have HH := Lib.hid hi
      have HH' := Lib.hid hi'
      clear hi hi'
      go_wp2_with fail
      go_quiet ((go_at_call 19; exact Calls.quiet_of (eqInts_any a1 a2 n1 n2 c1 c2 (lget zss k) (lget zss k) _ (hin1.drewN _) (hin2.drewN _))))
      go_wp2
      go_roundw
      case rel => exact ⟨k + 1, by omega, by go_num, below_drewN hb _⟩
      case measure => simp [intOf]; omega
    · obtain rfl : k = n := by omega
      go_wp2
      go_ret
      exact ⟨rfl, hb⟩

set_option maxHeartbeats 800000 in
theorem law_markSS {v : Value} {zss : List (List Int)} {lo hi : Nat} (k0 : Int) (w : World) (h : OwSS 2 22 w lo hi v zss) (hk0 : 0 ≤ k0) (hk1 : k0 + lenSS zss ≤ 1125899906842624) :
    Calls Try.prog 51 #[v, .int .i64 k0] w fun e w' => e = .returned (.int .i64 (k0 + lenSS zss)) ∧ OwSS 2 22 w' lo hi v (marksSS k0 zss) ∧ Only lo hi w w' := by
  obtain ⟨ao, n, c, us, rfl, ho⟩ := h
  have hl := ho.len
  have hn := ho.own.2
  have HL := Lib.hid hl
  clear hl
  go_enter Try.func51, Try.ntmps51
  go_wp2
  go_loopw [1, 5] (fun m i wr => ∃ k : Nat, k ≤ n ∧ i = .int .i64 k ∧ m = .int .i64 (k0 + lenSS (zss.take k)) ∧ OwR (OwS 2) wr lo hi 22 ao n c us ((marksSS k0 zss).take k ++ zss.drop k) ∧ Only lo hi w wr) (fun _ i _ => n - (intOf i).toNat)
  case atStart => exact ⟨0, Nat.zero_le _, rfl, by simp [lenSS], by simpa using ho, Only.refl _ _ _⟩
  case round =>
    obtain ⟨k, hk, rfl, rfl, h1, hon⟩ := hrel
    have hle := lenSS_take_le zss k
    by_cases hlt : k < n
    · have hkz : k < zss.length := by rw [HL.out]; exact hlt
      have HK := Lib.hid hkz
      obtain ⟨u, d, hu, hd, hou, hru⟩ := h1.get hlt
      have hdz : d = lget zss k := by
        rw [List.getElem?_append_right (by simp [length_marksSS]; omega)] at hd
        rw [show k - ((marksSS k0 zss).take k).length = 0 by simp [length_marksSS]; omega, drop_lget hkz] at hd
        simpa using hd.symm
      subst hdz
      obtain ⟨a', n', c', rfl, ho'⟩ := hou
      obtain ⟨g, rfl, -, -, -, -, -⟩ := ho.own.form (by omega)
      have hc := h1.cell hu
      have hsum := lenSS_take hkz
      have hle2 := lenSS_take_le zss (k + 1)
      have HS := Lib.hid hsum
      have HD := Lib.hid hd
      have HU := Lib.hid hu
      have HR := Lib.hid hru
      have hk2 : k0 + (lenSS (zss.take k) : Int) ≤ 1125899906842624 := by omega
      have hk3 : 0 ≤ k0 + (lenSS (zss.take k) : Int) := by omega
      clear hsum hle2 hd hu hru hkz
      go_wp2_with fail
      refine (markInts_any a' n' c' (lget zss k) _ wr 0 ho' hk3 hk2).mono ?_
      rintro e w2 ⟨rfl, o2, g2, z2⟩
      have hn' : (lget zss k).length = n' := by have := ho'.len; simpa using this
      have HN := Lib.hid hn'
      have hup := h1.upd (innerS _) (d' := marks (k0 + lenSS (zss.take k)) n') HU.out (by rw [ownBlock_slice]; exact g2) ⟨a', n', c', rfl, o2⟩
      have HP := Lib.hid hup
      have hon2 : Only lo hi w w2 := hon.trans (Only.of_grown g2 (fun g hg => HR.out g (by rw [ownBlock_slice]; exact hg)))
      clear hup hn' h1 o2 g2 z2 ho'
      go_wp2
      go_roundw
      case rel =>
        refine ⟨k + 1, by omega, by go_num, ?_, ?_, hon2⟩
        · congr 1
          rw [HS.out, HN.out]; omega
        · have := HP.out
          rw [List.set_append_right _ _ (by simp [length_marksSS]; omega), show k - ((marksSS k0 zss).take k).length = 0 by simp [length_marksSS, HL.out]; omega, drop_lget HK.out] at this
          rw [marksSS_take HK.out, HN.out, List.append_assoc]
          exact this
      case measure => simp [intOf]; omega
    · obtain rfl : k = n := by omega
      go_wp2
      go_ret
      refine ⟨ret_int (by rw [List.take_of_length_le (Nat.le_of_eq HL.out)]), ⟨_, _, _, us, rfl, ?_⟩, hon⟩
      simpa [List.take_of_length_le, List.drop_of_length_le, length_marksSS, HL.out] using h1

set_option maxHeartbeats 800000 in
theorem law_heldSS {v : Value} {zss : List (List Int)} (k0 : Int) (w : World) (h : RdSS w v (marksSS k0 zss)) (hk0 : 0 ≤ k0) (hk1 : k0 + lenSS zss ≤ 1125899906842624) :
    Calls Try.prog 70 #[v, .int .i64 k0] w fun e w' => e = .returned (.int .i64 (k0 + lenSS zss)) ∧ Below w.heap.size w w' := by
  obtain ⟨ao, n, c, rfl, hi⟩ := h
  have hbd := hi.2.1
  have hl : zss.length = n := by rw [← hi.1, length_marksSS]
  have HL := Lib.hid hl
  clear hl
  go_enter Try.func70, Try.ntmps70
  go_wp2
  go_loopw [1, 5] (fun m i wr => ∃ k : Nat, k ≤ n ∧ i = .int .i64 k ∧ m = .int .i64 (k0 + lenSS (zss.take k)) ∧ Below w.heap.size w wr) (fun _ i _ => n - (intOf i).toNat)
  case atStart => exact ⟨0, Nat.zero_le _, rfl, by simp [lenSS], Below.refl _ _⟩
  case round =>
    obtain ⟨k, hk, rfl, rfl, hb⟩ := hrel
    have hle := lenSS_take_le zss k
    by_cases hlt : k < n
    · obtain ⟨b1, o1, a1, n1, c1, rfl, hc1, hin1⟩ := (hi.below hb).at_ hlt
      have hkz : k < zss.length := by rw [HL.out]; exact hlt
      rw [lget_marksSS hkz] at hin1
      have hn1 : (lget zss k).length = n1 := by have := hin1.1; rwa [length_marks] at this
      have hsum := lenSS_take hkz
      have hle2 := lenSS_take_le zss (k + 1)
      rw [hn1] at hin1 hsum
      have HS := Lib.hid hsum
      have HH := Lib.hid hi
      have hk2 : k0 + (lenSS (zss.take k) : Int) ≤ 1125899906842624 := by omega
      have hk3 : 0 ≤ k0 + (lenSS (zss.take k) : Int) := by omega
      have hk4 : 0 ≤ k0 + (lenSS (zss.take k) : Int) + n1 := by omega
      clear hsum hle2 hkz hn1 hi
      go_wp2_with fail
      refine (heldInts_any a1 n1 c1 _ wr hin1 hk3 hk2).mono ?_
      rintro e w2 ⟨rfl, rfl⟩
      go_wp2
      go_roundw
      case rel => exact ⟨k + 1, by omega, by go_num, by congr 1; rw [HS.out]; omega, hb⟩
      case measure => simp [intOf]; omega
    · obtain rfl : k = n := by omega
      go_wp2
      go_ret
      exact ⟨ret_int (by rw [List.take_of_length_le (Nat.le_of_eq HL.out)]), hb⟩

/-- what is left of a budget behind n, -1 if it does not reach -/
def budget1 (left : Int) (n : Nat) : Int := if (n : Int) ≤ left then left - n else -1
theorem budget1_yes {left : Int} {n : Nat} (h : (n : Int) ≤ left) : budget1 left n = left - n := if_pos h
theorem budget1_no {left : Int} {n : Nat} (h : ¬ (n : Int) ≤ left) : budget1 left n = -1 := if_neg h

set_option maxHeartbeats 400000 in
theorem law_szS (ao : Option Addr) (n c : Nat) (zs : List Int) (left : Int) (w : World) (h : Ints w ao n zs) (h0 : 0 ≤ left) (h1 : left ≤ 1048576) :
    Calls Try.prog 106 #[.slice ao n c, .int .i64 left] w fun e w' => e = .returned (.int .i64 (budget1 left zs.length)) ∧ w' = w := by
  have hl := h.1
  have hn := h.2.1
  have HL := Lib.hid hl
  clear hl
  by_cases hle : (n : Int) ≤ left
  · have h3 : 0 ≤ left - n := by omega
    go_enter Try.func106, Try.ntmps106
    go_wp2
    go_ret
    exact ⟨ret_int (by rw [HL.out, budget1_yes hle]), rfl⟩
  · have h3 : left - n < 0 := by omega
    go_enter Try.func106, Try.ntmps106
    go_wp2
    go_ret
    exact ⟨ret_int (by rw [HL.out, budget1_no (by omega)]), rfl⟩

/-- what is left of a budget behind lists of lists, -1 if it does not reach -/
def budget (left : Int) (zss : List (List Int)) : Int := if (zss.length : Int) + lenSS zss ≤ left then left - zss.length - lenSS zss else -1

set_option maxHeartbeats 800000 in
theorem law_szSS {v : Value} {zss : List (List Int)} (left : Int) (w : World) (h : RdSS w v zss) (h0 : 0 ≤ left) (h1 : left ≤ 1048576) :
    Calls Try.prog 46 #[v, .int .i64 left] w fun e w' => e = .returned (.int .i64 (budget left zss)) ∧ w' = w := by
  obtain ⟨ao, n, c, rfl, hi⟩ := h
  have hbd := hi.2.1
  have hl := hi.1
  have HL := Lib.hid hl
  clear hl
  by_cases hle : (n : Int) ≤ left
  · have h3 : 0 ≤ left - n := by omega
    go_enter Try.func46, Try.ntmps46
    go_wp2
    go_loop [1, 5] (fun m i => ∃ (k : Nat) (l : Int), k ≤ n ∧ i = .int .i64 k ∧ m = .int .i64 l ∧ l = left - n - lenSS (zss.take k) ∧ 0 ≤ l ∧ l ≤ 1048576) (fun _ i => n - (intOf i).toNat)
    case atStart => exact ⟨0, _, Nat.zero_le _, rfl, rfl, by simp [lenSS], by omega, by omega⟩
    case round =>
      obtain ⟨k, l, hk, rfl, rfl, hl, hl0, hl1⟩ := hrel
      have HLL := Lib.hid hl
      clear hl
      by_cases hlt : k < n
      · obtain ⟨b1, o1, a1, n1, c1, rfl, hc1, hin1⟩ := hi.at_ hlt
        have hkz : k < zss.length := by rw [HL.out]; exact hlt
        have hsum := lenSS_take hkz
        have hle2 := lenSS_take_le zss (k + 1)
        have hn1 := hin1.1
        rw [hn1] at hsum
        have HS := Lib.hid hsum
        have HN := Lib.hid hn1
        have HH := Lib.hid hi
        clear hsum hn1 hkz hi
        by_cases hle1 : (n1 : Int) ≤ l
        · have h5 : 0 ≤ l - n1 := by omega
          go_wp2_with (go_at_call 106; refine (law_szS a1 n1 c1 (lget zss k) l w hin1 hl0 hl1).mono ?_; rintro e w2 ⟨rfl, rfl⟩; rw [HN.out, budget1_yes hle1])
          go_round
          case rel => exact ⟨k + 1, l - n1, by omega, by go_num, rfl, by rw [HS.out, HLL.out]; omega, by omega, by omega⟩
          case measure => simp [intOf]; omega
        · go_wp2_with (go_at_call 106; refine (law_szS a1 n1 c1 (lget zss k) l w hin1 hl0 hl1).mono ?_; rintro e w2 ⟨rfl, rfl⟩; rw [HN.out, budget1_no (by omega)])
          go_ret
          refine ⟨ret_int ?_, rfl⟩
          have e1 := HS.out
          have e2 := HLL.out
          unfold budget
          rw [if_neg (by rw [HL.out]; omega)]
      · obtain rfl : k = n := by omega
        go_wp2
        go_ret
        refine ⟨ret_int ?_, rfl⟩
        have e2 := HLL.out
        rw [List.take_of_length_le (Nat.le_of_eq HL.out)] at e2
        unfold budget
        rw [if_pos (by rw [HL.out]; omega), HL.out, e2]
  · have h3 : left - n < 0 := by omega
    go_enter Try.func46, Try.ntmps46
    go_wp2
    go_ret
    exact ⟨ret_int (by unfold budget; rw [if_neg (by rw [HL.out]; omega)]), rfl⟩

theorem budget_is (left : Int) (zss : List (List Int)) : budget left zss = budget1 left (zss.length + lenSS zss) := by
  unfold budget budget1
  by_cases h : (zss.length : Int) + lenSS zss ≤ left
  · rw [if_pos h, if_pos (by omega)]; omega
  · rw [if_neg h, if_neg (by omega)]
theorem budget1_at {left : Int} {n : Nat} (h : ¬ budget1 left n < 0) : (n : Int) ≤ left ∧ budget1 left n = left - n := by
  unfold budget1 at h ⊢
  by_cases hx : (n : Int) ≤ left
  · exact ⟨hx, if_pos hx⟩
  · rw [if_neg hx] at h; omega

theorem law_usSS {v : Value} {zss : List (List Int)} (left : Int) (w : World) (h : RdSS w v zss) (h0 : 0 ≤ left) (h1 : left ≤ 1048576) :
    Calls Try.prog 46 #[v, .int .i64 left] w fun e w' => e = .returned (.int .i64 (budget1 left (zss.length + lenSS zss))) ∧ Below w.heap.size w w' := by
  refine (law_szSS left w h h0 h1).mono ?_
  rintro e w' ⟨rfl, rfl⟩
  exact ⟨ret_int (budget_is _ _), Below.refl _ _⟩
end Go.Proofs.Ytnfkhgamnapgmaa

/- The laws' helpers on presentations: the copy, the size, the comparison. -/
namespace Go.Proofs.Ytnfkhgamnapgmaa
open Go.RowKit

set_option maxHeartbeats 400000 in
theorem law_toP {v : Value} {d : PresD} (w : World) (h : RdP w v d) (hn : d.2.length + lenSS d.2 ≤ 1048576) :
    Calls Try.prog 60 #[v] w fun e w' => ∃ v', e = .returned v' ∧ OwP 2 22 w' w.heap.size w'.heap.size v' d ∧ Below w.heap.size w w' := by
  obtain ⟨ao, n, c, rfl, hi⟩ := h
  go_enter Try.func60, Try.ntmps60
  go_wp2_with fail
  have hb := below_alloc3 w (.cells #[.int .i64 d.1, .slice ao n c] 73) (.cells #[.int .i64 0, .slice none 0 0] 75) (.cells #[.int .i64 d.1, .slice none 0 0] 75)
  have k0 : Blk (((w.alloc (.cells #[.int .i64 d.1, .slice ao n c] 73)).alloc (.cells #[.int .i64 0, .slice none 0 0] 75)).alloc (.cells #[.int .i64 d.1, .slice none 0 0] 75)) (w.heap.size + 1) 75 #[.int .i64 0, .slice none 0 0] := (blk_at (by simp)).alloc _
  have k1 : Blk (((w.alloc (.cells #[.int .i64 d.1, .slice ao n c] 73)).alloc (.cells #[.int .i64 0, .slice none 0 0] 75)).alloc (.cells #[.int .i64 d.1, .slice none 0 0] 75)) (w.heap.size + 1 + 1) 75 #[.int .i64 d.1, .slice none 0 0] := blk_at (by simp)
  have hz : (((w.alloc (.cells #[.int .i64 d.1, .slice ao n c] 73)).alloc (.cells #[.int .i64 0, .slice none 0 0] 75)).alloc (.cells #[.int .i64 d.1, .slice none 0 0] 75)).heap.size = w.heap.size + 1 + 1 + 1 := by simp
  refine (law_toSS _ ⟨ao, n, c, rfl, hi.below hb⟩ hn).mono ?_
  generalize (((w.alloc (.cells #[.int .i64 d.1, .slice ao n c] 73)).alloc (.cells #[.int .i64 0, .slice none 0 0] 75)).alloc (.cells #[.int .i64 d.1, .slice none 0 0] 75)) = W at *
  rintro e w1 ⟨u1, rfl, ⟨a2, n2, c2, us, rfl, o1⟩, b1⟩
  have k2 := k0.belowS b1
  have k3 := k1.belowS b1
  have c0 := k2.cell 0
  have c1 := k2.cell 1
  have c3 := k3.cell 0
  have c4 := k3.cell 1
  have f0 := k2.frozen 0
  have f1 := k2.frozen 1
  have f3 := k3.frozen 1
  have hs1 := b1.size
  have HZ := Lib.hid hz
  clear hz
  simp at c0 c1 c3 c4
  go_wp2
  have kf := (((k2.far (p := ⟨w.heap.size + 1 + 1, 1, none⟩) (by simp) (.slice a2 n2 c2)).set_ 0 (.int .i64 d.1)).set_ 1 (.slice a2 n2 c2))
  have bf : Below W.heap.size w1 w1 := Below.refl _ _
  have of := (o1.below (innerS _) (Below.refl _ _)).same (innerS _) (w' := ((w1.setCell ⟨w.heap.size + 1 + 1, 1, none⟩ (.slice a2 n2 c2)).setCell ⟨w.heap.size + 1, 0, none⟩ (.int .i64 d.1)).setCell ⟨w.heap.size + 1, 1, none⟩ (.slice a2 n2 c2))
    (fun g h1 _ _ => by have := HZ.out; rw [Below.heap_setCell _ _ _ _ (by simp; omega), Below.heap_setCell _ _ _ _ (by simp; omega), Below.heap_setCell _ _ _ _ (by simp; omega)])
  have bb : Below w.heap.size w (((w1.setCell ⟨w.heap.size + 1 + 1, 1, none⟩ (.slice a2 n2 c2)).setCell ⟨w.heap.size + 1, 0, none⟩ (.int .i64 d.1)).setCell ⟨w.heap.size + 1, 1, none⟩ (.slice a2 n2 c2)) :=
    (((hb.trans (b1.mono hb.size)).setCell (p := ⟨w.heap.size + 1 + 1, 1, none⟩) (by simp; omega) _).setCell (p := ⟨w.heap.size + 1, 0, none⟩) (by simp) _).setCell (p := ⟨w.heap.size + 1, 1, none⟩) (by simp) _
  have hzf : w1.heap.size = (((w1.setCell ⟨w.heap.size + 1 + 1, 1, none⟩ (.slice a2 n2 c2)).setCell ⟨w.heap.size + 1, 0, none⟩ (.int .i64 d.1)).setCell ⟨w.heap.size + 1, 1, none⟩ (.slice a2 n2 c2)).heap.size := by simp [World.setCell]
  generalize (((w1.setCell ⟨w.heap.size + 1 + 1, 1, none⟩ (.slice a2 n2 c2)).setCell ⟨w.heap.size + 1, 0, none⟩ (.int .i64 d.1)).setCell ⟨w.heap.size + 1, 1, none⟩ (.slice a2 n2 c2)) = wf at *
  have e0 := kf.cell 0
  have e1 := kf.cell 1
  simp at e0 e1
  refine bodyPost_ret (v := .agg #[.int .i64 d.1, .slice a2 n2 c2]) (by simp [results, Try.f60, go_sem, e0, e1]) rfl ⟨_, rfl, ⟨a2, n2, c2, us, rfl, ?_⟩, bb⟩
  exact of.mono hb.size (by omega)

set_option maxHeartbeats 400000 in
theorem law_szP {v : Value} {d : PresD} (left : Int) (w : World) (h : RdP w v d) (h0 : 0 ≤ left) (h1 : left ≤ 1048576) :
    Calls Try.prog 58 #[v, .int .i64 left] w fun e w' => e = .returned (.int .i64 (budget left d.2)) ∧ Below w.heap.size w w' := by
  obtain ⟨ao, n, c, rfl, hi⟩ := h
  have hb := below_alloc1 w (.cells #[.int .i64 d.1, .slice ao n c] 73)
  by_cases hx : budget left d.2 < 0
  · go_enter Try.func58, Try.ntmps58
    go_wp2_with fail
    refine (law_szSS left _ ⟨ao, n, c, rfl, hi.below hb⟩ h0 h1).mono ?_
    rintro e w1 ⟨rfl, rfl⟩
    go_wp2
    go_ret
    exact ⟨ret_int (by unfold budget at hx ⊢; split at hx; omega; rw [if_neg (by omega)]), hb⟩
  · go_enter Try.func58, Try.ntmps58
    go_wp2_with fail
    refine (law_szSS left _ ⟨ao, n, c, rfl, hi.below hb⟩ h0 h1).mono ?_
    rintro e w1 ⟨rfl, rfl⟩
    go_wp2
    go_ret
    exact ⟨rfl, hb⟩

set_option maxHeartbeats 400000 in
theorem law_eqP {v v' : Value} {d : PresD} (w : World) (h : RdP w v d) (h' : RdP w v' d) :
    Calls Try.prog 62 #[v, v'] w fun e w' => e = .returned (.bool true) ∧ Below w.heap.size w w' := by
  obtain ⟨ao, n, c, rfl, hi⟩ := h
  obtain ⟨ao', n', c', rfl, hi'⟩ := h'
  have hl' : (d.1 != d.1) = false := by simp
  have hb := below_alloc2 w (.cells #[.int .i64 d.1, .slice ao n c] 75) (.cells #[.int .i64 d.1, .slice ao' n' c'] 75)
  go_enter Try.func62, Try.ntmps62
  go_wp2_with fail
  refine (law_eqSS _ ⟨_, _, _, rfl, hi.below hb⟩ ⟨_, _, _, rfl, hi'.below hb⟩).mono ?_
  rintro e w1 ⟨rfl, b1⟩
  go_wp2
  go_ret
  exact ⟨rfl, hb.trans (b1.mono hb.size)⟩
theorem law_usP {v : Value} {d : PresD} (left : Int) (w : World) (h : RdP w v d) (h0 : 0 ≤ left) (h1 : left ≤ 1048576) :
    Calls Try.prog 58 #[v, .int .i64 left] w fun e w' => e = .returned (.int .i64 (budget1 left (d.2.length + lenSS d.2))) ∧ Below w.heap.size w w' := by
  refine (law_szP left w h h0 h1).mono ?_
  rintro e w' ⟨rfl, hb⟩
  exact ⟨ret_int (budget_is _ _), hb⟩
end Go.Proofs.Ytnfkhgamnapgmaa

/- The laws' marks on presentations. -/
namespace Go.Proofs.Ytnfkhgamnapgmaa
open Go.RowKit

/-- a presentation whose relators' cells have been marked -/
def marksP (k : Int) (d : PresD) : PresD := (d.1, marksSS k d.2)

set_option maxHeartbeats 400000 in
theorem law_markP {v : Value} {d : PresD} {lo hi : Nat} (k0 : Int) (w : World) (h : OwP 2 22 w lo hi v d) (hk0 : 0 ≤ k0) (hk1 : k0 + lenSS d.2 ≤ 1125899906842624) :
    Calls Try.prog 63 #[v, .int .i64 k0] w fun e w' => e = .returned (.int .i64 (k0 + lenSS d.2)) ∧ OwP 2 22 w' lo hi v (marksP k0 d) ∧ Only lo hi w w' := by
  obtain ⟨ao, n, c, us, rfl, ho⟩ := h
  go_enter Try.func63, Try.ntmps63
  go_wp2_with fail
  have hb := below_alloc1 w (.cells #[.int .i64 d.1, .slice ao n c] 75)
  refine (law_markSS k0 _ ⟨ao, n, c, us, rfl, ho.below (innerS _) hb⟩ hk0 hk1).mono ?_
  rintro e w1 ⟨rfl, ⟨a2, n2, c2, us2, e2, o2⟩, q1⟩
  injection e2 with e3 e4 e5
  subst e3 e4 e5
  go_wp2
  go_ret
  refine ⟨rfl, ⟨_, _, _, us2, rfl, o2⟩, ⟨q1.os.trans hb.os, q1.tape.trans hb.tape, q1.output.trans hb.output, Nat.le_trans hb.size q1.size, fun g hg hd => (q1.block g (Nat.lt_of_lt_of_le hg hb.size) hd).trans (hb.block g hg)⟩⟩

end Go.Proofs.Ytnfkhgamnapgmaa

/- The laws' marks on presentations, looked for. -/
namespace Go.Proofs.Ytnfkhgamnapgmaa
open Go.RowKit

set_option maxHeartbeats 400000 in
theorem law_heldP {v : Value} {d : PresD} (k0 : Int) (w : World) (h : RdP w v (marksP k0 d)) (hk0 : 0 ≤ k0) (hk1 : k0 + lenSS d.2 ≤ 1125899906842624) :
    Calls Try.prog 64 #[v, .int .i64 k0] w fun e w' => e = .returned (.int .i64 (k0 + lenSS d.2)) ∧ Below w.heap.size w w' := by
  obtain ⟨ao, n, c, rfl, hi⟩ := h
  go_enter Try.func64, Try.ntmps64
  go_wp2_with fail
  have hb := below_alloc1 w (.cells #[.int .i64 d.1, .slice ao n c] 75)
  refine (law_heldSS k0 _ ⟨_, _, _, rfl, Intss.below hi hb⟩ hk0 hk1).mono ?_
  rintro e w1 ⟨rfl, b1⟩
  have h2 : 0 ≤ k0 + (lenSS d.2 : Int) := by omega
  go_wp2
  go_ret
  exact ⟨rfl, hb.trans (b1.mono hb.size)⟩
end Go.Proofs.Ytnfkhgamnapgmaa

/- slices.Repeat at []int64. -/
namespace Go.Proofs.Ytnfkhgamnapgmaa
open Go.RowKit

section
variable {P : Program} {ops : Array Oper} {rest : List Oper} {o : Oper} {a : Act} {Q : Exit → Act → World → Prop}
end

end Go.Proofs.Ytnfkhgamnapgmaa

/- within and its twin in the reference; slices.IndexFunc and slices.ContainsFunc at []int64, over any predicate that only reads or makes memory. -/
namespace Go.Proofs.Ytnfkhgamnapgmaa
open Go.RowKit

/-- n lies between lo and hi -/
def inB (n lo hi : Int) : Bool := decide (lo ≤ n) && decide (n ≤ hi)
theorem inB_true {n lo hi : Int} : inB n lo hi = true ↔ lo ≤ n ∧ n ≤ hi := by simp [inB]
theorem within_any (n lo hi : Int) (w : World) : Calls Try.prog 84 #[.int .i64 n, .int .i64 lo, .int .i64 hi] w fun e w' => e = .returned (.bool (inB n lo hi)) ∧ w' = w := by
  by_cases h : lo ≤ n
  · have h1 : decide (lo ≤ n) = true := by simpa using h
    go_enter Try.func84, Try.ntmps84
    go_wp2
    go_ret
    exact ⟨ret_bool (by simp [inB, h]), rfl⟩
  · have h1 : decide (lo ≤ n) = false := by simpa using h
    have h2 : inB n lo hi = false := by simp [inB, h1]
    have H2 := Lib.hid h2
    clear h2
    go_enter Try.func84, Try.ntmps84
    go_wp2
    go_ret
    exact ⟨ret_bool H2.out.symm, rfl⟩

theorem specIn_any (n lo hi : Int) (w : World) : Calls Try.prog 76 #[.int .i64 n, .int .i64 lo, .int .i64 hi] w fun e w' => e = .returned (.bool (inB n lo hi)) ∧ w' = w := by
  by_cases h : lo ≤ n
  · have h1 : decide (lo ≤ n) = true := by simpa using h
    go_enter Try.func76, Try.ntmps76
    go_wp2
    go_ret
    exact ⟨ret_bool (by simp [inB, h]), rfl⟩
  · have h1 : decide (lo ≤ n) = false := by simpa using h
    have h2 : inB n lo hi = false := by simp [inB, h1]
    have H2 := Lib.hid h2
    clear h2
    go_enter Try.func76, Try.ntmps76
    go_wp2
    go_ret
    exact ⟨ret_bool H2.out.symm, rfl⟩

/-- the first index at which p holds, or -1 -/
def findI (p : Int → Bool) (zs : List Int) : Int := match zs.findIdx? p with | some i => i | none => -1
theorem findI_none {p : Int → Bool} {zs : List Int} (h : zs.any p = false) : findI p zs = -1 := by
  have : zs.findIdx? p = none := by rw [List.findIdx?_eq_none_iff]; intro x hx; have := (List.any_eq_false.1 h) x hx; simpa using this
  simp [findI, this]
theorem findI_some {p : Int → Bool} {zs : List Int} {k : Nat} (hk : k < zs.length) (hn : (zs.take k).any p = false) (hp : p (iget zs k) = true) : findI p zs = k := by
  have : zs.findIdx? p = some k := by
    rw [List.findIdx?_eq_some_iff_getElem]
    refine ⟨hk, by rw [← iget_lt hk]; exact hp, fun j hj => ?_⟩
    have hx : zs[j]'(by omega) ∈ zs.take k := by rw [List.mem_take_iff_getElem]; exact ⟨j, by omega, rfl⟩
    have := (List.any_eq_false.1 hn) _ hx
    simpa using this
  simp [findI, this]
theorem findI_any (p : Int → Bool) (zs : List Int) : decide (0 ≤ findI p zs) = zs.any p := by
  cases h : zs.any p with
  | false => rw [findI_none h]; rfl
  | true =>
    rw [decide_eq_true_iff]
    unfold findI
    cases h2 : zs.findIdx? p with
    | some i => exact Int.natCast_nonneg i
    | none =>
      rw [List.findIdx?_eq_none_iff] at h2
      obtain ⟨x, hx, hp⟩ := List.any_eq_true.1 h
      have := h2 x hx
      simp [hp] at this

set_option maxHeartbeats 400000 in
theorem indexFunc_any (fn : Nat) (cap : Array Value) (p : Int → Bool) (ao : Option Addr) (n c : Nat) (zs : List Int) (w : World) (h : Ints w ao n zs)
    (hcf : ∀ (args : Array Value) (w : World), (callFunc fn args).run Try.prog w = .ok (.enter fn args) w)
    (hf : ∀ j, j < n → ∀ w', Below w.heap.size w w' → Calls Try.prog fn (#[.int .i64 (iget zs j)] ++ cap) w' fun e w'' => e = .returned (.bool (p (iget zs j))) ∧ Below w'.heap.size w' w'') :
    Calls Try.prog 178 #[.slice ao n c, .func (.func fn) #[] cap] w fun e w' => e = .returned (.int .i64 (findI p zs)) ∧ Below w.heap.size w w' := by
  have hn := h.2.1
  have HF := Lib.hid hf
  clear hf
  go_enter Try.func178, Try.ntmps178
  go_wp2
  go_loopw [8] (fun i wr => ∃ k : Nat, k ≤ n ∧ i = .int .i64 k ∧ (zs.take k).any p = false ∧ Below w.heap.size w wr) (fun i _ => n - (intOf i).toNat)
  case atStart => exact ⟨0, Nat.zero_le _, rfl, by simp, Below.refl _ _⟩
  case round =>
    obtain ⟨k, hk, rfl, hpre, hb⟩ := hrel
    have HP := Lib.hid hpre
    clear hpre
    by_cases hlt : k < n
    · obtain ⟨b, off, rfl, hc⟩ := (h.below hb).at_ hlt
      have HH := Lib.hid h
      clear h
      cases hp : p (iget zs k) with
      | true =>
        have HX := Lib.hid hp
        clear hp
        go_wp2_with fail
        refine (HF.out k hlt _ hb).mono ?_
        rintro e w1 ⟨rfl, hb1⟩
        rw [HX.out]
        go_wp2
        go_ret
        exact ⟨ret_int (findI_some (by rw [HH.out.1]; exact hlt) HP.out HX.out).symm, hb.trans (hb1.mono hb.size)⟩
      | false =>
        have HX := Lib.hid hp
        clear hp
        go_wp2_with fail
        refine (HF.out k hlt _ hb).mono ?_
        rintro e w1 ⟨rfl, hb1⟩
        rw [HX.out]
        go_wp2
        go_roundw
        case rel => exact ⟨k + 1, by omega, by go_num, by rw [any_take_iget (by rw [HH.out.1]; exact hlt), HP.out, HX.out]; rfl, hb.trans (hb1.mono hb.size)⟩
        case measure => simp [intOf]; omega
    · obtain rfl : k = n := by omega
      have hl := h.1
      have HL := Lib.hid hl
      clear hl
      go_wp2
      go_ret
      exact ⟨ret_int (findI_none (by have := HP.out; rwa [List.take_of_length_le (Nat.le_of_eq HL.out)] at this)).symm, hb⟩

theorem containsFunc_any (fn : Nat) (cap : Array Value) (p : Int → Bool) (ao : Option Addr) (n c : Nat) (zs : List Int) (w : World) (h : Ints w ao n zs)
    (hcf : ∀ (args : Array Value) (w : World), (callFunc fn args).run Try.prog w = .ok (.enter fn args) w)
    (hf : ∀ j, j < n → ∀ w', Below w.heap.size w w' → Calls Try.prog fn (#[.int .i64 (iget zs j)] ++ cap) w' fun e w'' => e = .returned (.bool (p (iget zs j))) ∧ Below w'.heap.size w' w'') :
    Calls Try.prog 138 #[.slice ao n c, .func (.func fn) #[] cap] w fun e w' => e = .returned (.bool (zs.any p)) ∧ Below w.heap.size w w' := by
  have HF := Lib.hid hf
  clear hf
  go_enter Try.func138, Try.ntmps138
  go_wp2_with fail
  refine (indexFunc_any fn cap p ao n c zs w h hcf HF.out).mono ?_
  rintro e w1 ⟨rfl, hb1⟩
  go_wp2
  go_ret
  exact ⟨ret_bool (findI_any p zs), hb1⟩
end Go.Proofs.Ytnfkhgamnapgmaa

/- IsDiagram, the program's and the reference's. -/
namespace Go.Proofs.Ytnfkhgamnapgmaa
open Go.RowKit

end Go.Proofs.Ytnfkhgamnapgmaa

/- The presentation of a diagram: what both call. -/
namespace Go.Proofs.Ytnfkhgamnapgmaa
open Go.RowKit

end Go.Proofs.Ytnfkhgamnapgmaa

/- The presentation of a diagram: the data, and how one relator more is laid. -/
namespace Go.Proofs.Ytnfkhgamnapgmaa
open Go.RowKit

/-- one element more, at the end of a row of the call's own, in a region that draws its order -/
theorem step_ap1 {P : Program} {S E : TypeId} {z : Value} {bytes : Nat} (et : ET P S E z bytes) {ops : Array Oper} {o : Oper} {a : Act} {Q : Exit → Act → World → Prop} {w : World} {K : Act → World → Prop} {X : Prop} (hg : o.guard = none) (s x : Operand) (ho : o.op = .call { callee := .builtin .append, args := #[s, x], argTypes := #[S, S] })
    (base : Nat) (ao : Option Addr) (n c : Nat) (xs : List Value) (hs : a.eval s = .slice ao n c) (hown : Own w base E ao n c xs) (u : Value) (xb xc : Nat)
    (hx : a.eval x = .slice (some ⟨xb, 0, none⟩) 1 xc) (hc : w.cell? ⟨xb, 0, none⟩ = some u) (hu : u.oneCell' = true) (hn : n + 1 ≤ 4398046511104) (hbase : base ≤ w.heap.size)
    (h : ∀ ao' c' w', Own w' base E ao' (n + 1) c' (xs ++ [u]) → w.grownBy w' (bk ao) → (bk ao' = bk ao ∨ bk ao' = some w.heap.size) → K (a.put o.dst (.slice ao' (n + 1) c')) w') : if Region.wanted o (yielded ops a.tmps) = true then Oper.wp P o a w K Q else X := by
  obtain ⟨i, hi, hz, hsz, hby⟩ := info_parts et.info
  have hw : Region.wanted o (yielded ops a.tmps) = true := by simp [Region.wanted, hg]
  rw [if_pos hw]
  obtain ⟨v', w', hr, h2, h3, h4, h5⟩ := run_append_own_at (P := P) w base S o.type E i z 1 bytes et.und hi hz hsz hby (by rw [et.one]; rfl) (by omega) (.slice ao n c) n xs hown.1 ⟨xb, 0, none⟩ 1 xc [u] rfl
    (by
      intro j u' hu'
      match j, hu' with
      | 0, hu' => simp at hu'; subst hu'; rw [Addr.add_lit]; exact hc)
    (by intro v hv; simp at hv; subst hv; exact hu) (by simp [maxLen]; omega) (by have := et.small; have : (n + 1) * bytes ≤ (n + 1) * 32 := Nat.mul_le_mul_left _ this; omega) hbase
  unfold Oper.wp execOp
  simp only [ho, resolve, invoke, builtin, Sem.run_bind, Sem.run_pure, Result.andThen_ok, List.map_toArray, List.map_cons, List.map_nil, hs, hx, hr]
  obtain ⟨g, cap, rfl, hb, hlt⟩ := h2.form (by omega)
  rw [ownBlock_slice] at h3
  refine h _ _ _ ⟨h2, hn⟩ h3 ?_
  rw [ownBlock_slice, ownBlock_slice] at h5
  exact h5

/-- a list of the call's own, just made, is laid at the end of a row of lists -/
theorem rows_push {T1 E lo : Nat} {wr w2 w3 w4 : World} {ao ao' ao2 : Option Addr} {m c n' c' c2 : Nat} {us : List Value} {ds : List (List Int)} {zs : List Int}
    (hR : OwR (OwS T1) wr lo wr.heap.size E ao m c us ds) (hlo : lo ≤ wr.heap.size) (hb : Below wr.heap.size wr w2) (hu : Own w2 wr.heap.size T1 ao' n' c' (zs.map (Value.int .i64))) (hb3 : Below w2.heap.size w2 w3)
    (hown : Own w4 lo E ao2 (m + 1) c2 (us ++ [.slice ao' n' c'])) (hg : w3.grownBy w4 (bk ao)) (hat : bk ao2 = bk ao ∨ bk ao2 = some w3.heap.size) :
    OwR (OwS T1) w4 lo w4.heap.size E ao2 (m + 1) c2 (us ++ [.slice ao' n' c']) (ds ++ [zs]) := by
  have hR3 : OwR (OwS T1) w3 lo wr.heap.size E ao m c us ds := hR.below (innerS _) (hb.trans (hb3.mono hb.size))
  have s1 := hb.size
  have s2 := hb3.size
  have s3 := hg.size
  have hub : ∀ g, bk ao' = some g → wr.heap.size ≤ g ∧ g < w2.heap.size := hu.lt
  have hne : ∀ g, bk ao' = some g → bk ao ≠ some g := fun g h1 h2 => by have := hub g h1; have := hR.top g h2; omega
  have hu4 : OwS T1 w4 (.slice ao' n' c') zs := (innerS T1).loc (w := w2) ⟨ao', n', c', rfl, hu.mono (Nat.zero_le _)⟩ fun g h => by
    rw [ownBlock_slice] at h
    have := hub g h
    rw [hg.block g (by omega) (fun e => hne g h e.symm)]
    exact hb3.block g this.2
  refine hR3.push (innerS _) hown hg hu4 (in_slice fun g h => ⟨by have := hub g h; omega, by have := hub g h; omega⟩) (fun g h => (hown.lt g h).2) (by omega) ?_ ?_
  · intro g h
    rcases hat with h1 | h1
    · exact .inl (h1 ▸ h)
    · refine .inr fun j u hj e => ?_
      rw [h1] at h; obtain rfl := Option.some.inj h
      have := (hR3.rng j u hj _ e).2
      omega
  · intro g h
    rw [ownBlock_slice] at h
    have hh := hub g h
    refine ⟨fun e => ?_, fun j v hj e => ?_⟩
    · rcases hat with h1 | h1
      · exact hne g h (h1 ▸ e)
      · rw [h1] at e; have := Option.some.inj e; omega
    · have := (hR3.rng j v hj _ e).2; omega
end Go.Proofs.Ytnfkhgamnapgmaa

/- WithRelators, the reference's parts: l01Own, l01Own2, l11Code. -/
namespace Go.Proofs.Ytnfkhgamnapgmaa
open Go.RowKit

set_option maxRecDepth 100000 in
set_option maxHeartbeats 400000 in
theorem own_any (ao : Option Addr) (n c : Nat) (zs : List Int) (w : World) (h : Ints w ao n zs) (hn : n ≤ 1048576) :
    Calls Try.prog 123 #[.slice ao n c] w fun e w' => ∃ ao' c', e = .returned (.slice ao' n c') ∧ Own w' w.heap.size 2 ao' n c' (zs.map (Value.int .i64)) ∧ Below w.heap.size w w' := by
  have h2 : Ints (w.alloc (.cells #[] 2)) ao n zs := h.below (below_alloc1 _ _)
  have H2 := Lib.hid h2
  clear h2
  go_enter Try.func123, Try.ntmps123
  go_wp2_with (at_builtin; refine wpList_apN etI _ rfl _ _ rfl w.heap.size _ 0 0 [] rfl (Own.empty_ w _ (Nat.le_refl _)) ao n c zs rfl H2.out (by omega) (by simp) ?_; intro ao2 c2 w2 ho2 hg2 hblk)
  go_ret
  refine ⟨_, _, rfl, by simpa using ho2, (below_alloc1 w _).grown hg2 (by simp) (fun g hg => ?_)⟩
  simp [bk] at hg; omega

/-- a list of the call's own, just made, is laid at the end of a row of lists -/
theorem rows_push2 {T1 E lo : Nat} {wr w2 w3 w4 : World} {ao ao' ao2 : Option Addr} {m c n' c' c2 : Nat} {us : List Value} {ds : List (List Int)} {zs : List Int}
    (hR : OwR (OwS T1) wr lo wr.heap.size E ao m c us ds) (hlo : lo ≤ wr.heap.size) (hb : Below wr.heap.size wr w2) (hu : Own w2 wr.heap.size T1 ao' n' c' (zs.map (Value.int .i64))) (hb3 : Below w2.heap.size w2 w3)
    (hown : Own w4 lo E ao2 (m + 1) c2 (us ++ [.slice ao' n' c'])) (hg : w3.grownBy w4 (bk ao)) (hat : bk ao2 = bk ao ∨ ∃ g, bk ao2 = some g ∧ w2.heap.size ≤ g) :
    OwR (OwS T1) w4 lo w4.heap.size E ao2 (m + 1) c2 (us ++ [.slice ao' n' c']) (ds ++ [zs]) := by
  have hR3 : OwR (OwS T1) w3 lo wr.heap.size E ao m c us ds := hR.below (innerS _) (hb.trans (hb3.mono hb.size))
  have s1 := hb.size
  have s2 := hb3.size
  have s3 := hg.size
  have hub : ∀ g, bk ao' = some g → wr.heap.size ≤ g ∧ g < w2.heap.size := hu.lt
  have hne : ∀ g, bk ao' = some g → bk ao ≠ some g := fun g h1 h2 => by have := hub g h1; have := hR.top g h2; omega
  have hu4 : OwS T1 w4 (.slice ao' n' c') zs := (innerS T1).loc (w := w2) ⟨ao', n', c', rfl, hu.mono (Nat.zero_le _)⟩ fun g h => by
    rw [ownBlock_slice] at h
    have := hub g h
    rw [hg.block g (by omega) (fun e => hne g h e.symm)]
    exact hb3.block g this.2
  refine hR3.push (innerS _) hown hg hu4 (in_slice fun g h => ⟨by have := hub g h; omega, by have := hub g h; omega⟩) (fun g h => (hown.lt g h).2) (by omega) ?_ ?_
  · intro g h
    rcases hat with h1 | ⟨g1, h1, h5⟩
    · exact .inl (h1 ▸ h)
    · refine .inr fun j u hj e => ?_
      rw [h1] at h; obtain rfl := Option.some.inj h
      have := (hR3.rng j u hj _ e).2
      omega
  · intro g h
    rw [ownBlock_slice] at h
    have hh := hub g h
    refine ⟨fun e => ?_, fun j v hj e => ?_⟩
    · rcases hat with h1 | ⟨g1, h1, h5⟩
      · exact hne g h (h1 ▸ e)
      · rw [h1] at e; have := Option.some.inj e; omega
    · have := (hR3.rng j v hj _ e).2; omega
set_option maxRecDepth 100000 in
set_option maxHeartbeats 800000 in
theorem own2_any (ao : Option Addr) (n c : Nat) (zss : List (List Int)) (w : World) (h : Intss w ao n zss) (hn : zss.length + lenSS zss ≤ 1048576) :
    Calls Try.prog 122 #[.slice ao n c] w fun e w' => ∃ v, e = .returned v ∧ OwSS 2 22 w' w.heap.size w'.heap.size v zss ∧ Below w.heap.size w w' := by
  have HL := Lib.hid h.1
  have hn1 : n ≤ 1048576 := by have := HL.out; omega
  go_enter Try.func122, Try.ntmps122
  go_wp2
  go_loopw [4, 3] (fun i v wr => ∃ (k : Nat) (ao' : Option Addr) (c' : Nat) (us : List Value), k ≤ n ∧ i = .int .i64 k ∧ v = .slice ao' k c' ∧ OwR (OwS 2) wr w.heap.size wr.heap.size 22 ao' k c' us (zss.take k) ∧ Below w.heap.size w wr) (fun i _ _ => n - (intOf i).toNat)
  case atStart => exact ⟨0, _, _, [], Nat.zero_le _, rfl, rfl, OwR.empty_ (Own.empty_ w _ (Nat.le_refl _)) (by intro g hg; simp [bk] at hg; simp; omega), below_alloc1 _ _⟩
  case round =>
    obtain ⟨k, ao', c', us, hk, rfl, rfl, ho, hb⟩ := hrel
    by_cases hlt : k < n
    · obtain ⟨b, off, a1, n1, c1, rfl, hc, h1⟩ := (h.below hb).at_ hlt
      have hkl : k < zss.length := by rw [HL.out]; exact hlt
      have hsz : n1 ≤ 1048576 := by have := len_le_lenSS hkl; have := h1.1; omega
      have hbs := hb.size
      have HT := Lib.hid (take_lget hkl)
      clear hkl
      go_wp2_with fail
      refine (own_any a1 n1 c1 (lget zss k) _ h1 hsz).mono ?_
      rintro e w2 ⟨a2, c2, rfl, o2, b2⟩
      have ho2 := ho.own.below b2
      have hs2 := b2.size
      go_wp2_with (at_builtin; refine wpList_ap1 etSS _ rfl _ _ rfl w.heap.size ao' k c' us rfl ho2 (.slice a2 n1 c2) rfl rfl (by omega) (by omega) ?_; intro ao3 c3 w3 o3 g3 hat)
      have hR := rows_push2 ho hbs b2 o2 (Below.refl _ _) o3 g3 (hat.imp id fun e => ⟨_, e, by omega⟩)
      have hB := (below_tr b2 hb).grown g3 (by omega) (fun g hg => (ho.own.lt g hg).1)
      clear ho ho2 o2 b2 o3 g3 hat h1 hb
      go_wp2
      go_roundw
      case rel => exact ⟨k + 1, ao3, c3, _, by omega, by go_num, rfl, by rw [HT.out]; exact hR, hB⟩
      case measure => simp [intOf]; omega
    · obtain rfl : k = n := by omega
      rw [List.take_of_length_le (Nat.le_of_eq HL.out)] at ho
      go_wp2_with fail
      go_ret
      exact ⟨_, rfl, ⟨_, _, _, us, rfl, ho⟩, hb⟩
end Go.Proofs.Ytnfkhgamnapgmaa

/- slices.Grow and slices.Concat at [][]int64, of two lists: the rows are shared. -/
namespace Go.Proofs.Ytnfkhgamnapgmaa
open Go.RowKit

/-- the headers of the rows -/
theorem Intss.heads {w : World} {ao : Option Addr} {n : Nat} {zss : List (List Int)} (h : Intss w ao n zss) : ∃ us, Vals w ao n us ∧ (∀ u ∈ us, u.oneCell' = true) ∧ ∀ j u, us[j]? = some u → RdS w u (lget zss j) := by
  rcases Nat.eq_zero_or_pos n with h0 | h0
  · subst h0
    exact ⟨[], ⟨rfl, by omega, fun h => absurd h (by omega)⟩, fun u hu => (nomatch hu), fun j u hu => by simp at hu⟩
  · obtain ⟨b, off, e, hc⟩ := h.2.2 h0
    have hget : ∀ j u, ((List.range n).map fun j => (w.cell? ⟨b, off + j, none⟩).getD undef)[j]? = some u → j < n ∧ w.cell? ⟨b, off + j, none⟩ = some u ∧ RdS w u (lget zss j) := fun j u hu => by
      rw [List.getElem?_map] at hu
      obtain ⟨i, hi, rfl⟩ := Option.map_eq_some_iff.1 hu
      have hj : j < n := by
        have := (List.getElem?_eq_some_iff.1 hi).1
        simpa using this
      rw [List.getElem?_range hj] at hi
      obtain rfl := Option.some.inj hi
      obtain ⟨u, h1, h2⟩ := hc j hj
      rw [h1]
      exact ⟨hj, rfl, h2⟩
    refine ⟨_, ⟨by simp, h.2.1, fun _ => ⟨b, off, e, fun j u hu => (hget j u hu).2.1⟩⟩, fun u hu => ?_, fun j u hu => (hget j u hu).2.2⟩
    obtain ⟨j, hj, e2⟩ := List.getElem_of_mem hu
    obtain ⟨_, _, a', n', c', e3, _⟩ := hget j u (by rw [← e2]; exact List.getElem?_eq_getElem hj)
    rw [e3]; rfl
theorem Vals.below {w w' : World} {ao : Option Addr} {n : Nat} {us : List Value} (h : Vals w ao n us) (hb : Below w.heap.size w w') : Vals w' ao n us := by
  refine ⟨h.1, h.2.1, fun h0 => ?_⟩
  obtain ⟨b, off, e, hc⟩ := h.2.2 h0
  refine ⟨b, off, e, fun j u hu => ?_⟩
  have := hc j u hu
  exact (hb.cell (p := ⟨b, off + j, none⟩) (World.block_lt_of_cell? w _ this)).trans this

set_option maxRecDepth 100000 in
set_option maxHeartbeats 800000 in
theorem growSS_any (n : Nat) (w : World) (hn : n ≤ 1048576) :
    Calls Try.prog 196 #[.slice none 0 0, .int .i64 n] w fun e w' => ∃ ao' c', e = .returned (.slice ao' 0 c') ∧ Own w' w.heap.size 22 ao' 0 c' [] ∧ Below w.heap.size w w' := by
  by_cases h0 : n = 0
  · subst h0
    go_enter Try.func196, Try.ntmps196
    go_wp2
    go_ret
    exact ⟨_, _, rfl, Own.nil_ _ _ _, Below.refl _ _⟩
  · have q0 : (0 : Int) < (n : Int) := by omega
    obtain ⟨i, hi, hz, hsz, hby⟩ := info_parts etSS.info
    have hr := Lib.run_append_nil_zeros (P := Try.prog) w 23 3 23 22 i (.slice none 0 0) .i64 .i64 etSS.und (by kernel_rfl) hi hz n (by omega) (by omega) (by omega) (by have := etSS.small; rw [hby]; omega)
    have hge := grownCap_ge w n 0 22
    have hle := grownCap_le_maxLen w n 0 22 (by simp [maxLen]; omega)
    obtain ⟨cap, hcap⟩ : ∃ cap, grownCap w n 0 22 = cap := ⟨_, rfl⟩
    rw [hcap] at hr hge hle
    have hzs : (Builtin.zeroCells (Value.slice none 0 0).cells n ++ Builtin.zeroCells (Value.slice none 0 0).cells (cap - n)).size = cap := by
      rw [Array.size_append]
      simp only [size_zeroCells]
      have : (Value.slice none 0 0).cells.size = 1 := rfl
      rw [this]; omega
    obtain ⟨cs, hcs⟩ : ∃ cs, Builtin.zeroCells (Value.slice none 0 0).cells n ++ Builtin.zeroCells (Value.slice none 0 0).cells (cap - n) = cs := ⟨_, rfl⟩
    rw [hcs] at hr hzs
    have HRR := Lib.hid hr
    have HZ := Lib.hid hzs
    have HI := Lib.hid (And.intro hi hz)
    clear hr hcs hcap hzs hi hz hsz hby
    go_enter Try.func196, Try.ntmps196
    go_wp2_with (at_builtin; refine Lib.wpList_append_run _ rfl _ _ _ _ rfl _ _ rfl rfl _ _ HRR.out ?_)
    go_ret
    refine ⟨_, _, rfl, ⟨⟨rfl, .inr ⟨w.heap.size, cap, cs, rfl, Nat.le_refl _, heap_alloc_new w _, Nat.zero_le _, hle, by rw [HZ.out, Nat.mul_one], by simp⟩⟩, by omega⟩, ?_⟩
    exact (below_alloc1 w _).trans ((below_drew1 _).mono (by simp))
/-- the rows of a fresh list: each reads as it did in the world w0 -/
def HeadsZ (w0 : World) (lo : Nat) (w : World) (al : Option Addr) (n : Nat) (Z : List (List Int)) : Prop := 0 < n → ∃ b, al = some ⟨b, 0, none⟩ ∧ lo ≤ b ∧ b < w.heap.size ∧ ∀ j, j < n → ∃ u, w.cell? ⟨b, j, none⟩ = some u ∧ RdS w0 u (lget Z j)
set_option maxRecDepth 100000 in
set_option maxHeartbeats 1600000 in
theorem concat_any (w0 : World) (b0 : Nat) (c0 : Nat) (a1 a2 : Option Addr) (n1 c1 n2 c2 : Nat) (R W : List (List Int)) (w : World) (k0 : w.cell? ⟨b0, 0, none⟩ = some (.slice a1 n1 c1)) (k1 : w.cell? ⟨b0, 1, none⟩ = some (.slice a2 n2 c2)) (hb00 : Below w0.heap.size w0 w) (h1 : Intss w0 a1 n1 R) (h2 : Intss w0 a2 n2 W) (hn1 : n1 ≤ 100000) (hn2 : n2 ≤ 100000) :
    Calls Try.prog 167 #[.slice (some ⟨b0, 0, none⟩) 2 c0] w fun e w' => ∃ ao c, e = .returned (.slice ao (n1 + n2) c) ∧ HeadsZ w0 w.heap.size w' ao (n1 + n2) (R ++ W) ∧ Below w.heap.size w w' := by
  have hb0 := World.block_lt_of_cell? w _ k0
  obtain ⟨us1, v1, o1, r1⟩ := h1.heads
  obtain ⟨us2, v2, o2, r2⟩ := h2.heads
  have v1 := v1.below hb00
  have v2 := v2.below hb00
  have hl1 := h1.1
  have hl2 := h2.1
  have hG := growSS_any (n1 + n2) w (by omega)
  rw [Int.natCast_add] at hG
  have HG := Lib.hid hG
  have HLS := Lib.hid (And.intro hl1 hl2)
  clear hG hl1 hl2
  have V1 := Lib.hid (And.intro v1 (And.intro o1 r1))
  have V2 := Lib.hid (And.intro v2 (And.intro o2 r2))
  clear h1 h2 v1 o1 r1 v2 o2 r2
  go_enter Try.func167, Try.ntmps167
  go_wp2_with fail
  refine wp_loop_rounds 3 ?_
  rw [rounds_succ]
  go_wp2_with fail
  rw [rounds_succ]
  go_wp2_with fail
  rw [rounds_succ]
  go_wp2_with fail
  refine HG.out.mono ?_
  rintro e w1 ⟨ag, cg, rfl, og, bg⟩
  have k0' := (bg.cell (p := ⟨b0, 0, none⟩) hb0).trans k0
  have k1' := (bg.cell (p := ⟨b0, 1, none⟩) hb0).trans k1
  have hs1 := bg.size
  clear k0 k1
  have OG := Lib.hid og
  have BG := Lib.hid bg
  clear og bg
  go_wp2_with fail
  refine wp_loop_rounds 3 ?_
  rw [rounds_succ]
  go_wp2_with (at_builtin; refine wpList_apV etSS _ rfl _ _ rfl w.heap.size ag 0 cg [] rfl OG.out a1 n1 c1 us1 rfl (V1.out.1.below BG.out) V1.out.2.1 (by omega) hs1 ?_; intro ao2 c2' w2 o2 g2 hat2)
  have B2 := BG.out.grown g2 hs1 (fun g hg => (OG.out.lt g hg).1)
  rw [Nat.zero_add, List.nil_append] at o2
  have O2 := Lib.hid o2
  have k1'' := (B2.cell (p := ⟨b0, 1, none⟩) hb0).trans ((BG.out.cell (p := ⟨b0, 1, none⟩) hb0).symm.trans k1')
  have hs2 := B2.size
  have HB2 := Lib.hid B2
  clear o2 g2 hat2 B2 k0' k1'
  try rw [Nat.zero_add]
  go_wp2_with fail
  rw [rounds_succ]
  go_wp2_with (at_builtin; refine wpList_apV etSS _ rfl _ _ rfl w.heap.size ao2 n1 c2' us1 rfl O2.out a2 n2 c2 us2 rfl (V2.out.1.below HB2.out) V2.out.2.1 (by omega) hs2 ?_; intro ao3 c3' w3 o3 g3 hat3)
  have B3 := HB2.out.grown g3 hs2 (fun g hg => (O2.out.lt g hg).1)
  have O3 := Lib.hid o3
  have HB3 := Lib.hid B3
  clear o3 g3 hat3 B3 k1''
  go_wp2_with fail
  rw [rounds_succ]
  go_wp2_with fail
  go_ret
  refine ⟨ao3, c3', rfl, ?_, HB3.out⟩
  obtain ⟨hl1, hl2⟩ := HLS.out
  have hu1 := V1.out.1.1
  have hu2 := V2.out.1.1
  intro h0
  obtain ⟨g, rfl, hg1, hg2, _, hc, _⟩ := O3.out.form h0
  have hlt := (O3.out.lt g rfl).2
  refine ⟨g, rfl, (O3.out.lt g rfl).1, hlt, fun j hj => ?_⟩
  rw [hc j hj]
  by_cases h : j < n1
  · rw [List.getElem?_append_left (by omega), List.getElem?_eq_getElem (by omega)]
    refine ⟨_, rfl, ?_⟩
    have := V1.out.2.2 j _ (List.getElem?_eq_getElem (by omega))
    rw [show lget (R ++ W) j = lget R j by rw [lget_lt (by rw [List.length_append]; omega), lget_lt (by omega), List.getElem_append_left (by omega)]]
    exact this
  · rw [List.getElem?_append_right (by omega), List.getElem?_eq_getElem (by omega)]
    refine ⟨_, rfl, ?_⟩
    have := V2.out.2.2 (j - us1.length) _ (List.getElem?_eq_getElem (by omega))
    rw [show lget (R ++ W) j = lget W (j - us1.length) by rw [lget_lt (by rw [List.length_append]; omega), lget_lt (by omega), List.getElem_append_right (by omega)]; congr 1; omega]
    exact this
end Go.Proofs.Ytnfkhgamnapgmaa

/- IsPresentation: words, presentations, the program's and the reference's. -/
namespace Go.Proofs.Ytnfkhgamnapgmaa
open Go.RowKit

/-- a word with letters 0 to hi: at most 64 of them -/
def isWordTo (hi : Int) (zs : List Int) : Bool := decide (zs.length ≤ 64) && zs.all (fun z => inB z 0 hi)
/-- a presentation -/
def isPres (d : PresD) : Bool := inB d.1 1 5 && decide (d.2.length ≤ 24) && d.2.all (fun zs => isWordTo (d.1 - 1) zs && decide (1 ≤ zs.length))

set_option maxHeartbeats 400000 in
theorem spec11Word_any (g : Int) (ao : Option Addr) (n c : Nat) (zs : List Int) (w : World) (h : Ints w ao n zs) (hg0 : 0 ≤ g) (hg1 : g ≤ 1000) :
    Calls Try.prog 200 #[.int .i64 g, .slice ao n c] w fun e w' => e = .returned (.bool (isWordTo (g - 1) zs)) ∧ w' = w := by
  have hn := h.2.1
  have hl := h.1
  have HL := Lib.hid hl
  clear hl
  go_enter Try.func200, Try.ntmps200
  go_wp2
  go_loop [5] (fun i => ∃ k : Nat, k ≤ n ∧ i = .int .i64 k ∧ (zs.take k).all (fun z => inB z 0 (g - 1)) = true) (fun i => n - (intOf i).toNat)
  case atStart => exact ⟨0, Nat.zero_le _, rfl, by simp⟩
  case round =>
    obtain ⟨k, hk, rfl, hpre⟩ := hrel
    have HP := Lib.hid hpre
    clear hpre
    by_cases hlt : k < n
    · obtain ⟨b, off, rfl, hc⟩ := h.at_ hlt
      have HH := Lib.hid h
      clear h
      cases hp : inB (iget zs k) 0 (g - 1) with
      | true =>
        have HX := Lib.hid hp
        clear hp
        go_wp2_with (go_at_call 76; refine (specIn_any _ _ _ _).mono ?_; rintro e w' ⟨rfl, rfl⟩; rw [HX.out])
        go_round
        case rel => exact ⟨k + 1, by omega, by go_num, by rw [all_take_iget (by rw [HL.out]; exact hlt), HP.out, HX.out]; rfl⟩
        case measure => simp [intOf]; omega
      | false =>
        have HX := Lib.hid hp
        clear hp
        go_wp2_with (go_at_call 76; refine (specIn_any _ _ _ _).mono ?_; rintro e w' ⟨rfl, rfl⟩; rw [HX.out])
        go_ret
        exact ⟨ret_bool (by unfold isWordTo; rw [all_false_at (by rw [HL.out]; exact hlt) HX.out]; simp), rfl⟩
    · obtain rfl : k = n := by omega
      go_wp2
      go_ret
      exact ⟨ret_bool (by have := HP.out; rw [List.take_of_length_le (Nat.le_of_eq HL.out)] at this; unfold isWordTo; rw [this, HL.out]; simp; omega), rfl⟩

theorem all_take_lget {zss : List (List Int)} {p : List Int → Bool} {k : Nat} (h : k < zss.length) : (zss.take (k + 1)).all p = ((zss.take k).all p && p (lget zss k)) := by
  rw [take_lget h, List.all_append]; simp
theorem any_take_lget {zss : List (List Int)} {p : List Int → Bool} {k : Nat} (h : k < zss.length) : (zss.take (k + 1)).any p = ((zss.take k).any p || p (lget zss k)) := by
  rw [take_lget h, List.any_append]; simp
theorem all_false_lget {zss : List (List Int)} {p : List Int → Bool} {k : Nat} (h : k < zss.length) (hp : p (lget zss k) = false) : zss.all p = false := by
  rw [List.all_eq_false]; exact ⟨_, lget_mem h, by simp [hp]⟩

/-- words with letters below g, each of at least a number of letters, at most 24 -/
def wordsTo (g : Int) (least : Nat) (zss : List (List Int)) : Bool := decide (zss.length ≤ 24) && zss.all (fun zs => isWordTo (g - 1) zs && decide (least ≤ zs.length))

set_option maxHeartbeats 800000 in
theorem spec11Words_any (g : Int) (least : Nat) (ao : Option Addr) (n c : Nat) (zss : List (List Int)) (w : World) (h : Intss w ao n zss) (hg0 : 0 ≤ g) (hg1 : g ≤ 1000) :
    Calls Try.prog 171 #[.int .i64 g, .slice ao n c, .int .i64 (least : Int)] w fun e w' => e = .returned (.bool (wordsTo g least zss)) ∧ w' = w := by
  have hn := h.2.1
  have hl := h.1
  have HL := Lib.hid hl
  clear hl
  go_enter Try.func171, Try.ntmps171
  go_wp2
  go_loop [7] (fun i => ∃ k : Nat, k ≤ n ∧ i = .int .i64 k ∧ (zss.take k).all (fun zs => isWordTo (g - 1) zs && decide (least ≤ zs.length)) = true) (fun i => n - (intOf i).toNat)
  case atStart => exact ⟨0, Nat.zero_le _, rfl, by simp⟩
  case round =>
    obtain ⟨k, hk, rfl, hpre⟩ := hrel
    have HP := Lib.hid hpre
    clear hpre
    by_cases hlt : k < n
    · obtain ⟨b, off, a1, n1, c1, rfl, hc, hin⟩ := h.at_ hlt
      have hn1 := hin.2.1
      have HN := Lib.hid hin.1
      have HH := Lib.hid h
      clear h
      cases hp : isWordTo (g - 1) (lget zss k) with
      | true =>
        have HX := Lib.hid hp
        clear hp
        by_cases hz : least ≤ n1
        · have hd : decide ((n1 : Int) < least) = false := by simp; omega
          go_wp2_with (go_at_call 200; refine (spec11Word_any g a1 n1 c1 _ _ hin hg0 hg1).mono ?_; rintro e w' ⟨rfl, rfl⟩; rw [HX.out])
          go_round
          case rel => exact ⟨k + 1, by omega, by go_num, by rw [all_take_lget (by rw [HL.out]; exact hlt), HP.out, HX.out, HN.out]; simp [hz]⟩
          case measure => simp [intOf]; omega
        · have hd : decide ((n1 : Int) < least) = true := by simp; omega
          go_wp2_with (go_at_call 200; refine (spec11Word_any g a1 n1 c1 _ _ hin hg0 hg1).mono ?_; rintro e w' ⟨rfl, rfl⟩; rw [HX.out])
          go_ret
          exact ⟨ret_bool (by unfold wordsTo; rw [all_false_lget (k := k) (by rw [HL.out]; exact hlt) (by rw [HX.out, HN.out]; simp; omega)]; simp), rfl⟩
      | false =>
        have HX := Lib.hid hp
        clear hp
        go_wp2_with (go_at_call 200; refine (spec11Word_any g a1 n1 c1 _ _ hin hg0 hg1).mono ?_; rintro e w' ⟨rfl, rfl⟩; rw [HX.out])
        go_ret
        exact ⟨ret_bool (by unfold wordsTo; rw [all_false_lget (k := k) (by rw [HL.out]; exact hlt) (by rw [HX.out]; rfl)]; simp), rfl⟩
    · obtain rfl : k = n := by omega
      go_wp2
      go_ret
      exact ⟨ret_bool (by have := HP.out; rw [List.take_of_length_le (Nat.le_of_eq HL.out)] at this; unfold wordsTo; rw [this, HL.out]; simp; omega), rfl⟩

theorem isPres_out {d : PresD} (h : inB d.1 1 5 = false) : isPres d = false := by unfold isPres; rw [h]; rfl
theorem isPres_in {d : PresD} (h : inB d.1 1 5 = true) : isPres d = wordsTo d.1 1 d.2 := by unfold isPres wordsTo; rw [h]; simp

set_option maxHeartbeats 400000 in
theorem spec11Is_any {v : Value} {d : PresD} (w : World) (h : RdP w v d) :
    Calls Try.prog 170 #[v] w fun e w' => e = .returned (.bool (isPres d)) ∧ Below w.heap.size w w' := by
  obtain ⟨ao, n, c, rfl, hi⟩ := h
  have hb := below_alloc1 w (.cells #[.int .i64 d.1, .slice ao n c] 75)
  cases hg : inB d.1 1 5 with
  | true =>
    have HX := Lib.hid hg
    have hg' := inB_true.1 hg
    clear hg
    go_enter Try.func170, Try.ntmps170
    go_wp2_with (go_at_call 76; refine (specIn_any _ _ _ _).mono ?_; rintro e w' ⟨rfl, rfl⟩; rw [HX.out])
    refine (spec11Words_any d.1 1 ao n c d.2 _ (hi.below hb) (by omega) (by omega)).mono ?_
    rintro e w1 ⟨rfl, rfl⟩
    go_wp2
    go_ret
    exact ⟨ret_bool (isPres_in HX.out).symm, hb⟩
  | false =>
    have HX := Lib.hid hg
    clear hg
    go_enter Try.func170, Try.ntmps170
    go_wp2_with (go_at_call 76; refine (specIn_any _ _ _ _).mono ?_; rintro e w' ⟨rfl, rfl⟩; rw [HX.out])
    go_ret
    exact ⟨ret_bool (isPres_out HX.out).symm, hb⟩
end Go.Proofs.Ytnfkhgamnapgmaa

/- isPresentation, the program's: areWithin, isLetters, slices.ContainsFunc at [][]int64. -/
namespace Go.Proofs.Ytnfkhgamnapgmaa
open Go.RowKit

theorem areWithinFn_any (z lo hi : Int) (b1 b2 : Nat) (w : World) (h1 : w.cell? ⟨b1, 0, none⟩ = some (.int .i64 lo)) (h2 : w.cell? ⟨b2, 0, none⟩ = some (.int .i64 hi)) :
    Calls Try.prog 185 #[.int .i64 z, .pointer (some ⟨b1, 0, none⟩), .pointer (some ⟨b2, 0, none⟩)] w fun e w' => e = .returned (.bool (!inB z lo hi)) ∧ w' = w := by
  go_enter Try.func185, Try.ntmps185
  go_wp2_with (go_at_call 84; refine (within_any _ _ _ _).mono ?_; rintro e w' ⟨rfl, rfl⟩)
  go_ret
  exact ⟨rfl, rfl⟩

set_option maxHeartbeats 400000 in
set_option maxRecDepth 100000 in
theorem areWithin_any (ao : Option Addr) (n c : Nat) (zs : List Int) (lo hi : Int) (w : World) (h : Ints w ao n zs) :
    Calls Try.prog 153 #[.slice ao n c, .int .i64 lo, .int .i64 hi] w fun e w' => e = .returned (.bool (zs.all (fun z => inB z lo hi))) ∧ Below w.heap.size w w' := by
  have hmf : ∀ (fn : Fn) (first cap : Array Value) (w : World), (Instr.makeFunc fn first cap).run Try.prog w = .ok (.func fn first cap) w := fun _ _ _ _ => rfl
  have hany : zs.any (fun z => !inB z lo hi) = !(zs.all (fun z => inB z lo hi)) := by rw [List.any_eq_not_all_not]; simp
  have HA := Lib.hid hany
  clear hany
  have hb := below_alloc2 w (.cells #[.int .i64 lo] 2) (.cells #[.int .i64 hi] 2)
  have k1 : Blk ((w.alloc (.cells #[.int .i64 lo] 2)).alloc (.cells #[.int .i64 hi] 2)) w.heap.size 2 #[.int .i64 lo] := (blk_at rfl).alloc _
  have k2 : Blk ((w.alloc (.cells #[.int .i64 lo] 2)).alloc (.cells #[.int .i64 hi] 2)) (w.heap.size + 1) 2 #[.int .i64 hi] := blk_at (by simp)
  go_enter Try.func153, Try.ntmps153
  go_wp2_with fail
  refine (containsFunc_any 185 #[.pointer (some ⟨w.heap.size, 0, none⟩), .pointer (some ⟨w.heap.size + 1, 0, none⟩)] (fun z => !inB z lo hi) ao n c zs _ (h.below hb) (fun _ _ => by rfl)
    (fun j hj w' hb' => (areWithinFn_any _ lo hi w.heap.size (w.heap.size + 1) w' ((k1.belowS hb').cell 0) ((k2.belowS hb').cell 0)).mono ?_)).mono ?_
  · rintro e w1 ⟨rfl, rfl⟩; exact ⟨rfl, Below.refl _ _⟩
  rintro e w1 ⟨rfl, hb1⟩
  go_wp2
  go_ret
  exact ⟨ret_bool (by rw [HA.out]; simp), hb.trans (hb1.mono hb.size)⟩

set_option maxHeartbeats 400000 in
theorem isLetters_any (g : Int) (ao : Option Addr) (n c : Nat) (zs : List Int) (w : World) (h : Ints w ao n zs) (hg0 : 0 ≤ g) (hg1 : g ≤ 1000) :
    Calls Try.prog 166 #[.slice ao n c, .int .i64 g] w fun e w' => e = .returned (.bool (isWordTo (g - 1) zs)) ∧ Below w.heap.size w w' := by
  have HL := Lib.hid h.1
  have hn := h.2.1
  by_cases hs : n ≤ 64
  · have h1 : decide ((n : Int) ≤ 64) = true := by simp; omega
    go_enter Try.func166, Try.ntmps166
    go_wp2_with fail
    refine (areWithin_any ao n c zs _ _ _ h).mono ?_
    rintro e w1 ⟨rfl, hb1⟩
    go_wp2
    go_ret
    exact ⟨ret_bool (by unfold isWordTo; rw [HL.out]; simp [hs]), hb1⟩
  · have h1 : decide ((n : Int) ≤ 64) = false := by simp; omega
    go_enter Try.func166, Try.ntmps166
    go_wp2
    go_ret
    exact ⟨ret_bool (by unfold isWordTo; rw [HL.out]; simp; intro; omega), Below.refl _ _⟩

/-- the first index at which p holds, or -1 -/
def findL (p : List Int → Bool) (zss : List (List Int)) : Int := match zss.findIdx? p with | some i => i | none => -1
theorem findL_none {p : List Int → Bool} {zss : List (List Int)} (h : zss.any p = false) : findL p zss = -1 := by
  have : zss.findIdx? p = none := by rw [List.findIdx?_eq_none_iff]; intro x hx; have := (List.any_eq_false.1 h) x hx; simpa using this
  simp [findL, this]
theorem findL_some {p : List Int → Bool} {zss : List (List Int)} {k : Nat} (hk : k < zss.length) (hn : (zss.take k).any p = false) (hp : p (lget zss k) = true) : findL p zss = k := by
  have : zss.findIdx? p = some k := by
    rw [List.findIdx?_eq_some_iff_getElem]
    refine ⟨hk, by rw [← lget_lt hk]; exact hp, fun j hj => ?_⟩
    have hx : zss[j]'(by omega) ∈ zss.take k := by rw [List.mem_take_iff_getElem]; exact ⟨j, by omega, rfl⟩
    have := (List.any_eq_false.1 hn) _ hx
    simpa using this
  simp [findL, this]
theorem findL_any (p : List Int → Bool) (zss : List (List Int)) : decide (0 ≤ findL p zss) = zss.any p := by
  cases h : zss.any p with
  | false => rw [findL_none h]; rfl
  | true =>
    rw [decide_eq_true_iff]
    unfold findL
    cases h2 : zss.findIdx? p with
    | some i => exact Int.natCast_nonneg i
    | none =>
      rw [List.findIdx?_eq_none_iff] at h2
      obtain ⟨x, hx, hp⟩ := List.any_eq_true.1 h
      have := h2 x hx
      simp [hp] at this

set_option maxHeartbeats 400000 in
theorem indexFuncL_any (fn : Nat) (cap : Array Value) (p : List Int → Bool) (ao : Option Addr) (n c : Nat) (zss : List (List Int)) (w : World) (h : Intss w ao n zss)
    (hcf : ∀ (args : Array Value) (w : World), (callFunc fn args).run Try.prog w = .ok (.enter fn args) w)
    (hf : ∀ j, j < n → ∀ w' a' n' c', Below w.heap.size w w' → Ints w' a' n' (lget zss j) → Calls Try.prog fn (#[.slice a' n' c'] ++ cap) w' fun e w'' => e = .returned (.bool (p (lget zss j))) ∧ Below w'.heap.size w' w'') :
    Calls Try.prog 195 #[.slice ao n c, .func (.func fn) #[] cap] w fun e w' => e = .returned (.int .i64 (findL p zss)) ∧ Below w.heap.size w w' := by
  have hn := h.2.1
  have HF := Lib.hid hf
  clear hf
  have HL := Lib.hid h.1
  go_enter Try.func195, Try.ntmps195
  go_wp2
  go_loopw [8] (fun i wr => ∃ k : Nat, k ≤ n ∧ i = .int .i64 k ∧ (zss.take k).any p = false ∧ Below w.heap.size w wr) (fun i _ => n - (intOf i).toNat)
  case atStart => exact ⟨0, Nat.zero_le _, rfl, by simp, Below.refl _ _⟩
  case round =>
    obtain ⟨k, hk, rfl, hpre, hb⟩ := hrel
    have HP := Lib.hid hpre
    clear hpre
    by_cases hlt : k < n
    · obtain ⟨b, off, a1, n1, c1, rfl, hc, hin⟩ := (h.below hb).at_ hlt
      have HI := Lib.hid hin
      clear h hin
      cases hp : p (lget zss k) with
      | true =>
        have HX := Lib.hid hp
        clear hp
        go_wp2_with fail
        refine (HF.out k hlt _ a1 n1 c1 hb HI.out).mono ?_
        rintro e w1 ⟨rfl, hb1⟩
        rw [HX.out]
        go_wp2
        go_ret
        exact ⟨ret_int (findL_some (by rw [HL.out]; exact hlt) HP.out HX.out).symm, hb.trans (hb1.mono hb.size)⟩
      | false =>
        have HX := Lib.hid hp
        clear hp
        go_wp2_with fail
        refine (HF.out k hlt _ a1 n1 c1 hb HI.out).mono ?_
        rintro e w1 ⟨rfl, hb1⟩
        rw [HX.out]
        go_wp2
        go_roundw
        case rel => exact ⟨k + 1, by omega, by go_num, by rw [any_take_lget (by rw [HL.out]; exact hlt), HP.out, HX.out]; rfl, hb.trans (hb1.mono hb.size)⟩
        case measure => simp [intOf]; omega
    · obtain rfl : k = n := by omega
      go_wp2
      go_ret
      exact ⟨ret_int (findL_none (by have := HP.out; rwa [List.take_of_length_le (Nat.le_of_eq HL.out)] at this)).symm, hb⟩

theorem containsFuncL_any (fn : Nat) (cap : Array Value) (p : List Int → Bool) (ao : Option Addr) (n c : Nat) (zss : List (List Int)) (w : World) (h : Intss w ao n zss)
    (hcf : ∀ (args : Array Value) (w : World), (callFunc fn args).run Try.prog w = .ok (.enter fn args) w)
    (hf : ∀ j, j < n → ∀ w' a' n' c', Below w.heap.size w w' → Ints w' a' n' (lget zss j) → Calls Try.prog fn (#[.slice a' n' c'] ++ cap) w' fun e w'' => e = .returned (.bool (p (lget zss j))) ∧ Below w'.heap.size w' w'') :
    Calls Try.prog 164 #[.slice ao n c, .func (.func fn) #[] cap] w fun e w' => e = .returned (.bool (zss.any p)) ∧ Below w.heap.size w w' := by
  have HF := Lib.hid hf
  clear hf
  go_enter Try.func164, Try.ntmps164
  go_wp2_with fail
  refine (indexFuncL_any fn cap p ao n c zss w h hcf HF.out).mono ?_
  rintro e w1 ⟨rfl, hb1⟩
  go_wp2
  go_ret
  exact ⟨ret_bool (findL_any p zss), hb1⟩

/-- no relator: not a word, or empty -/
def badRel (g : Int) (zs : List Int) : Bool := !(isWordTo (g - 1) zs && decide (1 ≤ zs.length))

set_option maxHeartbeats 400000 in
theorem isPresFn_any (g : Int) (b : Nat) (ao : Option Addr) (n c : Nat) (zs : List Int) (w : World) (h : Ints w ao n zs) (hg0 : 0 ≤ g) (hg1 : g ≤ 1000) (hc : w.cell? ⟨b, 0, none⟩ = some (.int .i64 g)) :
    Calls Try.prog 194 #[.slice ao n c, .pointer (some ⟨b, 0, none⟩)] w fun e w' => e = .returned (.bool (badRel g zs)) ∧ Below w.heap.size w w' := by
  have HL := Lib.hid h.1
  have hn := h.2.1
  by_cases h0 : n = 0
  · have e0 : ((n : Int) == 0) = true := by simp; omega
    have H0 := Lib.hid h0
    clear h0
    go_enter Try.func194, Try.ntmps194
    go_wp2
    go_ret
    exact ⟨ret_bool (by unfold badRel; rw [HL.out, H0.out]; simp), Below.refl _ _⟩
  · have e0 : ((n : Int) == 0) = false := by simp; omega
    have hz : decide (1 ≤ n) = true := by simp; omega
    have HZ := Lib.hid hz
    clear hz
    go_enter Try.func194, Try.ntmps194
    go_wp2_with fail
    refine (isLetters_any g ao n c zs _ h hg0 hg1).mono ?_
    rintro e w1 ⟨rfl, hb1⟩
    go_wp2
    go_ret
    exact ⟨ret_bool (by unfold badRel; rw [HL.out, HZ.out]; simp), hb1⟩

set_option maxHeartbeats 400000 in
set_option maxRecDepth 100000 in
theorem isPresentation_any {v : Value} {d : PresD} (w : World) (h : RdP w v d) :
    Calls Try.prog 163 #[v] w fun e w' => e = .returned (.bool (isPres d)) ∧ Below w.heap.size w w' := by
  obtain ⟨ao, n, c, rfl, hi⟩ := h
  have hmf : ∀ (fn : Fn) (first cap : Array Value) (w : World), (Instr.makeFunc fn first cap).run Try.prog w = .ok (.func fn first cap) w := fun _ _ _ _ => rfl
  have hn := hi.2.1
  have HL := Lib.hid hi.1
  have hb := below_alloc1 w (.cells #[.int .i64 d.1, .slice ao n c] 75)
  have kb : Blk (w.alloc (.cells #[.int .i64 d.1, .slice ao n c] 75)) w.heap.size 75 #[.int .i64 d.1, .slice ao n c] := blk_at rfl
  cases hg : inB d.1 1 5 with
  | true =>
    have HX := Lib.hid hg
    have hg' := inB_true.1 hg
    have hany : d.2.any (badRel d.1) = !(d.2.all (fun zs => isWordTo (d.1 - 1) zs && decide (1 ≤ zs.length))) := by
      rw [List.any_eq_not_all_not]; congr 2; funext zs; unfold badRel; exact Bool.not_not _
    have HA := Lib.hid hany
    clear hg hany
    by_cases hs : n ≤ 24
    · have h1 : decide ((n : Int) ≤ 24) = true := by simp; omega
      go_enter Try.func163, Try.ntmps163
      go_wp2_with (go_at_call 84; refine (within_any _ _ _ _).mono ?_; rintro e w' ⟨rfl, rfl⟩; rw [HX.out])
      refine (containsFuncL_any 194 #[.pointer (some ⟨w.heap.size, 0, none⟩)] (badRel d.1) ao n c d.2 _ (hi.below hb) (fun _ _ => by rfl)
        (fun j hj w' a' n' c' hb' hin => isPresFn_any d.1 w.heap.size a' n' c' _ w' hin (by omega) (by omega) ((kb.belowS hb').cell 0))).mono ?_
      rintro e w1 ⟨rfl, hb1⟩
      go_wp2
      go_ret
      exact ⟨ret_bool (by rw [HA.out, isPres_in HX.out]; unfold wordsTo; rw [HL.out]; simp [hs]), hb.trans (hb1.mono hb.size)⟩
    · have h1 : decide ((n : Int) ≤ 24) = false := by simp; omega
      go_enter Try.func163, Try.ntmps163
      go_wp2_with (go_at_call 84; refine (within_any _ _ _ _).mono ?_; rintro e w' ⟨rfl, rfl⟩; rw [HX.out])
      go_ret
      exact ⟨ret_bool (by rw [isPres_in HX.out]; unfold wordsTo; rw [HL.out]; simp; intro; omega), hb⟩
  | false =>
    have HX := Lib.hid hg
    clear hg
    go_enter Try.func163, Try.ntmps163
    go_wp2_with (go_at_call 84; refine (within_any _ _ _ _).mono ?_; rintro e w' ⟨rfl, rfl⟩; rw [HX.out])
    go_ret
    exact ⟨ret_bool (isPres_out HX.out).symm, hb⟩
end Go.Proofs.Ytnfkhgamnapgmaa

/- Permutations: the program's isPermutation and the reference's l01Perm compute one Bool. -/
namespace Go.Proofs.Ytnfkhgamnapgmaa
open Go.RowKit

end Go.Proofs.Ytnfkhgamnapgmaa

/- What a permutation's numbers are. No program in sight. -/
namespace Go.Proofs.Ytnfkhgamnapgmaa

end Go.Proofs.Ytnfkhgamnapgmaa

/- Lists of points and of marks; lists that lead points. No program in sight. -/
namespace Go.Proofs.Ytnfkhgamnapgmaa

/-- where a word leads a point -/
def leadL (qs : List (List Int)) (c : Int) (w : List Int) : Int := w.foldl (fun c g => iget (lget qs g.toNat) c.toNat) c
/-- each list holds m points, each leads within them -/
structure Leads (qs : List (List Int)) (m : Nat) : Prop where
  len : ∀ k, k < qs.length → (lget qs k).length = m
  within : ∀ k, k < qs.length → ∀ x, x < m → 0 ≤ iget (lget qs k) x ∧ iget (lget qs k) x < m
theorem Leads.lead {qs : List (List Int)} {m : Nat} (h : Leads qs m) {c : Int} (hc : 0 ≤ c ∧ c < m) {w : List Int} (hw : ∀ z ∈ w, 0 ≤ z ∧ z < qs.length) : 0 ≤ leadL qs c w ∧ leadL qs c w < m := by
  induction w generalizing c with
  | nil => exact hc
  | cons g r ih =>
    have h1 := hw g (List.mem_cons_self ..)
    have h2 := h.within g.toNat (by omega) c.toNat (by omega)
    exact ih h2 fun z hz => hw z (List.mem_cons_of_mem _ hz)

end Go.Proofs.Ytnfkhgamnapgmaa

/- Words that lead points through permutations: l11Lead, applied, then, isIdentity, arePermutations. -/
namespace Go.Proofs.Ytnfkhgamnapgmaa
open Go.RowKit

end Go.Proofs.Ytnfkhgamnapgmaa

/- holdIn: whether permutations hold a presentation. -/
namespace Go.Proofs.Ytnfkhgamnapgmaa
open Go.RowKit

end Go.Proofs.Ytnfkhgamnapgmaa

/- A region that draws its order, whose operations only read and whose callees make new memory alone: one walk, in the order of the text. (The steps are printed by fill.py out of the mark CALM.) -/
namespace Go.Proofs.Ytnfkhgamnapgmaa
open Go.RowKit

section
variable {P : Program} {ops : Array Oper} {C : World → Prop} {o : Oper} {a : Act} {K : Act → Prop}
end

end Go.Proofs.Ytnfkhgamnapgmaa

/- HoldIn, the reference's. -/
namespace Go.Proofs.Ytnfkhgamnapgmaa
open Go.RowKit

theorem isPres_gens {d : PresD} (h : isPres d = true) : 1 ≤ d.1 ∧ d.1 ≤ 5 := by
  cases hg : inB d.1 1 5 with
  | false => rw [isPres_out hg] at h; cases h
  | true => exact inB_true.1 hg
end Go.Proofs.Ytnfkhgamnapgmaa

/- The code of WithRelators: l11Code, subgroupCode. -/
namespace Go.Proofs.Ytnfkhgamnapgmaa
open Go.RowKit

/-- a presentation and words in its letters -/
def withOk (d : PresD) (ws : List (List Int)) : Bool := isPres d && wordsTo d.1 0 ws
def withC (d : PresD) (ws : List (List Int)) : Int := if withOk d ws = true then 0 else 1

set_option maxRecDepth 100000 in
set_option maxHeartbeats 800000 in
theorem specCode_any {v : Value} {d : PresD} (ao : Option Addr) (n c : Nat) (ws : List (List Int)) (w : World) (h : RdP w v d) (h' : Intss w ao n ws) :
    Calls Try.prog 121 #[v, .slice ao n c] w fun e w' => e = .returned (.int .i64 (withC d ws)) ∧ Below w.heap.size w w' := by
  obtain ⟨ro, rn, rc, rfl, hr⟩ := h
  have hb := below_alloc1 w (.cells #[.int .i64 d.1, .slice ro rn rc] 75)
  have kb : Blk (w.alloc (.cells #[.int .i64 d.1, .slice ro rn rc] 75)) w.heap.size 75 #[.int .i64 d.1, .slice ro rn rc] := blk_at rfl
  have hp0 : RdP (w.alloc (.cells #[.int .i64 d.1, .slice ro rn rc] 75)) (.agg #[.int .i64 d.1, .slice ro rn rc]) d := ⟨ro, rn, rc, rfl, hr.below hb⟩
  cases hp : isPres d with
  | false =>
    have HP := Lib.hid hp
    have hC : withC d ws = 1 := by unfold withC withOk; rw [hp]; rfl
    rw [hC]
    clear hp hC
    go_enter Try.func121, Try.ntmps121
    go_wp2_with fail
    refine (spec11Is_any _ hp0).mono ?_
    rintro e w1 ⟨rfl, b1⟩
    rw [HP.out]
    go_wp2_with fail
    go_ret
    exact ⟨rfl, below_tr b1 hb⟩
  | true =>
    have hg := isPres_gens hp
    have HP := Lib.hid hp
    clear hp
    go_enter Try.func121, Try.ntmps121
    go_wp2_with fail
    refine (spec11Is_any _ hp0).mono ?_
    rintro e w1 ⟨rfl, b1⟩
    rw [HP.out]
    have B1 := below_tr b1 hb
    have y0 : w1.cell? ⟨w.heap.size, 0, none⟩ = some (.int .i64 d.1) := (kb.belowS b1).cell 0
    have h1 := h'.below B1
    clear hp0 kb hb b1 hr h'
    cases hw : wordsTo d.1 0 ws with
    | false =>
      have HW := Lib.hid hw
      have hC : withC d ws = 1 := by unfold withC withOk; rw [hw]; simp
      have HC := Lib.hid hC
      clear hw hC
      go_wp2_with (go_at_call 171; refine (spec11Words_any d.1 0 ao n c ws _ h1 (by omega) (by omega)).mono ?_; rintro e w' ⟨rfl, rfl⟩; rw [HW.out])
      go_ret
      exact ⟨ret_int HC.out.symm, B1⟩
    | true =>
      have HW := Lib.hid hw
      have hC : withC d ws = 0 := by unfold withC withOk; rw [hw, HP.out]; rfl
      have HC := Lib.hid hC
      clear hw hC
      go_wp2_with (go_at_call 171; refine (spec11Words_any d.1 0 ao n c ws _ h1 (by omega) (by omega)).mono ?_; rintro e w' ⟨rfl, rfl⟩; rw [HW.out])
      go_ret
      exact ⟨ret_int HC.out.symm, B1⟩

set_option maxHeartbeats 400000 in
theorem codeFn_any (b0 : Nat) (g : Int) (ap : Option Addr) (np cp : Nat) (q : List Int) (w : World) (hc : w.cell? ⟨b0, 0, none⟩ = some (.int .i64 g)) (hq : Ints w ap np q) (hg0 : 0 ≤ g) (hg1 : g ≤ 1000) :
    Calls Try.prog 165 #[.slice ap np cp, .pointer (some ⟨b0, 0, none⟩)] w fun e w' => e = .returned (.bool (!isWordTo (g - 1) q)) ∧ Below w.heap.size w w' := by
  go_enter Try.func165, Try.ntmps165
  go_wp2_with fail
  refine (isLetters_any g ap np cp q _ hq hg0 hg1).mono ?_
  rintro e w1 ⟨rfl, b1⟩
  go_wp2
  go_ret
  exact ⟨rfl, b1⟩

theorem words_any (g : Int) (ws : List (List Int)) : ws.any (fun q => !isWordTo (g - 1) q) = !(ws.all fun q => isWordTo (g - 1) q) := by
  rw [List.any_eq_not_all_not]; simp
theorem wordsTo_0 (g : Int) (ws : List (List Int)) (h : ws.length ≤ 24) : wordsTo g 0 ws = ws.all fun q => isWordTo (g - 1) q := by
  unfold wordsTo; simp [h]

set_option maxRecDepth 100000 in
set_option maxHeartbeats 3200000 in
theorem implCode_any {v : Value} {d : PresD} (ao : Option Addr) (n c : Nat) (ws : List (List Int)) (w : World) (h : RdP w v d) (h' : Intss w ao n ws) :
    Calls Try.prog 118 #[v, .slice ao n c] w fun e w' => e = .returned (.int .i64 (withC d ws)) ∧ Below w.heap.size w w' := by
  obtain ⟨ro, rn, rc, rfl, hr⟩ := h
  have hmf : ∀ (fn : Fn) (first cap : Array Value) (w : World), (Instr.makeFunc fn first cap).run Try.prog w = .ok (.func fn first cap) w := fun _ _ _ _ => rfl
  have HL := Lib.hid h'.1
  have hn1 := h'.2.1
  have hb := below_alloc1 w (.cells #[.int .i64 d.1, .slice ro rn rc] 75)
  have kb : Blk (w.alloc (.cells #[.int .i64 d.1, .slice ro rn rc] 75)) w.heap.size 75 #[.int .i64 d.1, .slice ro rn rc] := blk_at rfl
  have KB := Lib.hid kb
  have hr1 : RdP (w.alloc (.cells #[.int .i64 d.1, .slice ro rn rc] 75)) (.agg #[.int .i64 d.1, .slice ro rn rc]) d := ⟨ro, rn, rc, rfl, hr.below hb⟩
  have h1 := h'.below hb
  have HB := Lib.hid hb
  clear kb hb hr h'
  cases hp : isPres d with
  | false =>
    have HP := Lib.hid hp
    have hC : withC d ws = 1 := by unfold withC withOk; rw [hp]; rfl
    have HC := Lib.hid hC
    clear hp hC
    go_enter Try.func118, Try.ntmps118
    go_wp2_with fail
    refine (isPresentation_any _ hr1).mono ?_
    rintro e w1 ⟨rfl, b1⟩
    rw [HP.out]
    have bq := b1
    go_wp2_with fail
    go_ret
    exact ⟨ret_int HC.out.symm, below_tr bq HB.out⟩
  | true =>
    have hg := isPres_gens hp
    have HP := Lib.hid hp
    clear hp
    by_cases hs : n ≤ 24
    · have hs1 : decide ((24 : Int) < n) = false := by simp; omega
      have hwo := wordsTo_0 d.1 ws (by rw [HL.out]; exact hs)
      cases hw : wordsTo d.1 0 ws with
      | false =>
        have hC : withC d ws = 1 := by unfold withC withOk; rw [hw]; simp
        have HC := Lib.hid hC
        have HA : Hid ((ws.any fun q => !isWordTo (d.1 - 1) q) = true) := Lib.hid (by rw [words_any, ← hwo, hw]; rfl)
        clear hw hC hwo
        go_enter Try.func118, Try.ntmps118
        go_wp2_with fail
        refine (isPresentation_any _ hr1).mono ?_
        rintro e w1 ⟨rfl, b1⟩
        rw [HP.out]
        have hc1 := (KB.out.belowS b1)
        have h2 := h1.below b1
        go_wp2_with fail
        refine (containsFuncL_any 165 #[.pointer (some ⟨w.heap.size, 0, none⟩)] (fun q => !isWordTo (d.1 - 1) q) ao n c ws _ h2 (fun _ _ => by rfl) (fun j hj w' a' n' c' hb' hi => codeFn_any w.heap.size d.1 a' n' c' _ w' ((hc1.belowS hb').cell 0) hi (by omega) (by omega))).mono ?_
        rintro e wq ⟨rfl, b2⟩
        rw [HA.out]
        have bq := below_tr b2 b1
        go_wp2_with fail
        go_ret
        exact ⟨ret_int HC.out.symm, below_tr bq HB.out⟩
      | true =>
        have hC : withC d ws = 0 := by unfold withC withOk; rw [hw, HP.out]; rfl
        have HC := Lib.hid hC
        have HA : Hid ((ws.any fun q => !isWordTo (d.1 - 1) q) = false) := Lib.hid (by rw [words_any, ← hwo, hw]; rfl)
        clear hw hC hwo
        go_enter Try.func118, Try.ntmps118
        go_wp2_with fail
        refine (isPresentation_any _ hr1).mono ?_
        rintro e w1 ⟨rfl, b1⟩
        rw [HP.out]
        have hc1 := (KB.out.belowS b1)
        have h2 := h1.below b1
        go_wp2_with fail
        refine (containsFuncL_any 165 #[.pointer (some ⟨w.heap.size, 0, none⟩)] (fun q => !isWordTo (d.1 - 1) q) ao n c ws _ h2 (fun _ _ => by rfl) (fun j hj w' a' n' c' hb' hi => codeFn_any w.heap.size d.1 a' n' c' _ w' ((hc1.belowS hb').cell 0) hi (by omega) (by omega))).mono ?_
        rintro e wq ⟨rfl, b2⟩
        rw [HA.out]
        have bq := below_tr b2 b1
        go_wp2_with fail
        go_ret
        exact ⟨ret_int HC.out.symm, below_tr bq HB.out⟩
    · have hs1 : decide ((24 : Int) < n) = true := by simp; omega
      have hC : withC d ws = 1 := by unfold withC withOk wordsTo; rw [decide_eq_false (by rw [HL.out]; exact hs)]; simp
      have HC := Lib.hid hC
      clear hC
      go_enter Try.func118, Try.ntmps118
      go_wp2_with fail
      refine (isPresentation_any _ hr1).mono ?_
      rintro e w1 ⟨rfl, b1⟩
      rw [HP.out]
      have bq := b1
      go_wp2_with fail
      go_ret
      exact ⟨ret_int HC.out.symm, below_tr bq HB.out⟩
end Go.Proofs.Ytnfkhgamnapgmaa

/- The presentation of a diagram: the reference's walk. -/
namespace Go.Proofs.Ytnfkhgamnapgmaa
open Go.RowKit

/-- the box of the result, the box of p, its relators -/
structure CoxSt (w wr : World) (N : Nat) (ao : Option Addr) (m c : Nat) (us : List Value) (ds : List (List Int)) : Prop where
  res : Blk wr w.heap.size 75 #[.int .i64 0, .slice none 0 0]
  box : Blk wr (w.heap.size + 1) 75 #[.int .i64 N, .slice ao m c]
  row : OwR (OwS 2) wr (w.heap.size + 2) wr.heap.size 22 ao m c us ds
  size : w.heap.size + 2 ≤ wr.heap.size
  below : Below w.heap.size w wr
  few : m ≤ 1000

theorem CoxSt.push {w wr w2 w3 w4 : World} {N m c' n1 c1 c2 : Nat} {ao' a1 ao2 : Option Addr} {us : List Value} {ds : List (List Int)} {zs : List Int} (st : CoxSt w wr N ao' m c' us ds) (hm : m + 1 ≤ 1000)
    (b2 : Below wr.heap.size wr w2) (o1 : Own w2 wr.heap.size 2 a1 n1 c1 (zs.map (Value.int .i64))) (b3 : Below w2.heap.size w2 w3) (o4 : Own w4 (w.heap.size + 2) 22 ao2 (m + 1) c2 (us ++ [.slice a1 n1 c1]))
    (g4 : w3.grownBy w4 (bk ao')) (hat : bk ao2 = bk ao' ∨ bk ao2 = some w3.heap.size) :
    CoxSt w (w4.setCell ⟨w.heap.size + 1, 1, none⟩ (.slice ao2 (m + 1) c2)) N ao2 (m + 1) c2 (us ++ [.slice a1 n1 c1]) (ds ++ [zs]) := by
  have hR := rows_push st.row st.size b2 o1 b3 o4 g4 hat
  have hsz := st.size
  have s2 := b2.size
  have s3 := b3.size
  have s4 := g4.size
  have B4 : Below (w.heap.size + 2) wr w4 := ((b2.trans (b3.mono s2)).mono hsz).grown g4 (by omega) (fun g hg => (st.row.own.lt g hg).1)
  have hh : (w4.setCell ⟨w.heap.size + 1, 1, none⟩ (.slice ao2 (m + 1) c2)).heap.size = w4.heap.size := by simp [World.setCell]
  refine ⟨(st.res.below B4 (by omega)).far (by simp) _, ?_, ?_, by rw [hh]; omega, (st.below.trans (B4.mono (by omega))).setCell (by simp) _, hm⟩
  · have := (st.box.below B4 (by omega)).set_ 1 (.slice ao2 (m + 1) c2)
    simpa using this
  · rw [hh]
    exact hR.same (innerS _) fun g h1 _ _ => Below.heap_setCell _ _ _ _ (by simp; omega)

theorem CoxSt.done {w wr : World} {N m c' : Nat} {ao' : Option Addr} {us : List Value} {ds : List (List Int)} (st : CoxSt w wr N ao' m c' us ds) :
    Blk ((wr.setCell ⟨w.heap.size, 0, none⟩ (.int .i64 N)).setCell ⟨w.heap.size, 1, none⟩ (.slice ao' m c')) w.heap.size 75 #[.int .i64 N, .slice ao' m c'] ∧
    OwR (OwS 2) ((wr.setCell ⟨w.heap.size, 0, none⟩ (.int .i64 N)).setCell ⟨w.heap.size, 1, none⟩ (.slice ao' m c')) (w.heap.size + 2) ((wr.setCell ⟨w.heap.size, 0, none⟩ (.int .i64 N)).setCell ⟨w.heap.size, 1, none⟩ (.slice ao' m c')).heap.size 22 ao' m c' us ds ∧
    Below w.heap.size w ((wr.setCell ⟨w.heap.size, 0, none⟩ (.int .i64 N)).setCell ⟨w.heap.size, 1, none⟩ (.slice ao' m c')) := by
  have hh : ((wr.setCell ⟨w.heap.size, 0, none⟩ (.int .i64 N)).setCell ⟨w.heap.size, 1, none⟩ (.slice ao' m c')).heap.size = wr.heap.size := by simp [World.setCell]
  refine ⟨?_, ?_, (st.below.setCell (by simp) _).setCell (by simp) _⟩
  · have := (st.res.set_ 0 (.int .i64 N)).set_ 1 (.slice ao' m c')
    simpa using this
  · rw [hh]
    exact st.row.same (innerS _) fun g h1 _ _ => by rw [Below.heap_setCell _ _ _ _ (by simp; omega), Below.heap_setCell _ _ _ _ (by simp; omega)]

end Go.Proofs.Ytnfkhgamnapgmaa

/- slices.Clone at []int64. -/
namespace Go.Proofs.Ytnfkhgamnapgmaa
open Go.RowKit

set_option maxHeartbeats 400000 in
theorem clone_any (ao : Option Addr) (n c : Nat) (zs : List Int) (w : World) (h : Ints w ao n zs) (hn : n ≤ 1048576) :
    Calls Try.prog 168 #[.slice ao n c] w fun e w' => ∃ ao' c', e = .returned (.slice ao' n c') ∧ Own w' w.heap.size 2 ao' n c' (zs.map (Value.int .i64)) ∧ Below w.heap.size w w' := by
  have he := fun (w : World) => Lib.run_eql_slice_nil (P := Try.prog) w 22 2 ao n c 0 0 Try.underlying22
  cases ao with
  | none =>
    obtain ⟨rfl, rfl⟩ := h.of_none
    go_enter Try.func168, Try.ntmps168
    go_wp2
    go_ret
    exact ⟨_, _, rfl, Own.nil_ _ _ _, Below.refl _ _⟩
  | some ad =>
    have h2 : Ints (w.alloc (.cells #[] 2)) (some ad) n zs := h.below ((Below.refl _ _).alloc (Nat.le_refl _) _)
    have H2 := Lib.hid h2
    clear h2
    go_enter Try.func168, Try.ntmps168
    go_wp2_with (at_builtin; refine wpList_apN etI _ rfl _ _ rfl w.heap.size _ 0 0 [] rfl (Own.empty_ w _ (Nat.le_refl _)) (some ad) n c zs rfl H2.out (by omega) (by simp) ?_; intro ao2 c2 w2 ho2 hg2 hblk)
    go_ret
    refine ⟨_, _, rfl, by simpa using ho2, ((Below.refl _ _).alloc (Nat.le_refl _) _).grown hg2 (by simp) (fun g hg => ?_)⟩
    simp [bk] at hg; omega
end Go.Proofs.Ytnfkhgamnapgmaa

/- withRelators, the program's. -/
namespace Go.Proofs.Ytnfkhgamnapgmaa
open Go.RowKit

def neL (zss : List (List Int)) : List (List Int) := zss.filter fun z => decide (0 < z.length)
theorem neL_succ {zss : List (List Int)} {k : Nat} (h : k < zss.length) : neL (zss.take (k + 1)) = neL (zss.take k) ++ (if 0 < (lget zss k).length then [lget zss k] else []) := by
  unfold neL
  rw [take_lget h, List.filter_append]
  congr 1
  by_cases e : 0 < (lget zss k).length
  · rw [if_pos e, List.filter_cons_of_pos (by simpa using e)]; rfl
  · rw [if_neg e, List.filter_cons_of_neg (by simpa using e)]; rfl
/-- the heads stay, and the row of the result does not lie over them -/
def HeadsA (w0 : World) (lo : Nat) (w : World) (al : Option Addr) (n : Nat) (Z : List (List Int)) (ao : Option Addr) : Prop := 0 < n → ∃ b, al = some ⟨b, 0, none⟩ ∧ lo ≤ b ∧ b < w.heap.size ∧ bk ao ≠ some b ∧ ∀ j, j < n → ∃ u, w.cell? ⟨b, j, none⟩ = some u ∧ RdS w0 u (lget Z j)
theorem HeadsZ.start {w0 w : World} {lo n : Nat} {al : Option Addr} {Z : List (List Int)} (h : HeadsZ w0 lo w al n Z) : HeadsA w0 lo w al n Z none := fun h0 => by
  obtain ⟨b, e, h1, h2, h3⟩ := h h0
  exact ⟨b, e, h1, h2, by simp [bk], h3⟩
theorem HeadsA.push {w0 wr w2 w3 w4 : World} {lo n : Nat} {al ao' ao2 : Option Addr} {Z : List (List Int)} (h : HeadsA w0 lo wr al n Z ao') (b2 : Below wr.heap.size wr w2) (b3 : Below w2.heap.size w2 w3) (g4 : w3.grownBy w4 (bk ao')) (hat : bk ao2 = bk ao' ∨ bk ao2 = some w3.heap.size) {p : Addr} (hp : p.block < lo) (v : Value) :
    HeadsA w0 lo (w4.setCell p v) al n Z ao2 := fun h0 => by
  obtain ⟨b, e, h1, h2, h3, h4⟩ := h h0
  have s2 := b2.size
  have s3 := b3.size
  have s4 := g4.size
  refine ⟨b, e, h1, by simp [World.setCell]; omega, ?_, fun j hj => ?_⟩
  · rcases hat with e1 | e1
    · rw [e1]; exact h3
    · rw [e1]; intro e2; have := Option.some.inj e2; omega
  · obtain ⟨u, h5, h6⟩ := h4 j hj
    refine ⟨u, ?_, h6⟩
    rw [← h5]
    refine World.cell?_of_block ?_
    rw [Below.heap_setCell _ _ _ _ (by simp; omega), g4.block b (by omega) (fun e => h3 e.symm), b3.block b (by omega), b2.block b h2]
theorem HeadsA.at_ {w0 w : World} {lo n : Nat} {al ao : Option Addr} {Z : List (List Int)} (h : HeadsA w0 lo w al n Z ao) (hb : Below w0.heap.size w0 w) {k : Nat} (hk : k < n) : ∃ b a1 n1 c1, al = some ⟨b, 0, none⟩ ∧ w.cell? ⟨b, k, none⟩ = some (.slice a1 n1 c1) ∧ Ints w a1 n1 (lget Z k) := by
  obtain ⟨b, e, _, _, _, h4⟩ := h (by omega)
  obtain ⟨u, h5, a1, n1, c1, rfl, h6⟩ := h4 k hk
  exact ⟨b, a1, n1, c1, e, h5, h6.below hb⟩
theorem neL_len (zss : List (List Int)) : (neL zss).length ≤ zss.length := List.length_filter_le _ _
/-- at most 24 relators: they and code 0; more: nothing and code 3 -/
def wrK (Z : List (List Int)) : Int := if (neL Z).length ≤ 24 then 0 else 3
def wrV (N : Int) (Z : List (List Int)) : PresD := if (neL Z).length ≤ 24 then (N, neL Z) else (0, [])
set_option maxRecDepth 100000 in
set_option maxHeartbeats 3200000 in
theorem withI_any (N : Nat) (hN : N ≤ 5) (ap aw : Option Addr) (np cp nw cw : Nat) (R W : List (List Int)) (w : World) (h1 : Intss w ap np R) (h2 : Intss w aw nw W) (hR : np ≤ 24) (hW : nw ≤ 24) (hl : ∀ z ∈ R ++ W, z.length ≤ 1000) :
    Calls Try.prog 119 #[.agg #[.int .i64 N, .slice ap np cp], .slice aw nw cw] w fun e w' => ∃ v, e = .returned (.tuple #[v, .int .i64 (wrK (R ++ W))]) ∧ OwP 2 22 w' w.heap.size w'.heap.size v (wrV N (R ++ W)) ∧ Below w.heap.size w w' := by
  have hl1 := h1.1
  have hl2 := h2.1
  go_enter Try.func119, Try.ntmps119
  go_wp2_with fail
  obtain ⟨w1, hw1⟩ : ∃ w1, w1 = w.alloc (.cells #[.int .i64 N, .slice ap np cp] 75) := ⟨_, rfl⟩
  have hs1 : w1.heap.size = w.heap.size + 1 := by rw [hw1]; simp
  have hb1 : Below w.heap.size w w1 := by rw [hw1]; exact below_alloc1 _ _
  rw [← hw1]
  have r0 : Blk ((w1.alloc (.cells #[.int .i64 0, .slice none 0 0] 75)).alloc (.cells #[.int .i64 N, .slice none 0 0] 75)) w1.heap.size 75 #[.int .i64 0, .slice none 0 0] := (blk_at rfl).alloc _
  have r1 : Blk ((w1.alloc (.cells #[.int .i64 0, .slice none 0 0] 75)).alloc (.cells #[.int .i64 N, .slice none 0 0] 75)) (w1.heap.size + 1) 75 #[.int .i64 N, .slice none 0 0] := blk_at (by simp)
  rw [← hs1]
  have k0 : (((w1.alloc (.cells #[.int .i64 0, .slice none 0 0] 75)).alloc (.cells #[.int .i64 N, .slice none 0 0] 75)).alloc (.cells #[.slice ap np cp, .slice aw nw cw] 23)).cell? ⟨w1.heap.size + 1 + 1, 0, none⟩ = some (.slice ap np cp) := (blk_at (by simp)).cell 0
  have k1 : (((w1.alloc (.cells #[.int .i64 0, .slice none 0 0] 75)).alloc (.cells #[.int .i64 N, .slice none 0 0] 75)).alloc (.cells #[.slice ap np cp, .slice aw nw cw] 23)).cell? ⟨w1.heap.size + 1 + 1, 1, none⟩ = some (.slice aw nw cw) := (blk_at (by simp)).cell 1
  have hb2 : Below w1.heap.size w1 (((w1.alloc (.cells #[.int .i64 0, .slice none 0 0] 75)).alloc (.cells #[.int .i64 N, .slice none 0 0] 75)).alloc (.cells #[.slice ap np cp, .slice aw nw cw] 23)) := (below_alloc2 _ _ _).alloc (by simp; omega) _
  refine (concat_any w _ 2 ap aw np cp nw cw R W _ k0 k1 (hb1.trans (hb2.mono (by omega))) h1 h2 (by omega) (by omega)).mono ?_
  rintro e wq ⟨al, cl, rfl, hz, bq⟩
  have bq2 := below_tr bq hb2
  have r2 := (r0.alloc (.cells #[.slice ap np cp, .slice aw nw cw] 23)).belowS bq
  have r3 := (r1.alloc (.cells #[.slice ap np cp, .slice aw nw cw] 23)).belowS bq
  have hsq := bq.size
  have hz2 := hz.start
  obtain ⟨Z, hZ⟩ : ∃ Z, Z = R ++ W := ⟨_, rfl⟩
  rw [← hZ] at hz2 hl
  have hlz : Z.length = np + nw := by rw [hZ, List.length_append]; omega
  have HZ := Lib.hid hZ
  have hn48 : np + nw ≤ 48 := by omega
  have hcast : ((np : Int) + (nw : Int)) = ((np + nw : Nat) : Int) := by omega
  clear hz h1 h2 hl1 hl2 k0 k1 r0 r1 hb2 bq hw1 hZ
  generalize np + nw = n at *
  have HW1 := Lib.hid (And.intro hs1 hb1)
  have HL := Lib.hid (And.intro hl hlz)
  clear hl hlz hb1 hs1
  have NS : neL (Z.take 0) = [] := rfl
  go_wp2_with fail
  go_loopw [18] (fun i wr => ∃ (k m : Nat) (ao' : Option Addr) (c' : Nat) (us : List Value), i = .int .i64 k ∧ k ≤ n ∧ CoxSt w1 wr N ao' m c' us (neL (Z.take k)) ∧ HeadsA w (w1.heap.size + 2) wr al n Z ao') (fun i _ => n - (intOf i).toNat)
  case atStart => exact ⟨0, 0, none, 0, [], rfl, Nat.zero_le _, ⟨r2, r3, by rw [NS]; exact OwR.empty_ (Own.nil_ _ _ _) (fun g hg => by cases hg), by simp at hsq ⊢; omega, bq2, by omega⟩, fun h0 => by obtain ⟨b, e, h1, h2⟩ := hz2 h0; exact ⟨b, e, by simp at h1; omega, h2⟩⟩
  case round =>
    obtain ⟨k, m, ao', c', us, rfl, hk, st, hh⟩ := hrel
    clear r2 r3 hz2 bq2 hsq NS
    have hbw : Below w.heap.size w wr := HW1.out.2.trans (st.below.mono (by have := HW1.out.1; omega))
    by_cases hlt : k < n
    · obtain ⟨b, a1, n1, c1, rfl, hc, hi⟩ := hh.at_ hbw hlt
      have x0 := st.box.cell 0
      have x1 := st.box.cell 1
      have f1 := st.box.frozen 1
      simp at x0 x1
      have ST := Lib.hid st
      have HH := Lib.hid hh
      have HT := Lib.hid (neL_succ (zss := Z) (k := k) (by have := HL.out.2; omega))
      have hil := hi.1
      have hmem : lget Z k ∈ Z := by rw [lget_lt (by have := HL.out.2; omega)]; exact List.getElem_mem _
      have hn1 : n1 ≤ 1000 := by have := HL.out.1 _ hmem; omega
      have hm : m + 1 ≤ 1000 := by have h1 := st.row.len; have h2 := neL_len (Z.take k); rw [List.length_take] at h2; omega
      have HM := Lib.hid hm
      have hI : Ints wr.drew a1 n1 (lget Z k) := hi.below (below_drew1 _)
      have HI := Lib.hid hI
      have hsz := st.size
      clear st hh hi hmem hm hbw hI
      by_cases h0 : 0 < n1
      · have HO : Hid ((if 0 < (lget Z k).length then [lget Z k] else []) = [lget Z k]) := Lib.hid (if_pos (by omega))
        clear hil
        go_wp2_with fail
        go_region_law (first | (refine step_ap1 (o := ⟨some 30, _, _, _, _, _⟩) etSS rfl (.tmp 26) (.tmp 29) rfl (w1.heap.size + 2) ao' m c' us rfl (ST.out.row.own.below B3) (.slice a2 n1 c2) w2.heap.size 1 rfl ((blk_at rfl).cell 0) rfl (by have := HM.out; omega) (by have := B3.size; simp at *; omega) ?_; intro ao2 c3 w4 o4 g4 hat; have B4S : Below (w1.heap.size + 2) wr w4 := (B3S.grown g4 (by have := B3.size; omega) (fun g hg => (ST.out.row.own.lt g hg).1)); have x4 : w4.cell? ⟨w1.heap.size + 1, 1, none⟩ = some (.slice ao' m c') := (ST.out.box.below B4S (by omega)).cell 1; have f4 : w4.frozen? ⟨w1.heap.size + 1, 1, none⟩ = false := (ST.out.box.below B4S (by omega)).frozen 1) | (go_simp; go_at_call 168; refine (clone_any a1 n1 c1 (lget Z k) _ HI.out (by omega)).mono ?_; rintro e w2 ⟨a2, c2, rfl, o1, b1⟩; have B2 : Below wr.heap.size wr w2 := below_tr b1 (below_drew1 _); have B2S := B2.mono hsz; have B3 : Below wr.heap.size wr (w2.alloc (.cells #[.slice a2 n1 c2] 22)) := B2.alloc B2.size _; have B3S := B3.mono hsz; have x2 : w2.cell? ⟨w1.heap.size + 1, 1, none⟩ = some (.slice ao' m c') := (ST.out.box.below B2S (by omega)).cell 1; have x3 : (w2.alloc (.cells #[.slice a2 n1 c2] 22)).cell? ⟨w1.heap.size + 1, 1, none⟩ = some (.slice ao' m c') := (ST.out.box.below B3S (by omega)).cell 1))
        all_goals
          have st2 := ST.out.push HM.out B2 (o1.mono (Nat.le_of_eq (by rfl))) (below_alloc1 _ _) o4 g4 hat
          have hh2 := HH.out.push B2 (below_alloc1 _ _) g4 hat (p := ⟨w1.heap.size + 1, 1, none⟩) (by simp) (.slice ao2 (m + 1) c3)
          have hs4 := B4S.size
          generalize w4.setCell ⟨w1.heap.size + 1, 1, none⟩ (.slice ao2 (m + 1) c3) = wf at *
          clear B2 B2S B3 B3S B4S x0 x1 x2 x3 x4 f1 f4 o1 b1 o4 g4 hat ST HH
          go_wp2_with fail
          go_roundw
          case rel => exact ⟨k + 1, m + 1, ao2, c3, _, by go_num, by omega, by rw [HT.out, HO.out]; exact st2, hh2⟩
          case measure => simp [intOf]; omega
      · have HO : Hid ((if 0 < (lget Z k).length then [lget Z k] else []) = []) := Lib.hid (if_neg (by omega))
        obtain rfl : n1 = 0 := by omega
        clear hil
        go_wp2_with fail
        go_roundw
        case rel => exact ⟨k + 1, m, ao', c', us, by go_num, by omega, by rw [HT.out, HO.out, List.append_nil]; exact ST.out, HH.out⟩
        case measure => simp [intOf]; omega
    · obtain rfl : k = n := by omega
      have x0 := st.box.cell 0
      have x1 := st.box.cell 1
      have y0 := st.res.cell 0
      have y1 := st.res.cell 1
      have f0 := st.res.frozen 0
      have f1 := st.res.frozen 1
      simp at x0 x1 y0 y1
      have hlen := st.row.len
      have hTZ : Z.take k = Z := List.take_of_length_le (by have := HL.out.2; omega)
      rw [hTZ] at st hlen
      have ST := Lib.hid st
      have HLEN := Lib.hid hlen
      clear st hh hbw hlen
      by_cases h24 : m ≤ 24
      · have c24 : decide ((m : Int) > 24) = false := by simp; omega
        have h24z : (neL Z).length ≤ 24 := by rw [HLEN.out]; exact h24
        have hK : wrK (R ++ W) = 0 := by rw [← HZ.out]; unfold wrK; rw [if_pos h24z]
        have hV : wrV N (R ++ W) = ((N : Int), neL Z) := by rw [← HZ.out]; unfold wrV; rw [if_pos h24z]
        have HK := Lib.hid (And.intro hK hV)
        clear hK hV h24z
        go_wp2_with fail
        have st2 := ST.out.done
        generalize (wr.setCell ⟨w1.heap.size, 0, none⟩ (.int .i64 N)).setCell ⟨w1.heap.size, 1, none⟩ (.slice ao' m c') = wf at *
        have e0 := st2.1.cell 0
        have e1 := st2.1.cell 1
        simp at e0 e1
        have hs1 := HW1.out.1
        refine bodyPost_ret (v := .tuple #[.agg #[.int .i64 N, .slice ao' m c'], .int .i64 0]) (by simp [results, Try.f119, go_sem, e0, e1]) rfl ⟨_, by rw [HK.out.1], ?_, HW1.out.2.trans (st2.2.2.mono (by omega))⟩
        rw [HK.out.2]
        exact ⟨ao', m, c', us, rfl, st2.2.1.mono (by omega) (Nat.le_refl _)⟩
      · have c24 : decide ((m : Int) > 24) = true := by simp; omega
        have h24z : ¬ (neL Z).length ≤ 24 := by rw [HLEN.out]; exact h24
        have hK : wrK (R ++ W) = 3 := by rw [← HZ.out]; unfold wrK; rw [if_neg h24z]
        have hV : wrV N (R ++ W) = (0, []) := by rw [← HZ.out]; unfold wrV; rw [if_neg h24z]
        have HK := Lib.hid (And.intro hK hV)
        clear hK hV h24z
        go_wp2_with fail
        have st2 := ((ST.out.res.set_ 0 (.int .i64 0)).set_ 1 (.slice none 0 0))
        have hbf := (ST.out.below.setCell (p := ⟨w1.heap.size, 0, none⟩) (by simp) (.int .i64 0)).setCell (p := ⟨w1.heap.size, 1, none⟩) (by simp) (.slice none 0 0)
        have hsf : w1.heap.size + 2 ≤ ((wr.setCell ⟨w1.heap.size, 0, none⟩ (.int .i64 0)).setCell ⟨w1.heap.size, 1, none⟩ (.slice none 0 0)).heap.size := by have := ST.out.size; simp [World.setCell]; omega
        generalize (wr.setCell ⟨w1.heap.size, 0, none⟩ (.int .i64 0)).setCell ⟨w1.heap.size, 1, none⟩ (.slice none 0 0) = wf at *
        have e0 := st2.cell 0
        have e1 := st2.cell 1
        simp at e0 e1
        have hs1 := HW1.out.1
        refine bodyPost_ret (v := .tuple #[.agg #[.int .i64 0, .slice none 0 0], .int .i64 3]) (by simp [results, Try.f119, go_sem, e0, e1]) rfl ⟨_, by rw [HK.out.1], ?_, HW1.out.2.trans (hbf.mono (by omega))⟩
        rw [HK.out.2]
        exact ⟨none, 0, 0, [], rfl, OwR.empty_ (Own.nil_ _ _ _) (fun g hg => by cases hg)⟩
end Go.Proofs.Ytnfkhgamnapgmaa
