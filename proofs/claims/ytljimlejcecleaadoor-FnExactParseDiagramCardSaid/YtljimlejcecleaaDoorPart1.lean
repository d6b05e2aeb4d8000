/- Words for the walks of this seat: integer slices that are read, rows that a call owns, and the walk's laws on make and append in those words. No program in sight. -/
import Derived.WalkKit
import Derived.WalkSpells
import Derived.WalkLawsBesides
import Derived.Lib.Hide
import Derived.BigQuiet
import Derived.Deep.QuietTactic
import Derived.Deep.Draws
import Derived.Deep.AppendLies
import Derived.Maps.AppendAt
import Derived.Test.YtljimlejcecleaaDoorRows
import Derived.ProofKit
import Derived.OpenShut
import Derived.SizedLaws
import Derived.ChangeSame
import Derived.Deep.Slices
import Derived.Test.YtljimlejcecleaaDoorProg
import Derived.Lib.Join
import Derived.Lib.ItoaNum
import Derived.Lib.ParseIntB
import Derived.Lib.SplitLaws
import Derived.RegionTactic
import Derived.Deep.RegionLaw
import Derived.Shelf.Strings.OnBuilder
import Derived.Shelf.Strconv.Itoa4
import Derived.Shelf.Strings.SplitShaped
import Derived.Shelf.Strconv.ErrVarParseInt
import Derived.Lib.AppendIntMem
import Derived.LaidMore
import Derived.LaidHandle
import Derived.LaidLaws
import Derived.MakeChecks
import Derived.Handed
namespace Go.Proofs.YtljimlejcecleaaDoor
open Go.RowKit

/-- element k of a list of integers, 0 behind its end; closed to the walk's simp -/
def iget (zs : List Int) (k : Nat) : Int := zs.getD k 0
theorem iget_lt {zs : List Int} {k : Nat} (h : k < zs.length) : iget zs k = zs[k] := by simp [iget, h]
theorem iget_mem {zs : List Int} {k : Nat} (h : k < zs.length) : iget zs k ∈ zs := by rw [iget_lt h]; exact List.getElem_mem h
theorem take_iget {zs : List Int} {k : Nat} (h : k < zs.length) : zs.take (k + 1) = zs.take k ++ [iget zs k] := by
  rw [List.take_succ_eq_append_getElem h, iget_lt h]
theorem all_take_iget {zs : List Int} {p : Int → Bool} {k : Nat} (h : k < zs.length) : (zs.take (k + 1)).all p = ((zs.take k).all p && p (iget zs k)) := by
  rw [take_iget h, List.all_append]; simp
theorem any_take_iget {zs : List Int} {p : Int → Bool} {k : Nat} (h : k < zs.length) : (zs.take (k + 1)).any p = ((zs.take k).any p || p (iget zs k)) := by
  rw [take_iget h, List.any_append]; simp
theorem all_false_at {zs : List Int} {p : Int → Bool} {k : Nat} (h : k < zs.length) (hp : p (iget zs k) = false) : zs.all p = false := by
  rw [List.all_eq_false]; exact ⟨_, iget_mem h, by simp [hp]⟩

/-- the block of a slice's address -/
def bk (ao : Option Addr) : Option Nat := ao.map (·.block)
theorem ownBlock_slice (ao : Option Addr) (n c : Nat) : (Value.slice ao n c).ownBlock = bk ao := by cases ao <;> rfl

/-- the slice at ao, of n cells, holds xs -/
def Vals (w : World) (ao : Option Addr) (n : Nat) (xs : List Value) : Prop :=
  xs.length = n ∧ n ≤ 17592186044416 ∧ (0 < n → ∃ b off, ao = some ⟨b, off, none⟩ ∧ ∀ j u, xs[j]? = some u → w.cell? ⟨b, off + j, none⟩ = some u)

/-- the slice at ao, of n integers, reads as zs -/
def Ints (w : World) (ao : Option Addr) (n : Nat) (zs : List Int) : Prop :=
  zs.length = n ∧ n ≤ 17592186044416 ∧ (0 < n → ∃ b off, ao = some ⟨b, off, none⟩ ∧ ∀ j, j < n → w.cell? ⟨b, off + j, none⟩ = some (.int .i64 (iget zs j)))

theorem Ints.at_ {w : World} {ao : Option Addr} {n : Nat} {zs : List Int} (h : Ints w ao n zs) {k : Nat} (hk : k < n) :
    ∃ b off, ao = some ⟨b, off, none⟩ ∧ w.cell? ⟨b, off + k, none⟩ = some (.int .i64 (iget zs k)) := by
  obtain ⟨b, off, e, hc⟩ := h.2.2 (by omega)
  exact ⟨b, off, e, hc k hk⟩
theorem Ints.all_ {w : World} {ao : Option Addr} {n : Nat} {zs : List Int} (h : Ints w ao n zs) (hn : 0 < n) :
    ∃ b off, ao = some ⟨b, off, none⟩ ∧ b < w.heap.size ∧ ∀ j, j < n → w.cell? ⟨b, off + j, none⟩ = some (.int .i64 (iget zs j)) := by
  obtain ⟨b, off, e, hc⟩ := h.2.2 hn
  exact ⟨b, off, e, World.block_lt_of_cell? w _ (hc 0 hn), hc⟩
theorem Ints.drewN {w : World} {ao : Option Addr} {n : Nat} {zs : List Int} (h : Ints w ao n zs) (m : Nat) : Ints (w.drewN m) ao n zs := h
theorem Ints.same {w w' : World} {ao : Option Addr} {n : Nat} {zs : List Int} (h : Ints w ao n zs) (hs : ∀ g, bk ao = some g → g < w.heap.size → w'.heap[g]? = w.heap[g]?) : Ints w' ao n zs := by
  refine ⟨h.1, h.2.1, fun hn => ?_⟩
  obtain ⟨b, off, rfl, hb, hc⟩ := h.all_ hn
  exact ⟨b, off, rfl, fun j hj => (World.cell?_of_block (hs b rfl hb)).trans (hc j hj)⟩
theorem Ints.below {w w' : World} {ao : Option Addr} {n : Nat} {zs : List Int} (h : Ints w ao n zs) (hb : Below w.heap.size w w') : Ints w' ao n zs :=
  h.same fun g _ hg => hb.block g hg
theorem Ints.nil_ (w : World) (ao : Option Addr) : Ints w ao 0 [] := ⟨rfl, by omega, fun h => absurd h (by omega)⟩

/-- the slice at ao, of n cells (one cell an element, of type E), owns the cells xs in a row of the call's own, from block 'base' on -/
def Own (w : World) (base E : Nat) (ao : Option Addr) (n c : Nat) (xs : List Value) : Prop :=
  w.ownsRow base E 1 (.slice ao n c) n xs ∧ n ≤ 4398046511104

section
variable {w w' : World} {base E : Nat} {ao : Option Addr} {n c : Nat} {xs : List Value} {row : Option Nat}
theorem Own.len (h : Own w base E ao n c xs) : xs.length = n := by have := h.1.1; omega
theorem Own.lt (h : Own w base E ao n c xs) : ∀ g, bk ao = some g → base ≤ g ∧ g < w.heap.size := by
  have := h.1.lt
  rw [ownBlock_slice] at this; exact this
theorem Own.drewN (h : Own w base E ao n c xs) (m : Nat) : Own (w.drewN m) base E ao n c xs := h
theorem Own.kept (h : Own w base E ao n c xs) (hg : w.grownBy w' row) (hne : bk ao = none ∨ bk ao ≠ row) : Own w' base E ao n c xs :=
  ⟨h.1.kept hg (by rw [ownBlock_slice]; exact hne), h.2⟩
theorem Own.same (h : Own w base E ao n c xs) (hs : ∀ g, bk ao = some g → w'.heap[g]? = w.heap[g]?) : Own w' base E ao n c xs := by
  refine ⟨⟨h.1.1, ?_⟩, h.2⟩
  rcases h.1.2 with h2 | ⟨g, cap, cur, hv, hg, hh, r⟩
  · exact Or.inl h2
  · refine Or.inr ⟨g, cap, cur, hv, hg, ?_, r⟩
    have : bk ao = some g := by injection hv with h1; subst h1; rfl
    rw [hs g this]; exact hh
theorem Own.below (h : Own w base E ao n c xs) (hb : Below w.heap.size w w') : Own w' base E ao n c xs :=
  h.same fun g hg => hb.block g (h.lt g hg).2
theorem Own.alloc (h : Own w base E ao n c xs) (o : Obj) : Own (w.alloc o) base E ao n c xs := ⟨h.1.alloc o, h.2⟩
theorem Own.mono (h : Own w base E ao n c xs) {base' : Nat} (hb : base' ≤ base) : Own w base' E ao n c xs := by
  refine ⟨⟨h.1.1, ?_⟩, h.2⟩
  rcases h.1.2 with h2 | ⟨g, cap, cur, hv, hg, r⟩
  · exact Or.inl h2
  · exact Or.inr ⟨g, cap, cur, hv, by omega, r⟩
/-- a slice that is not empty: the block, its cells, not frozen -/
theorem Own.form (h : Own w base E ao n c xs) (hn : 0 < n) : ∃ g, ao = some ⟨g, 0, none⟩ ∧ base ≤ g ∧ g < w.heap.size ∧ n ≤ c ∧ (∀ j, j < n → w.cell? ⟨g, j, none⟩ = xs[j]?) ∧ (∀ j, w.frozen? ⟨g, j, none⟩ = false) := by
  obtain ⟨g, cap, hv, hb, hlt⟩ := h.1.form hn
  injection hv with h1 _ h2
  subst h1 h2
  refine ⟨g, rfl, hb, hlt, ?_, fun j hj => h.1.cellAt j (by omega), fun j => h.1.frozenAt j⟩
  rcases h.1.2 with ⟨h2, _⟩ | ⟨g', cap', cur, hv, _, _, hnc, _⟩
  · cases h2
  · injection hv with _ _ h3; subst h3; exact hnc
theorem Own.stored {g : Nat} (h : Own w base E (some ⟨g, 0, none⟩) n c xs) (k : Nat) (u : Value) :
    Own (w.setCell ⟨g, k, none⟩ u) base E (some ⟨g, 0, none⟩) n c (xs.set k u) ∧ w.grownBy (w.setCell ⟨g, k, none⟩ u) (some g) :=
  ⟨⟨(h.1.stored k u).1, h.2⟩, (h.1.stored k u).2⟩
theorem Own.empty_ (w : World) {base : Nat} (E : Nat) (hb : base ≤ w.heap.size) : Own (w.alloc (.cells #[] E)) base E (some ⟨w.heap.size, 0, none⟩) 0 0 [] := ⟨World.ownsRow_made w #[] 0 hb (by simp [maxLen]) rfl, by omega⟩
theorem Own.nil_ (w : World) (base E : Nat) : Own w base E none 0 0 [] := ⟨World.ownsRow_nil w base E 1, by omega⟩
end

/-- what is owned and holds integers reads as them -/
theorem Own.ints {w : World} {base E : Nat} {ao : Option Addr} {n c : Nat} {zs : List Int} (h : Own w base E ao n c (zs.map (Value.int .i64))) : Ints w ao n zs := by
  have hl : zs.length = n := by have := h.len; simpa using this
  refine ⟨hl, by have := h.2; omega, fun hn => ?_⟩
  obtain ⟨g, rfl, _, _, _, hc, _⟩ := h.form hn
  refine ⟨g, 0, rfl, fun j hj => ?_⟩
  rw [Nat.zero_add, hc j hj, List.getElem?_map, List.getElem?_eq_getElem (by omega), iget_lt (by omega)]; rfl

/-- the row of the table of an element type of one cell -/
structure ET (P : Program) (S E : TypeId) (z : Value) (bytes : Nat) : Prop where
  und : P.underlying S = some (.slice E)
  info : (P.info? E).map (fun i => (i.zero, i.size, i.bytes)) = some (some z, 1, bytes)
  one : z.cells = #[z]
  small : bytes ≤ 32

theorem grown_tr {a b c : World} {row : Option Nat} (h : a.grownBy b row) (k : b.grownBy c row) : a.grownBy c row :=
  ⟨k.os.trans h.os, k.tape.trans h.tape, k.output.trans h.output, Nat.le_trans h.size k.size, fun i hi hne => (k.block i (Nat.lt_of_lt_of_le hi h.size) hne).trans (h.block i hi hne)⟩
theorem below_drewN {B : Nat} {a w : World} (h : Below B a w) (n : Nat) : Below B a (w.drewN n) := ⟨h.os, h.tape, h.output, h.size, h.block⟩
theorem below_of_quiet {B : Nat} {w w' : World} (h : ∃ m, w' = w.drewN m) : Below B w w' := by
  obtain ⟨m, rfl⟩ := h; exact below_drewN (Below.refl _ _) m

section
variable {P : Program} {ops : Array Oper} {rest : List Oper} {o : Oper} {a : Act} {Q : Exit → Act → World → Prop}

/-- append(s, x) of one element: x lies in a block of its own, just laid -/
theorem wpList_ap1 {S E : TypeId} {z : Value} {bytes : Nat} (et : ET P S E z bytes) (w : World) (hg : o.guard = none) (s x : Operand) (ho : o.op = .call { callee := .builtin .append, args := #[s, x], argTypes := #[S, S] })
    (base : Nat) (ao : Option Addr) (n c : Nat) (xs : List Value) (hs : a.eval s = .slice ao n c) (hown : Own w base E ao n c xs) (u : Value)
    (hx : a.eval x = .slice (some ⟨w.heap.size, 0, none⟩) 1 1) (hu : u.oneCell' = true) (hn : n + 1 ≤ 4398046511104) (hbase : base ≤ w.heap.size)
    (hK : ∀ ao' c' w', Own w' base E ao' (n + 1) c' (xs ++ [u]) → w.grownBy w' (bk ao) → (bk ao' = bk ao ∨ bk ao' = some (w.heap.size + 1)) → wpList P ops Q rest (a.put o.dst (.slice ao' (n + 1) c')) w') :
    wpList P ops Q (o :: rest) a (w.alloc (.cells #[u] E)) := by
  obtain ⟨i, hi, hz, hsz, hby⟩ := info_parts et.info
  refine wpList_append_own_at _ hg s x S ho base E i z 1 bytes et.und hi hz hsz hby (by rw [et.one]; rfl) (by omega) (.slice ao n c) n xs hs (hown.1.alloc _) ⟨w.heap.size, 0, none⟩ 1 1 [u] hx rfl (cell_one_new _ _ _)
    (by intro v hv; simp at hv; subst hv; exact hu) (by simp [maxLen]; omega) (by have := et.small; have : (n + 1) * bytes ≤ (n + 1) * 32 := Nat.mul_le_mul_left _ this; omega) (by simp; omega) ?_
  intro v' w' h1 h2 _ h4
  rw [ownBlock_slice] at h2 h4
  obtain ⟨g, cap, rfl, hb, hlt⟩ := h1.form (by omega)
  refine hK _ _ _ ⟨h1, hn⟩ (grown_tr (World.grownBy_alloc w _ _) h2) ?_
  rw [ownBlock_slice] at h4
  simpa using h4

end

/-- only blocks from lo to below hi, and new ones, may have turned -/
structure Only (lo hi : Nat) (w w' : World) : Prop where
  os : w'.os = w.os
  tape : w'.tape = w.tape
  output : w'.output = w.output
  size : w.heap.size ≤ w'.heap.size
  block : ∀ k, k < w.heap.size → (k < lo ∨ hi ≤ k) → w'.heap[k]? = w.heap[k]?
theorem Only.below {lo hi : Nat} {w w' : World} (h : Only lo hi w w') {B : Nat} (hB : B ≤ lo) (hw : B ≤ w.heap.size) : Below B w w' := ⟨h.os, h.tape, h.output, h.size, fun k hk => h.block k (by omega) (.inl (by omega))⟩
theorem Only.of_grown {lo hi : Nat} {w w' : World} {row : Option Nat} (h : w.grownBy w' row) (hr : ∀ g, row = some g → lo ≤ g ∧ g < hi) : Only lo hi w w' :=
  ⟨h.os, h.tape, h.output, h.size, fun k hk hd => h.block k hk (fun e => by have := hr k e.symm; omega)⟩
theorem Only.refl (lo hi : Nat) (w : World) : Only lo hi w w := ⟨rfl, rfl, rfl, Nat.le_refl _, fun _ _ _ => rfl⟩
theorem Only.trans {lo hi : Nat} {a b c : World} (h : Only lo hi a b) (k : Only lo hi b c) : Only lo hi a c :=
  ⟨k.os.trans h.os, k.tape.trans h.tape, k.output.trans h.output, Nat.le_trans h.size k.size, fun i hi hd => (k.block i (Nat.lt_of_lt_of_le hi h.size) hd).trans (h.block i hi hd)⟩
theorem Own.only {w w' : World} {base E : Nat} {ao : Option Addr} {n c : Nat} {xs : List Value} {lo hi lo' hi' : Nat} (h : Own w base E ao n c xs) (ho : Only lo hi w w') (hl : ∀ g, bk ao = some g → lo' ≤ g ∧ g < hi') (hd : hi' ≤ lo ∨ hi ≤ lo') : Own w' base E ao n c xs :=
  h.same fun g hg => ho.block g (h.lt g hg).2 (by have := hl g hg; omega)

theorem ret_int {k : IntKind} {a b : Int} (h : a = b) : Ending.returned (.int k a) = .returned (.int k b) := by rw [h]
theorem ret_bool {a b : Bool} (h : a = b) : Ending.returned (.bool a) = .returned (.bool b) := by rw [h]
end Go.Proofs.YtljimlejcecleaaDoor

/- From a walk to the row: what 'post' asks where below the old heap nothing has turned; arguments opened to the words of Base. -/
namespace Go.Proofs.YtljimlejcecleaaDoor
open Go.ChangeShapes Go.WideShapes Go.ChangeAt Go.RowKit Go.Deep

section
variable {H : Type} {enc : TypeId × Value → H} {P : Program}
theorem post_of_below {f : Func} {s : ChangeSpec} {apart fresh handsOn again : Bool} {W W' : World} {args : Array Value} {v : Value} {ds gs : List (DataW H)} {before pa pv : List MemPlace}
    (hW : DataW.Whole enc P f.params.toList s.vars apart W args.toList ds gs before)
    (hres : ∀ (b : Nat) (sp : Nat → Bool) (hd : Bool), DataW.TrodAll enc P W' b sp hd f.resultTypes.toList (v.resultList f.resultTypes.size) (s.fn H (ds ++ gs)).results [])
    (hargs : ∀ sp : Nat → Bool, (∀ p ∈ before, sp p.block = true) → DataW.TrodAll enc P W' 0 sp true f.params.toList args.toList (s.fn H (ds ++ gs)).args pa)
    (hvars : ∀ sp : Nat → Bool, (∀ p ∈ before, sp p.block = true) → DataW.TrodVars enc P W' sp s.vars (s.fn H (ds ++ gs)).vars pv)
    (hps : before = pa ++ pv) (hb : Below W.heap.size W W')
    (hok : ∀ (j : Nat) (t : TypeId) (r : Value), f.resultTypes[j]? = some t → (v.resultList f.resultTypes.size)[j]? = some r → Value.okWide P W' .any 0 t r) :
    s.post enc P f apart fresh handsOn again W args v W' := by
  have hlt : ∀ p ∈ before, p.block < W.heap.size := fun p hp => hW.lt p hp
  have hold : ∀ p ∈ before, (fun b => decide (b < W.heap.size)) p.block = true := fun p hp => by simpa using hlt p hp
  refine ⟨ds, gs, before, [], pa, pv, hW, hres _ _ _, hargs _ hold, hvars _ hold, World.keptBut_mono (fun p hp => ⟨hp, ?_⟩) (hb.frame (· ∈ before)), fun _ => ?_⟩
  · rw [hps, List.mem_append] at hp
    exact Or.inr hp
  · obtain ⟨_, _, _, _, _, hz, hn⟩ := hW
    refine ⟨hok, _, _, ([] ++ pa) ++ pv, ⟨[] ++ pa, pv, trodAll_append (hargs _ (fun _ _ => rfl)) (hres _ _ _), hvars _ (fun _ _ => rfl), rfl, ?_, ?_⟩, ?_⟩
    · intro b off hp
      have hin : MemPlace.cell b off ∈ before := by rw [hps]; simpa using hp
      rw [hb.frozen (hlt _ hin)]
      exact hz b off hin
    · intro ha
      have := hn ha
      rw [hps] at this
      simpa using this
    · intro p hp _
      rw [hps]
      simpa using hp

/-- all arguments read behind the call as before it -/
theorem trodAll_stays (hl : laidOutB P = true) {W W' : World} (hb : Below W.heap.size W W') {sp : Nat → Bool} : ∀ (ts : List TypeId) (vs : List Value) (ds : List (DataW H)) (ps : List MemPlace),
    (∀ t ∈ ts, P.readableRec t = true ∧ t < P.types.size) → (∀ p ∈ ps, p.block < W.heap.size) → (∀ p ∈ ps, sp p.block = true) →
    DataW.TrodAll enc P W 0 (fun _ => true) true ts vs ds ps → DataW.TrodAll enc P W' 0 sp true ts vs ds ps
  | [], vs, ds, ps, _, _, _, h => by
    obtain ⟨rfl, rfl, rfl⟩ := trodAll_nil h
    exact trodAll_mk0
  | t :: ts, vs, ds, ps, ht, hlt, hsp, h => by
    obtain ⟨v, vs', d, ds', p, q, rfl, rfl, rfl, h0, r0⟩ := trodAll_cons h
    exact trodAll_cons_mk (WideElems.Trod_stays hl (ht t (by simp)).1 (ht t (by simp)).2 h0 (fun x hx => hb.same (hlt x (by simp [hx]))) (fun x hx => hsp x (by simp [hx])))
      (trodAll_stays hl hb ts vs' ds' q (fun t' h' => ht t' (by simp [h'])) (fun p' hp => hlt p' (by simp [hp])) (fun p' hp => hsp p' (by simp [hp])) r0)

end
end Go.Proofs.YtljimlejcecleaaDoor

/- Words for slices whose elements are slices: rows that are read, rows that a call owns, all in blocks of their own. No program in sight. -/
namespace Go.Proofs.YtljimlejcecleaaDoor
open Go.RowKit

/-- the block of a value, if it has one, lies from lo to below hi -/
def In (lo hi : Nat) (u : Value) : Prop := ∀ g, u.ownBlock = some g → lo ≤ g ∧ g < hi
theorem In.mono {lo hi lo' hi' : Nat} {u : Value} (h : In lo hi u) (h1 : lo' ≤ lo) (h2 : hi ≤ hi') : In lo' hi' u := fun g hg => by have := h g hg; omega
theorem in_nil (lo hi : Nat) (n c : Nat) : In lo hi (.slice none n c) := fun g hg => by cases hg
theorem in_slice {lo hi : Nat} {ao : Option Addr} {n c : Nat} (h : ∀ g, bk ao = some g → lo ≤ g ∧ g < hi) : In lo hi (.slice ao n c) := fun g hg => h g (by rw [ownBlock_slice] at hg; exact hg)

/-- an element's predicate looks at the element's own block alone -/
structure Inner {D : Type} (Ow1 : World → Value → D → Prop) : Prop where
  loc : ∀ {w w' u d}, Ow1 w u d → (∀ g, u.ownBlock = some g → w'.heap[g]? = w.heap[g]?) → Ow1 w' u d
  lt : ∀ {w u d}, Ow1 w u d → ∀ g, u.ownBlock = some g → g < w.heap.size
  one : ∀ {w u d}, Ow1 w u d → u.oneCell' = true

/-- the slice at ao, of n elements us, is a row of the call's own; each element u owns d in a block of its own; all blocks lie from lo to below hi and are different -/
structure OwR {D : Type} (Ow1 : World → Value → D → Prop) (w : World) (lo hi E : Nat) (ao : Option Addr) (n c : Nat) (us : List Value) (ds : List D) : Prop where
  own : Own w lo E ao n c us
  top : ∀ g, bk ao = some g → g < hi
  len : ds.length = n
  el : ∀ (j : Nat) (u : Value) (d : D), us[j]? = some u → ds[j]? = some d → Ow1 w u d
  rng : ∀ (j : Nat) (u : Value), us[j]? = some u → In lo hi u
  out : ∀ (j : Nat) (u : Value) (g : Nat), us[j]? = some u → u.ownBlock = some g → bk ao ≠ some g
  apart : ∀ (i j : Nat) (u u' : Value) (g : Nat), i ≠ j → us[i]? = some u → us[j]? = some u' → u.ownBlock = some g → u'.ownBlock ≠ some g

section
variable {D : Type} {Ow1 : World → Value → D → Prop} {w w' : World} {lo hi E : Nat} {ao : Option Addr} {n c : Nat} {us : List Value} {ds : List D}

theorem OwR.ulen (h : OwR Ow1 w lo hi E ao n c us ds) : us.length = n := h.own.len
theorem OwR.get (h : OwR Ow1 w lo hi E ao n c us ds) {j : Nat} (hj : j < n) : ∃ u d, us[j]? = some u ∧ ds[j]? = some d ∧ Ow1 w u d ∧ In lo hi u :=
  have h1 : j < us.length := by rw [h.ulen]; exact hj
  have h2 : j < ds.length := by rw [h.len]; exact hj
  ⟨us[j], ds[j], List.getElem?_eq_getElem h1, List.getElem?_eq_getElem h2, h.el j _ _ (List.getElem?_eq_getElem h1) (List.getElem?_eq_getElem h2), h.rng j _ (List.getElem?_eq_getElem h1)⟩

/-- nothing in the range has turned -/
theorem OwR.same (I : Inner Ow1) (h : OwR Ow1 w lo hi E ao n c us ds) (hs : ∀ g, lo ≤ g → g < hi → g < w.heap.size → w'.heap[g]? = w.heap[g]?) : OwR Ow1 w' lo hi E ao n c us ds :=
  { own := h.own.same fun g hg => hs g (h.own.lt g hg).1 (h.top g hg) (h.own.lt g hg).2
    top := h.top, len := h.len, rng := h.rng, out := h.out, apart := h.apart
    el := fun j u d hu hd => I.loc (h.el j u d hu hd) fun g hg => hs g (h.rng j u hu g hg).1 (h.rng j u hu g hg).2 (I.lt (h.el j u d hu hd) g hg) }
theorem OwR.below (I : Inner Ow1) (h : OwR Ow1 w lo hi E ao n c us ds) (hb : Below w.heap.size w w') : OwR Ow1 w' lo hi E ao n c us ds := h.same I fun g _ _ hg => hb.block g hg
theorem OwR.only (I : Inner Ow1) (h : OwR Ow1 w lo hi E ao n c us ds) {l k : Nat} (ho : Only l k w w') (hd : hi ≤ l ∨ k ≤ lo) : OwR Ow1 w' lo hi E ao n c us ds :=
  h.same I fun g h1 h2 hg => ho.block g hg (by omega)
theorem OwR.mono (h : OwR Ow1 w lo hi E ao n c us ds) {lo' hi' : Nat} (h1 : lo' ≤ lo) (h2 : hi ≤ hi') : OwR Ow1 w lo' hi' E ao n c us ds :=
  { own := h.own.mono h1, top := fun g hg => Nat.lt_of_lt_of_le (h.top g hg) h2, len := h.len, el := h.el, out := h.out, apart := h.apart
    rng := fun j u hu => (h.rng j u hu).mono h1 h2 }

/-- element j is replaced: u' is new or in the block of the old one -/
theorem OwR.put (I : Inner Ow1) {g0 : Nat} (h : OwR Ow1 w lo hi E (some ⟨g0, 0, none⟩) n c us ds) {j : Nat} {u u' : Value} {d' : D} (hu : us[j]? = some u) (hg : w.grownBy w' u.ownBlock) (h' : Ow1 w' u' d')
    (hnew : u'.ownBlock = none ∨ u'.ownBlock = u.ownBlock ∨ ∃ g, u'.ownBlock = some g ∧ w.heap.size ≤ g) (hhi : hi ≤ w.heap.size) (hlo : lo ≤ w.heap.size) :
    OwR Ow1 (w'.setCell ⟨g0, j, none⟩ u') lo w'.heap.size E (some ⟨g0, 0, none⟩) n c (us.set j u') (ds.set j d') := by
  have hjl : j < us.length := (List.getElem?_eq_some_iff.1 hu).1
  have hown : Own w' lo E (some ⟨g0, 0, none⟩) n c us := h.own.kept hg (by
    cases hb : u.ownBlock with
    | none => exact .inr (by simp [bk])
    | some g => exact .inr (h.out j u g hu hb))
  have hlt' : ∀ g, u'.ownBlock = some g → g ≠ g0 := by
    intro g hgg e
    subst e
    rcases hnew with hn | hn | ⟨g', hn, hge⟩
    · rw [hn] at hgg; cases hgg
    · rw [hn] at hgg; exact h.out j u g hu hgg rfl
    · rw [hn] at hgg; obtain rfl := Option.some.inj hgg
      have := (h.own.lt g' rfl).2
      omega
  have hset : ∀ g, g ≠ g0 → (w'.setCell ⟨g0, j, none⟩ u').heap[g]? = w'.heap[g]? := fun g hne => Below.heap_setCell _ _ _ _ hne
  have hsz := hg.size
  refine { own := (hown.stored j u').1, top := fun g hgg => Nat.lt_of_lt_of_le (h.top g hgg) (Nat.le_trans hhi hsz), len := by rw [List.length_set]; exact h.len, el := ?_, rng := ?_, out := ?_, apart := ?_ }
  · intro i v d hv hd
    by_cases hij : j = i
    · subst hij
      rw [List.getElem?_set_self hjl] at hv
      obtain rfl := Option.some.inj hv
      rw [List.getElem?_set_self'] at hd
      cases hdd : ds[j]? with
      | none => rw [hdd] at hd; cases hd
      | some x =>
        rw [hdd] at hd; simp at hd; subst hd
        exact I.loc h' fun g hgg => hset g (hlt' g hgg)
    · rw [List.getElem?_set_ne hij] at hd hv
      have h1 : Ow1 w' v d := I.loc (h.el i v d hv hd) fun g hgg => hg.block g (I.lt (h.el i v d hv hd) g hgg) fun e => h.apart i j v u g (fun e => hij e.symm) hv hu hgg e.symm
      exact I.loc h1 fun g hgg => hset g fun e => by subst e; exact h.out i v g hv hgg rfl
  · intro i v hv
    by_cases hij : j = i
    · subst hij
      rw [List.getElem?_set_self hjl] at hv
      obtain rfl := Option.some.inj hv
      intro g hgg
      refine ⟨?_, I.lt h' g hgg⟩
      rcases hnew with hn | hn | ⟨g', hn, hge⟩
      · rw [hn] at hgg; cases hgg
      · rw [hn] at hgg; exact (h.rng j u hu g hgg).1
      · rw [hn] at hgg; obtain rfl := Option.some.inj hgg; omega
    · rw [List.getElem?_set_ne hij] at hv
      exact (h.rng i v hv).mono (Nat.le_refl _) (Nat.le_trans hhi hsz)
  · intro i v g hv hgg
    by_cases hij : j = i
    · subst hij
      rw [List.getElem?_set_self hjl] at hv
      obtain rfl := Option.some.inj hv
      intro e
      exact hlt' g hgg (Option.some.inj e).symm
    · rw [List.getElem?_set_ne hij] at hv
      exact h.out i v g hv hgg
  · intro i k v v' g hik hv hv' hgg
    have key : ∀ x vx, j ≠ x → us[x]? = some vx → ∀ g, u'.ownBlock = some g → vx.ownBlock ≠ some g := by
      intro x vx hx hvx g hgg' e
      rcases hnew with hn | hn | ⟨g', hn, hge⟩
      · rw [hn] at hgg'; cases hgg'
      · rw [hn] at hgg'; exact h.apart j x u vx g hx hu hvx hgg' e
      · rw [hn] at hgg'; obtain rfl := Option.some.inj hgg'
        have := (h.rng x vx hvx g' e).2
        omega
    by_cases hi' : j = i
    · subst hi'
      rw [List.getElem?_set_self hjl] at hv
      obtain rfl := Option.some.inj hv
      rw [List.getElem?_set_ne hik] at hv'
      exact key k v' hik hv' g hgg
    · rw [List.getElem?_set_ne hi'] at hv
      by_cases hk' : j = k
      · subst hk'
        rw [List.getElem?_set_self hjl] at hv'
        obtain rfl := Option.some.inj hv'
        exact fun e => key i v hi' hv g e hgg
      · rw [List.getElem?_set_ne hk'] at hv'
        exact h.apart i k v v' g hik hv hv' hgg

theorem OwR.empty_ (h : Own w lo E ao 0 c []) (hhi : ∀ g, bk ao = some g → g < hi) : OwR Ow1 w lo hi E ao 0 c [] [] :=
  { own := h, top := hhi, len := rfl, el := fun j u d hj _ => by simp at hj, rng := fun j u hj => by simp at hj, out := fun j u g hj => by simp at hj, apart := fun i j u u' g _ hi => by simp at hi }

/-- a row that is written out: u0, u1, .. are owned already, in blocks of their own -/
theorem OwR.lit (I : Inner Ow1) (hlo : lo ≤ w.heap.size) (hhi : hi ≤ w.heap.size) (hl : us.length = n) (hd : ds.length = n) (hn : n ≤ 4398046511104) (hel : ∀ (j : Nat) (u : Value) (d : D), us[j]? = some u → ds[j]? = some d → Ow1 w u d) (hr : ∀ (j : Nat) (u : Value), us[j]? = some u → In lo hi u)
    (ha : ∀ (i j : Nat) (u u' : Value) (g : Nat), i ≠ j → us[i]? = some u → us[j]? = some u' → u.ownBlock = some g → u'.ownBlock ≠ some g) :
    OwR Ow1 (w.alloc (.cells us.toArray E)) lo (w.heap.size + 1) E (some ⟨w.heap.size, 0, none⟩) n n us ds :=
  { own := ⟨by simpa using World.ownsRow_lit (e := E) (size := 1) w us.toArray n hlo (by simp [maxLen]; omega) (by simpa using hl), hn⟩
    top := fun g hg => by simp [bk] at hg; omega
    len := hd
    el := fun j u d hu hdd => I.loc (hel j u d hu hdd) fun g hg => Below.heap_alloc w _ g (I.lt (hel j u d hu hdd) g hg)
    rng := fun j u hu => (hr j u hu).mono (Nat.le_refl _) (by omega)
    out := fun j u g hu hg e => by
      have := (hr j u hu g hg).2
      simp [bk] at e
      omega
    apart := ha }
/-- the cell of element j -/
theorem OwR.cell {g0 : Nat} (h : OwR Ow1 w lo hi E (some ⟨g0, 0, none⟩) n c us ds) {j : Nat} {u : Value} (hu : us[j]? = some u) : w.cell? ⟨g0, j, none⟩ = some u := by
  have hj : j < n := by have := (List.getElem?_eq_some_iff.1 hu).1; rw [h.ulen] at this; exact this
  obtain ⟨g', hg, _, _, _, hc, _⟩ := h.own.form (by omega)
  obtain rfl : g0 = g' := by injection hg with hg; injection hg
  rw [hc j hj, hu]
end

/-- element k of a list of lists, the empty one behind its end; closed to simp -/
def lget {α : Type} (zss : List (List α)) (k : Nat) : List α := zss.getD k []
theorem lget_get? {α : Type} {zss : List (List α)} {k : Nat} {z : List α} (h : zss[k]? = some z) : lget zss k = z := by simp [lget, h]
/-- v is a slice that reads as integers -/
def RdS (w : World) (v : Value) (zs : List Int) : Prop := ∃ ao n c, v = .slice ao n c ∧ Ints w ao n zs
/-- v is a slice that owns its integers -/
def OwS (E : Nat) (w : World) (v : Value) (zs : List Int) : Prop := ∃ ao n c, v = .slice ao n c ∧ Own w 0 E ao n c (zs.map (Value.int .i64))
theorem OwS.rd {E : Nat} {w : World} {v : Value} {zs : List Int} (h : OwS E w v zs) : RdS w v zs := by
  obtain ⟨ao, n, c, rfl, ho⟩ := h
  exact ⟨ao, n, c, rfl, ho.ints⟩
theorem innerS (E : Nat) : Inner (OwS E) :=
  { loc := fun {w w' u d} h hs => by
      obtain ⟨ao, n, c, rfl, ho⟩ := h
      exact ⟨ao, n, c, rfl, ho.same fun g hg => hs g (by rw [ownBlock_slice]; exact hg)⟩
    lt := fun {w u d} h g hg => by
      obtain ⟨ao, n, c, rfl, ho⟩ := h
      rw [ownBlock_slice] at hg
      exact (ho.lt g hg).2
    one := fun {w u d} h => by obtain ⟨ao, n, c, rfl, _⟩ := h; rfl }
theorem RdS.below {w w' : World} {v : Value} {zs : List Int} (h : RdS w v zs) (hb : Below w.heap.size w w') : RdS w' v zs := by
  obtain ⟨ao, n, c, rfl, hi⟩ := h
  exact ⟨ao, n, c, rfl, hi.below hb⟩

/-- the slice at ao, of n slices of integers, reads as zss -/
def Intss (w : World) (ao : Option Addr) (n : Nat) (zss : List (List Int)) : Prop :=
  zss.length = n ∧ n ≤ 17592186044416 ∧ (0 < n → ∃ b off, ao = some ⟨b, off, none⟩ ∧ ∀ j, j < n → ∃ u, w.cell? ⟨b, off + j, none⟩ = some u ∧ RdS w u (lget zss j))
theorem Intss.at_ {w : World} {ao : Option Addr} {n : Nat} {zss : List (List Int)} (h : Intss w ao n zss) {k : Nat} (hk : k < n) :
    ∃ b off a' n' c', ao = some ⟨b, off, none⟩ ∧ w.cell? ⟨b, off + k, none⟩ = some (.slice a' n' c') ∧ Ints w a' n' (lget zss k) := by
  obtain ⟨b, off, e, hc⟩ := h.2.2 (by omega)
  obtain ⟨u, h1, a', n', c', rfl, h2⟩ := hc k hk
  exact ⟨b, off, a', n', c', e, h1, h2⟩
theorem Intss.drewN {w : World} {ao : Option Addr} {n : Nat} {zss : List (List Int)} (h : Intss w ao n zss) (m : Nat) : Intss (w.drewN m) ao n zss := h
theorem Intss.below {w w' : World} {ao : Option Addr} {n : Nat} {zss : List (List Int)} (h : Intss w ao n zss) (hb : Below w.heap.size w w') : Intss w' ao n zss := by
  refine ⟨h.1, h.2.1, fun hn => ?_⟩
  obtain ⟨b, off, rfl, hc⟩ := h.2.2 hn
  refine ⟨b, off, rfl, fun j hj => ?_⟩
  obtain ⟨u, h1, h2⟩ := hc j hj
  exact ⟨u, (hb.cell (p := ⟨b, off + j, none⟩) (World.block_lt_of_cell? w _ h1)).trans h1, h2.below hb⟩
theorem Intss.nil_ (w : World) (ao : Option Addr) : Intss w ao 0 [] := ⟨rfl, by omega, fun h => absurd h (by omega)⟩
theorem OwR.intss {E1 : Nat} {w : World} {lo hi E : Nat} {ao : Option Addr} {n c : Nat} {us : List Value} {zss : List (List Int)} (h : OwR (OwS E1) w lo hi E ao n c us zss) : Intss w ao n zss := by
  refine ⟨h.len, by have := h.own.2; omega, fun hn => ?_⟩
  obtain ⟨g, rfl, _, _, _, _, _⟩ := h.own.form hn
  refine ⟨g, 0, rfl, fun j hj => ?_⟩
  obtain ⟨u, d, hu, hd, h1, _⟩ := h.get hj
  refine ⟨u, by rw [Nat.zero_add]; exact h.cell hu, ?_⟩
  rw [lget_get? hd]; exact h1.rd

/-- v is a slice that reads as lists of integers -/
def RdSS (w : World) (v : Value) (zss : List (List Int)) : Prop := ∃ ao n c, v = .slice ao n c ∧ Intss w ao n zss
/-- v is a slice that owns its lists of integers, in blocks from lo to below hi -/
def OwSS (E1 E : Nat) (w : World) (lo hi : Nat) (v : Value) (zss : List (List Int)) : Prop := ∃ ao n c us, v = .slice ao n c ∧ OwR (OwS E1) w lo hi E ao n c us zss
theorem OwSS.rd {E1 E : Nat} {w : World} {lo hi : Nat} {v : Value} {zss : List (List Int)} (h : OwSS E1 E w lo hi v zss) : RdSS w v zss := by
  obtain ⟨ao, n, c, us, rfl, ho⟩ := h
  exact ⟨ao, n, c, rfl, ho.intss⟩
theorem OwSS.below {E1 E : Nat} {w w' : World} {lo hi : Nat} {v : Value} {zss : List (List Int)} (h : OwSS E1 E w lo hi v zss) (hb : Below w.heap.size w w') : OwSS E1 E w' lo hi v zss := by
  obtain ⟨ao, n, c, us, rfl, ho⟩ := h
  exact ⟨ao, n, c, us, rfl, ho.below (innerS E1) hb⟩
theorem OwSS.only {E1 E : Nat} {w w' : World} {lo hi : Nat} {v : Value} {zss : List (List Int)} (h : OwSS E1 E w lo hi v zss) {l k : Nat} (ho : Only l k w w') (hd : hi ≤ l ∨ k ≤ lo) : OwSS E1 E w' lo hi v zss := by
  obtain ⟨ao, n, c, us, rfl, h1⟩ := h
  exact ⟨ao, n, c, us, rfl, h1.only (innerS E1) ho hd⟩
theorem OwSS.mono {E1 E : Nat} {w : World} {lo hi lo' hi' : Nat} {v : Value} {zss : List (List Int)} (h : OwSS E1 E w lo hi v zss) (h1 : lo' ≤ lo) (h2 : hi ≤ hi') : OwSS E1 E w lo' hi' v zss := by
  obtain ⟨ao, n, c, us, rfl, ho⟩ := h
  exact ⟨ao, n, c, us, rfl, ho.mono h1 h2⟩
theorem RdSS.below {w w' : World} {v : Value} {zss : List (List Int)} (h : RdSS w v zss) (hb : Below w.heap.size w w') : RdSS w' v zss := by
  obtain ⟨ao, n, c, rfl, hi⟩ := h
  exact ⟨ao, n, c, rfl, hi.below hb⟩
/-- v owns its integers in a block from lo to below hi -/
def OwnS (E : Nat) (w : World) (lo hi : Nat) (v : Value) (zs : List Int) : Prop := OwS E w v zs ∧ In lo hi v
theorem OwnS.rd {E : Nat} {w : World} {lo hi : Nat} {v : Value} {zs : List Int} (h : OwnS E w lo hi v zs) : RdS w v zs := h.1.rd
theorem OwnS.below {E : Nat} {w w' : World} {lo hi : Nat} {v : Value} {zs : List Int} (h : OwnS E w lo hi v zs) (hb : Below w.heap.size w w') : OwnS E w' lo hi v zs :=
  ⟨(innerS E).loc h.1 fun g hg => hb.block g ((innerS E).lt h.1 g hg), h.2⟩
theorem OwnS.only {E : Nat} {w w' : World} {lo hi : Nat} {v : Value} {zs : List Int} (h : OwnS E w lo hi v zs) {l k : Nat} (ho : Only l k w w') (hd : hi ≤ l ∨ k ≤ lo) : OwnS E w' lo hi v zs :=
  ⟨(innerS E).loc h.1 fun g hg => ho.block g ((innerS E).lt h.1 g hg) (by have := h.2 g hg; omega), h.2⟩
theorem OwnS.of {E : Nat} {w : World} {base : Nat} {ao : Option Addr} {n c : Nat} {zs : List Int} (h : Own w base E ao n c (zs.map (Value.int .i64))) : OwnS E w base w.heap.size (.slice ao n c) zs :=
  ⟨⟨ao, n, c, rfl, h.mono (Nat.zero_le _)⟩, in_slice h.lt⟩

/-- k, k + 1, .. : n numbers -/
def marks (k : Int) (n : Nat) : List Int := (List.range n).map fun j : Nat => k + (j : Int)
theorem length_marks (k : Int) (n : Nat) : (marks k n).length = n := by simp [marks]
theorem marks_succ (k : Int) (n : Nat) : marks k (n + 1) = marks k n ++ [k + n] := by simp [marks, List.range_succ]
theorem iget_marks (k : Int) (n j : Nat) (h : j < n) : iget (marks k n) j = k + j := by
  rw [iget_lt (by rw [length_marks]; exact h)]; simp [marks]
/-- a struct of one slice of slices, as a value: the mirror and the program's maniplex alike -/
def RdM (w : World) (v : Value) (zss : List (List Int)) : Prop := ∃ ao n c, v = .agg #[.slice ao n c] ∧ Intss w ao n zss
def OwM (E1 E : Nat) (w : World) (lo hi : Nat) (v : Value) (zss : List (List Int)) : Prop := ∃ ao n c us, v = .agg #[.slice ao n c] ∧ OwR (OwS E1) w lo hi E ao n c us zss
theorem OwM.rd {E1 E : Nat} {w : World} {lo hi : Nat} {v : Value} {zss : List (List Int)} (h : OwM E1 E w lo hi v zss) : RdM w v zss := by
  obtain ⟨ao, n, c, us, rfl, ho⟩ := h
  exact ⟨ao, n, c, rfl, ho.intss⟩
theorem OwM.below {E1 E : Nat} {w w' : World} {lo hi : Nat} {v : Value} {zss : List (List Int)} (h : OwM E1 E w lo hi v zss) (hb : Below w.heap.size w w') : OwM E1 E w' lo hi v zss := by
  obtain ⟨ao, n, c, us, rfl, ho⟩ := h
  exact ⟨ao, n, c, us, rfl, ho.below (innerS E1) hb⟩
theorem OwM.only {E1 E : Nat} {w w' : World} {lo hi : Nat} {v : Value} {zss : List (List Int)} (h : OwM E1 E w lo hi v zss) {l k : Nat} (ho : Only l k w w') (hd : hi ≤ l ∨ k ≤ lo) : OwM E1 E w' lo hi v zss := by
  obtain ⟨ao, n, c, us, rfl, h1⟩ := h
  exact ⟨ao, n, c, us, rfl, h1.only (innerS E1) ho hd⟩
theorem OwM.mono {E1 E : Nat} {w : World} {lo hi lo' hi' : Nat} {v : Value} {zss : List (List Int)} (h : OwM E1 E w lo hi v zss) (h1 : lo' ≤ lo) (h2 : hi ≤ hi') : OwM E1 E w lo' hi' v zss := by
  obtain ⟨ao, n, c, us, rfl, ho⟩ := h
  exact ⟨ao, n, c, us, rfl, ho.mono h1 h2⟩
theorem RdM.below {w w' : World} {v : Value} {zss : List (List Int)} (h : RdM w v zss) (hb : Below w.heap.size w w') : RdM w' v zss := by
  obtain ⟨ao, n, c, rfl, hi⟩ := h
  exact ⟨ao, n, c, rfl, hi.below hb⟩

/-- a struct of an integer and a slice of slices, as a value: a presentation -/
abbrev PresD : Type := Int × List (List Int)
def RdP (w : World) (v : Value) (d : PresD) : Prop := ∃ ao n c, v = .agg #[.int .i64 d.1, .slice ao n c] ∧ Intss w ao n d.2
def OwP (E1 E : Nat) (w : World) (lo hi : Nat) (v : Value) (d : PresD) : Prop := ∃ ao n c us, v = .agg #[.int .i64 d.1, .slice ao n c] ∧ OwR (OwS E1) w lo hi E ao n c us d.2
theorem OwP.rd {E1 E : Nat} {w : World} {lo hi : Nat} {v : Value} {d : PresD} (h : OwP E1 E w lo hi v d) : RdP w v d := by
  obtain ⟨ao, n, c, us, rfl, ho⟩ := h
  exact ⟨ao, n, c, rfl, ho.intss⟩
theorem OwP.below {E1 E : Nat} {w w' : World} {lo hi : Nat} {v : Value} {d : PresD} (h : OwP E1 E w lo hi v d) (hb : Below w.heap.size w w') : OwP E1 E w' lo hi v d := by
  obtain ⟨ao, n, c, us, rfl, ho⟩ := h
  exact ⟨ao, n, c, us, rfl, ho.below (innerS E1) hb⟩
theorem OwP.only {E1 E : Nat} {w w' : World} {lo hi : Nat} {v : Value} {d : PresD} (h : OwP E1 E w lo hi v d) {l k : Nat} (ho : Only l k w w') (hd : hi ≤ l ∨ k ≤ lo) : OwP E1 E w' lo hi v d := by
  obtain ⟨ao, n, c, us, rfl, h1⟩ := h
  exact ⟨ao, n, c, us, rfl, h1.only (innerS E1) ho hd⟩
theorem RdP.below {w w' : World} {v : Value} {d : PresD} (h : RdP w v d) (hb : Below w.heap.size w w') : RdP w' v d := by
  obtain ⟨ao, n, c, rfl, hi⟩ := h
  exact ⟨ao, n, c, rfl, hi.below hb⟩

theorem below_tr {w W W' : World} (k : Below W.heap.size W W') (h : Below w.heap.size w W) : Below w.heap.size w W' := h.trans (k.mono h.size)
theorem below_drew1 (w : World) : Below w.heap.size w w.drew := (Below.refl _ _).drew
theorem OwM.form {E1 E : Nat} {w : World} {lo hi : Nat} {v : Value} {zss : List (List Int)} (h : OwM E1 E w lo hi v zss) : ∃ ao n c, v = .agg #[.slice ao n c] := by
  obtain ⟨ao, n, c, us, rfl, _⟩ := h
  exact ⟨ao, n, c, rfl⟩
theorem OwP.form {E1 E : Nat} {w : World} {lo hi : Nat} {v : Value} {d : PresD} (h : OwP E1 E w lo hi v d) : ∃ ao n c, v = .agg #[.int .i64 d.1, .slice ao n c] := by
  obtain ⟨ao, n, c, us, rfl, _⟩ := h
  exact ⟨ao, n, c, rfl⟩
theorem below_alloc1 (w : World) (o : Obj) : Below w.heap.size w (w.alloc o) := (Below.refl _ _).alloc (Nat.le_refl _) o
/-- block g is just the cells cs of type t, none frozen -/
def Blk (w : World) (g : Nat) (t : TypeId) (cs : Array Value) : Prop := w.heap[g]? = some (.cells cs t (0, 0))
theorem Blk.lt {w : World} {g : Nat} {t : TypeId} {cs : Array Value} (h : Blk w g t cs) : g < w.heap.size := by
  rcases Nat.lt_or_ge g w.heap.size with hlt | hge
  · exact hlt
  · unfold Blk at h; rw [Array.getElem?_eq_none hge] at h; cases h
theorem Blk.cell {w : World} {g : Nat} {t : TypeId} {cs : Array Value} (h : Blk w g t cs) (i : Nat) : w.cell? ⟨g, i, none⟩ = cs[i]? := cell_of_row w g i cs t (0, 0) h
theorem Blk.frozen {w : World} {g : Nat} {t : TypeId} {cs : Array Value} (h : Blk w g t cs) (i : Nat) : w.frozen? ⟨g, i, none⟩ = false := by
  unfold Blk at h; simp [World.frozen?, h]
theorem Blk.new (w : World) (t : TypeId) (cs : Array Value) : Blk (w.alloc (.cells cs t)) w.heap.size t cs := heap_alloc_new w _
theorem blk_at {w : World} {t : TypeId} {cs : Array Value} {k : Nat} (h : w.heap.size = k) : Blk (w.alloc (.cells cs t)) k t cs := h ▸ Blk.new w t cs
theorem Blk.alloc {w : World} {g : Nat} {t : TypeId} {cs : Array Value} (h : Blk w g t cs) (o : Obj) : Blk (w.alloc o) g t cs := (Below.heap_alloc w o g h.lt).trans h
theorem Blk.below {w w' : World} {g : Nat} {t : TypeId} {cs : Array Value} {B : Nat} (h : Blk w g t cs) (hb : Below B w w') (hg : g < B) : Blk w' g t cs := (hb.block g hg).trans h
theorem Blk.belowS {w w' : World} {g : Nat} {t : TypeId} {cs : Array Value} (h : Blk w g t cs) (hb : Below w.heap.size w w') : Blk w' g t cs := h.below hb h.lt
theorem Blk.only {w w' : World} {g : Nat} {t : TypeId} {cs : Array Value} {lo hi : Nat} (h : Blk w g t cs) (ho : Only lo hi w w') (hg : g < lo ∨ hi ≤ g) : Blk w' g t cs := (ho.block g h.lt hg).trans h
theorem Blk.drewN {w : World} {g : Nat} {t : TypeId} {cs : Array Value} (h : Blk w g t cs) (m : Nat) : Blk (w.drewN m) g t cs := h
end Go.Proofs.YtljimlejcecleaaDoor

/- The laws' own helpers on []int64: the copy, the comparison, the marks. -/
namespace Go.Proofs.YtljimlejcecleaaDoor
open Go.RowKit

theorem etI : ET Tryd.prog 22 2 (.int .i64 0) 8 := ⟨Tryd.underlying22, by kernel_rfl, rfl, by omega⟩

set_option maxHeartbeats 400000 in
theorem eqInts_any (a b : Option Addr) (na nb ca cb : Nat) (za zb : List Int) (w : World) (ha : Ints w a na za) (hb : Ints w b nb zb) :
    Calls Tryd.prog 7 #[.slice a na ca, .slice b nb cb] w fun e w' => e = .returned (.bool (decide (za = zb))) ∧ ∃ m, w' = w.drewN m := by
  have hla := ha.2.1
  have hlb := hb.2.1
  by_cases hl : na = nb
  · subst hl
    have hl' : ((na : Int) != (na:Int)) = false := by simp
    go_enter Tryd.func7, Tryd.ntmps7
    go_wp2
    go_loopw [5] (fun i wr => ∃ k : Nat, k ≤ na ∧ i = .int .i64 k ∧ za.take k = zb.take k ∧ ∃ m, wr = w.drewN m) (fun i _ => na - (intOf i).toNat)
    case atStart => exact ⟨0, Nat.zero_le _, rfl, rfl, 0, rfl⟩
    case round =>
      obtain ⟨k, hk, rfl, hpre, m, rfl⟩ := hrel
      have HP := Lib.hid hpre
      clear hpre
      by_cases hlt : k < na
      · obtain ⟨ba, oa, rfl, hca⟩ := ha.at_ hlt
        obtain ⟨bb, ob, rfl, hcb⟩ := hb.at_ hlt
        have h1 := ha.1
        have h2 := hb.1
        have H1 := Lib.hid h1
        have H2 := Lib.hid h2
        clear h1 h2
        by_cases he : iget za k = iget zb k
        · have he' : (iget za k != iget zb k) = false := by simp [he]
          have HE := Lib.hid he
          clear he
          go_wp2_with fail
          go_quiet (fail)
          go_wp2
          go_roundw
          case rel => exact ⟨k + 1, by omega, by go_num, by rw [take_iget (by rw [H1.out]; omega), take_iget (by rw [H2.out]; omega), HP.out, HE.out], _, rfl⟩
          case measure => simp [intOf]; omega
        · have he' : (iget za k != iget zb k) = true := by simp [he]
          have HE := Lib.hid he
          clear he
          go_wp2_with fail
          go_quiet (fail)
          go_wp2
          go_ret
          exact ⟨ret_bool (by symm; rw [decide_eq_false_iff_not]; intro e; exact HE.out (by rw [e])), _, World.drewN_drewN _ _ _⟩
      · obtain rfl : k = na := by omega
        have h1 := ha.1
        have h2 := hb.1
        have hab : za = zb := by have := HP.out; rwa [List.take_of_length_le (by omega), List.take_of_length_le (by omega)] at this
        have HA := Lib.hid hab
        clear h1 h2 hab
        go_wp2
        go_ret
        exact ⟨ret_bool (by symm; simpa using HA.out), _, rfl⟩
  · have hl' : ((na : Int) != (nb:Int)) = true := by simp; omega
    go_enter Tryd.func7, Tryd.ntmps7
    go_wp2
    go_ret
    refine ⟨ret_bool ?_, 0, rfl⟩
    symm
    rw [decide_eq_false_iff_not]
    intro e
    exact hl (by rw [← ha.1, ← hb.1, e])

set_option maxHeartbeats 400000 in
theorem markInts_any (ao : Option Addr) (n c : Nat) (zs : List Int) (k0 : Int) (w : World) (base : Nat) (h : Own w base 2 ao n c (zs.map (Value.int .i64))) (hk0 : 0 ≤ k0) (hk1 : k0 ≤ 1125899906842624) :
    Calls Tryd.prog 8 #[.slice ao n c, .int .i64 k0] w fun e w' => e = .returned (.int .i64 (k0 + n)) ∧ Own w' base 2 ao n c ((marks k0 n).map (Value.int .i64)) ∧ w.grownBy w' (bk ao) ∧ w'.heap.size = w.heap.size := by
  have hn := h.2
  have hlen : zs.length = n := by have := h.len; simpa using this
  go_enter Tryd.func8, Tryd.ntmps8
  go_wp2
  go_loopw [1, 5] (fun m i wr => ∃ k : Nat, k ≤ n ∧ i = .int .i64 k ∧ m = .int .i64 (k0 + k) ∧ Own wr base 2 ao n c ((marks k0 k ++ zs.drop k).map (Value.int .i64)) ∧ w.grownBy wr (bk ao) ∧ wr.heap.size = w.heap.size) (fun _ i _ => n - (intOf i).toNat)
  case atStart => exact ⟨0, Nat.zero_le _, rfl, by simp, by simpa [marks] using h, World.grownBy.refl _ _, rfl⟩
  case round =>
    obtain ⟨k, hk, rfl, rfl, ho, hg, hsz⟩ := hrel
    have HSZ := Lib.hid hsz
    clear hsz
    by_cases hlt : k < n
    · obtain ⟨g, rfl, _, hgl, _, hcell, hfr⟩ := ho.form (by omega)
      have hc2 : wr.cell? ⟨g, k, none⟩ = some (.int .i64 (iget zs k)) := by
        rw [hcell k hlt, List.getElem?_map, List.getElem?_append_right (by simp [length_marks])]
        simp [length_marks, iget, hlen, hlt]
      have hf := hfr k
      obtain ⟨st1, st2⟩ := ho.stored k (.int .i64 (k0 + k))
      have HS1 := Lib.hid st1
      have HS2 := Lib.hid st2
      have HL := Lib.hid hlen
      clear st1 st2 hcell hfr hlen
      go_wp2
      go_roundw
      case rel =>
        refine ⟨k + 1, by omega, by go_num, by congr 1; omega, ?_, grown_tr hg HS2.out, by have := HSZ.out; simpa [World.setCell] using this⟩
        have h1 := HS1.out
        rw [← List.map_set, List.set_append_right _ _ (by simp [length_marks])] at h1
        have e : (zs.drop k).set (k - (marks k0 k).length) (k0 + k) = (k0 + k) :: zs.drop (k + 1) := by
          rw [length_marks, Nat.sub_self, List.drop_eq_getElem_cons (by rw [HL.out]; omega)]; rfl
        rw [e] at h1
        rw [marks_succ, List.append_assoc]
        exact h1
      case measure => simp [intOf]; omega
    · obtain rfl : k = n := by omega
      have HL := Lib.hid hlen
      clear hlen
      go_wp2
      go_ret
      exact ⟨rfl, by simpa [List.drop_of_length_le (Nat.le_of_eq HL.out)] using ho, hg, HSZ.out⟩

set_option maxHeartbeats 400000 in
theorem heldInts_any (ao : Option Addr) (n c : Nat) (k0 : Int) (w : World) (h : Ints w ao n (marks k0 n)) (hk0 : 0 ≤ k0) (hk1 : k0 ≤ 1125899906842624) :
    Calls Tryd.prog 9 #[.slice ao n c, .int .i64 k0] w fun e w' => e = .returned (.int .i64 (k0 + n)) ∧ w' = w := by
  have hn := h.2.1
  go_enter Tryd.func9, Tryd.ntmps9
  go_wp2
  go_loop [1, 5] (fun m i => ∃ k : Nat, k ≤ n ∧ i = .int .i64 k ∧ m = .int .i64 (k0 + k)) (fun _ i => n - (intOf i).toNat)
  case atStart => exact ⟨0, Nat.zero_le _, rfl, by simp⟩
  case round =>
    obtain ⟨k, hk, rfl, rfl⟩ := hrel
    by_cases hlt : k < n
    · obtain ⟨b, off, rfl, hc⟩ := h.at_ hlt
      rw [iget_marks _ _ _ hlt] at hc
      have he : ((k0 + k : Int) != (k0 + k : Int)) = false := by simp
      go_wp2
      go_round
      case rel => exact ⟨k + 1, by omega, by go_num, by congr 1; omega⟩
      case measure => simp [intOf]; omega
    · obtain rfl : k = n := by omega
      go_wp2
      go_ret
      exact ⟨rfl, rfl⟩
end Go.Proofs.YtljimlejcecleaaDoor

/- The laws' helpers on []int64 in the words of Nest. -/
namespace Go.Proofs.YtljimlejcecleaaDoor
open Go.RowKit

theorem law_eqS {v v' : Value} {zs : List Int} (w : World) (h : RdS w v zs) (h' : RdS w v' zs) :
    Calls Tryd.prog 7 #[v, v'] w fun e w' => e = .returned (.bool true) ∧ Below w.heap.size w w' := by
  obtain ⟨ao, n, c, rfl, hi⟩ := h
  obtain ⟨ao', n', c', rfl, hi'⟩ := h'
  refine (eqInts_any ao ao' n n' c c' zs zs w hi hi').mono ?_
  rintro e w' ⟨rfl, hq⟩
  exact ⟨ret_bool (by simp), below_of_quiet hq⟩
theorem law_markS {v : Value} {zs : List Int} {lo hi : Nat} (k : Int) (w : World) (h : OwnS 2 w lo hi v zs) (hk0 : 0 ≤ k) (hk1 : k ≤ 1125899906842624) :
    Calls Tryd.prog 8 #[v, .int .i64 k] w fun e w' => e = .returned (.int .i64 (k + zs.length)) ∧ OwnS 2 w' lo hi v (marks k zs.length) ∧ Only lo hi w w' := by
  obtain ⟨⟨ao, n, c, rfl, ho⟩, hin⟩ := h
  have hl : zs.length = n := by have := ho.len; simpa using this
  refine (markInts_any ao n c zs k w 0 ho hk0 hk1).mono ?_
  rintro e w' ⟨rfl, ho', hg, _⟩
  exact ⟨ret_int (by rw [hl]), ⟨⟨ao, n, c, rfl, by rw [hl]; exact ho'⟩, hin⟩, Only.of_grown hg (fun g hg => hin g (by rw [ownBlock_slice]; exact hg))⟩
theorem law_heldS {v : Value} {n : Nat} (k : Int) (w : World) (h : RdS w v (marks k n)) (hk0 : 0 ≤ k) (hk1 : k ≤ 1125899906842624) :
    Calls Tryd.prog 9 #[v, .int .i64 k] w fun e w' => e = .returned (.int .i64 (k + n)) ∧ Below w.heap.size w w' := by
  obtain ⟨ao, n', c, rfl, hi⟩ := h
  obtain rfl : n = n' := by have := hi.1; rwa [length_marks] at this
  refine (heldInts_any ao n c k w hi hk0 hk1).mono ?_
  rintro e w' ⟨rfl, rfl⟩
  exact ⟨rfl, Below.refl _ _⟩
end Go.Proofs.YtljimlejcecleaaDoor

/- within and its twin in the reference; slices.IndexFunc and slices.ContainsFunc at []int64, over any predicate that only reads or makes memory. -/
namespace Go.Proofs.YtljimlejcecleaaDoor
open Go.RowKit

/-- n lies between lo and hi -/
def inB (n lo hi : Int) : Bool := decide (lo ≤ n) && decide (n ≤ hi)
theorem within_any (n lo hi : Int) (w : World) : Calls Tryd.prog 22 #[.int .i64 n, .int .i64 lo, .int .i64 hi] w fun e w' => e = .returned (.bool (inB n lo hi)) ∧ w' = w := by
  by_cases h : lo ≤ n
  · have h1 : decide (lo ≤ n) = true := by simpa using h
    go_enter Tryd.func22, Tryd.ntmps22
    go_wp2
    go_ret
    exact ⟨ret_bool (by simp [inB, h]), rfl⟩
  · have h1 : decide (lo ≤ n) = false := by simpa using h
    have h2 : inB n lo hi = false := by simp [inB, h1]
    have H2 := Lib.hid h2
    clear h2
    go_enter Tryd.func22, Tryd.ntmps22
    go_wp2
    go_ret
    exact ⟨ret_bool H2.out.symm, rfl⟩

theorem specIn_any (n lo hi : Int) (w : World) : Calls Tryd.prog 20 #[.int .i64 n, .int .i64 lo, .int .i64 hi] w fun e w' => e = .returned (.bool (inB n lo hi)) ∧ w' = w := by
  by_cases h : lo ≤ n
  · have h1 : decide (lo ≤ n) = true := by simpa using h
    go_enter Tryd.func20, Tryd.ntmps20
    go_wp2
    go_ret
    exact ⟨ret_bool (by simp [inB, h]), rfl⟩
  · have h1 : decide (lo ≤ n) = false := by simpa using h
    have h2 : inB n lo hi = false := by simp [inB, h1]
    have H2 := Lib.hid h2
    clear h2
    go_enter Tryd.func20, Tryd.ntmps20
    go_wp2
    go_ret
    exact ⟨ret_bool H2.out.symm, rfl⟩

/-- the first index at which p holds, or -1 -/
def findI (p : Int → Bool) (zs : List Int) : Int := match zs.findIdx? p with | some i => i | none => -1
theorem findI_none {p : Int → Bool} {zs : List Int} (h : zs.any p = false) : findI p zs = -1 := by
  have : zs.findIdx? p = none := by rw [List.findIdx?_eq_none_iff]; intro x hx; have := (List.any_eq_false.1 h) x hx; simpa using this
  simp [findI, this]
theorem findI_some {p : Int → Bool} {zs : List Int} {k : Nat} (hk : k < zs.length) (hn : (zs.take k).any p = false) (hp : p (iget zs k) = true) : findI p zs = k := by
  have : zs.findIdx? p = some k := by
    rw [List.findIdx?_eq_some_iff_getElem]
    refine ⟨hk, by rw [← iget_lt hk]; exact hp, fun j hj => ?_⟩
    have hx : zs[j]'(by omega) ∈ zs.take k := by rw [List.mem_take_iff_getElem]; exact ⟨j, by omega, rfl⟩
    have := (List.any_eq_false.1 hn) _ hx
    simpa using this
  simp [findI, this]
theorem findI_any (p : Int → Bool) (zs : List Int) : decide (0 ≤ findI p zs) = zs.any p := by
  cases h : zs.any p with
  | false => rw [findI_none h]; rfl
  | true =>
    rw [decide_eq_true_iff]
    unfold findI
    cases h2 : zs.findIdx? p with
    | some i => exact Int.natCast_nonneg i
    | none =>
      rw [List.findIdx?_eq_none_iff] at h2
      obtain ⟨x, hx, hp⟩ := List.any_eq_true.1 h
      have := h2 x hx
      simp [hp] at this

set_option maxHeartbeats 400000 in
theorem indexFunc_any (fn : Nat) (cap : Array Value) (p : Int → Bool) (ao : Option Addr) (n c : Nat) (zs : List Int) (w : World) (h : Ints w ao n zs)
    (hcf : ∀ (args : Array Value) (w : World), (callFunc fn args).run Tryd.prog w = .ok (.enter fn args) w)
    (hf : ∀ j, j < n → ∀ w', Below w.heap.size w w' → Calls Tryd.prog fn (#[.int .i64 (iget zs j)] ++ cap) w' fun e w'' => e = .returned (.bool (p (iget zs j))) ∧ Below w'.heap.size w' w'') :
    Calls Tryd.prog 55 #[.slice ao n c, .func (.func fn) #[] cap] w fun e w' => e = .returned (.int .i64 (findI p zs)) ∧ Below w.heap.size w w' := by
  have hn := h.2.1
  have HF := Lib.hid hf
  clear hf
  go_enter Tryd.func55, Tryd.ntmps55
  go_wp2
  go_loopw [8] (fun i wr => ∃ k : Nat, k ≤ n ∧ i = .int .i64 k ∧ (zs.take k).any p = false ∧ Below w.heap.size w wr) (fun i _ => n - (intOf i).toNat)
  case atStart => exact ⟨0, Nat.zero_le _, rfl, by simp, Below.refl _ _⟩
  case round =>
    obtain ⟨k, hk, rfl, hpre, hb⟩ := hrel
    have HP := Lib.hid hpre
    clear hpre
    by_cases hlt : k < n
    · obtain ⟨b, off, rfl, hc⟩ := (h.below hb).at_ hlt
      have HH := Lib.hid h
      clear h
      cases hp : p (iget zs k) with
      | true =>
        have HX := Lib.hid hp
        clear hp
        go_wp2_with fail
        refine (HF.out k hlt _ hb).mono ?_
        rintro e w1 ⟨rfl, hb1⟩
        rw [HX.out]
        go_wp2
        go_ret
        exact ⟨ret_int (findI_some (by rw [HH.out.1]; exact hlt) HP.out HX.out).symm, hb.trans (hb1.mono hb.size)⟩
      | false =>
        have HX := Lib.hid hp
        clear hp
        go_wp2_with fail
        refine (HF.out k hlt _ hb).mono ?_
        rintro e w1 ⟨rfl, hb1⟩
        rw [HX.out]
        go_wp2
        go_roundw
        case rel => exact ⟨k + 1, by omega, by go_num, by rw [any_take_iget (by rw [HH.out.1]; exact hlt), HP.out, HX.out]; rfl, hb.trans (hb1.mono hb.size)⟩
        case measure => simp [intOf]; omega
    · obtain rfl : k = n := by omega
      have hl := h.1
      have HL := Lib.hid hl
      clear hl
      go_wp2
      go_ret
      exact ⟨ret_int (findI_none (by have := HP.out; rwa [List.take_of_length_le (Nat.le_of_eq HL.out)] at this)).symm, hb⟩

theorem containsFunc_any (fn : Nat) (cap : Array Value) (p : Int → Bool) (ao : Option Addr) (n c : Nat) (zs : List Int) (w : World) (h : Ints w ao n zs)
    (hcf : ∀ (args : Array Value) (w : World), (callFunc fn args).run Tryd.prog w = .ok (.enter fn args) w)
    (hf : ∀ j, j < n → ∀ w', Below w.heap.size w w' → Calls Tryd.prog fn (#[.int .i64 (iget zs j)] ++ cap) w' fun e w'' => e = .returned (.bool (p (iget zs j))) ∧ Below w'.heap.size w' w'') :
    Calls Tryd.prog 42 #[.slice ao n c, .func (.func fn) #[] cap] w fun e w' => e = .returned (.bool (zs.any p)) ∧ Below w.heap.size w w' := by
  have HF := Lib.hid hf
  clear hf
  go_enter Tryd.func42, Tryd.ntmps42
  go_wp2_with fail
  refine (indexFunc_any fn cap p ao n c zs w h hcf HF.out).mono ?_
  rintro e w1 ⟨rfl, hb1⟩
  go_wp2
  go_ret
  exact ⟨ret_bool (findI_any p zs), hb1⟩
end Go.Proofs.YtljimlejcecleaaDoor

/- IsDiagram, the program's and the reference's. -/
namespace Go.Proofs.YtljimlejcecleaaDoor
open Go.RowKit

/-- a label: 0, or 2 to 32 -/
def isLabel (z : Int) : Bool := z == 0 || inB z 2 32
/-- a diagram: fewer than 5 labels -/
def isDiag (zs : List Int) : Bool := zs.all isLabel && decide (zs.length < 5)

set_option maxHeartbeats 400000 in
theorem spec12Is_any (ao : Option Addr) (n c : Nat) (zs : List Int) (w : World) (h : Ints w ao n zs) :
    Calls Tryd.prog 17 #[.slice ao n c] w fun e w' => e = .returned (.bool (isDiag zs)) ∧ w' = w := by
  have hn := h.2.1
  go_enter Tryd.func17, Tryd.ntmps17
  go_wp2
  go_loop [3] (fun i => ∃ k : Nat, k ≤ n ∧ i = .int .i64 k ∧ (zs.take k).all isLabel = true) (fun i => n - (intOf i).toNat)
  case atStart => exact ⟨0, Nat.zero_le _, rfl, by simp⟩
  case round =>
    obtain ⟨k, hk, rfl, hpre⟩ := hrel
    have HP := Lib.hid hpre
    clear hpre
    by_cases hlt : k < n
    · obtain ⟨b, off, rfl, hc⟩ := h.at_ hlt
      have hl := h.1
      have HL := Lib.hid hl
      clear hl h
      cases hp : isLabel (iget zs k) with
      | true =>
        have HX := Lib.hid hp
        by_cases h0 : iget zs k = 0
        · have h1 : (iget zs k != 0) = false := by simp [h0]
          clear hp h0
          go_wp2
          go_round
          case rel => exact ⟨k + 1, by omega, by go_num, by rw [all_take_iget (by rw [HL.out]; exact hlt), HP.out, HX.out]; rfl⟩
          case measure => simp [intOf]; omega
        · have h1 : (iget zs k != 0) = true := by simp [h0]
          have h2 : inB (iget zs k) 2 32 = true := by unfold isLabel at hp; simpa [h0] using hp
          have H2 := Lib.hid h2
          clear hp h0 h2
          go_wp2_with (go_at_call 20; refine (specIn_any _ _ _ _).mono ?_; rintro e w' ⟨rfl, rfl⟩; rw [H2.out])
          go_round
          case rel => exact ⟨k + 1, by omega, by go_num, by rw [all_take_iget (by rw [HL.out]; exact hlt), HP.out, HX.out]; rfl⟩
          case measure => simp [intOf]; omega
      | false =>
        have HX := Lib.hid hp
        have h1 : (iget zs k != 0) = true := by
          rw [bne_iff_ne]; intro e; unfold isLabel at hp; simp [e] at hp
        have h2 : inB (iget zs k) 2 32 = false := by unfold isLabel at hp; simp only [Bool.or_eq_false_iff] at hp; exact hp.2
        have H2 := Lib.hid h2
        clear hp h2
        go_wp2_with (go_at_call 20; refine (specIn_any _ _ _ _).mono ?_; rintro e w' ⟨rfl, rfl⟩; rw [H2.out])
        go_ret
        exact ⟨ret_bool (by unfold isDiag; rw [all_false_at (by rw [HL.out]; exact hlt) HX.out]; rfl), rfl⟩
    · obtain rfl : k = n := by omega
      have hl := h.1
      have HL := Lib.hid hl
      clear hl
      go_wp2
      go_ret
      exact ⟨ret_bool (by have := HP.out; rw [List.take_of_length_le (Nat.le_of_eq HL.out)] at this; unfold isDiag; rw [this, HL.out]; simp; omega), rfl⟩

theorem isDiagramFn_any (z : Int) (w : World) :
    Calls Tryd.prog 43 #[.int .i64 z] w fun e w' => e = .returned (.bool (!isLabel z)) ∧ w' = w := by
  by_cases h0 : z = 0
  · have h1 : (z != 0) = false := by simp [h0]
    have h2 : isLabel z = true := by simp [isLabel, h0]
    have H2 := Lib.hid h2
    clear h0 h2
    go_enter Tryd.func43, Tryd.ntmps43
    go_wp2
    go_ret
    exact ⟨ret_bool (by rw [H2.out]; rfl), rfl⟩
  · have h1 : (z != 0) = true := by simp [h0]
    have h2 : isLabel z = inB z 2 32 := by simp [isLabel, h0]
    have H2 := Lib.hid h2
    clear h0 h2
    go_enter Tryd.func43, Tryd.ntmps43
    go_wp2_with (go_at_call 22; refine (within_any _ _ _ _).mono ?_; rintro e w' ⟨rfl, rfl⟩)
    go_ret
    exact ⟨ret_bool (by rw [H2.out]), rfl⟩

set_option maxRecDepth 100000 in
theorem isDiagramImpl_any (ao : Option Addr) (n c : Nat) (zs : List Int) (w : World) (h : Ints w ao n zs) :
    Calls Tryd.prog 30 #[.slice ao n c] w fun e w' => e = .returned (.bool (isDiag zs)) ∧ Below w.heap.size w w' := by
  have hl := h.1
  have HL := Lib.hid hl
  clear hl
  have hany : zs.any (fun z => !isLabel z) = !(zs.all isLabel) := by rw [List.any_eq_not_all_not]; simp
  have HA := Lib.hid hany
  clear hany
  by_cases hs : n < 5
  · have h1 : decide ((n : Int) < 5) = true := by simp; omega
    go_enter Tryd.func30, Tryd.ntmps30
    go_wp2_with fail
    refine (containsFunc_any 43 #[] (fun z => !isLabel z) ao n c zs w h (fun _ _ => by rfl) (fun j hj w' hb => (isDiagramFn_any _ w').mono ?_)).mono ?_
    · rintro e w1 ⟨rfl, rfl⟩; exact ⟨rfl, Below.refl _ _⟩
    rintro e w1 ⟨rfl, hb⟩
    go_wp2
    go_ret
    exact ⟨ret_bool (by rw [HA.out]; unfold isDiag; rw [HL.out]; simp [hs]), hb⟩
  · have h1 : decide ((n : Int) < 5) = false := by simp; omega
    go_enter Tryd.func30, Tryd.ntmps30
    go_wp2
    go_ret
    exact ⟨ret_bool (by unfold isDiag; rw [HL.out]; simp; intro _; omega), Below.refl _ _⟩

end Go.Proofs.YtljimlejcecleaaDoor

/- The text of a diagram, in plain Lean. -/
namespace Go.Proofs.YtljimlejcecleaaDoor
open Go.RowKit

/-- a label's word -/
def dgL (z : Int) : List UInt8 := if z = 0 then [105, 110, 102] else Lib.decDigits z.toNat
/-- the text ahead of the closing bracket -/
def dgT (zs : List Int) : List UInt8 := 123 :: Lib.join (zs.map dgL) [44]
def dgS (zs : List Int) : ByteArray := ⟨(dgT zs ++ [125]).toArray⟩
theorem dec_lo {k : Nat} (h : k < 10) : Lib.decDigits k = [UInt8.ofNat (48 + k)] := by
  rw [Lib.decDigits, dif_pos h]
theorem dec_hi {k : Nat} (h0 : 10 ≤ k) (h : k < 100) : Lib.decDigits k = [UInt8.ofNat (48 + k / 10), UInt8.ofNat (48 + k % 10)] := by
  rw [Lib.decDigits, dif_neg (by omega), dec_lo (by omega)]; rfl
theorem dgL_len {z : Int} (h : isLabel z = true) : (dgL z).length ≤ 3 := by
  unfold dgL
  split
  · simp
  · have : 2 ≤ z ∧ z ≤ 32 := by
      unfold isLabel inB at h
      simp at h
      omega
    by_cases h2 : z.toNat < 10
    · rw [dec_lo h2]; simp
    · rw [dec_hi (by omega) (by omega)]; simp
theorem joinTail_app (s x : List UInt8) (r : List (List UInt8)) : Lib.joinTail s (r ++ [x]) = Lib.joinTail s r ++ s ++ x := by simp [Lib.joinTail]
theorem join_snoc (s x : List UInt8) (r : List (List UInt8)) : Lib.join (r ++ [x]) s = if r = [] then x else Lib.join r s ++ s ++ x := by
  cases r with
  | nil => simp [Lib.join_one]
  | cons y r =>
    rw [List.cons_append, Lib.join_cons, Lib.join_cons, joinTail_app]; simp
theorem dgT_snoc {zs : List Int} {k : Nat} (h : k < zs.length) : dgT (zs.take (k + 1)) = if k = 0 then dgT (zs.take k) ++ dgL (iget zs k) else dgT (zs.take k) ++ [44] ++ dgL (iget zs k) := by
  unfold dgT
  rw [take_iget h, List.map_append, List.map_cons, List.map_nil, join_snoc]
  by_cases hk : k = 0
  · subst hk; simp [Lib.join_nil]
  · rw [if_neg hk, if_neg (by rw [List.map_eq_nil_iff, List.take_eq_nil_iff]; rintro (e | e); exact hk e; subst e; simp at h)]; simp
theorem bytes_ext {a b : ByteArray} (h : a.data.toList = b.data.toList) : a = b := by
  cases a; cases b; simp_all [← Array.toList_inj]

/-- a label's word, as a string -/
def dgB (z : Int) : ByteArray := ⟨(dgL z).toArray⟩
theorem dgB_size {z : Int} (h : isLabel z = true) : (dgB z).size ≤ 3 := dgL_len h

theorem dgB_pos {z : Int} (h0 : ¬z = 0) (h : isLabel z = true) : z = (z.toNat : Int) ∧ z.toNat < 100 ∧ dgB z = ⟨(Lib.decDigits z.toNat).toArray⟩ := by
  have : 2 ≤ z ∧ z ≤ 32 := by
    unfold isLabel inB at h
    simp [h0] at h
    omega
  exact ⟨by omega, by omega, by unfold dgB dgL; rw [if_neg h0]⟩

theorem join_len {xs : List ByteArray} (h : ∀ x ∈ xs, x.size ≤ 3) (hn : xs.length < 5) : (Lib.join (xs.map (·.data.toList)) [44]).length ≤ 20 := by
  cases xs with
  | nil => simp [Lib.join_nil]
  | cons x r =>
    rw [List.map_cons, Lib.join_cons, List.length_append, Lib.joinTail_length]
    have h1 : x.data.toList.length ≤ 3 := h x (by simp)
    have h2 : ∀ r : List ByteArray, (∀ y ∈ r, y.size ≤ 3) → Lib.lens (r.map (·.data.toList)) ≤ 3 * r.length := by
      intro r hr
      induction r with
      | nil => simp [Lib.lens]
      | cons y r ih =>
        have a1 : y.data.toList.length ≤ 3 := hr y (by simp)
        have a2 := ih (fun z hz => hr z (by simp [hz]))
        simp only [Lib.lens, List.map_cons, List.sum_cons, List.length_cons] at a2 ⊢
        omega
    have h3 := h2 r (fun y hy => h y (by simp [hy]))
    simp only [List.length_map, List.length_cons, List.length_nil] at hn ⊢
    omega
theorem join_dg (zs : List Int) : Lib.join ((zs.map dgB).map (·.data.toList)) [44] = Lib.join (zs.map dgL) [44] := by
  congr 1
  rw [List.map_map]
  apply List.map_congr_left
  intro z _; rfl

/-- the labels' words, joined -/
def dgJ (zs : List Int) : ByteArray := ⟨(Lib.join (zs.map dgL) [44]).toArray⟩
theorem dgJ_size {zs : List Int} (h : ∀ z ∈ zs, isLabel z = true) (hn : zs.length < 5) : (dgJ zs).size ≤ 20 := by
  have := join_len (xs := zs.map dgB) (by intro x hx; rw [List.mem_map] at hx; obtain ⟨z, hz, rfl⟩ := hx; exact dgB_size (h z hz)) (by rw [List.length_map]; exact hn)
  rw [join_dg] at this
  exact this
theorem dgS_join (zs : List Int) : (⟨#[123]⟩ ++ dgJ zs ++ ⟨#[125]⟩ : ByteArray) = dgS zs := bytes_ext (by simp [dgS, dgT, dgJ])
end Go.Proofs.YtljimlejcecleaaDoor

/- Reading a diagram's text back: pieces, their numbers. No program in sight. -/
namespace Go.Proofs.YtljimlejcecleaaDoor
open Go.RowKit

/-- a list of bytes cut at its commas -/
def splL : List UInt8 → List (List UInt8)
  | [] => [[]]
  | c :: r => if c = 44 then [] :: splL r else match splL r with
    | [] => [[c]]
    | a :: t => (c :: a) :: t
theorem splL_ne : ∀ l, splL l ≠ []
  | [] => by simp [splL]
  | c :: r => by
    unfold splL
    split
    · simp
    · split <;> simp
theorem splL_none : ∀ {x : List UInt8}, (44 : UInt8) ∉ x → splL x = [x]
  | [], _ => rfl
  | c :: r, h => by
    have hr := splL_none (x := r) (by simp at h; exact h.2)
    unfold splL
    rw [if_neg (by simp at h; exact fun e => h.1 e.symm), hr]
theorem splL_at : ∀ {x : List UInt8} (r : List UInt8), (44 : UInt8) ∉ x → splL (x ++ 44 :: r) = x :: splL r
  | [], r, _ => by rw [List.nil_append, splL, if_pos rfl]
  | c :: x, r, h => by
    have hr := splL_at (x := x) r (by simp at h; exact h.2)
    rw [List.cons_append, splL, if_neg (by simp at h; exact fun e => h.1 e.symm), hr]
theorem splL_small : ∀ (l : List UInt8), ∀ x ∈ splL l, x.length ≤ l.length
  | [], x, hx => by simp [splL] at hx; subst hx; simp
  | c :: r, x, hx => by
    have ih := splL_small r
    unfold splL at hx
    split at hx
    · rcases List.mem_cons.1 hx with h | h
      · subst h; simp
      · have := ih x h; simp; omega
    · cases hs : splL r with
      | nil => exact absurd hs (splL_ne r)
      | cons a t =>
        rw [hs] at hx ih
        rcases List.mem_cons.1 hx with h | h
        · subst h
          have := ih a (by simp)
          simp; omega
        · have := ih x (by simp [h])
          simp; omega
theorem splL_join : ∀ {ws : List (List UInt8)}, ws ≠ [] → (∀ w ∈ ws, (44 : UInt8) ∉ w) → splL (Lib.join ws [44]) = ws
  | [], h, _ => absurd rfl h
  | [w], _, h => by rw [Lib.join_one]; exact splL_none (h w (by simp))
  | w :: v :: r, _, h => by
    have ih := splL_join (ws := v :: r) (by simp) fun x hx => h x (by simp at hx ⊢; exact .inr hx)
    have e : Lib.join (w :: v :: r) [44] = w ++ 44 :: Lib.join (v :: r) [44] := by
      rw [Lib.join_cons, Lib.join_cons]; simp [Lib.joinTail]
    rw [e, splL_at _ (h w (by simp)), ih]
/-- the library's pieces -/
theorem index44 : ∀ (l : List UInt8), (Lib.index l [44] = -1 ∧ (44 : UInt8) ∉ l) ∨ ∃ (i : Nat) (x r : List UInt8), Lib.index l [44] = i ∧ x.length = i ∧ (44 : UInt8) ∉ x ∧ l = x ++ 44 :: r
  | [] => .inl ⟨by simp [Lib.index], by simp⟩
  | b :: l => by
    by_cases hb : b = 44
    · subst hb
      exact .inr ⟨0, [], l, by simp [Lib.index, List.isPrefixOf], rfl, by simp, rfl⟩
    · have hp : ([44] : List UInt8).isPrefixOf (b :: l) = false := by simp [List.isPrefixOf]; exact fun e => hb e.symm
      rcases index44 l with ⟨h1, h2⟩ | ⟨i, x, r, h1, h2, h3, h4⟩
      · refine .inl ⟨by unfold Lib.index; rw [if_neg (by rw [hp]; simp), h1]; rfl, by simp; exact ⟨fun e => hb e.symm, h2⟩⟩
      · refine .inr ⟨i + 1, b :: x, r, ?_, by simp [h2], by simp; exact ⟨fun e => hb e.symm, h3⟩, by rw [h4]; rfl⟩
        unfold Lib.index
        rw [if_neg (by rw [hp]; simp), h1, if_neg (by simp)]
        simp
theorem split44 : ∀ (n : Nat) (l : List UInt8), l.length ≤ n → Lib.splitK [44] 0 (Lib.count l [44]) l = splL l
  | n, l, hn => by
    rcases index44 l with ⟨h1, h2⟩ | ⟨i, x, r, h1, h2, h3, h4⟩
    · rw [Lib.count_miss h1, splL_none h2]; rfl
    · rw [Lib.count_hit (by decide) h1, Nat.add_comm]
      have hd : l.drop (i + ([44] : List UInt8).length) = r := by rw [h4, ← h2, show x.length + ([44] : List UInt8).length = (x ++ [44]).length by simp, show x ++ 44 :: r = (x ++ [44]) ++ r by simp, List.drop_left]
      have ht : l.take (i + 0) = x := by rw [h4, ← h2, Nat.add_zero, List.take_left]
      unfold Lib.splitK
      rw [h1, if_neg (by simp), Int.toNat_natCast, ht, hd]
      have hl : r.length < l.length := by rw [h4]; simp; omega
      cases n with
      | zero => omega
      | succ n => rw [split44 n r (by omega), h4, splL_at _ h3]

/-- the number of a word, the program's -/
def pvL (l : List UInt8) : Int :=
  match Lib.parseIntB 64 l with
  | .ok v => v
  | .range => Lib.intSat 64 l
  | _ => 0
/-- the number of a word, the reference's: digits alone, at most nine, no zero ahead -/
def svF (acc : Int) : List UInt8 → Int
  | [] => acc
  | c :: r => if 48 ≤ c.toNat ∧ c.toNat ≤ 57 then svF (acc * 10 + ((c.toNat : Int) - 48)) r else -1
def svL (l : List UInt8) : Int := if l.length = 0 ∨ 9 < l.length ∨ 1 < l.length ∧ l[0]? = some 48 then -1 else svF 0 l
def swL (l : List UInt8) : Int := if l = [105, 110, 102] then 0 else svL l
theorem label_lt {z : Int} (h : isLabel z = true) : z = 0 ∨ 2 ≤ z ∧ z ≤ 32 := by
  unfold isLabel inB at h; simp at h; omega
theorem label_cases {z : Int} (h : isLabel z = true) : z ∈ ([0, 2, 3, 4, 5, 6, 7, 8, 9, 10, 11, 12, 13, 14, 15, 16, 17, 18, 19, 20, 21, 22, 23, 24, 25, 26, 27, 28, 29, 30, 31, 32] : List Int) := by
  simp only [List.mem_cons, List.not_mem_nil, or_false]
  have := label_lt h
  omega
theorem dgL_word {z : Int} (h : isLabel z = true) : dgL z ≠ [] ∧ (44 : UInt8) ∉ dgL z ∧ pvL (dgL z) = z ∧ swL (dgL z) = z := by
  have hm := label_cases h
  clear h
  revert hm
  revert z
  have key : ∀ z ∈ ([0, 2, 3, 4, 5, 6, 7, 8, 9, 10, 11, 12, 13, 14, 15, 16, 17, 18, 19, 20, 21, 22, 23, 24, 25, 26, 27, 28, 29, 30, 31, 32] : List Int), (dgL z ≠ [] ∧ (44 : UInt8) ∉ dgL z ∧ pvL (dgL z) = z ∧ swL (dgL z) = z) := by decide +kernel
  exact fun {z} hm => key z hm
/-- the numbers of a text between the brackets -/
def pnL (l : List UInt8) : List Int := ((splL l).filter fun w => !w.isEmpty).map pvL
def snL (l : List UInt8) : List Int := if l = [] then [] else (splL l).map swL
theorem pnL_join {zs : List Int} (h : ∀ z ∈ zs, isLabel z = true) : pnL (Lib.join (zs.map dgL) [44]) = zs := by
  cases zs with
  | nil => rfl
  | cons z r =>
    unfold pnL
    rw [splL_join (by simp) fun w hw => by rw [List.mem_map] at hw; obtain ⟨x, hx, rfl⟩ := hw; exact (dgL_word (h x hx)).2.1]
    rw [List.filter_eq_self.2 fun w hw => by rw [List.mem_map] at hw; obtain ⟨x, hx, rfl⟩ := hw; have := (dgL_word (h x hx)).1; simpa using this]
    rw [List.map_map]
    conv => rhs; rw [← List.map_id (z :: r)]
    exact List.map_congr_left fun x hx => (dgL_word (h x hx)).2.2.1
theorem snL_join {zs : List Int} (h : ∀ z ∈ zs, isLabel z = true) : snL (Lib.join (zs.map dgL) [44]) = zs := by
  cases zs with
  | nil => rfl
  | cons z r =>
    unfold snL
    have hne : Lib.join ((z :: r).map dgL) [44] ≠ [] := by
      rw [List.map_cons, Lib.join_cons]
      have := (dgL_word (h z (by simp))).1
      intro e
      exact this (List.append_eq_nil_iff.1 e).1
    rw [if_neg hne, splL_join (by simp) fun w hw => by rw [List.mem_map] at hw; obtain ⟨x, hx, rfl⟩ := hw; exact (dgL_word (h x hx)).2.1]
    rw [List.map_map]
    conv => rhs; rw [← List.map_id (z :: r)]
    exact List.map_congr_left fun x hx => (dgL_word (h x hx)).2.2.2
/-- what lies between the first byte and the last one -/
def inL (l : List UInt8) : List UInt8 := (l.drop 1).take (l.length - 2)
theorem inL_dgS (zs : List Int) : inL (dgS zs).data.toList = Lib.join (zs.map dgL) [44] := by
  unfold inL dgS dgT
  simp
theorem diag_labels {zs : List Int} (h : isDiag zs = true) : ∀ z ∈ zs, isLabel z = true := by
  unfold isDiag at h
  rw [Bool.and_eq_true, List.all_eq_true] at h
  exact h.1
/-- the diagram of a text -/
def prR (t : ByteArray) : List Int := if isDiag (pnL (inL t.data.toList)) = true ∧ dgS (pnL (inL t.data.toList)) = t then pnL (inL t.data.toList) else []
def prC (t : ByteArray) : Int := if isDiag (pnL (inL t.data.toList)) = true ∧ dgS (pnL (inL t.data.toList)) = t then 0 else 6
theorem pr_of {t : ByteArray} {zs : List Int} (h : isDiag zs = true) (e : dgS zs = t) : pnL (inL t.data.toList) = zs ∧ snL (inL t.data.toList) = zs := by
  subst e
  rw [inL_dgS]
  exact ⟨pnL_join (diag_labels h), snL_join (diag_labels h)⟩
/-- the reference's answer is the same -/
theorem pr_spec (t : ByteArray) : (isDiag (snL (inL t.data.toList)) = true ∧ dgS (snL (inL t.data.toList)) = t) ↔ (isDiag (pnL (inL t.data.toList)) = true ∧ dgS (pnL (inL t.data.toList)) = t) := by
  constructor
  · rintro ⟨h1, h2⟩
    have := (pr_of h1 h2).1
    rw [this]; exact ⟨h1, h2⟩
  · rintro ⟨h1, h2⟩
    have := (pr_of h1 h2).2
    rw [this]; exact ⟨h1, h2⟩
theorem dgS_few {zs : List Int} (h : isDiag zs = true) : 2 ≤ (dgS zs).size ∧ (dgS zs).size ≤ 100 ∧ (dgS zs).data.toList[0]? = some 123 ∧ (dgS zs).data.toList[(dgS zs).size - 1]? = some 125 := by
  have hn : zs.length < 5 := by unfold isDiag at h; simp at h; omega
  have hj := dgJ_size (diag_labels h) hn
  have hs : (dgS zs).data.toList = 123 :: (Lib.join (zs.map dgL) [44] ++ [125]) := by unfold dgS dgT; simp
  have hl : (dgS zs).size = (Lib.join (zs.map dgL) [44]).length + 2 := by
    have : (dgS zs).size = (dgS zs).data.toList.length := rfl
    rw [this, hs, List.length_cons, List.length_append]; rfl
  have hjl : (Lib.join (zs.map dgL) [44]).length ≤ 20 := hj
  refine ⟨by omega, by omega, by rw [hs]; rfl, ?_⟩
  rw [hl, hs, show (Lib.join (zs.map dgL) [44]).length + 2 - 1 = (Lib.join (zs.map dgL) [44]).length + 1 by omega, List.getElem?_cons_succ, List.getElem?_append_right (Nat.le_refl _), Nat.sub_self]
  rfl
end Go.Proofs.YtljimlejcecleaaDoor

/- The words of the laws' marks on strings: laws.markText. -/
namespace Go.Proofs.YtljimlejcecleaaDoor
open Go.RowKit

/-- string([]byte{x}) -/
theorem conv1 (w : World) (z : Int) : (convert 58 9 (.slice (some ⟨w.heap.size, 0, none⟩) 1 1)).run Tryd.prog (w.alloc (.cells #[.int .u8 z] 5)) = .ok (.string ⟨#[UInt8.ofNat z.toNat]⟩) (w.alloc (.cells #[.int .u8 z] 5)) := by
  refine (run_convert_bytes_string _ 58 9 5 _ 1 1 Tryd.underlying58 Tryd.underlying5 Tryd.underlying9).trans ?_
  refine (run_bytesToString _ _ 1 1 [z] ?_).trans rfl
  refine run_loadCells_list _ ⟨w.heap.size, 0, none⟩ [.int .u8 z] fun j v hv => ?_
  match j, hv with
  | 0, hv => simp at hv; subst hv; simp [Addr.add]

end Go.Proofs.YtljimlejcecleaaDoor

/- The laws' helpers on []string, slices.Clone at []string, and the two functions that tell the names. -/
namespace Go.Proofs.YtljimlejcecleaaDoor
open Go.RowKit

theorem etStr : ET Tryd.prog 36 9 (.string ⟨#[]⟩) 16 := ⟨Tryd.underlying36, by kernel_rfl, rfl, by omega⟩
/-- string k of a list -/
def sget (ss : List ByteArray) (k : Nat) : ByteArray := ss.getD k ⟨#[]⟩
/-- the slice at ao, of n strings, reads as ss -/
def Strs (w : World) (ao : Option Addr) (n : Nat) (ss : List ByteArray) : Prop := Vals w ao n (ss.map Value.string)
theorem Strs.at_ {w : World} {ao : Option Addr} {n : Nat} {ss : List ByteArray} (h : Strs w ao n ss) {k : Nat} (hk : k < n) :
    ∃ b off, ao = some ⟨b, off, none⟩ ∧ w.cell? ⟨b, off + k, none⟩ = some (.string (sget ss k)) := by
  obtain ⟨b, off, e, hc⟩ := h.2.2 (by omega)
  have hl : ss.length = n := by have := h.1; simpa using this
  exact ⟨b, off, e, hc k _ (by rw [List.getElem?_map, List.getElem?_eq_getElem (by omega)]; simp [sget, hl, hk])⟩
theorem Strs.len {w : World} {ao : Option Addr} {n : Nat} {ss : List ByteArray} (h : Strs w ao n ss) : ss.length = n := by have := h.1; simpa using this
theorem Strs.below {w w' : World} {ao : Option Addr} {n : Nat} {ss : List ByteArray} (h : Strs w ao n ss) (hb : Below w.heap.size w w') : Strs w' ao n ss := by
  refine ⟨h.1, h.2.1, fun hn => ?_⟩
  obtain ⟨b, off, rfl, hc⟩ := h.2.2 hn
  refine ⟨b, off, rfl, fun j u hu => ?_⟩
  have := hc j u hu
  exact (World.cell?_of_block (hb.block b (World.block_lt_of_cell? w _ this))).trans this
end Go.Proofs.YtljimlejcecleaaDoor

/- l01Value, l01Split, the reference's. -/
namespace Go.Proofs.YtljimlejcecleaaDoor
open Go.RowKit

theorem svF_step {c : UInt8} {r : List UInt8} {acc : Int} (h : 48 ≤ c.toNat ∧ c.toNat ≤ 57) : svF acc (c :: r) = svF (acc * 10 + ((c.toNat : Int) - 48)) r := by rw [svF, if_pos h]
theorem svF_bad {c : UInt8} {r : List UInt8} {acc : Int} (h : ¬ (48 ≤ c.toNat ∧ c.toNat ≤ 57)) : svF acc (c :: r) = -1 := by rw [svF, if_neg h]
set_option maxHeartbeats 1600000 in
theorem specValue_any (s : ByteArray) (w : World) (hs : s.size ≤ 1048576) : Calls Tryd.prog 16 #[.string s] w fun e w' => e = .returned (.int .i64 (svL s.data.toList)) ∧ w' = w := by
  by_cases h0 : s.size = 0
  · have e1 : ((s.size : Int) == 0) = true := by simp [h0]
    have hv : svL s.data.toList = -1 := by unfold svL; rw [if_pos (.inl h0)]
    rw [hv]
    clear hv h0
    go_enter Tryd.func16, Tryd.ntmps16
    go_wp2
    go_ret
    exact ⟨rfl, rfl⟩
  · have e1 : ((s.size : Int) == 0) = false := by simp [h0]
    by_cases h9 : 9 < s.size
    · have e2 : decide ((9 : Int) < s.size) = true := by simp; omega
      have hv : svL s.data.toList = -1 := by unfold svL; rw [if_pos (.inr (.inl h9))]
      rw [hv]
      clear hv h0 h9
      go_enter Tryd.func16, Tryd.ntmps16
      go_wp2
      go_ret
      exact ⟨rfl, rfl⟩
    · have e2 : decide ((9 : Int) < s.size) = false := by simp; omega
      have h00 : 0 < s.size := by omega
      have hget : ∀ (k : Nat) (h : k < s.size), s.data.toList[k]? = some s[k] := fun k h => by
        have h' : k < s.data.toList.length := h
        rw [List.getElem?_eq_getElem h']; rfl
      by_cases hz : 1 < s.size ∧ s[0].toNat = 48
      · have e3 : decide ((1 : Int) < s.size) = true := by simp; omega
        have e4 : ((s[0].toNat : Int) == 48) = true := by rw [hz.2]; rfl
        have hv : svL s.data.toList = -1 := by
          unfold svL
          have hq : s.data.toList[0]? = some 48 := by rw [hget 0 h00, UInt8.toNat_inj.1 (show s[0].toNat = (48 : UInt8).toNat from hz.2)]
          rw [if_pos (.inr (.inr ⟨hz.1, hq⟩))]
        rw [hv]
        clear hv h0 h9 hz hget
        go_enter Tryd.func16, Tryd.ntmps16
        go_wp2
        go_ret
        exact ⟨rfl, rfl⟩
      · have hv : svL s.data.toList = svF 0 s.data.toList := by
          unfold svL
          rw [if_neg]
          rintro (h | h | ⟨h, h2⟩)
          · exact h0 h
          · exact h9 h
          · rw [hget 0 h00] at h2
            exact hz ⟨h, by rw [Option.some.inj h2]; rfl⟩
        have hlen : s.data.toList.length = s.size := rfl
        rw [hv]
        have e5 : 1 < s.size → ((s[0].toNat : Int) == 48) = false := fun h => by
          rw [beq_eq_false_iff_ne]; intro e; exact hz ⟨h, by omega⟩
        have way : ∀ {P : Prop}, (decide ((1 : Int) < s.size) = true → ((s[0].toNat : Int) == 48) = false → P) → (decide ((1 : Int) < s.size) = false → P) → P := fun p q => by
          by_cases h : 1 < s.size
          · exact p (by simp; omega) (e5 h)
          · exact q (by simp; omega)
        clear hz hv e5
        have HG := Lib.hid hget
        have HL := Lib.hid hlen
        clear hget hlen
        refine way (fun e3 e4 => ?_) (fun e3 => ?_)
        all_goals
          clear way
          go_enter Tryd.func16, Tryd.ntmps16
          go_wp2
          go_loopw [3, 4] (fun nv iv wr => ∃ (k a : Nat), k ≤ s.size ∧ iv = .int .i64 k ∧ nv = .int .i64 a ∧ svF 0 s.data.toList = svF a (s.data.toList.drop k) ∧ a < 10 ^ k ∧ wr = w) (fun _ iv _ => s.size - (intOf iv).toNat)
          case atStart => exact ⟨0, 0, Nat.zero_le _, rfl, rfl, rfl, by decide, rfl⟩
          case round =>
            obtain ⟨k, a, hk, rfl, rfl, hF, ha, rfl⟩ := hrel
            have h10 : (10 : Nat) ^ k ≤ 10 ^ 9 := Nat.pow_le_pow_right (by omega) (by omega)
            by_cases hlt : k < s.size
            · have hd : s.data.toList.drop k = s[k] :: s.data.toList.drop (k + 1) := by
                have h1 := HG.out k hlt
                have h2 : k < s.data.toList.length := by rw [HL.out]; exact hlt
                rw [List.drop_eq_getElem_cons h2]
                rw [List.getElem?_eq_getElem h2] at h1
                rw [Option.some.inj h1]
              rw [hd] at hF
              clear hd
              have hb := s[k].toNat_lt
              have HC := Lib.hid hF
              clear hF
              by_cases hd1 : s[k].toNat < 48
              · have t1 : decide ((s[k].toNat : Int) < 48) = true := by simp; omega
                rw [svF_bad (by omega)] at HC
                go_wp2
                go_ret
                exact ⟨by rw [HC.out]; rfl, rfl⟩
              · have t1 : decide ((s[k].toNat : Int) < 48) = false := by simp; omega
                by_cases hd2 : 57 < s[k].toNat
                · have t2 : decide ((57 : Int) < (s[k].toNat : Int)) = true := by simp; omega
                  rw [svF_bad (by omega)] at HC
                  go_wp2
                  go_ret
                  exact ⟨by rw [HC.out]; rfl, rfl⟩
                · have t2 : decide ((57 : Int) < (s[k].toNat : Int)) = false := by simp; omega
                  rw [svF_step (by omega)] at HC
                  have w1 : IntKind.i64.wrap ((a : Int) * 10) = (a : Int) * 10 := IntWalk.i64_in _ (by omega)
                  have w2 : IntKind.u8.wrap ((s[k].toNat : Int) - 48) = (s[k].toNat : Int) - 48 := by unfold IntKind.wrap; simp [IntKind.bits, IntKind.signed]; omega
                  have w4 : IntKind.i64.wrap ((s[k].toNat : Int) - 48) = (s[k].toNat : Int) - 48 := IntWalk.i64_in _ (by omega)
                  have w3 : IntKind.i64.wrap ((a : Int) * 10 + ((s[k].toNat : Int) - 48)) = ((a * 10 + (s[k].toNat - 48) : Nat) : Int) := by rw [IntWalk.i64_in _ (by omega)]; omega
                  have e6 : (a : Int) * 10 + ((s[k].toNat : Int) - 48) = ((a * 10 + (s[k].toNat - 48) : Nat) : Int) := by omega
                  rw [e6] at HC
                  have hp : a * 10 + (s[k].toNat - 48) < 10 ^ (k + 1) := by rw [Nat.pow_succ]; omega
                  have HP := Lib.hid hp
                  have HE := Lib.hid e6
                  clear e6 hp
                  go_wp2
                  go_roundw
                  case rel => exact ⟨k + 1, a * 10 + (s[k].toNat - 48), by omega, by go_num, by first | rfl | rw [HE.out] | simp [HE.out], HC.out, HP.out, trivial⟩
                  case measure => simp [intOf]; omega
            · obtain rfl : k = s.size := by omega
              have HF := Lib.hid hF
              clear hF
              have hE : s.data.toList.drop s.size = [] := by rw [← HL.out]; exact List.drop_length
              rw [hE] at HF
              clear hE
              go_wp2
              go_ret
              exact ⟨by rw [HF.out]; rfl, rfl⟩
theorem ext_data (s : ByteArray) (a b : Nat) : (s.extract a b).data.toList = (s.data.toList.take b).drop a := by
  rw [Lib.extract_data, List.drop_take]
set_option maxHeartbeats 1600000 in
theorem specSplit_any (s : ByteArray) (w : World) (hs : s.size ≤ 1048576) : Calls Tryd.prog 15 #[.string s, .int .u8 44] w fun e w' => ∃ (ao : Option Addr) (c : Nat) (ws : List ByteArray), e = .returned (.slice ao ws.length c) ∧ Own w' w.heap.size 9 ao ws.length c (ws.map Value.string) ∧ ws.map (·.data.toList) = splL s.data.toList ∧ (∀ x ∈ ws, x.size ≤ s.size) ∧ Below w.heap.size w w' := by
  have hget : ∀ (k : Nat) (h : k < s.size), s.data.toList[k]? = some s[k] := fun k h => by
    have h' : k < s.data.toList.length := h
    rw [List.getElem?_eq_getElem h']; rfl
  have hlen : s.data.toList.length = s.size := rfl
  have HG := Lib.hid hget
  have HL := Lib.hid hlen
  clear hget hlen
  go_enter Tryd.func15, Tryd.ntmps15
  go_wp2
  go_loopw [5, 6, 7] (fun ov av iv wr => ∃ (k a : Nat) (ao : Option Addr) (c m : Nat) (ws : List ByteArray), k ≤ s.size ∧ a ≤ k ∧ m ≤ a ∧ ws.length = m ∧ iv = .int .i64 k ∧ av = .int .i64 a ∧ ov = .slice ao m c ∧ Own wr w.heap.size 9 ao m c (ws.map Value.string) ∧ splL s.data.toList = ws.map (·.data.toList) ++ splL (s.data.toList.drop a) ∧ (44 : UInt8) ∉ (s.data.toList.drop a).take (k - a) ∧ (∀ x ∈ ws, x.size ≤ s.size) ∧ Below w.heap.size w wr) (fun _ _ iv _ => s.size - (intOf iv).toNat)
  case atStart => exact ⟨0, 0, _, _, 0, [], Nat.zero_le _, Nat.le_refl _, Nat.le_refl _, rfl, rfl, rfl, rfl, Own.empty_ w _ (Nat.le_refl _), rfl, by simp, by simp, below_alloc1 _ _⟩
  case round =>
    obtain ⟨k, a, ao, c, m, ws, hk, hak, hma, hwl, rfl, rfl, rfl, ho, hS, hno, hsz, hb⟩ := hrel
    have HO := Lib.hid ho
    have HS := Lib.hid hS
    have HN := Lib.hid hno
    have HZ := Lib.hid hsz
    have HW := Lib.hid hwl
    have hol := ho.lt
    have hbs := hb.size
    clear ho hS hno hsz hwl
    by_cases hlt : k < s.size
    · have hb8 := s[k].toNat_lt
      by_cases hc : s[k].toNat = 44
      · have t1 : ((s[k].toNat : Int) == 44) = true := by rw [hc]; rfl
        have hN1 : splL s.data.toList = (ws ++ [s.extract a k]).map (·.data.toList) ++ splL (s.data.toList.drop (k + 1)) := by
          have h2 : k < s.data.toList.length := by rw [HL.out]; exact hlt
          have h1 := HG.out k hlt
          rw [UInt8.toNat_inj.1 (show s[k].toNat = (44 : UInt8).toNat from hc), List.getElem?_eq_getElem h2] at h1
          have h3 : s.data.toList.drop k = 44 :: s.data.toList.drop (k + 1) := by rw [List.drop_eq_getElem_cons h2, Option.some.inj h1]
          have h4 : s.data.toList.drop a = (s.data.toList.drop a).take (k - a) ++ 44 :: s.data.toList.drop (k + 1) := by
            rw [← h3]
            have : (s.data.toList.drop a).drop (k - a) = s.data.toList.drop k := by rw [List.drop_drop]; congr 1; omega
            rw [← this, List.take_append_drop]
          rw [HS.out, h4, splL_at _ HN.out, List.map_append, List.append_assoc]
          congr 1
          rw [List.map_cons, List.map_nil, ext_data, List.take_drop, show a + (k - a) = k by omega]
          rfl
        have HN1 := Lib.hid hN1
        have HT := Lib.hid (show (ws ++ [s.extract a k]).map Value.string = ws.map Value.string ++ [.string (s.extract a k)] by simp)
        have HX := Lib.hid (show (s.extract a k).size ≤ s.size by rw [ByteArray.size_extract]; omega)
        clear hN1 hc
        go_wp2_with (at_builtin; refine wpList_ap1 etStr _ rfl _ _ rfl w.heap.size ao m c _ rfl HO.out (.string (s.extract a k)) rfl rfl (by omega) hbs ?_; intro ao2 c2 w2 ho2 hg2 hblk)
        have HO2 := Lib.hid ho2
        clear ho2 hblk
        go_wp2
        go_roundw
        case rel => exact ⟨k + 1, k + 1, ao2, c2, m + 1, ws ++ [s.extract a k], by omega, Nat.le_refl _, by omega, by rw [List.length_append, HW.out]; rfl, by go_num, by go_num, rfl, by rw [HT.out]; exact HO2.out, HN1.out, by simp, fun x hx => by rw [List.mem_append] at hx; rcases hx with hx | hx; exact HZ.out x hx; simp at hx; subst hx; exact HX.out, hb.grown hg2 hbs (fun g hg => (hol g hg).1)⟩
        case measure => simp [intOf]; omega
      · have t1 : ((s[k].toNat : Int) == 44) = false := by rw [beq_eq_false_iff_ne]; omega
        have hN1 : (44 : UInt8) ∉ (s.data.toList.drop a).take (k + 1 - a) := by
          have h2 : k < s.data.toList.length := by rw [HL.out]; exact hlt
          have h1 := HG.out k hlt
          rw [show k + 1 - a = (k - a) + 1 by omega, List.take_add_one, List.getElem?_drop, show a + (k - a) = k by omega, h1]
          intro h
          rw [List.mem_append] at h
          rcases h with h | h
          · exact HN.out h
          · simp at h; exact hc (by rw [← h]; rfl)
        have HN1 := Lib.hid hN1
        clear hN1 hc
        go_wp2
        go_roundw
        case rel => exact ⟨k + 1, a, ao, c, m, ws, by omega, by omega, hma, HW.out, by go_num, rfl, rfl, HO.out, HS.out, HN1.out, HZ.out, hb⟩
        case measure => simp [intOf]; omega
    · obtain rfl : k = s.size := by omega
      have hF : (ws ++ [s.extract a s.size]).map (·.data.toList) = splL s.data.toList := by
        have h4 : (s.data.toList.drop a).take (s.size - a) = s.data.toList.drop a := List.take_of_length_le (by rw [List.length_drop, HL.out]; exact Nat.le_refl _)
        have hn := HN.out
        rw [h4] at hn
        rw [HS.out, splL_none hn, List.map_append, List.map_cons, List.map_nil, ext_data, List.take_of_length_le (by rw [HL.out]; exact Nat.le_refl _)]
      have HF := Lib.hid hF
      have HX := Lib.hid (show (s.extract a s.size).size ≤ s.size by rw [ByteArray.size_extract]; omega)
      clear hF
      go_wp2_with (at_builtin; refine wpList_ap1 etStr _ rfl _ _ rfl w.heap.size ao m c _ rfl HO.out (.string (s.extract a s.size)) rfl rfl (by omega) hbs ?_; intro ao2 c2 w2 ho2 hg2 hblk)
      have HO2 := Lib.hid ho2
      clear ho2 hblk
      go_wp2
      go_ret
      exact ⟨ao2, c2, ws ++ [s.extract a s.size], by rw [List.length_append, HW.out]; rfl, by rw [List.length_append, HW.out, List.map_append]; exact HO2.out, HF.out, fun x hx => by rw [List.mem_append] at hx; rcases hx with hx | hx; exact HZ.out x hx; simp at hx; subst hx; exact HX.out, hb.grown hg2 hbs (fun g hg => (hol g hg).1)⟩
end Go.Proofs.YtljimlejcecleaaDoor

/- Contracts of Go's library at this program, out of the kit's shelf (written by its tools lay-shelf and lay-plain, cut to what is used by shelf.py). -/
namespace Go.Proofs
open Go.Shelf
def Tryd.lays156_ren : Go.Shelf.Ren := ⟨fun | 156 => 44 | 165 => 56 | 166 => 57 | 169 => 58 | 240 => 74 | 241 => 75 | 276 => 102 | 277 => 103 | n => n, fun | 31 => 36 | 9 => 9 | 3 => 3 | 4 => 4 | 0 => 0 | 20 => 20 | 72 => 78 | 76 => 80 | 70 => 76 | 37 => 58 | 75 => 61 | 127 => 99 | 164 => 123 | 5 => 5 | 80 => 82 | n => n, fun | n => n⟩
theorem Tryd.lays156 : Go.Proofs.Lays.n156 Tryd.prog Tryd.lays156_ren := {
  mixed := by kernel_rfl
  f156 := Tryd.func44.trans (congrArg some (by kernel_rfl))
  f165 := Tryd.func56.trans (congrArg some (by kernel_rfl))
  f166 := Tryd.func57.trans (congrArg some (by kernel_rfl))
  f169 := Tryd.func58.trans (congrArg some (by kernel_rfl))
  f240 := Tryd.func74.trans (congrArg some (by kernel_rfl))
  f241 := Tryd.func75.trans (congrArg some (by kernel_rfl))
  f276 := Tryd.func102.trans (congrArg some (by kernel_rfl))
  f277 := Tryd.func103.trans (congrArg some (by kernel_rfl))
  t0 := Tryd.underlying0
  a0 := Tryd.isAgg0
  z0 := Tryd.sizeOf0
  v0 := Tryd.zeroValue0
  t3 := Tryd.underlying3
  a3 := Tryd.isAgg3
  z3 := Tryd.sizeOf3
  v3 := Tryd.zeroValue3
  t4 := Tryd.underlying4
  a4 := Tryd.isAgg4
  z4 := Tryd.sizeOf4
  v4 := Tryd.zeroValue4
  t9 := Tryd.underlying9
  a9 := Tryd.isAgg9
  z9 := Tryd.sizeOf9
  v9 := Tryd.zeroValue9
  t20 := Tryd.underlying20
  a20 := Tryd.isAgg20
  z20 := Tryd.sizeOf20
  v20 := Tryd.zeroValue20
  t31 := Tryd.underlying36
  a31 := Tryd.isAgg36
  z31 := Tryd.sizeOf36
  v31 := Tryd.zeroValue36
  t37 := Tryd.underlying58
  a37 := Tryd.isAgg58
  z37 := Tryd.sizeOf58
  v37 := Tryd.zeroValue58
  t70 := Tryd.underlying76
  a70 := Tryd.isAgg76
  z70 := Tryd.sizeOf76
  v70 := Tryd.zeroValue76
  t72 := Tryd.underlying78
  a72 := Tryd.isAgg78
  z72 := Tryd.sizeOf78
  v72 := Tryd.zeroValue78
  t75 := Tryd.underlying61
  a75 := Tryd.isAgg61
  z75 := Tryd.sizeOf61
  v75 := Tryd.zeroValue61
  t76 := Tryd.underlying80
  a76 := Tryd.isAgg80
  z76 := Tryd.sizeOf80
  v76 := Tryd.zeroValue80
  t127 := Tryd.underlying99
  a127 := Tryd.isAgg99
  z127 := Tryd.sizeOf99
  v127 := Tryd.zeroValue99
  t164 := Tryd.underlying123
  a164 := Tryd.isAgg123
  z164 := Tryd.sizeOf123
  v164 := Tryd.zeroValue123 }
theorem Tryd.Builder_Extra_156 : Builder.Extra Tryd.prog Tryd.lays156_ren := {
  sizeBuilder := by kernel_rfl
  liesBuilder := by kernel_rfl
  t5 := Tryd.underlying5
  a5 := Tryd.isAgg5
  z5 := Tryd.sizeOf5
  v5 := Tryd.zeroValue5
  infoByte := by kernel_rfl
  cellsByte := by kernel_rfl
  sizeByte := by kernel_rfl
  neB5 := by decide }
open Go.RowKit in
/-- No element: the empty string; the world is as it was. (Whatever the slice's address and capacity: a nil slice too.) (LAID: no walk: one application.) -/
theorem Tryd.strings_Join_none (a : Option Addr) (c : Nat) (sep : ByteArray) (w : World) :
    Calls Tryd.prog 44 #[.slice a 0 c, .string sep] w fun e w' => e = .returned (.string ⟨#[]⟩) ∧ w' = w := Any.strings_Join_none Tryd.lays156 Tryd.Builder_Extra_156 a c sep w
open Go.RowKit in
/-- strings.Join: "Join concatenates the elements of its first argument to create a single string. The separator string sep is placed between elements in the resulting string.": HOWEVER MANY ELEMENTS. Below the heap's end the world is as it was. (LAID: no walk: one application.) -/
theorem Tryd.strings_Join (bk o c : Nat) (xs : List ByteArray) (sep : ByteArray) (w : World) (hcells : ∀ (j : Nat) x, xs[j]? = some x → w.cell? ⟨bk, o + j, none⟩ = some (.string x)) (hbk : bk < w.heap.size) (hN : xs.length ≤ 140737488355328) (hcap : xs.length ≤ c) (hlen : (Lib.join (xs.map (·.data.toList)) sep.data.toList).length ≤ 140737488355328) :
    Calls Tryd.prog 44 #[.slice (some ⟨bk, o, none⟩) xs.length c, .string sep] w fun e w' => e = .returned (.string ⟨(Lib.join (xs.map (·.data.toList)) sep.data.toList).toArray⟩) ∧ Below w.heap.size w w' := Any.strings_Join Tryd.lays156 Tryd.Builder_Extra_156 bk o c xs sep w hcells hbk hN hcap hlen
def Tryd.laysM173_ren : Go.Shelf.Ren := ⟨fun | 173 => 54 | 246 => 73 | 283 => 98 | 284 => 99 | 285 => 100 | 286 => 101 | 129 => 85 | 317 => 112 | 318 => 113 | 319 => 114 | 320 => 115 | 337 => 117 | 338 => 118 | n => n, fun | 2 => 2 | 3 => 3 | 9 => 9 | 4 => 4 | 171 => 119 | 0 => 0 | 53 => 93 | 37 => 58 | 5 => 5 | 173 => 121 | 212 => 142 | 51 => 109 | 20 => 20 | 213 => 143 | 46 => 86 | 232 => 148 | 233 => 149 | n => n, fun | 17 => 5 | 18 => 6 | 19 => 7 | n => n⟩
theorem Tryd.laysM173 : Go.Proofs.LaysM.n173 Tryd.prog Tryd.laysM173_ren := {
  mixed := by kernel_rfl
  f129 := Tryd.func85.trans (congrArg some (by kernel_rfl))
  f173 := Tryd.func54.trans (congrArg some (by kernel_rfl))
  f246 := Tryd.func73.trans (congrArg some (by kernel_rfl))
  f283 := Tryd.func98.trans (congrArg some (by kernel_rfl))
  f284 := Tryd.func99.trans (congrArg some (by kernel_rfl))
  f285 := Tryd.func100.trans (congrArg some (by kernel_rfl))
  f286 := Tryd.func101.trans (congrArg some (by kernel_rfl))
  f317 := Tryd.func112.trans (congrArg some (by kernel_rfl))
  f318 := Tryd.func113.trans (congrArg some (by kernel_rfl))
  f319 := Tryd.func114.trans (congrArg some (by kernel_rfl))
  f320 := Tryd.func115.trans (congrArg some (by kernel_rfl))
  f337 := Tryd.func117.trans (congrArg some (by kernel_rfl))
  f338 := Tryd.func118.trans (congrArg some (by kernel_rfl))
  t0 := Tryd.underlying0
  a0 := Tryd.isAgg0
  z0 := Tryd.sizeOf0
  v0 := Tryd.zeroValue0
  t2 := Tryd.underlying2
  a2 := Tryd.isAgg2
  z2 := Tryd.sizeOf2
  v2 := Tryd.zeroValue2
  t3 := Tryd.underlying3
  a3 := Tryd.isAgg3
  z3 := Tryd.sizeOf3
  v3 := Tryd.zeroValue3
  t4 := Tryd.underlying4
  a4 := Tryd.isAgg4
  z4 := Tryd.sizeOf4
  v4 := Tryd.zeroValue4
  t5 := Tryd.underlying5
  a5 := Tryd.isAgg5
  z5 := Tryd.sizeOf5
  v5 := Tryd.zeroValue5
  t9 := Tryd.underlying9
  a9 := Tryd.isAgg9
  z9 := Tryd.sizeOf9
  v9 := Tryd.zeroValue9
  t20 := Tryd.underlying20
  a20 := Tryd.isAgg20
  z20 := Tryd.sizeOf20
  v20 := Tryd.zeroValue20
  t37 := Tryd.underlying58
  a37 := Tryd.isAgg58
  z37 := Tryd.sizeOf58
  v37 := Tryd.zeroValue58
  t46 := Tryd.underlying86
  a46 := Tryd.isAgg86
  z46 := Tryd.sizeOf86
  v46 := Tryd.zeroValue86
  t51 := Tryd.underlying109
  a51 := Tryd.isAgg109
  z51 := Tryd.sizeOf109
  v51 := Tryd.zeroValue109
  t53 := Tryd.underlying93
  a53 := Tryd.isAgg93
  z53 := Tryd.sizeOf93
  v53 := Tryd.zeroValue93
  t171 := Tryd.underlying119
  a171 := Tryd.isAgg119
  z171 := Tryd.sizeOf119
  v171 := Tryd.zeroValue119
  t173 := Tryd.underlying121
  a173 := Tryd.isAgg121
  z173 := Tryd.sizeOf121
  v173 := Tryd.zeroValue121
  t212 := Tryd.underlying142
  a212 := Tryd.isAgg142
  z212 := Tryd.sizeOf142
  v212 := Tryd.zeroValue142
  t213 := Tryd.underlying143
  a213 := Tryd.isAgg143
  z213 := Tryd.sizeOf143
  t232 := Tryd.underlying148
  a232 := Tryd.isAgg148
  z232 := Tryd.sizeOf148
  v232 := Tryd.zeroValue148
  t233 := Tryd.underlying149
  a233 := Tryd.isAgg149
  z233 := Tryd.sizeOf149
  v233 := Tryd.zeroValue149
  g17 := by kernel_rfl
  g18 := by kernel_rfl
  g19 := by kernel_rfl
  i0 := by kernel_rfl
  i2 := by kernel_rfl
  i3 := by kernel_rfl
  i4 := by kernel_rfl
  i5 := by kernel_rfl
  i9 := by kernel_rfl
  i20 := by kernel_rfl
  i37 := by kernel_rfl
  i46 := by kernel_rfl
  i51 := by kernel_rfl
  i53 := by kernel_rfl
  i171 := by kernel_rfl
  i173 := by kernel_rfl
  i212 := by kernel_rfl
  i232 := by kernel_rfl
  i233 := by kernel_rfl
  m17 := by kernel_rfl
  m18 := by kernel_rfl
  m19 := by kernel_rfl }
open Go.RowKit Go.Sort Go.Lib in
/-- strconv.FormatInt: "FormatInt returns the string representation of i in the given base": AT BASE 10: i's decimal numeral, for every int64. (LAID: no walk: one application.) -/
theorem Tryd.strconv_FormatInt_10 (n : Int) (h0 : -9223372036854775808 ≤ n) (h1 : n ≤ 9223372036854775807) (w : World) (htab : Lib.TabIs Tryd.prog w "internal/strconv.uint64pow10" .u64 Lib.pow10Tab) :
    Calls Tryd.prog 54 #[.int .i64 n, .int .i64 10] w fun e w' => e = .returned (.string ⟨(Lib.itoa n).toArray⟩) ∧ ∃ k os, w' = grow (w.drewN k) os := Any.strconv_FormatInt_10 Tryd.laysM173 n h0 h1 w htab
def Tryd.lays173_ren : Go.Shelf.Ren := ⟨fun | 173 => 54 | 246 => 73 | 283 => 98 | 284 => 99 | 285 => 100 | 286 => 101 | 129 => 85 | 317 => 112 | 318 => 113 | 319 => 114 | 320 => 115 | 337 => 117 | 338 => 118 | n => n, fun | 2 => 2 | 3 => 3 | 9 => 9 | 4 => 4 | 171 => 119 | 0 => 0 | 53 => 93 | 37 => 58 | 5 => 5 | 173 => 121 | 212 => 142 | 51 => 109 | 20 => 20 | 213 => 143 | 46 => 86 | 232 => 148 | 233 => 149 | n => n, fun | 17 => 5 | 18 => 6 | 19 => 7 | n => n⟩
theorem Tryd.lays173 : Go.Proofs.Lays.n173 Tryd.prog Tryd.lays173_ren := {
  mixed := by kernel_rfl
  f129 := Tryd.func85.trans (congrArg some (by kernel_rfl))
  f173 := Tryd.func54.trans (congrArg some (by kernel_rfl))
  f246 := Tryd.func73.trans (congrArg some (by kernel_rfl))
  f283 := Tryd.func98.trans (congrArg some (by kernel_rfl))
  f284 := Tryd.func99.trans (congrArg some (by kernel_rfl))
  f285 := Tryd.func100.trans (congrArg some (by kernel_rfl))
  f286 := Tryd.func101.trans (congrArg some (by kernel_rfl))
  f317 := Tryd.func112.trans (congrArg some (by kernel_rfl))
  f318 := Tryd.func113.trans (congrArg some (by kernel_rfl))
  f319 := Tryd.func114.trans (congrArg some (by kernel_rfl))
  f320 := Tryd.func115.trans (congrArg some (by kernel_rfl))
  f337 := Tryd.func117.trans (congrArg some (by kernel_rfl))
  f338 := Tryd.func118.trans (congrArg some (by kernel_rfl))
  t0 := Tryd.underlying0
  a0 := Tryd.isAgg0
  z0 := Tryd.sizeOf0
  v0 := Tryd.zeroValue0
  t2 := Tryd.underlying2
  a2 := Tryd.isAgg2
  z2 := Tryd.sizeOf2
  v2 := Tryd.zeroValue2
  t3 := Tryd.underlying3
  a3 := Tryd.isAgg3
  z3 := Tryd.sizeOf3
  v3 := Tryd.zeroValue3
  t4 := Tryd.underlying4
  a4 := Tryd.isAgg4
  z4 := Tryd.sizeOf4
  v4 := Tryd.zeroValue4
  t5 := Tryd.underlying5
  a5 := Tryd.isAgg5
  z5 := Tryd.sizeOf5
  v5 := Tryd.zeroValue5
  t9 := Tryd.underlying9
  a9 := Tryd.isAgg9
  z9 := Tryd.sizeOf9
  v9 := Tryd.zeroValue9
  t20 := Tryd.underlying20
  a20 := Tryd.isAgg20
  z20 := Tryd.sizeOf20
  v20 := Tryd.zeroValue20
  t37 := Tryd.underlying58
  a37 := Tryd.isAgg58
  z37 := Tryd.sizeOf58
  v37 := Tryd.zeroValue58
  t46 := Tryd.underlying86
  a46 := Tryd.isAgg86
  z46 := Tryd.sizeOf86
  v46 := Tryd.zeroValue86
  t51 := Tryd.underlying109
  a51 := Tryd.isAgg109
  z51 := Tryd.sizeOf109
  v51 := Tryd.zeroValue109
  t53 := Tryd.underlying93
  a53 := Tryd.isAgg93
  z53 := Tryd.sizeOf93
  v53 := Tryd.zeroValue93
  t171 := Tryd.underlying119
  a171 := Tryd.isAgg119
  z171 := Tryd.sizeOf119
  v171 := Tryd.zeroValue119
  t173 := Tryd.underlying121
  a173 := Tryd.isAgg121
  z173 := Tryd.sizeOf121
  v173 := Tryd.zeroValue121
  t212 := Tryd.underlying142
  a212 := Tryd.isAgg142
  z212 := Tryd.sizeOf142
  v212 := Tryd.zeroValue142
  t213 := Tryd.underlying143
  a213 := Tryd.isAgg143
  z213 := Tryd.sizeOf143
  t232 := Tryd.underlying148
  a232 := Tryd.isAgg148
  z232 := Tryd.sizeOf148
  v232 := Tryd.zeroValue148
  t233 := Tryd.underlying149
  a233 := Tryd.isAgg149
  z233 := Tryd.sizeOf149
  v233 := Tryd.zeroValue149
  g17 := by kernel_rfl
  g18 := by kernel_rfl
  g19 := by kernel_rfl }
open Go.RowKit Go.Sort Go.Lib in
/-- THE ROAD WITHOUT THE TABLE: 0 <= i < 100. (LAID: no walk: one application.) -/
theorem Tryd.strconv_FormatInt_10_small (i : Nat) (hi : i < 100) (w : World) :
    Calls Tryd.prog 54 #[.int .i64 i, .int .i64 10] w fun e w' => e = .returned (.string ⟨(Lib.decDigits i).toArray⟩) ∧ w' = w := Any.strconv_FormatInt_10_small Tryd.lays173 i hi w
def Tryd.laysC174_ren : Go.Shelf.Ren := ⟨fun | 174 => 40 | 247 => 52 | 245 => 53 | 287 => 68 | 279 => 69 | 280 => 70 | 281 => 71 | 282 => 72 | 321 => 93 | 322 => 94 | 316 => 95 | 171 => 97 | 205 => 96 | 243 => 111 | 246 => 73 | 283 => 98 | 284 => 99 | 285 => 100 | 286 => 101 | 129 => 85 | 317 => 112 | 318 => 113 | 319 => 114 | 320 => 115 | 337 => 117 | 338 => 118 | n => n, fun | 9 => 9 | 3 => 3 | 2 => 2 | 75 => 61 | 85 => 62 | 4 => 4 | 167 => 92 | 5 => 5 | 53 => 93 | 175 => 94 | 46 => 86 | 168 => 96 | 37 => 58 | 0 => 0 | 210 => 116 | 21 => 21 | 127 => 99 | 145 => 140 | 143 => 138 | 171 => 119 | 173 => 121 | 212 => 142 | 51 => 109 | 20 => 20 | 213 => 143 | 232 => 148 | 233 => 149 | 80 => 82 | n => n, fun | 15 => 1 | 16 => 2 | 17 => 5 | 18 => 6 | 19 => 7 | n => n⟩
theorem Tryd.laysC174 : Go.Proofs.LaysC.n174 Tryd.prog Tryd.laysC174_ren := {
  mixed := by kernel_rfl
  f129 := Tryd.func85.trans (congrArg some (by kernel_rfl))
  f171 := Tryd.func97.trans (congrArg some (by kernel_rfl))
  f174 := Tryd.func40.trans (congrArg some (by kernel_rfl))
  f205 := Tryd.func96.trans (congrArg some (by kernel_rfl))
  f243 := Tryd.func111.trans (congrArg some (by kernel_rfl))
  f245 := Tryd.func53.trans (congrArg some (by kernel_rfl))
  f246 := Tryd.func73.trans (congrArg some (by kernel_rfl))
  f247 := Tryd.func52.trans (congrArg some (by kernel_rfl))
  f279 := Tryd.func69.trans (congrArg some (by kernel_rfl))
  f280 := Tryd.func70.trans (congrArg some (by kernel_rfl))
  f281 := Tryd.func71.trans (congrArg some (by kernel_rfl))
  f282 := Tryd.func72.trans (congrArg some (by kernel_rfl))
  f283 := Tryd.func98.trans (congrArg some (by kernel_rfl))
  f284 := Tryd.func99.trans (congrArg some (by kernel_rfl))
  f285 := Tryd.func100.trans (congrArg some (by kernel_rfl))
  f286 := Tryd.func101.trans (congrArg some (by kernel_rfl))
  f287 := Tryd.func68.trans (congrArg some (by kernel_rfl))
  f316 := Tryd.func95.trans (congrArg some (by kernel_rfl))
  f317 := Tryd.func112.trans (congrArg some (by kernel_rfl))
  f318 := Tryd.func113.trans (congrArg some (by kernel_rfl))
  f319 := Tryd.func114.trans (congrArg some (by kernel_rfl))
  f320 := Tryd.func115.trans (congrArg some (by kernel_rfl))
  f321 := Tryd.func93.trans (congrArg some (by kernel_rfl))
  f322 := Tryd.func94.trans (congrArg some (by kernel_rfl))
  f337 := Tryd.func117.trans (congrArg some (by kernel_rfl))
  f338 := Tryd.func118.trans (congrArg some (by kernel_rfl))
  t0 := Tryd.underlying0
  a0 := Tryd.isAgg0
  z0 := Tryd.sizeOf0
  v0 := Tryd.zeroValue0
  t2 := Tryd.underlying2
  a2 := Tryd.isAgg2
  z2 := Tryd.sizeOf2
  v2 := Tryd.zeroValue2
  t3 := Tryd.underlying3
  a3 := Tryd.isAgg3
  z3 := Tryd.sizeOf3
  v3 := Tryd.zeroValue3
  t4 := Tryd.underlying4
  a4 := Tryd.isAgg4
  z4 := Tryd.sizeOf4
  v4 := Tryd.zeroValue4
  t5 := Tryd.underlying5
  a5 := Tryd.isAgg5
  z5 := Tryd.sizeOf5
  v5 := Tryd.zeroValue5
  t9 := Tryd.underlying9
  a9 := Tryd.isAgg9
  z9 := Tryd.sizeOf9
  v9 := Tryd.zeroValue9
  t20 := Tryd.underlying20
  a20 := Tryd.isAgg20
  z20 := Tryd.sizeOf20
  v20 := Tryd.zeroValue20
  t21 := Tryd.underlying21
  a21 := Tryd.isAgg21
  z21 := Tryd.sizeOf21
  v21 := Tryd.zeroValue21
  t37 := Tryd.underlying58
  a37 := Tryd.isAgg58
  z37 := Tryd.sizeOf58
  v37 := Tryd.zeroValue58
  t46 := Tryd.underlying86
  a46 := Tryd.isAgg86
  z46 := Tryd.sizeOf86
  v46 := Tryd.zeroValue86
  t51 := Tryd.underlying109
  a51 := Tryd.isAgg109
  z51 := Tryd.sizeOf109
  v51 := Tryd.zeroValue109
  t53 := Tryd.underlying93
  a53 := Tryd.isAgg93
  z53 := Tryd.sizeOf93
  v53 := Tryd.zeroValue93
  t75 := Tryd.underlying61
  a75 := Tryd.isAgg61
  z75 := Tryd.sizeOf61
  v75 := Tryd.zeroValue61
  t85 := Tryd.underlying62
  a85 := Tryd.isAgg62
  z85 := Tryd.sizeOf62
  v85 := Tryd.zeroValue62
  t127 := Tryd.underlying99
  a127 := Tryd.isAgg99
  z127 := Tryd.sizeOf99
  v127 := Tryd.zeroValue99
  t143 := Tryd.underlying138
  a143 := Tryd.isAgg138
  z143 := Tryd.sizeOf138
  v143 := Tryd.zeroValue138
  t145 := Tryd.underlying140
  a145 := Tryd.isAgg140
  z145 := Tryd.sizeOf140
  v145 := Tryd.zeroValue140
  t167 := Tryd.underlying92
  a167 := Tryd.isAgg92
  z167 := Tryd.sizeOf92
  v167 := Tryd.zeroValue92
  t168 := Tryd.underlying96
  a168 := Tryd.isAgg96
  z168 := Tryd.sizeOf96
  v168 := Tryd.zeroValue96
  t171 := Tryd.underlying119
  a171 := Tryd.isAgg119
  z171 := Tryd.sizeOf119
  v171 := Tryd.zeroValue119
  t173 := Tryd.underlying121
  a173 := Tryd.isAgg121
  z173 := Tryd.sizeOf121
  v173 := Tryd.zeroValue121
  t175 := Tryd.underlying94
  a175 := Tryd.isAgg94
  z175 := Tryd.sizeOf94
  v175 := Tryd.zeroValue94
  t210 := Tryd.underlying116
  a210 := Tryd.isAgg116
  z210 := Tryd.sizeOf116
  v210 := Tryd.zeroValue116
  t212 := Tryd.underlying142
  a212 := Tryd.isAgg142
  z212 := Tryd.sizeOf142
  v212 := Tryd.zeroValue142
  t213 := Tryd.underlying143
  a213 := Tryd.isAgg143
  z213 := Tryd.sizeOf143
  t232 := Tryd.underlying148
  a232 := Tryd.isAgg148
  z232 := Tryd.sizeOf148
  v232 := Tryd.zeroValue148
  t233 := Tryd.underlying149
  a233 := Tryd.isAgg149
  z233 := Tryd.sizeOf149
  v233 := Tryd.zeroValue149
  g15 := by kernel_rfl
  g16 := by kernel_rfl
  g17 := by kernel_rfl
  g18 := by kernel_rfl
  g19 := by kernel_rfl
  t80 := Tryd.underlying82
  a80 := Tryd.isAgg82
  z80 := Tryd.sizeOf82
  v80 := Tryd.zeroValue82
  i0 := by kernel_rfl
  i2 := by kernel_rfl
  i3 := by kernel_rfl
  i4 := by kernel_rfl
  i5 := by kernel_rfl
  i9 := by kernel_rfl
  i20 := by kernel_rfl
  i21 := by kernel_rfl
  i37 := by kernel_rfl
  i46 := by kernel_rfl
  i51 := by kernel_rfl
  i53 := by kernel_rfl
  i75 := by kernel_rfl
  i80 := by kernel_rfl
  i85 := by kernel_rfl
  i127 := by kernel_rfl
  i143 := by kernel_rfl
  i145 := by kernel_rfl
  i167 := by kernel_rfl
  i168 := by kernel_rfl
  i171 := by kernel_rfl
  i173 := by kernel_rfl
  i175 := by kernel_rfl
  i210 := by kernel_rfl
  i212 := by kernel_rfl
  i232 := by kernel_rfl
  i233 := by kernel_rfl
  m15 := by kernel_rfl
  m16 := by kernel_rfl
  m17 := by kernel_rfl
  m18 := by kernel_rfl
  m19 := by kernel_rfl
  c0 := by kernel_rfl
  c2 := by kernel_rfl
  c3 := by kernel_rfl
  c4 := by kernel_rfl
  c5 := by kernel_rfl
  c9 := by kernel_rfl
  c20 := by kernel_rfl
  c21 := by kernel_rfl
  c37 := by kernel_rfl
  c46 := by kernel_rfl
  c51 := by kernel_rfl
  c53 := by kernel_rfl
  c75 := by kernel_rfl
  c80 := by kernel_rfl
  c85 := by kernel_rfl
  c127 := by kernel_rfl
  c143 := by kernel_rfl
  c145 := by kernel_rfl
  c167 := by kernel_rfl
  c168 := by kernel_rfl
  c171 := by kernel_rfl
  c173 := by kernel_rfl
  c175 := by kernel_rfl
  c210 := by kernel_rfl
  c212 := by kernel_rfl
  c213 := by kernel_rfl
  c232 := by kernel_rfl
  c233 := by kernel_rfl }
open Go.RowKit in
/-- strconv.ParseInt(s, 10, 64), AT EVERY STRING THAT SPELLS AN int64 ('Lib.parseIntB 64 s.data.toList = .ok v'): v, AND NO ERROR. (LAID: no walk: one application.) -/
theorem Tryd.strconv_ParseInt_10_at64_ok (s : ByteArray) (hmax : s.size ≤ 9223372036854775806) (v : Int) (h : Lib.parseIntB 64 s.data.toList = .ok v) (w : World) :
    Calls Tryd.prog 40 #[.string s, .int .i64 10, .int .i64 64] w fun e w' => e = .returned (.tuple #[.int .i64 v, .nilIface]) ∧ (w' = w ∨ ∃ t, w' = Lib.bytesWorld w 5 t) := Any.strconv_ParseInt_10_at64_ok Tryd.laysC174 s hmax v h w
def Tryd.laysM146_ren : Go.Shelf.Ren := ⟨fun | 146 => 28 | 221 => 39 | 268 => 49 | 138 => 50 | 143 => 51 | 195 => 64 | 197 => 65 | 218 => 66 | 219 => 67 | 260 => 88 | 217 => 89 | 225 => 90 | 224 => 91 | 267 => 92 | 266 => 109 | 314 => 110 | n => n, fun | 9 => 9 | 31 => 36 | 3 => 3 | 4 => 4 | 0 => 0 | 105 => 89 | 21 => 21 | 5 => 5 | 46 => 86 | 119 => 132 | 139 => 135 | 138 => 134 | 146 => 136 | 51 => 109 | n => n, fun | 1 => 0 | 3 => 3 | 4 => 4 | n => n⟩
theorem Tryd.laysM146 : Go.Proofs.LaysM.n146 Tryd.prog Tryd.laysM146_ren := {
  mixed := by kernel_rfl
  f138 := Tryd.func50.trans (congrArg some (by kernel_rfl))
  f143 := Tryd.func51.trans (congrArg some (by kernel_rfl))
  f146 := Tryd.func28.trans (congrArg some (by kernel_rfl))
  f195 := Tryd.func64.trans (congrArg some (by kernel_rfl))
  f197 := Tryd.func65.trans (congrArg some (by kernel_rfl))
  f217 := Tryd.func89.trans (congrArg some (by kernel_rfl))
  f218 := Tryd.func66.trans (congrArg some (by kernel_rfl))
  f219 := Tryd.func67.trans (congrArg some (by kernel_rfl))
  f221 := Tryd.func39.trans (congrArg some (by kernel_rfl))
  f224 := Tryd.func91.trans (congrArg some (by kernel_rfl))
  f225 := Tryd.func90.trans (congrArg some (by kernel_rfl))
  f260 := Tryd.func88.trans (congrArg some (by kernel_rfl))
  f266 := Tryd.func109.trans (congrArg some (by kernel_rfl))
  f267 := Tryd.func92.trans (congrArg some (by kernel_rfl))
  f268 := Tryd.func49.trans (congrArg some (by kernel_rfl))
  f314 := Tryd.func110.trans (congrArg some (by kernel_rfl))
  t0 := Tryd.underlying0
  a0 := Tryd.isAgg0
  z0 := Tryd.sizeOf0
  v0 := Tryd.zeroValue0
  t3 := Tryd.underlying3
  a3 := Tryd.isAgg3
  z3 := Tryd.sizeOf3
  v3 := Tryd.zeroValue3
  t4 := Tryd.underlying4
  a4 := Tryd.isAgg4
  z4 := Tryd.sizeOf4
  v4 := Tryd.zeroValue4
  t5 := Tryd.underlying5
  a5 := Tryd.isAgg5
  z5 := Tryd.sizeOf5
  v5 := Tryd.zeroValue5
  t9 := Tryd.underlying9
  a9 := Tryd.isAgg9
  z9 := Tryd.sizeOf9
  v9 := Tryd.zeroValue9
  t21 := Tryd.underlying21
  a21 := Tryd.isAgg21
  z21 := Tryd.sizeOf21
  v21 := Tryd.zeroValue21
  t31 := Tryd.underlying36
  a31 := Tryd.isAgg36
  z31 := Tryd.sizeOf36
  v31 := Tryd.zeroValue36
  t46 := Tryd.underlying86
  a46 := Tryd.isAgg86
  z46 := Tryd.sizeOf86
  v46 := Tryd.zeroValue86
  t51 := Tryd.underlying109
  a51 := Tryd.isAgg109
  z51 := Tryd.sizeOf109
  v51 := Tryd.zeroValue109
  t105 := Tryd.underlying89
  a105 := Tryd.isAgg89
  z105 := Tryd.sizeOf89
  v105 := Tryd.zeroValue89
  t119 := Tryd.underlying132
  a119 := Tryd.isAgg132
  z119 := Tryd.sizeOf132
  t138 := Tryd.underlying134
  a138 := Tryd.isAgg134
  z138 := Tryd.sizeOf134
  v138 := Tryd.zeroValue134
  t139 := Tryd.underlying135
  a139 := Tryd.isAgg135
  z139 := Tryd.sizeOf135
  v139 := Tryd.zeroValue135
  t146 := Tryd.underlying136
  a146 := Tryd.isAgg136
  z146 := Tryd.sizeOf136
  v146 := Tryd.zeroValue136
  g1 := by kernel_rfl
  g3 := by kernel_rfl
  g4 := by kernel_rfl
  i0 := by kernel_rfl
  i3 := by kernel_rfl
  i4 := by kernel_rfl
  i5 := by kernel_rfl
  i9 := by kernel_rfl
  i21 := by kernel_rfl
  i31 := by kernel_rfl
  i46 := by kernel_rfl
  i51 := by kernel_rfl
  i105 := by kernel_rfl
  i138 := by kernel_rfl
  i139 := by kernel_rfl
  i146 := by kernel_rfl
  m1 := by kernel_rfl
  s1_3 := fun w h => Go.Proofs.cell_of_shapedOpen_int (zero := #[.int .i64 0]) (t := 3) h (of_decide_eq_true (by kernel_rfl)) (by kernel_rfl) rfl (by kernel_rfl) (by kernel_rfl) Tryd.underlying3
  m3 := by kernel_rfl
  m4 := by kernel_rfl }
end Go.Proofs

/- DiagramText, the program's and the reference's. -/
namespace Go.Proofs.YtljimlejcecleaaDoor
open Go.RowKit

theorem convC (z : Int) (w : World) (g : Nat) (h : w.cell? ⟨g, 0, none⟩ = some (.int .u8 z)) : (convert 58 9 (.slice (some ⟨g, 0, none⟩) 1 1)).run Tryd.prog w = .ok (.string ⟨#[UInt8.ofNat z.toNat]⟩) w := by
  refine (run_convert_bytes_string _ 58 9 5 _ 1 1 Tryd.underlying58 Tryd.underlying5 Tryd.underlying9).trans ?_
  refine (run_bytesToString _ _ 1 1 [z] ?_).trans rfl
  refine run_loadCells_list _ ⟨g, 0, none⟩ [.int .u8 z] fun j v hv => ?_
  match j, hv with
  | 0, hv => simp at hv; subst hv; simpa [Addr.add] using h

set_option maxHeartbeats 1600000 in
theorem specDec_lo (z : Int) (k : Nat) (w : World) (hz : z = k) (hk : k < 10) : Calls Tryd.prog 27 #[.int .i64 z] w fun e w' => e = .returned (.string ⟨#[UInt8.ofNat (48 + k)]⟩) ∧ Below w.heap.size w w' := by
  subst hz
  have h1 : decide ((k : Int) < 10) = true := by simp; omega
  have hc := conv1 w (48 + k)
  go_enter Tryd.func27, Tryd.ntmps27
  go_wp2
  go_ret
  exact ⟨rfl, below_alloc1 _ _⟩
set_option maxHeartbeats 1600000 in
theorem specDec_any (z : Int) (k : Nat) (w : World) (hz : z = k) (hk : k < 100) : Calls Tryd.prog 27 #[.int .i64 z] w fun e w' => e = .returned (.string ⟨(Lib.decDigits k).toArray⟩) ∧ Below w.heap.size w w' := by
  by_cases h : k < 10
  · rw [dec_lo h]; exact specDec_lo z k w hz h
  · subst hz
    rw [dec_hi (by omega) hk]
    have h1 : decide ((k : Int) < 10) = false := by simp; omega
    have hc := convC (48 + k % 10)
    have e1 : IntKind.i64.wrap ((k : Int) / 10) = (k : Int) / 10 := IntWalk.i64_in _ (by omega)
    have e2 : (k : Int).tmod 10 = (k : Int) % 10 := Int.tmod_eq_emod_of_nonneg (by omega)
    have e3 : IntKind.i64.wrap (48 + (k : Int) % 10) = 48 + (k : Int) % 10 := IntWalk.i64_in _ (by omega)
    have e4 : IntKind.u8.wrap (48 + (k : Int) % 10) = 48 + (k : Int) % 10 := by unfold IntKind.wrap; simp [IntKind.bits, IntKind.signed]; omega
    go_enter Tryd.func27, Tryd.ntmps27
    go_wp2_with fail
    go_region_law (go_simp; go_at_call 27; refine (specDec_lo _ (k / 10) _ (by omega) (by omega)).mono ?_; rintro e w2 ⟨rfl, b2⟩; have bX : Below w.heap.size w w2 := below_tr b2 (by first | exact below_drew1 _ | exact (below_alloc1 _ _).drew | exact below_alloc1 _ _); (try have kx : Blk w2 w.heap.size 5 #[.int .u8 (48 + (k : Int) % 10)] := Blk.belowS (w := (w.alloc (.cells #[.int .u8 (48 + (k : Int) % 10)] 5)).drew) (blk_at (w := w) rfl :) b2); (try have kx0 := kx.cell 0); (try simp at kx0))
    all_goals
      have e5 : (48 + (k : Int) % 10).toNat = 48 + k % 10 := by omega
      go_wp2
      go_ret
      refine ⟨?_, ?_⟩
    all_goals first
      | exact bX
      | exact bX.alloc bX.size _
      | exact bX.drew
      | exact (bX.alloc bX.size _).drew
      | skip
    all_goals
      show Ending.returned (Value.string (⟨#[48 + UInt8.ofNat (k / 10)]⟩ ++ ⟨#[UInt8.ofNat (48 + (k : Int) % 10).toNat]⟩)) = _
      rw [e5, UInt8.ofNat_add 48 (k / 10)]
      rfl

set_option maxHeartbeats 3200000 in
theorem specText_any (ao : Option Addr) (n c : Nat) (zs : List Int) (w : World) (h : Ints w ao n zs) (hd : isDiag zs = true) : Calls Tryd.prog 18 #[.slice ao n c] w fun e w' => e = .returned (.string (dgS zs)) ∧ Below w.heap.size w w' := by
  have hl := h.1
  have hn : n < 5 := by unfold isDiag at hd; simp at hd; omega
  have hlab : ∀ k, k < n → isLabel (iget zs k) = true := fun k hk => by
    unfold isDiag at hd
    rw [Bool.and_eq_true, List.all_eq_true] at hd
    exact hd.1 _ (iget_mem (by omega))
  have HL := Lib.hid hl
  have HB := Lib.hid hlab
  clear hl hlab hd
  go_enter Tryd.func18, Tryd.ntmps18
  go_wp2
  go_loopw [3, 4] (fun ov i wr => ∃ (k : Nat) (o : ByteArray), k ≤ n ∧ i = .int .i64 k ∧ ov = .string o ∧ o.data.toList = dgT (zs.take k) ∧ o.size ≤ 1 + 4 * k ∧ Below w.heap.size w wr) (fun _ i _ => n - (intOf i).toNat)
  case atStart => exact ⟨0, _, Nat.zero_le _, rfl, rfl, rfl, by decide, Below.refl _ _⟩
  case round =>
    obtain ⟨k, o, hk, rfl, rfl, ho, hs, hb⟩ := hrel
    have HO := Lib.hid ho
    clear ho
    by_cases hlt : k < n
    · obtain ⟨b, off, rfl, hc⟩ := (h.below hb).at_ hlt
      have hT := dgT_snoc (zs := zs) (k := k) (by rw [HL.out]; exact hlt)
      have hL := HB.out k hlt
      have h3 := dgB_size hL
      have HT := Lib.hid hT
      have HLb := Lib.hid hL
      clear hT hL
      have hbl := World.block_lt_of_cell? _ _ hc
      by_cases h0 : 0 < k
      · by_cases hz : iget zs k = 0
        · have hz1 : (iget zs k == 0) = true := by simp [hz]
          have hw : dgL (iget zs k) = [105, 110, 102] := by unfold dgL; rw [if_pos hz]
          have HW := Lib.hid hw
          clear hw
          go_wp2
          go_roundw
          case rel => exact ⟨k + 1, _, by omega, by go_num, rfl, by rw [HT.out, if_neg (by omega), HW.out, ← HO.out]; simp, by rw [ByteArray.size_append, ByteArray.size_append]; show o.size + 1 + 3 ≤ _; omega, hb⟩
          case measure => simp [intOf]; omega
        · have hz1 : (iget zs k == 0) = false := by simp [hz]
          have HW := Lib.hid (dgB_pos hz HLb.out)
          clear hz
          go_wp2_with fail
          refine (specDec_any _ (iget zs k).toNat _ HW.out.1 HW.out.2.1).mono ?_
          rintro e w2 ⟨rfl, b2⟩
          rw [← HW.out.2.2]
          go_wp2
          go_roundw
          case rel => exact ⟨k + 1, _, by omega, by go_num, rfl, by rw [HT.out, if_neg (by omega), ← HO.out]; simp [dgB], by rw [ByteArray.size_append, ByteArray.size_append]; show o.size + 1 + _ ≤ _; omega, hb.trans (b2.mono hb.size)⟩
          case measure => simp [intOf]; omega
      · obtain rfl : k = 0 := by omega
        rw [Nat.add_zero] at hc
        by_cases hz : iget zs 0 = 0
        · have hz1 : (iget zs 0 == 0) = true := by simp [hz]
          have hw : dgL (iget zs 0) = [105, 110, 102] := by unfold dgL; rw [if_pos hz]
          have HW := Lib.hid hw
          clear hw
          go_wp2
          go_roundw
          case rel => exact ⟨1, _, by omega, by go_num, rfl, by rw [HT.out, if_pos rfl, HW.out, ← HO.out]; simp, by rw [ByteArray.size_append]; show o.size + 3 ≤ _; omega, hb⟩
          case measure => simp [intOf]; omega
        · have hz1 : (iget zs 0 == 0) = false := by simp [hz]
          have HW := Lib.hid (dgB_pos hz HLb.out)
          clear hz
          go_wp2_with fail
          refine (specDec_any _ (iget zs 0).toNat _ HW.out.1 HW.out.2.1).mono ?_
          rintro e w2 ⟨rfl, b2⟩
          rw [← HW.out.2.2]
          go_wp2
          go_roundw
          case rel => exact ⟨1, _, by omega, by go_num, rfl, by rw [HT.out, if_pos trivial, ← HO.out]; simp [dgB], by rw [ByteArray.size_append]; omega, hb.trans (b2.mono hb.size)⟩
          case measure => simp [intOf]; omega
    · obtain rfl : k = n := by omega
      rw [List.take_of_length_le (Nat.le_of_eq HL.out)] at HO
      go_wp2
      go_ret
      exact ⟨by show Ending.returned (Value.string (o ++ ⟨#[125]⟩)) = _; refine congrArg Ending.returned (congrArg Value.string (bytes_ext ?_)); unfold dgS; rw [← HO.out]; simp, hb⟩

theorem joined_any {w : World} {base : Nat} {ao : Option Addr} {n c : Nat} {zs : List Int} (ho : Own w base 9 ao n c ((zs.map dgB).map Value.string)) (h : ∀ z ∈ zs, isLabel z = true) (hn : n < 5) :
    Calls Tryd.prog 44 #[.slice ao n c, .string ⟨#[44]⟩] w fun e w' => e = .returned (.string (dgJ zs)) ∧ Below w.heap.size w w' := by
  have hlen : zs.length = n := by have := ho.len; simpa using this
  rcases Nat.eq_zero_or_pos n with h0 | h0
  · subst h0
    have hz : zs = [] := List.eq_nil_of_length_eq_zero hlen
    subst hz
    refine (Tryd.strings_Join_none ao c ⟨#[44]⟩ w).mono ?_
    rintro e w' ⟨rfl, rfl⟩
    exact ⟨rfl, Below.refl _ _⟩
  · obtain ⟨g, rfl, _, hgl, hnc, hcell, _⟩ := ho.form h0
    have hjl := join_len (xs := zs.map dgB) (by intro x hx; rw [List.mem_map] at hx; obtain ⟨z, hz, rfl⟩ := hx; exact dgB_size (h z hz)) (by rw [List.length_map, hlen]; exact hn)
    have hxl : (zs.map dgB).length = n := by rw [List.length_map, hlen]
    have hJ := Tryd.strings_Join g 0 c (zs.map dgB) ⟨#[44]⟩ w (by
      intro j x hx
      have hj : j < n := by have := (List.getElem?_eq_some_iff.1 hx).1; omega
      rw [Nat.zero_add, hcell j hj, List.getElem?_map, hx]; rfl) hgl (by omega) (by omega) (Nat.le_trans hjl (by omega))
    rw [hxl] at hJ
    refine hJ.mono ?_
    rintro e w' ⟨rfl, hb⟩
    refine ⟨?_, hb⟩
    have := join_dg zs
    exact congrArg Ending.returned (congrArg Value.string (by unfold dgJ; rw [← this]))

theorem implDec_any (z : Int) (k : Nat) (w : World) (hz : z = k) (hk : k < 100) : Calls Tryd.prog 41 #[.int .i64 z] w fun e w' => e = .returned (.string ⟨(Lib.decDigits k).toArray⟩) ∧ w' = w := by
  subst hz
  go_enter Tryd.func41, Tryd.ntmps41
  go_wp2_with fail
  refine (Tryd.strconv_FormatInt_10_small k hk w).mono ?_
  rintro e w' ⟨rfl, rfl⟩
  go_wp2
  go_ret
  exact ⟨rfl, rfl⟩

set_option maxHeartbeats 3200000 in
theorem implText_any (ao : Option Addr) (n c : Nat) (zs : List Int) (w : World) (h : Ints w ao n zs) (hd : isDiag zs = true) : Calls Tryd.prog 31 #[.slice ao n c] w fun e w' => e = .returned (.string (dgS zs)) ∧ Below w.heap.size w w' := by
  have hl := h.1
  have hn : n < 5 := by unfold isDiag at hd; simp at hd; omega
  have hlab : ∀ z ∈ zs, isLabel z = true := by
    unfold isDiag at hd
    rw [Bool.and_eq_true, List.all_eq_true] at hd
    exact hd.1
  have HL := Lib.hid hl
  have HB := Lib.hid hlab
  clear hl hlab hd
  go_enter Tryd.func31, Tryd.ntmps31
  go_wp2
  go_loopw [3, 8] (fun wv i wr => ∃ (k : Nat) (ao' : Option Addr) (c' : Nat), k ≤ n ∧ i = .int .i64 k ∧ wv = .slice ao' k c' ∧ Own wr w.heap.size 9 ao' k c' (((zs.take k).map dgB).map Value.string) ∧ Below w.heap.size w wr) (fun _ i _ => n - (intOf i).toNat)
  case atStart => exact ⟨0, none, 0, Nat.zero_le _, rfl, rfl, Own.nil_ _ _ _, Below.refl _ _⟩
  case round =>
    obtain ⟨k, ao', c', hk, rfl, rfl, ho, hb⟩ := hrel
    by_cases hlt : k < n
    · obtain ⟨b, off, rfl, hc⟩ := (h.below hb).at_ hlt
      have hbs := hb.size
      have hol := ho.lt
      have hT : ((zs.take (k + 1)).map dgB).map Value.string = ((zs.take k).map dgB).map Value.string ++ [.string (dgB (iget zs k))] := by rw [take_iget (by rw [HL.out]; exact hlt)]; simp
      have HT := Lib.hid hT
      have HO := Lib.hid ho
      have HLb := Lib.hid (HB.out _ (iget_mem (by rw [HL.out]; exact hlt)))
      clear hT ho
      by_cases hz : iget zs k = 0
      · have hz1 : (iget zs k == 0) = true := by simp [hz]
        have hw : dgB (iget zs k) = ⟨#[105, 110, 102]⟩ := by unfold dgB dgL; rw [if_pos hz]
        have HW := Lib.hid hw
        clear hw
        go_wp2_with (at_builtin; refine wpList_ap1 etStr _ rfl _ _ rfl w.heap.size ao' k c' _ rfl HO.out (.string ⟨#[105, 110, 102]⟩) rfl rfl (by omega) hbs ?_; intro ao2 c2 w2 ho2 hg2 hblk)
        have HO2 := Lib.hid ho2
        clear ho2 hblk
        go_wp2
        go_roundw
        case rel => exact ⟨k + 1, ao2, c2, by omega, by go_num, rfl, by rw [HT.out, HW.out]; exact HO2.out, hb.grown hg2 hbs (fun g hg => (hol g hg).1)⟩
        case measure => simp [intOf]; omega
      · have hz1 : (iget zs k == 0) = false := by simp [hz]
        have HW := Lib.hid (dgB_pos hz HLb.out)
        clear hz
        go_wp2_with fail
        refine (implDec_any _ (iget zs k).toNat _ HW.out.1 HW.out.2.1).mono ?_
        rintro e w2 ⟨rfl, rfl⟩
        rw [← HW.out.2.2]
        go_wp2_with (at_builtin; refine wpList_ap1 etStr _ rfl _ _ rfl w.heap.size ao' k c' _ rfl HO.out (.string (dgB (iget zs k))) rfl rfl (by omega) hbs ?_; intro ao2 c2 w2 ho2 hg2 hblk)
        have HO2 := Lib.hid ho2
        clear ho2 hblk
        go_wp2
        go_roundw
        case rel => exact ⟨k + 1, ao2, c2, by omega, by go_num, rfl, by rw [HT.out]; exact HO2.out, hb.grown hg2 hbs (fun g hg => (hol g hg).1)⟩
        case measure => simp [intOf]; omega
    · obtain rfl : k = n := by omega
      rw [List.take_of_length_le (Nat.le_of_eq HL.out)] at ho
      have hjs := dgJ_size HB.out (by rw [HL.out]; exact hn)
      have hbs := hb.size
      go_wp2_with fail
      refine (joined_any ho HB.out hn).mono ?_
      rintro e w2 ⟨rfl, b2⟩
      go_wp2
      go_ret
      exact ⟨congrArg Ending.returned (congrArg Value.string (dgS_join zs)), hb.trans (b2.mono hbs)⟩

end Go.Proofs.YtljimlejcecleaaDoor

/- readNumber, the program's. -/
namespace Go.Proofs.YtljimlejcecleaaDoor
open Go.RowKit

theorem parse_in {l : List UInt8} {v : Int} (h : Lib.parseIntB 64 l = .ok v) : -9223372036854775808 ≤ v ∧ v ≤ 9223372036854775807 := by
  unfold Lib.parseIntB at h
  split at h
  · cases h
  · rename_i c r
    dsimp only at h
    split at h
    · cases h
    · cases h
    · rename_i u _
      split at h
      · cases h
      · rename_i h1
        split at h
        · cases h
        · rename_i h2
          injection h with h
          subst h
          by_cases hn : c.toNat = 45
          · simp only [hn, not_true, false_and, if_true, true_and] at h1 h2 ⊢
            omega
          · simp only [hn, not_false_iff, true_and, if_false] at h1 h2 ⊢
            omega
/-- what the listed variables hold -/
structure LF (w : World) : Prop where
  mx : ∃ m : Int, w.cell? ⟨Tryd.laysM146_ren.g 1, 0, none⟩ = some (.int .i64 m)
  tab : Lib.TabIs Tryd.prog w "internal/strconv.uint64pow10" .u64 Lib.pow10Tab
  es : ∃ (tp : TypeId) (p : Value), w.var? Tryd.prog "strconv.ErrSyntax" = some #[.iface tp p]
  er : ∃ (tp : TypeId) (p : Value), w.var? Tryd.prog "strconv.ErrRange" = some #[.iface tp p]
theorem var_kept {P : Program} {w w' : World} {n : String} {cs : Array Value} (h : w.var? P n = some cs) (hb : Below w.heap.size w w') : w'.var? P n = some cs := by
  unfold World.var? at h ⊢
  cases hg : P.globalNamed n with
  | none => rw [hg] at h; exact h
  | some g =>
    rw [hg] at h
    simp only [Option.bind_some] at h ⊢
    have hlt : g < w.heap.size := by
      rcases Nat.lt_or_ge g w.heap.size with h1 | h1
      · exact h1
      · rw [Array.getElem?_eq_none h1] at h; simp at h
    rw [hb.block g hlt]
    exact h
theorem LF.below {w w' : World} (h : LF w) (hb : Below w.heap.size w w') : LF w' := by
  obtain ⟨⟨m, hm⟩, ht, ⟨t1, p1, h1⟩, t2, p2, h2⟩ := h
  exact ⟨⟨m, (World.cell?_of_block (hb.block _ (World.block_lt_of_cell? w _ hm))).trans hm⟩, var_kept ht hb, ⟨t1, p1, var_kept h1 hb⟩, t2, p2, var_kept h2 hb⟩
theorem decAll_any (z : Int) (w : World) (hL : LF w) (h0 : -9223372036854775808 ≤ z ∧ z ≤ 9223372036854775807) : Calls Tryd.prog 41 #[.int .i64 z] w fun e w' => e = .returned (.string ⟨(Lib.itoa z).toArray⟩) ∧ Below w.heap.size w w' := by
  go_enter Tryd.func41, Tryd.ntmps41
  go_wp2_with fail
  refine (Tryd.strconv_FormatInt_10 z h0.1 h0.2 w hL.tab).mono ?_
  rintro e w' ⟨rfl, hb⟩
  have hB : Below w.heap.size w w' := by
    obtain ⟨k, os, rfl⟩ := hb
    exact Lib.below_grow _ w (Nat.le_refl _) k os
  go_wp2
  go_ret
  exact ⟨rfl, hB⟩
set_option maxHeartbeats 1600000 in
theorem readNumber_any (s : ByteArray) (w : World) (hL : LF w) (hs : s.size ≤ 1048576) : Calls Tryd.prog 29 #[.string s] w fun e w' => ∃ b : Bool, e = .returned (.tuple #[.int .i64 (pvL s.data.toList), .bool b]) ∧ Below w.heap.size w w' := by
  have hu : pvL s.data.toList = (match Lib.parseIntB 64 s.data.toList with | .ok v => v | .range => Lib.intSat 64 s.data.toList | _ => 0) := rfl
  rcases h : Lib.parseIntB 64 s.data.toList with v | _ | _
  · rw [h] at hu
    rw [show pvL s.data.toList = v from hu]
    have hv := parse_in h
    have HK := Lib.hid (Tryd.strconv_ParseInt_10_at64_ok s (by omega) v h w)
    clear hu h
    go_enter Tryd.func29, Tryd.ntmps29
    go_wp2_with fail
    refine HK.out.mono ?_
    rintro e w1 ⟨rfl, hw1⟩
    have b1 : Below w.heap.size w w1 := by
      rcases hw1 with rfl | ⟨t, rfl⟩
      · exact Below.refl _ _
      · exact Lib.bytesWorld_below _ _ _
    clear hw1
    go_wp2_with fail
    refine (decAll_any v w1 (hL.below b1) hv).mono ?_
    rintro e w2 ⟨rfl, b2⟩
    go_wp2
    exact bodyPost_ret (v := .tuple #[.int .i64 v, .bool (Lib.itoa v == s.toList)]) (by simp [results, Tryd.f29, go_sem]) rfl ⟨_, rfl, b1.trans (b2.mono b1.size)⟩
  · rw [h] at hu
    rw [show pvL s.data.toList = 0 from hu]
    obtain ⟨tp, p, hes⟩ := hL.es
    have HK := Lib.hid (Any.strconv_ParseInt_10_at64_syntax_var Tryd.laysC174 s (by omega) h tp p w hes)
    clear hu h
    go_enter Tryd.func29, Tryd.ntmps29
    go_wp2_with fail
    refine HK.out.mono ?_
    rintro e w1 ⟨N, rfl, -, -, b1⟩
    go_wp2
    exact bodyPost_ret (v := .tuple #[.int .i64 0, .bool false]) (by simp [results, Tryd.f29, go_sem]) rfl ⟨_, rfl, b1⟩
  · rw [h] at hu
    rw [show pvL s.data.toList = Lib.intSat 64 s.data.toList from hu]
    obtain ⟨tp, p, her⟩ := hL.er
    have HK := Lib.hid (Any.strconv_ParseInt_10_at64_range_var Tryd.laysC174 s (by omega) h tp p w her)
    generalize Lib.intSat 64 s.data.toList = sat at *
    clear hu h
    go_enter Tryd.func29, Tryd.ntmps29
    go_wp2_with fail
    refine HK.out.mono ?_
    rintro e w1 ⟨N, rfl, -, -, b1⟩
    go_wp2
    exact bodyPost_ret (v := .tuple #[.int .i64 sat, .bool false]) (by simp [results, Tryd.f29, go_sem]) rfl ⟨_, rfl, b1⟩
end Go.Proofs.YtljimlejcecleaaDoor

/- ParseDiagram, the reference's and the program's. -/
namespace Go.Proofs.YtljimlejcecleaaDoor
open Go.RowKit

theorem prR_yes {t : ByteArray} (h : isDiag (pnL (inL t.data.toList)) = true ∧ dgS (pnL (inL t.data.toList)) = t) : prR t = pnL (inL t.data.toList) ∧ prC t = 0 := by unfold prR prC; rw [if_pos h, if_pos h]; exact ⟨rfl, rfl⟩
theorem prR_no {t : ByteArray} (h : ¬ (isDiag (pnL (inL t.data.toList)) = true ∧ dgS (pnL (inL t.data.toList)) = t)) : prR t = [] ∧ prC t = 6 := by unfold prR prC; rw [if_neg h, if_neg h]; exact ⟨rfl, rfl⟩
theorem pr_off {t : ByteArray} (h : t.size < 2 ∨ 100 < t.size ∨ t.data.toList[0]? ≠ some 123 ∨ t.data.toList[t.size - 1]? ≠ some 125) : prR t = [] ∧ prC t = 6 := prR_no fun ⟨h1, h2⟩ => by
  have := dgS_few h1
  rw [h2] at this
  rcases h with h | h | h | h
  · omega
  · omega
  · exact h this.2.2.1
  · exact h this.2.2.2
theorem inL_ext (t : ByteArray) : (t.extract 1 (t.size - 1)).data.toList = inL t.data.toList := by
  rw [Lib.extract_data]; unfold inL; rw [show t.data.toList.length = t.size from rfl, show t.size - 1 - 1 = t.size - 2 by omega]
theorem Own.typP {w : World} {lo E n c : Nat} {ao : Option Addr} {xs : List Value} (h : Own w lo E ao n c xs) {g : Nat} (hg : bk ao = some g) : ∃ cs, w.heap[g]? = some (.cells cs E (0, 0)) := by
  rcases h.1.2 with h2 | ⟨g', cap, cur, hv, _, hh, _⟩
  · have h2 := h2.1
    injection h2 with h3; subst h3; cases hg
  · injection hv with h3; subst h3
    obtain rfl := Option.some.inj hg
    exact ⟨cur, hh⟩
theorem Own.otherE {w : World} {lo lo' E E' n c n' c' : Nat} {ao ao' : Option Addr} {xs xs' : List Value} (h : Own w lo E ao n c xs) (h' : Own w lo' E' ao' n' c' xs') (hE : E ≠ E') : bk ao = none ∨ bk ao ≠ bk ao' := by
  cases hb : bk ao with
  | none => exact .inl rfl
  | some g =>
    refine .inr fun e => ?_
    obtain ⟨cs, h1⟩ := h.typP hb
    obtain ⟨cs', h2⟩ := h'.typP e.symm
    rw [h1] at h2
    injection h2 with h2
    injection h2 with _ h2
    exact hE h2
def wget (ws : List ByteArray) (k : Nat) : ByteArray := ws.getD k ⟨#[]⟩
theorem wget_lt {ws : List ByteArray} {k : Nat} (h : k < ws.length) : ws[k]? = some (wget ws k) := by simp [wget, h]
theorem snL_of {l : List UInt8} {ws : List ByteArray} (hl : l ≠ []) (hw : ws.map (·.data.toList) = splL l) : snL l = ws.map fun x => swL x.data.toList := by
  unfold snL
  rw [if_neg hl, ← hw, List.map_map]; rfl
def swN (ws : List ByteArray) (k : Nat) : List Int := (ws.take k).map fun x => swL x.data.toList
theorem swN_succ {ws : List ByteArray} {k : Nat} (h : k < ws.length) : swN ws (k + 1) = swN ws k ++ [swL (wget ws k).data.toList] := by
  unfold swN
  have h1 := wget_lt h
  rw [List.getElem?_eq_getElem h] at h1
  rw [List.take_succ_eq_append_getElem h, List.map_append, Option.some.inj h1]; rfl
set_option maxHeartbeats 1600000 in
theorem specParse_any (t : ByteArray) (w : World) (hs : t.size ≤ 1048576) : Calls Tryd.prog 5 #[.string t] w fun e w' => ∃ v, e = .returned (.tuple #[v, .int .i64 (prC t)]) ∧ OwnS 2 w' w.heap.size w'.heap.size v (prR t) ∧ Below w.heap.size w w' := by
  have hlen : t.data.toList.length = t.size := rfl
  have hget : ∀ (k : Nat) (h : k < t.size), t.data.toList[k]? = some t[k] := fun k h => by
    have h' : k < t.data.toList.length := h
    rw [List.getElem?_eq_getElem h']; rfl
  have no : prR t = [] ∧ prC t = 6 → Calls Tryd.prog 5 #[.string t] w (fun e w' => e = .returned (.tuple #[.slice none 0 0, .int .i64 6]) ∧ Below w.heap.size w w') → Calls Tryd.prog 5 #[.string t] w fun e w' => ∃ v, e = .returned (.tuple #[v, .int .i64 (prC t)]) ∧ OwnS 2 w' w.heap.size w'.heap.size v (prR t) ∧ Below w.heap.size w w' := fun h hc => hc.mono fun e w' ⟨h1, h2⟩ => by
    rw [h.1, h.2]; exact ⟨_, h1, ⟨⟨none, 0, 0, rfl, Own.nil_ _ _ _⟩, in_nil _ _ _ _⟩, h2⟩
  by_cases h2 : t.size < 2
  · refine no (pr_off (.inl h2)) ?_
    have e1 : decide ((t.size : Int) < 2) = true := by simp; omega
    clear no hget hlen
    go_enter Tryd.func5, Tryd.ntmps5
    go_wp2
    exact bodyPost_ret (v := .tuple #[.slice none 0 0, .int .i64 6]) (by simp [results, Tryd.f5, go_sem]) rfl ⟨rfl, Below.refl _ _⟩
  · have e1 : decide ((t.size : Int) < 2) = false := by simp; omega
    have h00 : 0 < t.size := by omega
    have h11 : t.size - 1 < t.size := by omega
    by_cases ha : t[0].toNat = 123
    · have e2 : ((t[0].toNat : Int) != 123) = false := by rw [ha]; rfl
      by_cases hz : t[t.size - 1].toNat = 125
      · have e3 : ((t[t.size - 1].toNat : Int) != 125) = false := by rw [hz]; rfl
        clear no
        obtain ⟨R, hR⟩ : ∃ R, prR t = R := ⟨_, rfl⟩
        obtain ⟨C, hC⟩ : ∃ C, prC t = C := ⟨_, rfl⟩
        rw [hR, hC]
        have hR := Lib.hid hR
        have hC := Lib.hid hC
        have HX := Lib.hid (inL_ext t)
        have HSZ := Lib.hid (show (t.extract 1 (t.size - 1)).size ≤ 1048576 by rw [ByteArray.size_extract]; omega)
        by_cases hem : (t.extract 1 (t.size - 1)).data.toList = []
        · have e4 : (t.extract 1 (t.size - 1)).toList.isEmpty = true := by rw [Lib.toList_data, hem]; rfl
          have HZ := Lib.hid (show snL (inL t.data.toList) = [] by rw [← HX.out, hem]; rfl)
          have hb := below_alloc1 w (.cells #[] 2)
          have ho := Own.empty_ w (base := w.heap.size) 2 (Nat.le_refl _)
          clear hem
          go_enter Tryd.func5, Tryd.ntmps5
          go_upto_region 13 with fail
          cases hd : isDiag [] with
          | false =>
            have hn := prR_no (t := t) fun h => by
              have := (pr_spec t).2 h
              rw [HZ.out, hd] at this; cases this.1
            obtain rfl := hn.1.symm.trans hR.out
            obtain rfl := hn.2.symm.trans hC.out
            have HD := Lib.hid hd
            clear hd hn
            go_wp2_with (go_at_call 17; refine (spec12Is_any (some ⟨w.heap.size, 0, none⟩) 0 0 [] _ (show Ints (w.alloc (.cells #[] 2)) (some ⟨w.heap.size, 0, none⟩) 0 [] from Ints.nil_ _ _)).mono ?_; rintro e w' ⟨rfl, rfl⟩; rw [HD.out])
            exact bodyPost_ret (v := .tuple #[.slice none 0 0, .int .i64 6]) (by simp [results, Tryd.f5, go_sem]) rfl ⟨_, rfl, ⟨⟨none, 0, 0, rfl, Own.nil_ _ _ _⟩, in_nil _ _ _ _⟩, hb⟩
          | true =>
            have HD := Lib.hid hd
            have HI := Lib.hid (show Ints (w.alloc (.cells #[] 2)) (some ⟨w.heap.size, 0, none⟩) 0 [] from Ints.nil_ _ _)
            by_cases ht : dgS [] = t
            · have hn := prR_yes (t := t) ((pr_spec t).1 (by rw [HZ.out]; exact ⟨hd, ht⟩))
              have hzz : pnL (inL t.data.toList) = [] := (pr_of hd ht).1
              rw [hzz] at hn
              obtain rfl := hn.1.symm.trans hR.out
              obtain rfl := hn.2.symm.trans hC.out
              have HT := Lib.hid (show ((dgS []).toList == t.toList) = true by rw [ht]; simp)
              clear hd hn hzz ht
              go_wp2_with (first | (go_at_call 17; refine (spec12Is_any (some ⟨w.heap.size, 0, none⟩) 0 0 [] _ HI.out).mono ?_; rintro e w' ⟨rfl, rfl⟩; rw [HD.out]) | (go_at_call 18; refine (specText_any (some ⟨w.heap.size, 0, none⟩) 0 0 [] _ HI.out HD.out).mono ?_; rintro e w9 ⟨rfl, b9⟩; have ht1 := HT.out))
              exact bodyPost_ret (v := .tuple #[.slice (some ⟨w.heap.size, 0, none⟩) 0 0, .int .i64 0]) (by simp [results, Tryd.f5, go_sem]) rfl ⟨_, rfl, ⟨⟨_, _, _, rfl, (ho.below b9).mono (Nat.zero_le _)⟩, in_slice fun g hg => ⟨(ho.lt g hg).1, Nat.lt_of_lt_of_le (ho.lt g hg).2 b9.size⟩⟩, hb.trans (b9.mono hb.size)⟩
            · have hn := prR_no (t := t) fun h => by
                have := (pr_spec t).2 h
                rw [HZ.out] at this; exact ht this.2
              obtain rfl := hn.1.symm.trans hR.out
              obtain rfl := hn.2.symm.trans hC.out
              have HT := Lib.hid (show ((dgS []).toList == t.toList) = false by rw [beq_eq_false_iff_ne, Lib.toList_data, Lib.toList_data]; exact fun e => ht (bytes_ext e))
              clear hd hn ht
              go_wp2_with (first | (go_at_call 17; refine (spec12Is_any (some ⟨w.heap.size, 0, none⟩) 0 0 [] _ HI.out).mono ?_; rintro e w' ⟨rfl, rfl⟩; rw [HD.out]) | (go_at_call 18; refine (specText_any (some ⟨w.heap.size, 0, none⟩) 0 0 [] _ HI.out HD.out).mono ?_; rintro e w9 ⟨rfl, b9⟩; have ht1 := HT.out))
              exact bodyPost_ret (v := .tuple #[.slice none 0 0, .int .i64 6]) (by simp [results, Tryd.f5, go_sem]) rfl ⟨_, rfl, ⟨⟨none, 0, 0, rfl, Own.nil_ _ _ _⟩, in_nil _ _ _ _⟩, hb.trans (b9.mono hb.size)⟩
        · have e4 : (t.extract 1 (t.size - 1)).toList.isEmpty = false := by
            rw [Lib.toList_data]
            cases h : (t.extract 1 (t.size - 1)).data.toList with
            | nil => exact absurd h hem
            | cons a r => rfl
          go_enter Tryd.func5, Tryd.ntmps5
          go_wp2_with (go_at_call 15; refine (specSplit_any _ _ HSZ.out).mono ?_; rintro e w1 ⟨aw, cw, ws, rfl, hw, hws, hwz, b1⟩)
          rw [HX.out] at hws hem
          have HZ := Lib.hid (snL_of hem hws)
          have HWZ := Lib.hid hwz
          have ha := below_alloc1 w (.cells #[] 2)
          have hb1 : Below w.heap.size w w1 := ha.trans (b1.mono (by simp))
          have ho := (Own.empty_ w (base := w.heap.size) 2 (Nat.le_refl _)).below b1
          have hbig := hw.2
          clear hwz hws hem b1 ha
          go_loopw [4, 7] (fun ov iv wr => ∃ (k : Nat) (ao : Option Addr) (c : Nat), k ≤ ws.length ∧ iv = .int .i64 k ∧ ov = .slice ao k c ∧ Own wr w.heap.size 2 ao k c ((swN ws k).map (Value.int .i64)) ∧ Own wr 0 9 aw ws.length cw (ws.map Value.string) ∧ Below w.heap.size w wr) (fun _ iv _ => ws.length - (intOf iv).toNat)
          case atStart => exact ⟨0, _, _, Nat.zero_le _, rfl, rfl, ho, hw.mono (Nat.zero_le _), hb1⟩
          case round =>
            clear ho hw hb1
            obtain ⟨k, ao, c, hk, rfl, rfl, ho, hw, hb⟩ := hrel
            have hbs := hb.size
            have hol := ho.lt
            by_cases hlt : k < ws.length
            · obtain ⟨g, rfl, -, hgl, -, hcl, -⟩ := hw.form (by omega)
              have hc : wr.cell? ⟨g, k, none⟩ = some (.string (wget ws k)) := by rw [hcl k hlt, List.getElem?_map, wget_lt hlt]; rfl
              have hT : (swN ws (k + 1)).map (Value.int .i64) = (swN ws k).map (Value.int .i64) ++ [.int .i64 (swL (wget ws k).data.toList)] := by rw [swN_succ hlt]; simp
              have HT := Lib.hid hT
              have hxs := HWZ.out (wget ws k) (List.mem_of_getElem? (wget_lt hlt))
              have HXS := Lib.hid (Nat.le_trans hxs HSZ.out)
              have hne := hw.otherE ho (by decide)
              have HO := Lib.hid ho
              have HW := Lib.hid hw
              clear hT hxs hcl ho hw
              by_cases hq : (wget ws k).data.toList = [105, 110, 102]
              · have e5 : ((wget ws k).toList == [105, 110, 102]) = true := by rw [Lib.toList_data, hq]; rfl
                have HV := Lib.hid (show swL (wget ws k).data.toList = 0 by unfold swL; rw [if_pos hq])
                clear hq
                go_wp2_with (at_builtin; refine wpList_ap1 etI _ rfl _ _ rfl w.heap.size ao k c _ rfl HO.out (.int .i64 0) rfl rfl (by omega) hbs ?_; intro ao2 c2 w2 ho2 hg2 hblk)
                have HO2 := Lib.hid ho2
                have HW2 := Lib.hid (HW.out.kept hg2 hne)
                clear ho2 hblk hne
                go_wp2
                go_roundw
                case rel => exact ⟨k + 1, ao2, c2, by omega, by go_num, rfl, by rw [HT.out, HV.out]; exact HO2.out, HW2.out, hb.grown hg2 hbs (fun g hg => (hol g hg).1)⟩
                case measure => simp [intOf]; omega
              · have e5 : ((wget ws k).toList == [105, 110, 102]) = false := by rw [Lib.toList_data, beq_eq_false_iff_ne]; exact hq
                have HV := Lib.hid (show swL (wget ws k).data.toList = svL (wget ws k).data.toList by unfold swL; rw [if_neg hq])
                clear hq
                go_wp2_with (first | (go_at_call 16; refine (specValue_any _ _ HXS.out).mono ?_; rintro e w' ⟨rfl, rfl⟩) | (at_builtin; refine wpList_ap1 etI _ rfl _ _ rfl w.heap.size ao k c _ rfl HO.out (.int .i64 (svL (wget ws k).data.toList)) rfl rfl (by omega) hbs ?_; intro ao2 c2 w2 ho2 hg2 hblk))
                have HO2 := Lib.hid ho2
                have HW2 := Lib.hid (HW.out.kept hg2 hne)
                clear ho2 hblk hne
                go_wp2
                go_roundw
                case rel => exact ⟨k + 1, ao2, c2, by omega, by go_num, rfl, by rw [HT.out, HV.out]; exact HO2.out, HW2.out, hb.grown hg2 hbs (fun g hg => (hol g hg).1)⟩
                case measure => simp [intOf]; omega
            · obtain rfl : k = ws.length := by omega
              have hN : swN ws ws.length = ws.map fun x => swL x.data.toList := by unfold swN; rw [List.take_length]
              rw [hN] at ho
              generalize (ws.map fun x => swL x.data.toList) = zs at *
              generalize ws.length = n at *
              clear hw hN hlt hk HWZ hbig
              go_upto_region 13 with fail
              cases hd : isDiag zs with
              | false =>
                have hn := prR_no (t := t) fun h => by
                  have := (pr_spec t).2 h
                  rw [HZ.out, hd] at this; cases this.1
                obtain rfl := hn.1.symm.trans hR.out
                obtain rfl := hn.2.symm.trans hC.out
                have HD := Lib.hid hd
                clear hd hn
                go_wp2_with (go_at_call 17; refine (spec12Is_any ao n c zs _ ho.ints).mono ?_; rintro e w' ⟨rfl, rfl⟩; rw [HD.out])
                exact bodyPost_ret (v := .tuple #[.slice none 0 0, .int .i64 6]) (by simp [results, Tryd.f5, go_sem]) rfl ⟨_, rfl, ⟨⟨none, 0, 0, rfl, Own.nil_ _ _ _⟩, in_nil _ _ _ _⟩, hb⟩
              | true =>
                have HD := Lib.hid hd
                have HI := Lib.hid ho.ints
                by_cases ht : dgS zs = t
                · have hn := prR_yes (t := t) ((pr_spec t).1 (by rw [HZ.out]; exact ⟨hd, ht⟩))
                  have hzz : pnL (inL t.data.toList) = zs := (pr_of hd ht).1
                  rw [hzz] at hn
                  obtain rfl := hn.1.symm.trans hR.out
                  obtain rfl := hn.2.symm.trans hC.out
                  have HT := Lib.hid (show ((dgS zs).toList == t.toList) = true by rw [ht]; simp)
                  clear hd hn hzz ht
                  go_wp2_with (first | (go_at_call 17; refine (spec12Is_any ao n c zs _ HI.out).mono ?_; rintro e w' ⟨rfl, rfl⟩; rw [HD.out]) | (go_at_call 18; refine (specText_any ao n c zs _ HI.out HD.out).mono ?_; rintro e w9 ⟨rfl, b9⟩; have ht1 := HT.out))
                  exact bodyPost_ret (v := .tuple #[.slice ao n c, .int .i64 0]) (by simp [results, Tryd.f5, go_sem]) rfl ⟨_, rfl, ⟨⟨_, _, _, rfl, (ho.below b9).mono (Nat.zero_le _)⟩, in_slice fun g hg => ⟨(ho.lt g hg).1, Nat.lt_of_lt_of_le (ho.lt g hg).2 b9.size⟩⟩, hb.trans (b9.mono hb.size)⟩
                · have hn := prR_no (t := t) fun h => by
                    have := (pr_spec t).2 h
                    rw [HZ.out] at this; exact ht this.2
                  obtain rfl := hn.1.symm.trans hR.out
                  obtain rfl := hn.2.symm.trans hC.out
                  have HT := Lib.hid (show ((dgS zs).toList == t.toList) = false by rw [beq_eq_false_iff_ne, Lib.toList_data, Lib.toList_data]; exact fun e => ht (bytes_ext e))
                  clear hd hn ht
                  go_wp2_with (first | (go_at_call 17; refine (spec12Is_any ao n c zs _ HI.out).mono ?_; rintro e w' ⟨rfl, rfl⟩; rw [HD.out]) | (go_at_call 18; refine (specText_any ao n c zs _ HI.out HD.out).mono ?_; rintro e w9 ⟨rfl, b9⟩; have ht1 := HT.out))
                  exact bodyPost_ret (v := .tuple #[.slice none 0 0, .int .i64 6]) (by simp [results, Tryd.f5, go_sem]) rfl ⟨_, rfl, ⟨⟨none, 0, 0, rfl, Own.nil_ _ _ _⟩, in_nil _ _ _ _⟩, hb.trans (b9.mono hb.size)⟩
      · have e3 : ((t[t.size - 1].toNat : Int) != 125) = true := by rw [bne_iff_ne]; omega
        refine no (pr_off (.inr (.inr (.inr fun h => ?_)))) ?_
        · rw [hget _ h11] at h
          exact hz (by rw [Option.some.inj h]; rfl)
        · clear no hget hlen
          go_enter Tryd.func5, Tryd.ntmps5
          go_wp2
          exact bodyPost_ret (v := .tuple #[.slice none 0 0, .int .i64 6]) (by simp [results, Tryd.f5, go_sem]) rfl ⟨rfl, Below.refl _ _⟩
    · have e2 : ((t[0].toNat : Int) != 123) = true := by rw [bne_iff_ne]; omega
      refine no (pr_off (.inr (.inr (.inl fun h => ?_)))) ?_
      · rw [hget 0 h00] at h
        exact ha (by rw [Option.some.inj h]; rfl)
      · clear no hget hlen
        go_enter Tryd.func5, Tryd.ntmps5
        go_wp2
        exact bodyPost_ret (v := .tuple #[.slice none 0 0, .int .i64 6]) (by simp [results, Tryd.f5, go_sem]) rfl ⟨rfl, Below.refl _ _⟩
end Go.Proofs.YtljimlejcecleaaDoor

/- ParseDiagram, the program's. -/
namespace Go.Proofs.YtljimlejcecleaaDoor
open Go.RowKit

theorem split_comma (s : ByteArray) : (Lib.splitB ⟨#[44]⟩ 0 (Lib.countB s ⟨#[44]⟩) s).map (·.data.toList) = splL s.data.toList := by
  rw [Lib.splitB_data]
  exact split44 _ _ (Nat.le_refl _)
theorem implSplit_any (s : ByteArray) (w : World) (hL : LF w) (hs : s.size ≤ 1048576) : Calls Tryd.prog 28 #[.string s, .string ⟨#[44]⟩] w fun e w' => ∃ (ao : Option Addr) (c : Nat) (ws : List ByteArray), e = .returned (.slice ao ws.length c) ∧ Own w' w.heap.size 9 ao ws.length c (ws.map Value.string) ∧ ws.map (·.data.toList) = splL s.data.toList ∧ (∀ x ∈ ws, x.size ≤ s.size) ∧ Below w.heap.size w w' := by
  obtain ⟨m, hm⟩ := hL.mx
  refine (Any.strings_Split { Tryd.laysM146 with } Tryd.laysM146.i9 s ⟨#[44]⟩ m w (by omega) hm (Nat.le_refl 1)).mono ?_
  have hlen := Lib.splitB_all ⟨#[44]⟩ (Nat.le_refl 1) 0 _ s rfl
  have hle := Lib.countB_le ⟨#[44]⟩ (Nat.le_refl 1) s.size s (Nat.le_refl _)
  have hsp := split_comma s
  have hz := splL_small s.data.toList
  rw [← hsp] at hz
  generalize Lib.splitB ⟨#[44]⟩ 0 (Lib.countB s ⟨#[44]⟩) s = ws at *
  rw [← hlen]
  rintro e w' ⟨rfl, rfl⟩
  refine ⟨_, _, ws, rfl, ⟨?_, by omega⟩, hsp, fun x hx => ?_, below_alloc1 _ _⟩
  · have := World.ownsRow_lit (base := w.heap.size) (e := 9) (size := 1) w (ws.map Value.string).toArray ws.length (Nat.le_refl _) (by simp [maxLen]; omega) (by simp)
    simp at this
    exact this
  · exact hz _ (List.mem_map.2 ⟨x, hx, rfl⟩)
def pnN (ws : List ByteArray) (k : Nat) : List Int := ((ws.take k).filter fun x => !x.data.toList.isEmpty).map fun x => pvL x.data.toList
theorem pnN_in {ws : List ByteArray} {k : Nat} (h : k < ws.length) (hx : (wget ws k).data.toList.isEmpty = false) : pnN ws (k + 1) = pnN ws k ++ [pvL (wget ws k).data.toList] := by
  unfold pnN
  have h1 := wget_lt h
  rw [List.getElem?_eq_getElem h] at h1
  rw [List.take_succ_eq_append_getElem h, Option.some.inj h1, List.filter_append, List.map_append]
  congr 1
  rw [List.filter_cons, hx]; rfl
theorem pnN_out {ws : List ByteArray} {k : Nat} (h : k < ws.length) (hx : (wget ws k).data.toList.isEmpty = true) : pnN ws (k + 1) = pnN ws k := by
  unfold pnN
  have h1 := wget_lt h
  rw [List.getElem?_eq_getElem h] at h1
  rw [List.take_succ_eq_append_getElem h, Option.some.inj h1, List.filter_append]
  rw [List.filter_cons, hx]; simp
theorem pnN_all {ws : List ByteArray} {l : List UInt8} (hw : ws.map (·.data.toList) = splL l) : pnN ws ws.length = pnL l := by
  unfold pnN pnL
  rw [List.take_length, ← hw, List.filter_map, List.map_map]; rfl
theorem prR_len (t : ByteArray) : (prR t).length ≤ 4 := by
  unfold prR
  split
  · rename_i h
    have h1 := h.1
    unfold isDiag at h1
    rw [Bool.and_eq_true] at h1
    have := of_decide_eq_true h1.2
    omega
  · simp
def okB (t : ByteArray) : Bool := prC t == 0
set_option maxHeartbeats 1600000 in
theorem implParse_any (t : ByteArray) (w : World) (hL : LF w) (hs : t.size ≤ 1048576) : Calls Tryd.prog 19 #[.string t] w fun e w' => ∃ v, e = .returned (.tuple #[v, .bool (okB t)]) ∧ OwnS 2 w' w.heap.size w'.heap.size v (prR t) ∧ Below w.heap.size w w' := by
  obtain ⟨R, hR⟩ : ∃ R, prR t = R := ⟨_, rfl⟩
  obtain ⟨C, hC⟩ : ∃ C, prC t = C := ⟨_, rfl⟩
  unfold okB
  rw [hR, hC]
  have hR := Lib.hid hR
  have hC := Lib.hid hC
  by_cases h2 : t.size < 2
  · have hn := pr_off (t := t) (.inl h2)
    obtain rfl := hn.1.symm.trans hR.out
    obtain rfl := hn.2.symm.trans hC.out
    have e1 : decide ((t.size : Int) < 2) = true := by simp; omega
    clear hn
    go_enter Tryd.func19, Tryd.ntmps19
    go_wp2
    exact bodyPost_ret (v := .tuple #[.slice none 0 0, .bool false]) (by simp [results, Tryd.f19, go_sem]) rfl ⟨_, rfl, ⟨⟨none, 0, 0, rfl, Own.nil_ _ _ _⟩, in_nil _ _ _ _⟩, Below.refl _ _⟩
  · have e1 : decide ((t.size : Int) < 2) = false := by simp; omega
    by_cases h100 : 100 < t.size
    · have hn := pr_off (t := t) (.inr (.inl h100))
      obtain rfl := hn.1.symm.trans hR.out
      obtain rfl := hn.2.symm.trans hC.out
      have e2 : decide ((100 : Int) < t.size) = true := by simp; omega
      clear hn
      go_enter Tryd.func19, Tryd.ntmps19
      go_wp2
      exact bodyPost_ret (v := .tuple #[.slice none 0 0, .bool false]) (by simp [results, Tryd.f19, go_sem]) rfl ⟨_, rfl, ⟨⟨none, 0, 0, rfl, Own.nil_ _ _ _⟩, in_nil _ _ _ _⟩, Below.refl _ _⟩
    · have e2 : decide ((100 : Int) < t.size) = false := by simp; omega
      have HX := Lib.hid (inL_ext t)
      have HSZ := Lib.hid (show (t.extract 1 (t.size - 1)).size ≤ 1048576 by rw [ByteArray.size_extract]; omega)
      go_enter Tryd.func19, Tryd.ntmps19
      go_wp2_with (go_at_call 28; refine (implSplit_any _ _ hL HSZ.out).mono ?_; rintro e w1 ⟨aw, cw, ws, rfl, hw, hws, hwz, b1⟩)
      rw [HX.out] at hws
      have HZ := Lib.hid (pnN_all hws).symm
      have HWZ := Lib.hid hwz
      have hbig := hw.2
      clear hwz hws
      go_loopw [4, 24] (fun ov iv wr => ∃ (k m : Nat) (ao : Option Addr) (c : Nat), k ≤ ws.length ∧ m ≤ k ∧ iv = .int .i64 k ∧ ov = .slice ao m c ∧ Own wr w.heap.size 2 ao m c ((pnN ws k).map (Value.int .i64)) ∧ Own wr 0 9 aw ws.length cw (ws.map Value.string) ∧ Below w.heap.size w wr) (fun _ iv _ => ws.length - (intOf iv).toNat)
      case atStart => exact ⟨0, 0, none, 0, Nat.zero_le _, Nat.le_refl _, rfl, rfl, Own.nil_ _ _ _, hw.mono (Nat.zero_le _), b1⟩
      case round =>
        clear hw b1
        obtain ⟨k, m, ao, c, hk, hmk, rfl, rfl, ho, hw, hb⟩ := hrel
        have hLr := hL.below hb
        have hbs := hb.size
        by_cases hlt : k < ws.length
        · obtain ⟨g, rfl, -, hgl, -, hcl, -⟩ := hw.form (by omega)
          have hc : wr.cell? ⟨g, k, none⟩ = some (.string (wget ws k)) := by rw [hcl k hlt, List.getElem?_map, wget_lt hlt]; rfl
          have hxs := HWZ.out (wget ws k) (List.mem_of_getElem? (wget_lt hlt))
          have HXS := Lib.hid (Nat.le_trans hxs HSZ.out)
          clear hxs hcl
          by_cases hq : (wget ws k).data.toList.isEmpty = true
          · have e5 : (wget ws k).toList.isEmpty = true := by rw [Lib.toList_data, hq]
            have HT := Lib.hid (pnN_out hlt hq)
            clear hq
            go_wp2_with (go_at_call 29; refine (readNumber_any _ _ hLr HXS.out).mono ?_; rintro e w2 ⟨bb, rfl, b2⟩; have HO2 := Lib.hid (ho.below b2); have HW2 := Lib.hid (hw.below b2); have B2 := hb.trans (b2.mono hb.size))
            go_roundw
            case rel => exact ⟨k + 1, m, ao, c, by omega, by omega, by go_num, rfl, by rw [HT.out]; exact HO2.out, HW2.out, B2⟩
            case measure => simp [intOf]; omega
          · have hq : (wget ws k).data.toList.isEmpty = false := by simpa using hq
            have e5 : (wget ws k).toList.isEmpty = false := by rw [Lib.toList_data, hq]
            have hT : (pnN ws (k + 1)).map (Value.int .i64) = (pnN ws k).map (Value.int .i64) ++ [.int .i64 (pvL (wget ws k).data.toList)] := by rw [pnN_in hlt hq]; simp
            have HT := Lib.hid hT
            clear hq hT
            have hne := hw.otherE ho (by decide)
            have hol := ho.lt
            go_wp2_with (first | (go_at_call 29; refine (readNumber_any _ _ hLr HXS.out).mono ?_; rintro e w2 ⟨bb, rfl, b2⟩; have HO2 := Lib.hid (ho.below b2); have HW2 := Lib.hid (hw.below b2); have B2 := hb.trans (b2.mono hb.size); have s2 := b2.size) | (at_builtin; refine wpList_ap1 etI _ rfl _ _ rfl w.heap.size ao m c _ rfl HO2.out (.int .i64 (pvL (wget ws k).data.toList)) rfl rfl (by omega) (by omega) ?_; intro ao2 c2 w3 ho3 hg3 hblk))
            have HO3 := Lib.hid ho3
            have HW3 := Lib.hid (HW2.out.kept hg3 hne)
            clear ho3 hblk hne ho hw
            go_wp2
            go_roundw
            case rel => exact ⟨k + 1, m + 1, ao2, c2, by omega, by omega, by go_num, rfl, by rw [HT.out]; exact HO3.out, HW3.out, B2.grown hg3 (by omega) (fun g hg => (hol g hg).1)⟩
            case measure => simp [intOf]; omega
        · obtain rfl : k = ws.length := by omega
          have hzz := HZ.out
          generalize pnN ws ws.length = zs at *
          have HZ := Lib.hid hzz
          generalize ws.length = n at *
          clear hw hlt hk hzz HWZ hbig
          go_upto_region 11 with fail
          cases hd : isDiag zs with
          | false =>
            have hn := prR_no (t := t) fun h => by rw [HZ.out, hd] at h; cases h.1
            obtain rfl := hn.1.symm.trans hR.out
            obtain rfl := hn.2.symm.trans hC.out
            have HD := Lib.hid hd
            have HI := Lib.hid ho.ints
            clear hd hn
            go_wp2_with (go_at_call 30; refine (isDiagramImpl_any ao m c zs wr HI.out).mono ?_; rintro e w8 ⟨rfl, b8⟩; rw [HD.out])
            exact bodyPost_ret (v := .tuple #[.slice none 0 0, .bool false]) (by simp [results, Tryd.f19, go_sem]) rfl ⟨_, rfl, ⟨⟨none, 0, 0, rfl, Own.nil_ _ _ _⟩, in_nil _ _ _ _⟩, hb.trans (b8.mono hb.size)⟩
          | true =>
            have HD := Lib.hid hd
            have HI := Lib.hid ho.ints
            have HO := Lib.hid ho
            by_cases ht : dgS zs = t
            · have hn := prR_yes (t := t) (by rw [HZ.out]; exact ⟨hd, ht⟩)
              rw [HZ.out] at hn
              obtain rfl := hn.1.symm.trans hR.out
              obtain rfl := hn.2.symm.trans hC.out
              have HT := Lib.hid (show ((dgS zs).toList == t.toList) = true by rw [ht]; simp)
              clear hd hn ht
              go_wp2_with (first | (go_at_call 30; refine (isDiagramImpl_any ao m c zs wr HI.out).mono ?_; rintro e w8 ⟨rfl, b8⟩; rw [HD.out]) | (go_at_call 31; refine (implText_any ao m c zs _ (HI.out.below b8) HD.out).mono ?_; rintro e w9 ⟨rfl, b9⟩; have ht1 := HT.out))
              have B9 : Below wr.heap.size wr w9 := b8.trans (b9.mono b8.size)
              exact bodyPost_ret (v := .tuple #[.slice ao m c, .bool true]) (by simp [results, Tryd.f19, go_sem]) rfl ⟨_, rfl, ⟨⟨_, _, _, rfl, (HO.out.below B9).mono (Nat.zero_le _)⟩, in_slice fun g hg => ⟨(HO.out.lt g hg).1, Nat.lt_of_lt_of_le (HO.out.lt g hg).2 B9.size⟩⟩, hb.trans (B9.mono hb.size)⟩
            · have hn := prR_no (t := t) fun h => by
                rw [HZ.out] at h; exact ht h.2
              obtain rfl := hn.1.symm.trans hR.out
              obtain rfl := hn.2.symm.trans hC.out
              have HT := Lib.hid (show ((dgS zs).toList == t.toList) = false by rw [beq_eq_false_iff_ne, Lib.toList_data, Lib.toList_data]; exact fun e => ht (bytes_ext e))
              clear hd hn ht
              go_wp2_with (first | (go_at_call 30; refine (isDiagramImpl_any ao m c zs wr HI.out).mono ?_; rintro e w8 ⟨rfl, b8⟩; rw [HD.out]) | (go_at_call 31; refine (implText_any ao m c zs _ (HI.out.below b8) HD.out).mono ?_; rintro e w9 ⟨rfl, b9⟩; have ht1 := HT.out))
              have B9 : Below wr.heap.size wr w9 := b8.trans (b9.mono b8.size)
              exact bodyPost_ret (v := .tuple #[.slice none 0 0, .bool false]) (by simp [results, Tryd.f19, go_sem]) rfl ⟨_, rfl, ⟨⟨none, 0, 0, rfl, Own.nil_ _ _ _⟩, in_nil _ _ _ _⟩, hb.trans (B9.mono hb.size)⟩
set_option maxHeartbeats 1600000 in
theorem implParseDiagram_any (t : ByteArray) (w : World) (hL : LF w) (hs : t.size ≤ 1048576) : Calls Tryd.prog 6 #[.string t] w fun e w' => ∃ v, e = .returned (.tuple #[v, .int .i64 (prC t)]) ∧ OwnS 2 w' w.heap.size w'.heap.size v (prR t) ∧ Below w.heap.size w w' := by
  have hx := implParse_any t w hL hs
  have hcase : (prR t = [] ∧ prC t = 6) ∨ prC t = 0 := by
    by_cases h : isDiag (pnL (inL t.data.toList)) = true ∧ dgS (pnL (inL t.data.toList)) = t
    · exact .inr (prR_yes h).2
    · exact .inl (prR_no h)
  unfold okB at hx
  obtain ⟨R, hR⟩ : ∃ R, prR t = R := ⟨_, rfl⟩
  obtain ⟨C, hC⟩ : ∃ C, prC t = C := ⟨_, rfl⟩
  rw [hR, hC] at hx hcase ⊢
  clear hR hC
  rcases hcase with ⟨rfl, rfl⟩ | rfl
  · go_enter Tryd.func6, Tryd.ntmps6
    go_wp2_with fail
    refine hx.mono ?_
    rintro e w1 ⟨v, rfl, o1, b1⟩
    go_wp2
    exact bodyPost_ret (v := .tuple #[.slice none 0 0, .int .i64 6]) (by simp [results, Tryd.f6, go_sem]) rfl ⟨_, rfl, ⟨⟨none, 0, 0, rfl, Own.nil_ _ _ _⟩, in_nil _ _ _ _⟩, b1⟩
  · go_enter Tryd.func6, Tryd.ntmps6
    go_wp2_with fail
    refine hx.mono ?_
    rintro e w1 ⟨v, rfl, o1, b1⟩
    go_wp2
    exact bodyPost_ret (v := .tuple #[v, .int .i64 0]) (by simp [results, Tryd.f6, go_sem]) rfl ⟨_, rfl, o1, b1⟩
end Go.Proofs.YtljimlejcecleaaDoor

/- The walk of FnExactParseDiagram: true, whatever the arguments. Written by genwalk.py, the contracts put in by hand. -/
namespace Go.Proofs.YtljimlejcecleaaDoor
open Go.RowKit

set_option maxHeartbeats 3200000 in
theorem walkParseDiagram (t : ByteArray) (w : World) (hL : LF w) :
    Calls Tryd.prog 3 #[.string t] w fun e w' => e = .returned (.bool true) ∧ Below w.heap.size w w' := by
  have hsz := prR_len t
  have B0 : Below w.heap.size w w := Below.refl _ _
  by_cases hs0 : t.size ≤ 1048576
  · have g0 : decide ((1048576 : Int) < t.size) = false := by simp; omega
    go_enter Tryd.func3, Tryd.ntmps3
    go_wp2_with fail
    refine (specParse_any t _ (by omega)).mono ?_
    rintro e w1 ⟨u1_0, rfl, o1_0, b1⟩
    have s1 := b1.size
    have B1 : Below w.heap.size w w1 := B0.trans (b1.mono B0.size)
    go_wp2_with fail
    refine (implParseDiagram_any t _ (hL.below B1) hs0).mono ?_
    rintro e w2 ⟨u2_0, rfl, o2_0, b2⟩
    have s2 := b2.size
    have B2 : Below w.heap.size w w2 := B1.trans (b2.mono B1.size)
    go_wp2_with fail
    refine (law_eqS _ o2_0.rd (o1_0.below b2).rd).mono ?_
    rintro e w3 ⟨rfl, b3⟩
    have s3 := b3.size
    have B3 : Below w.heap.size w w3 := B2.trans (b3.mono B2.size)
    go_wp2_with fail
    refine (law_markS (1) _ (o2_0.below b3) (by omega) (by omega)).mono ?_
    rintro e w4 ⟨rfl, o4, q4⟩
    have s4 := q4.size
    have B4 : Below w.heap.size w w4 := B3.trans (q4.below (by omega) B3.size)
    go_wp2_with fail
    refine (law_heldS (1) _ o4.rd (by omega) (by omega)).mono ?_
    rintro e w5 ⟨rfl, b5⟩
    have s5 := b5.size
    have B5 : Below w.heap.size w w5 := B4.trans (b5.mono B4.size)
    go_wp2_with fail
    refine (implParseDiagram_any t _ (hL.below B5) hs0).mono ?_
    rintro e w6 ⟨u6_0, rfl, o6_0, b6⟩
    have s6 := b6.size
    have B6 : Below w.heap.size w w6 := B5.trans (b6.mono B5.size)
    go_wp2_with fail
    refine (law_eqS _ o6_0.rd (((((o1_0.below b2).below b3).only q4 (by omega)).below b5).below b6).rd).mono ?_
    rintro e w7 ⟨rfl, b7⟩
    have s7 := b7.size
    have B7 : Below w.heap.size w w7 := B6.trans (b7.mono B6.size)
    go_wp2_with fail
    refine (law_heldS (1) _ (((o4.below b5).below b6).below b7).rd (by omega) (by omega)).mono ?_
    rintro e w8 ⟨rfl, b8⟩
    have s8 := b8.size
    have B8 : Below w.heap.size w w8 := B7.trans (b8.mono B7.size)
    go_wp2
    go_ret
    exact ⟨rfl, B8⟩
  · have g0 : decide ((1048576 : Int) < t.size) = true := by simp; omega
    go_enter Tryd.func3, Tryd.ntmps3
    go_wp2
    go_ret
    exact ⟨rfl, B0⟩
end Go.Proofs.YtljimlejcecleaaDoor

/- What the listed variables hold, out of the row's condition. -/
namespace Go.Proofs.YtljimlejcecleaaDoor
open Go.ChangeShapes Go.WideShapes Go.ChangeAt Go.RowKit Go.WideElems

/-- an array of integers, told as data -/
theorem open_nums {H : Type} {enc : TypeId × Value → H} {P : Program} {W : World} {base f : Nat} {sp : Nat → Bool} {held : Bool} {t e : TypeId} {n : Nat} {q : IntKind} {cs : List Value} {zs : List Int} {p : List MemPlace} (ht : P.underlying t = some (.array n e)) (he : P.underlying e = some (.int q)) (hc : P.cellsOf e = 1)
    (hd : DataW.trod enc P W base sp held f t cs = some (.agg (zs.map fun z => .lit (.int q z)), p)) (ct : P.cellsOf t = n) (hzn : zs.length = n) : cs = zs.map (Value.int q) := by
  obtain ⟨xs, m, rfl, ex, hlen, hl, hel⟩ := DataW.trod_array ht hd
  rw [ct] at hlen
  have e3 : xs.map (·.1) = zs.map fun z => (DataW.lit (.int q z) : DataW H) := (DataW.agg.inj (Prod.mk.inj ex).1).symm
  refine List.ext_getElem? fun i => ?_
  by_cases hi : i < n
  · have hE := hel i hi
    rw [hc, Nat.mul_one, List.getElem?_eq_getElem (by omega)] at hE
    obtain ⟨z, e1, e2, _⟩ := DataW.trod_int he hE
    have e4 : (xs.map (·.1))[i]? = (zs.map fun z => (DataW.lit (.int q z) : DataW H))[i]? := by rw [e3]
    rw [List.getElem?_map, List.getElem?_map, List.getElem?_eq_getElem (by omega : i < xs.length), List.getElem?_eq_getElem (by omega : i < zs.length), e2] at e4
    have hz : z = zs[i] := by
      simpa using e4
    have h0 : ((cs.drop i).take 1)[0]? = some (.int q z) := by rw [e1]; rfl
    have h1 : cs[i]? = some (.int q z) := by simpa using h0
    rw [h1, List.getElem?_map, List.getElem?_eq_getElem (by omega : i < zs.length), hz]; rfl
  · rw [List.getElem?_eq_none (by omega), List.getElem?_eq_none (by rw [List.length_map]; omega)]
theorem pow_laid {H : Type} : (Rows.laid_internal_strconv_uint64pow10 : DataW H) = .agg (Lib.pow10Tab.map fun z => .lit (.int .u64 z)) := rfl
theorem lf_of {W : World} (h : laidMetH Tryd.prog Rows.fnExactParseDiagramRow.laid W) (hsh : W.ShapedOpen Tryd.prog) : LF W := by
  refine ⟨Tryd.laysM146.s1_3 W hsh, ?_, ?_, ?_⟩
  all_goals
    rw [MakeChecks.laidMetH_plain _ _ _ (by kernel_rfl)] at h
    obtain ⟨ps, ⟨g0, t0, cs0, f0, p0, q0, hg0, ht0, hv0, hd0, ⟨g1, t1, cs1, f1, p1, q1, hg1, ht1, hv1, hd1, ⟨g2, t2, cs2, f2, p2, q2, hg2, ht2, hv2, hd2, ⟨g3, t3, cs3, f3, p3, q3, hg3, ht3, hv3, hd3, ⟨g4, t4, cs4, f4, p4, q4, hg4, ht4, hv4, hd4, ⟨g5, t5, cs5, f5, p5, q5, hg5, ht5, hv5, hd5, -⟩, -⟩, -⟩, -⟩, -⟩, -⟩, -⟩ := h
  · obtain rfl := Option.some.inj ((show Tryd.prog.globalNamed "internal/strconv.uint64pow10" = some 5 by kernel_rfl).symm.trans hg2)
    obtain rfl := Option.some.inj ((show (Tryd.prog.globals[5]?).map (·.type) = some 142 by kernel_rfl).symm.trans ht2)
    rw [pow_laid] at hd2
    have := open_nums Tryd.underlying142 Tryd.underlying93 (by kernel_rfl) hd2 (by kernel_rfl) (by kernel_rfl)
    unfold Lib.TabIs
    rw [hv2, ← this]
  · obtain rfl := Option.some.inj ((show (Tryd.prog.globalNamed "strconv.ErrSyntax").bind (fun g => (Tryd.prog.globals[g]?).map (·.type)) = some 61 by kernel_rfl).symm.trans (by rw [hg5]; exact ht5))
    obtain ⟨f, u, v, hcs, _⟩ := iface_of_trod Tryd.underlying61 hd5
    exact ⟨u, v, by rw [hv5]; exact congrArg some (Array.eq_one_of_toList hcs)⟩
  · obtain rfl := Option.some.inj ((show (Tryd.prog.globalNamed "strconv.ErrRange").bind (fun g => (Tryd.prog.globals[g]?).map (·.type)) = some 61 by kernel_rfl).symm.trans (by rw [hg4]; exact ht4))
    obtain ⟨f, u, v, hcs, _⟩ := iface_of_trod Tryd.underlying61 hd4
    exact ⟨u, v, by rw [hv4]; exact congrArg some (Array.eq_one_of_toList hcs)⟩

section
variable {H : Type} {enc : TypeId × Value → H}
/-- as returnsInHanded_of_change_and, the world's shape at hand -/
theorem returnsInHanded_shaped {a : Assume} {C : Checked} {os : Os} {f : FuncId} {fn : Func} {s : ChangeSpec} {conds : List PathCond} {apart fresh handsOn again : Bool} {X : World → Array Value → Prop}
    (hX : ∀ (w w' : World) (args : Array Value), w.heap = w'.heap → X w args → X w' args)
    (own : ownKnob C.prog.godebug = none) (started : os.Started) (noInit : C.prog.inits.idxOf? f = none) (hfn : C.prog.funcs[f]? = some fn)
    (witness : ∃ (w : World) (tape : Tape) (i : Input), w.os = os ∧ (w.forCall tape i).Shaped C.prog ∧ i.vars = [] ∧ Input.okWide C.prog (w.forCall tape i) .any w.heap.size f i ∧
      ((s.pre enc C.prog fn conds apart (w.forCall tape i).memory i.args ∧ X (w.forCall tape i).memory i.args) ∧ sizedMet enc C.prog fn (OpenSpec.ofChange s) apart (w.forCall tape i).memory i.args) ∧ a.holds C.prog (lone (Frame.enter C.prog f i.args .normal) [] (w.forCall tape i)))
    (contract : ∀ (W : World) (base : Nat) (args : Array Value) (ds gs : List (DataW H)) (before : List MemPlace),
      (∀ (j : Nat) t v, fn.params[j]? = some t → args[j]? = some v → Value.okWide C.prog W .any base t v) →
      DataW.Whole enc C.prog fn.params.toList s.vars apart W args.toList ds gs before →
      (DataW.weightsEach C.prog (fn.params.toList ++ s.plain.varTypes C.prog) (ds ++ gs)).all (· ≤ reachBytes) = true → X W args → W.ShapedOpen C.prog →
      Calls C.prog f args W fun e W' => ∃ v, e = .returned v ∧ s.post enc C.prog fn apart fresh handsOn again W args v W') :
    ReturnsInHanded a C os f .any (fun w args => (s.pre enc C.prog fn conds apart w args ∧ X w args) ∧ sizedMet enc C.prog fn (OpenSpec.ofChange s) apart w args) (s.post enc C.prog fn apart fresh handsOn again) := by
  refine returnsInHanded_of_calls own started noInit witness ?_
  intro w tape i _ hsh _ hok hpre _
  obtain ⟨_, _, _, fn', hfn', _, _, _, _, hval⟩ := hok
  have e : fn' = fn := Option.some.inj (hfn'.symm.trans hfn)
  subst e
  obtain ⟨⟨⟨ds, gs, before, hw, _⟩, hx⟩, hz⟩ := hpre
  have hw' := DataW.Whole.of_heap (w' := w.forCall tape i) (by rfl) hw
  refine (contract (w.forCall tape i) w.heap.size i.args ds gs before hval hw' (hz.weights hw) (hX _ _ _ (by rfl) hx) hsh).mono fun e W' ⟨v, he, hp⟩ => ?_
  subst he
  exact ChangeSpec.post_blind hp
end
end Go.Proofs.YtljimlejcecleaaDoor
