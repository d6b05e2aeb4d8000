/- Words for the walks of this seat: integer slices that are read, rows that a call owns, and the walk's laws on make and append in those words. No program in sight. -/
import Derived.WalkKit
import Derived.WalkSpells
import Derived.WalkLawsBesides
import Derived.Lib.Hide
import Derived.BigQuiet
import Derived.Deep.QuietTactic
import Derived.Deep.Draws
import Derived.Deep.AppendLies
import Derived.Maps.AppendAt
import Derived.Test.YtpognnifgcacnaaRows
import Derived.ProofKit
import Derived.OpenShut
import Derived.SizedLaws
import Derived.ChangeSame
import Derived.Deep.Slices
import Derived.Test.YtpognnifgcacnaaProg
namespace Go.Proofs.Ytpognnifgcacnaa
open Go.RowKit

/-- element k of a list of integers, 0 behind its end; closed to the walk's simp -/
def iget (zs : List Int) (k : Nat) : Int := zs.getD k 0
theorem iget_lt {zs : List Int} {k : Nat} (h : k < zs.length) : iget zs k = zs[k] := by simp [iget, h]
/-- the block of a slice's address -/
def bk (ao : Option Addr) : Option Nat := ao.map (·.block)
theorem ownBlock_slice (ao : Option Addr) (n c : Nat) : (Value.slice ao n c).ownBlock = bk ao := by cases ao <;> rfl

/-- the slice at ao, of n cells, holds xs -/
def Vals (w : World) (ao : Option Addr) (n : Nat) (xs : List Value) : Prop :=
  xs.length = n ∧ n ≤ 17592186044416 ∧ (0 < n → ∃ b off, ao = some ⟨b, off, none⟩ ∧ ∀ j u, xs[j]? = some u → w.cell? ⟨b, off + j, none⟩ = some u)

/-- the slice at ao, of n integers, reads as zs -/
def Ints (w : World) (ao : Option Addr) (n : Nat) (zs : List Int) : Prop :=
  zs.length = n ∧ n ≤ 17592186044416 ∧ (0 < n → ∃ b off, ao = some ⟨b, off, none⟩ ∧ ∀ j, j < n → w.cell? ⟨b, off + j, none⟩ = some (.int .i64 (iget zs j)))

theorem Ints.at_ {w : World} {ao : Option Addr} {n : Nat} {zs : List Int} (h : Ints w ao n zs) {k : Nat} (hk : k < n) :
    ∃ b off, ao = some ⟨b, off, none⟩ ∧ w.cell? ⟨b, off + k, none⟩ = some (.int .i64 (iget zs k)) := by
  obtain ⟨b, off, e, hc⟩ := h.2.2 (by omega)
  exact ⟨b, off, e, hc k hk⟩
theorem Ints.all_ {w : World} {ao : Option Addr} {n : Nat} {zs : List Int} (h : Ints w ao n zs) (hn : 0 < n) :
    ∃ b off, ao = some ⟨b, off, none⟩ ∧ b < w.heap.size ∧ ∀ j, j < n → w.cell? ⟨b, off + j, none⟩ = some (.int .i64 (iget zs j)) := by
  obtain ⟨b, off, e, hc⟩ := h.2.2 hn
  exact ⟨b, off, e, World.block_lt_of_cell? w _ (hc 0 hn), hc⟩
theorem Ints.vals {w : World} {ao : Option Addr} {n : Nat} {zs : List Int} (h : Ints w ao n zs) : Vals w ao n (zs.map (Value.int .i64)) := by
  refine ⟨by simpa using h.1, h.2.1, fun hn => ?_⟩
  obtain ⟨b, off, e, hc⟩ := h.2.2 hn
  refine ⟨b, off, e, fun j u hu => ?_⟩
  have hl := h.1
  have hj : j < zs.length := by have := (List.getElem?_eq_some_iff.1 hu).1; simpa using this
  rw [hc j (by omega), ← hu, List.getElem?_map, List.getElem?_eq_getElem hj, iget_lt hj]; rfl
theorem Ints.same {w w' : World} {ao : Option Addr} {n : Nat} {zs : List Int} (h : Ints w ao n zs) (hs : ∀ g, bk ao = some g → g < w.heap.size → w'.heap[g]? = w.heap[g]?) : Ints w' ao n zs := by
  refine ⟨h.1, h.2.1, fun hn => ?_⟩
  obtain ⟨b, off, rfl, hb, hc⟩ := h.all_ hn
  exact ⟨b, off, rfl, fun j hj => (World.cell?_of_block (hs b rfl hb)).trans (hc j hj)⟩
theorem Ints.below {w w' : World} {ao : Option Addr} {n : Nat} {zs : List Int} (h : Ints w ao n zs) (hb : Below w.heap.size w w') : Ints w' ao n zs :=
  h.same fun g _ hg => hb.block g hg
theorem Ints.nil_ (w : World) (ao : Option Addr) : Ints w ao 0 [] := ⟨rfl, by omega, fun h => absurd h (by omega)⟩

/-- the slice at ao, of n cells (one cell an element, of type E), owns the cells xs in a row of the call's own, from block 'base' on -/
def Own (w : World) (base E : Nat) (ao : Option Addr) (n c : Nat) (xs : List Value) : Prop :=
  w.ownsRow base E 1 (.slice ao n c) n xs ∧ n ≤ 4398046511104

section
variable {w w' : World} {base E : Nat} {ao : Option Addr} {n c : Nat} {xs : List Value} {row : Option Nat}
theorem Own.len (h : Own w base E ao n c xs) : xs.length = n := by have := h.1.1; omega
theorem Own.lt (h : Own w base E ao n c xs) : ∀ g, bk ao = some g → base ≤ g ∧ g < w.heap.size := by
  have := h.1.lt
  rw [ownBlock_slice] at this; exact this
theorem Own.kept (h : Own w base E ao n c xs) (hg : w.grownBy w' row) (hne : bk ao = none ∨ bk ao ≠ row) : Own w' base E ao n c xs :=
  ⟨h.1.kept hg (by rw [ownBlock_slice]; exact hne), h.2⟩
theorem Own.same (h : Own w base E ao n c xs) (hs : ∀ g, bk ao = some g → w'.heap[g]? = w.heap[g]?) : Own w' base E ao n c xs := by
  refine ⟨⟨h.1.1, ?_⟩, h.2⟩
  rcases h.1.2 with h2 | ⟨g, cap, cur, hv, hg, hh, r⟩
  · exact Or.inl h2
  · refine Or.inr ⟨g, cap, cur, hv, hg, ?_, r⟩
    have : bk ao = some g := by injection hv with h1; subst h1; rfl
    rw [hs g this]; exact hh
theorem Own.below (h : Own w base E ao n c xs) (hb : Below w.heap.size w w') : Own w' base E ao n c xs :=
  h.same fun g hg => hb.block g (h.lt g hg).2
theorem Own.alloc (h : Own w base E ao n c xs) (o : Obj) : Own (w.alloc o) base E ao n c xs := ⟨h.1.alloc o, h.2⟩
theorem Own.mono (h : Own w base E ao n c xs) {base' : Nat} (hb : base' ≤ base) : Own w base' E ao n c xs := by
  refine ⟨⟨h.1.1, ?_⟩, h.2⟩
  rcases h.1.2 with h2 | ⟨g, cap, cur, hv, hg, r⟩
  · exact Or.inl h2
  · exact Or.inr ⟨g, cap, cur, hv, by omega, r⟩
/-- a slice that is not empty: the block, its cells, not frozen -/
theorem Own.form (h : Own w base E ao n c xs) (hn : 0 < n) : ∃ g, ao = some ⟨g, 0, none⟩ ∧ base ≤ g ∧ g < w.heap.size ∧ n ≤ c ∧ (∀ j, j < n → w.cell? ⟨g, j, none⟩ = xs[j]?) ∧ (∀ j, w.frozen? ⟨g, j, none⟩ = false) := by
  obtain ⟨g, cap, hv, hb, hlt⟩ := h.1.form hn
  injection hv with h1 _ h2
  subst h1 h2
  refine ⟨g, rfl, hb, hlt, ?_, fun j hj => h.1.cellAt j (by omega), fun j => h.1.frozenAt j⟩
  rcases h.1.2 with ⟨h2, _⟩ | ⟨g', cap', cur, hv, _, _, hnc, _⟩
  · cases h2
  · injection hv with _ _ h3; subst h3; exact hnc
theorem Own.stored {g : Nat} (h : Own w base E (some ⟨g, 0, none⟩) n c xs) (k : Nat) (u : Value) :
    Own (w.setCell ⟨g, k, none⟩ u) base E (some ⟨g, 0, none⟩) n c (xs.set k u) ∧ w.grownBy (w.setCell ⟨g, k, none⟩ u) (some g) :=
  ⟨⟨(h.1.stored k u).1, h.2⟩, (h.1.stored k u).2⟩
theorem Own.empty_ (w : World) {base : Nat} (E : Nat) (hb : base ≤ w.heap.size) : Own (w.alloc (.cells #[] E)) base E (some ⟨w.heap.size, 0, none⟩) 0 0 [] := ⟨World.ownsRow_made w #[] 0 hb (by simp [maxLen]) rfl, by omega⟩
theorem Own.nil_ (w : World) (base E : Nat) : Own w base E none 0 0 [] := ⟨World.ownsRow_nil w base E 1, by omega⟩
end

/-- what is owned and holds integers reads as them -/
theorem Own.ints {w : World} {base E : Nat} {ao : Option Addr} {n c : Nat} {zs : List Int} (h : Own w base E ao n c (zs.map (Value.int .i64))) : Ints w ao n zs := by
  have hl : zs.length = n := by have := h.len; simpa using this
  refine ⟨hl, by have := h.2; omega, fun hn => ?_⟩
  obtain ⟨g, rfl, _, _, _, hc, _⟩ := h.form hn
  refine ⟨g, 0, rfl, fun j hj => ?_⟩
  rw [Nat.zero_add, hc j hj, List.getElem?_map, List.getElem?_eq_getElem (by omega), iget_lt (by omega)]; rfl

/-- the row of the table of an element type of one cell -/
structure ET (P : Program) (S E : TypeId) (z : Value) (bytes : Nat) : Prop where
  und : P.underlying S = some (.slice E)
  info : (P.info? E).map (fun i => (i.zero, i.size, i.bytes)) = some (some z, 1, bytes)
  one : z.cells = #[z]
  small : bytes ≤ 32

theorem grown_tr {a b c : World} {row : Option Nat} (h : a.grownBy b row) (k : b.grownBy c row) : a.grownBy c row :=
  ⟨k.os.trans h.os, k.tape.trans h.tape, k.output.trans h.output, Nat.le_trans h.size k.size, fun i hi hne => (k.block i (Nat.lt_of_lt_of_le hi h.size) hne).trans (h.block i hi hne)⟩
section
variable {P : Program} {ops : Array Oper} {rest : List Oper} {o : Oper} {a : Act} {Q : Exit → Act → World → Prop}

/-- append(s, x) of one element: x lies in a block of its own, just laid -/
theorem wpList_ap1 {S E : TypeId} {z : Value} {bytes : Nat} (et : ET P S E z bytes) (w : World) (hg : o.guard = none) (s x : Operand) (ho : o.op = .call { callee := .builtin .append, args := #[s, x], argTypes := #[S, S] })
    (base : Nat) (ao : Option Addr) (n c : Nat) (xs : List Value) (hs : a.eval s = .slice ao n c) (hown : Own w base E ao n c xs) (u : Value)
    (hx : a.eval x = .slice (some ⟨w.heap.size, 0, none⟩) 1 1) (hu : u.oneCell' = true) (hn : n + 1 ≤ 4398046511104) (hbase : base ≤ w.heap.size)
    (hK : ∀ ao' c' w', Own w' base E ao' (n + 1) c' (xs ++ [u]) → w.grownBy w' (bk ao) → (bk ao' = bk ao ∨ bk ao' = some (w.heap.size + 1)) → wpList P ops Q rest (a.put o.dst (.slice ao' (n + 1) c')) w') :
    wpList P ops Q (o :: rest) a (w.alloc (.cells #[u] E)) := by
  obtain ⟨i, hi, hz, hsz, hby⟩ := info_parts et.info
  refine wpList_append_own_at _ hg s x S ho base E i z 1 bytes et.und hi hz hsz hby (by rw [et.one]; rfl) (by omega) (.slice ao n c) n xs hs (hown.1.alloc _) ⟨w.heap.size, 0, none⟩ 1 1 [u] hx rfl (cell_one_new _ _ _)
    (by intro v hv; simp at hv; subst hv; exact hu) (by simp [maxLen]; omega) (by have := et.small; have : (n + 1) * bytes ≤ (n + 1) * 32 := Nat.mul_le_mul_left _ this; omega) (by simp; omega) ?_
  intro v' w' h1 h2 _ h4
  rw [ownBlock_slice] at h2 h4
  obtain ⟨g, cap, rfl, hb, hlt⟩ := h1.form (by omega)
  refine hK _ _ _ ⟨h1, hn⟩ (grown_tr (World.grownBy_alloc w _ _) h2) ?_
  rw [ownBlock_slice] at h4
  simpa using h4

end

/-- only blocks from lo to below hi, and new ones, may have turned -/
structure Only (lo hi : Nat) (w w' : World) : Prop where
  os : w'.os = w.os
  tape : w'.tape = w.tape
  output : w'.output = w.output
  size : w.heap.size ≤ w'.heap.size
  block : ∀ k, k < w.heap.size → (k < lo ∨ hi ≤ k) → w'.heap[k]? = w.heap[k]?
theorem Only.below {lo hi : Nat} {w w' : World} (h : Only lo hi w w') {B : Nat} (hB : B ≤ lo) (hw : B ≤ w.heap.size) : Below B w w' := ⟨h.os, h.tape, h.output, h.size, fun k hk => h.block k (by omega) (.inl (by omega))⟩
theorem Only.of_grown {lo hi : Nat} {w w' : World} {row : Option Nat} (h : w.grownBy w' row) (hr : ∀ g, row = some g → lo ≤ g ∧ g < hi) : Only lo hi w w' :=
  ⟨h.os, h.tape, h.output, h.size, fun k hk hd => h.block k hk (fun e => by have := hr k e.symm; omega)⟩
theorem Only.refl (lo hi : Nat) (w : World) : Only lo hi w w := ⟨rfl, rfl, rfl, Nat.le_refl _, fun _ _ _ => rfl⟩
theorem Only.trans {lo hi : Nat} {a b c : World} (h : Only lo hi a b) (k : Only lo hi b c) : Only lo hi a c :=
  ⟨k.os.trans h.os, k.tape.trans h.tape, k.output.trans h.output, Nat.le_trans h.size k.size, fun i hi hd => (k.block i (Nat.lt_of_lt_of_le hi h.size) hd).trans (h.block i hi hd)⟩
theorem Own.only {w w' : World} {base E : Nat} {ao : Option Addr} {n c : Nat} {xs : List Value} {lo hi lo' hi' : Nat} (h : Own w base E ao n c xs) (ho : Only lo hi w w') (hl : ∀ g, bk ao = some g → lo' ≤ g ∧ g < hi') (hd : hi' ≤ lo ∨ hi ≤ lo') : Own w' base E ao n c xs :=
  h.same fun g hg => ho.block g (h.lt g hg).2 (by have := hl g hg; omega)

theorem ret_int {k : IntKind} {a b : Int} (h : a = b) : Ending.returned (.int k a) = .returned (.int k b) := by rw [h]
end Go.Proofs.Ytpognnifgcacnaa

/- From a walk to the row: what 'post' asks where below the old heap nothing has turned; arguments opened to the words of Base. -/
namespace Go.Proofs.Ytpognnifgcacnaa
open Go.ChangeShapes Go.WideShapes Go.ChangeAt Go.RowKit Go.Deep

section
variable {H : Type} {enc : TypeId × Value → H} {P : Program}
theorem post_of_below {f : Func} {s : ChangeSpec} {apart fresh handsOn again : Bool} {W W' : World} {args : Array Value} {v : Value} {ds gs : List (DataW H)} {before pa pv : List MemPlace}
    (hW : DataW.Whole enc P f.params.toList s.vars apart W args.toList ds gs before)
    (hres : ∀ (b : Nat) (sp : Nat → Bool) (hd : Bool), DataW.TrodAll enc P W' b sp hd f.resultTypes.toList (v.resultList f.resultTypes.size) (s.fn H (ds ++ gs)).results [])
    (hargs : ∀ sp : Nat → Bool, (∀ p ∈ before, sp p.block = true) → DataW.TrodAll enc P W' 0 sp true f.params.toList args.toList (s.fn H (ds ++ gs)).args pa)
    (hvars : ∀ sp : Nat → Bool, (∀ p ∈ before, sp p.block = true) → DataW.TrodVars enc P W' sp s.vars (s.fn H (ds ++ gs)).vars pv)
    (hps : before = pa ++ pv) (hb : Below W.heap.size W W')
    (hok : ∀ (j : Nat) (t : TypeId) (r : Value), f.resultTypes[j]? = some t → (v.resultList f.resultTypes.size)[j]? = some r → Value.okWide P W' .any 0 t r) :
    s.post enc P f apart fresh handsOn again W args v W' := by
  have hlt : ∀ p ∈ before, p.block < W.heap.size := fun p hp => hW.lt p hp
  have hold : ∀ p ∈ before, (fun b => decide (b < W.heap.size)) p.block = true := fun p hp => by simpa using hlt p hp
  refine ⟨ds, gs, before, [], pa, pv, hW, hres _ _ _, hargs _ hold, hvars _ hold, World.keptBut_mono (fun p hp => ⟨hp, ?_⟩) (hb.frame (· ∈ before)), fun _ => ?_⟩
  · rw [hps, List.mem_append] at hp
    exact Or.inr hp
  · obtain ⟨_, _, _, _, _, hz, hn⟩ := hW
    refine ⟨hok, _, _, ([] ++ pa) ++ pv, ⟨[] ++ pa, pv, trodAll_append (hargs _ (fun _ _ => rfl)) (hres _ _ _), hvars _ (fun _ _ => rfl), rfl, ?_, ?_⟩, ?_⟩
    · intro b off hp
      have hin : MemPlace.cell b off ∈ before := by rw [hps]; simpa using hp
      rw [hb.frozen (hlt _ hin)]
      exact hz b off hin
    · intro ha
      have := hn ha
      rw [hps] at this
      simpa using this
    · intro p hp _
      rw [hps]
      simpa using hp

/-- all arguments read behind the call as before it -/
theorem trodAll_stays (hl : laidOutB P = true) {W W' : World} (hb : Below W.heap.size W W') {sp : Nat → Bool} : ∀ (ts : List TypeId) (vs : List Value) (ds : List (DataW H)) (ps : List MemPlace),
    (∀ t ∈ ts, P.readableRec t = true ∧ t < P.types.size) → (∀ p ∈ ps, p.block < W.heap.size) → (∀ p ∈ ps, sp p.block = true) →
    DataW.TrodAll enc P W 0 (fun _ => true) true ts vs ds ps → DataW.TrodAll enc P W' 0 sp true ts vs ds ps
  | [], vs, ds, ps, _, _, _, h => by
    obtain ⟨rfl, rfl, rfl⟩ := trodAll_nil h
    exact trodAll_mk0
  | t :: ts, vs, ds, ps, ht, hlt, hsp, h => by
    obtain ⟨v, vs', d, ds', p, q, rfl, rfl, rfl, h0, r0⟩ := trodAll_cons h
    exact trodAll_cons_mk (WideElems.Trod_stays hl (ht t (by simp)).1 (ht t (by simp)).2 h0 (fun x hx => hb.same (hlt x (by simp [hx]))) (fun x hx => hsp x (by simp [hx])))
      (trodAll_stays hl hb ts vs' ds' q (fun t' h' => ht t' (by simp [h'])) (fun p' hp => hlt p' (by simp [hp])) (fun p' hp => hsp p' (by simp [hp])) r0)

end
end Go.Proofs.Ytpognnifgcacnaa

/- Words for slices whose elements are slices: rows that are read, rows that a call owns, all in blocks of their own. No program in sight. -/
namespace Go.Proofs.Ytpognnifgcacnaa
open Go.RowKit

/-- the block of a value, if it has one, lies from lo to below hi -/
def In (lo hi : Nat) (u : Value) : Prop := ∀ g, u.ownBlock = some g → lo ≤ g ∧ g < hi
theorem In.mono {lo hi lo' hi' : Nat} {u : Value} (h : In lo hi u) (h1 : lo' ≤ lo) (h2 : hi ≤ hi') : In lo' hi' u := fun g hg => by have := h g hg; omega
theorem in_slice {lo hi : Nat} {ao : Option Addr} {n c : Nat} (h : ∀ g, bk ao = some g → lo ≤ g ∧ g < hi) : In lo hi (.slice ao n c) := fun g hg => h g (by rw [ownBlock_slice] at hg; exact hg)

/-- an element's predicate looks at the element's own block alone -/
structure Inner {D : Type} (Ow1 : World → Value → D → Prop) : Prop where
  loc : ∀ {w w' u d}, Ow1 w u d → (∀ g, u.ownBlock = some g → w'.heap[g]? = w.heap[g]?) → Ow1 w' u d
  lt : ∀ {w u d}, Ow1 w u d → ∀ g, u.ownBlock = some g → g < w.heap.size
  one : ∀ {w u d}, Ow1 w u d → u.oneCell' = true

/-- the slice at ao, of n elements us, is a row of the call's own; each element u owns d in a block of its own; all blocks lie from lo to below hi and are different -/
structure OwR {D : Type} (Ow1 : World → Value → D → Prop) (w : World) (lo hi E : Nat) (ao : Option Addr) (n c : Nat) (us : List Value) (ds : List D) : Prop where
  own : Own w lo E ao n c us
  top : ∀ g, bk ao = some g → g < hi
  len : ds.length = n
  el : ∀ (j : Nat) (u : Value) (d : D), us[j]? = some u → ds[j]? = some d → Ow1 w u d
  rng : ∀ (j : Nat) (u : Value), us[j]? = some u → In lo hi u
  out : ∀ (j : Nat) (u : Value) (g : Nat), us[j]? = some u → u.ownBlock = some g → bk ao ≠ some g
  apart : ∀ (i j : Nat) (u u' : Value) (g : Nat), i ≠ j → us[i]? = some u → us[j]? = some u' → u.ownBlock = some g → u'.ownBlock ≠ some g

section
variable {D : Type} {Ow1 : World → Value → D → Prop} {w w' : World} {lo hi E : Nat} {ao : Option Addr} {n c : Nat} {us : List Value} {ds : List D}

theorem OwR.ulen (h : OwR Ow1 w lo hi E ao n c us ds) : us.length = n := h.own.len
theorem OwR.get (h : OwR Ow1 w lo hi E ao n c us ds) {j : Nat} (hj : j < n) : ∃ u d, us[j]? = some u ∧ ds[j]? = some d ∧ Ow1 w u d ∧ In lo hi u :=
  have h1 : j < us.length := by rw [h.ulen]; exact hj
  have h2 : j < ds.length := by rw [h.len]; exact hj
  ⟨us[j], ds[j], List.getElem?_eq_getElem h1, List.getElem?_eq_getElem h2, h.el j _ _ (List.getElem?_eq_getElem h1) (List.getElem?_eq_getElem h2), h.rng j _ (List.getElem?_eq_getElem h1)⟩

/-- nothing in the range has turned -/
theorem OwR.same (I : Inner Ow1) (h : OwR Ow1 w lo hi E ao n c us ds) (hs : ∀ g, lo ≤ g → g < hi → g < w.heap.size → w'.heap[g]? = w.heap[g]?) : OwR Ow1 w' lo hi E ao n c us ds :=
  { own := h.own.same fun g hg => hs g (h.own.lt g hg).1 (h.top g hg) (h.own.lt g hg).2
    top := h.top, len := h.len, rng := h.rng, out := h.out, apart := h.apart
    el := fun j u d hu hd => I.loc (h.el j u d hu hd) fun g hg => hs g (h.rng j u hu g hg).1 (h.rng j u hu g hg).2 (I.lt (h.el j u d hu hd) g hg) }
theorem OwR.below (I : Inner Ow1) (h : OwR Ow1 w lo hi E ao n c us ds) (hb : Below w.heap.size w w') : OwR Ow1 w' lo hi E ao n c us ds := h.same I fun g _ _ hg => hb.block g hg
theorem OwR.only (I : Inner Ow1) (h : OwR Ow1 w lo hi E ao n c us ds) {l k : Nat} (ho : Only l k w w') (hd : hi ≤ l ∨ k ≤ lo) : OwR Ow1 w' lo hi E ao n c us ds :=
  h.same I fun g h1 h2 hg => ho.block g hg (by omega)
theorem OwR.mono (h : OwR Ow1 w lo hi E ao n c us ds) {lo' hi' : Nat} (h1 : lo' ≤ lo) (h2 : hi ≤ hi') : OwR Ow1 w lo' hi' E ao n c us ds :=
  { own := h.own.mono h1, top := fun g hg => Nat.lt_of_lt_of_le (h.top g hg) h2, len := h.len, el := h.el, out := h.out, apart := h.apart
    rng := fun j u hu => (h.rng j u hu).mono h1 h2 }

/-- an element's own block has been written (and new ones laid): element j is now d' -/
theorem OwR.upd (I : Inner Ow1) (h : OwR Ow1 w lo hi E ao n c us ds) {j : Nat} {u : Value} {d' : D} (hu : us[j]? = some u) (hg : w.grownBy w' u.ownBlock) (h' : Ow1 w' u d') : OwR Ow1 w' lo hi E ao n c us (ds.set j d') := by
  refine { own := h.own.kept hg ?_, top := h.top, len := by rw [List.length_set]; exact h.len, rng := h.rng, out := h.out, apart := h.apart, el := ?_ }
  · cases hb : u.ownBlock with
    | none => exact (Option.eq_none_or_eq_some (bk ao)).imp id (fun ⟨g, e⟩ => by rw [e]; simp)
    | some g => exact .inr (h.out j u g hu hb)
  · intro i v d hv hd
    by_cases hij : j = i
    · subst hij
      rw [hu] at hv
      obtain rfl := Option.some.inj hv
      rw [List.getElem?_set_self'] at hd
      cases hdd : ds[j]? with
      | none => rw [hdd] at hd; cases hd
      | some x => rw [hdd] at hd; simp at hd; subst hd; exact h'
    · rw [List.getElem?_set_ne hij] at hd
      refine I.loc (h.el i v d hv hd) fun g hgg => hg.block g (I.lt (h.el i v d hv hd) g hgg) fun e => ?_
      exact h.apart i j v u g (fun e => hij e.symm) hv hu hgg e.symm

/-- element j is replaced: u' is new or in the block of the old one -/
theorem OwR.put (I : Inner Ow1) {g0 : Nat} (h : OwR Ow1 w lo hi E (some ⟨g0, 0, none⟩) n c us ds) {j : Nat} {u u' : Value} {d' : D} (hu : us[j]? = some u) (hg : w.grownBy w' u.ownBlock) (h' : Ow1 w' u' d')
    (hnew : u'.ownBlock = none ∨ u'.ownBlock = u.ownBlock ∨ ∃ g, u'.ownBlock = some g ∧ w.heap.size ≤ g) (hhi : hi ≤ w.heap.size) (hlo : lo ≤ w.heap.size) :
    OwR Ow1 (w'.setCell ⟨g0, j, none⟩ u') lo w'.heap.size E (some ⟨g0, 0, none⟩) n c (us.set j u') (ds.set j d') := by
  have hjl : j < us.length := (List.getElem?_eq_some_iff.1 hu).1
  have hown : Own w' lo E (some ⟨g0, 0, none⟩) n c us := h.own.kept hg (by
    cases hb : u.ownBlock with
    | none => exact .inr (by simp [bk])
    | some g => exact .inr (h.out j u g hu hb))
  have hlt' : ∀ g, u'.ownBlock = some g → g ≠ g0 := by
    intro g hgg e
    subst e
    rcases hnew with hn | hn | ⟨g', hn, hge⟩
    · rw [hn] at hgg; cases hgg
    · rw [hn] at hgg; exact h.out j u g hu hgg rfl
    · rw [hn] at hgg; obtain rfl := Option.some.inj hgg
      have := (h.own.lt g' rfl).2
      omega
  have hset : ∀ g, g ≠ g0 → (w'.setCell ⟨g0, j, none⟩ u').heap[g]? = w'.heap[g]? := fun g hne => Below.heap_setCell _ _ _ _ hne
  have hsz := hg.size
  refine { own := (hown.stored j u').1, top := fun g hgg => Nat.lt_of_lt_of_le (h.top g hgg) (Nat.le_trans hhi hsz), len := by rw [List.length_set]; exact h.len, el := ?_, rng := ?_, out := ?_, apart := ?_ }
  · intro i v d hv hd
    by_cases hij : j = i
    · subst hij
      rw [List.getElem?_set_self hjl] at hv
      obtain rfl := Option.some.inj hv
      rw [List.getElem?_set_self'] at hd
      cases hdd : ds[j]? with
      | none => rw [hdd] at hd; cases hd
      | some x =>
        rw [hdd] at hd; simp at hd; subst hd
        exact I.loc h' fun g hgg => hset g (hlt' g hgg)
    · rw [List.getElem?_set_ne hij] at hd hv
      have h1 : Ow1 w' v d := I.loc (h.el i v d hv hd) fun g hgg => hg.block g (I.lt (h.el i v d hv hd) g hgg) fun e => h.apart i j v u g (fun e => hij e.symm) hv hu hgg e.symm
      exact I.loc h1 fun g hgg => hset g fun e => by subst e; exact h.out i v g hv hgg rfl
  · intro i v hv
    by_cases hij : j = i
    · subst hij
      rw [List.getElem?_set_self hjl] at hv
      obtain rfl := Option.some.inj hv
      intro g hgg
      refine ⟨?_, I.lt h' g hgg⟩
      rcases hnew with hn | hn | ⟨g', hn, hge⟩
      · rw [hn] at hgg; cases hgg
      · rw [hn] at hgg; exact (h.rng j u hu g hgg).1
      · rw [hn] at hgg; obtain rfl := Option.some.inj hgg; omega
    · rw [List.getElem?_set_ne hij] at hv
      exact (h.rng i v hv).mono (Nat.le_refl _) (Nat.le_trans hhi hsz)
  · intro i v g hv hgg
    by_cases hij : j = i
    · subst hij
      rw [List.getElem?_set_self hjl] at hv
      obtain rfl := Option.some.inj hv
      intro e
      exact hlt' g hgg (Option.some.inj e).symm
    · rw [List.getElem?_set_ne hij] at hv
      exact h.out i v g hv hgg
  · intro i k v v' g hik hv hv' hgg
    have key : ∀ x vx, j ≠ x → us[x]? = some vx → ∀ g, u'.ownBlock = some g → vx.ownBlock ≠ some g := by
      intro x vx hx hvx g hgg' e
      rcases hnew with hn | hn | ⟨g', hn, hge⟩
      · rw [hn] at hgg'; cases hgg'
      · rw [hn] at hgg'; exact h.apart j x u vx g hx hu hvx hgg' e
      · rw [hn] at hgg'; obtain rfl := Option.some.inj hgg'
        have := (h.rng x vx hvx g' e).2
        omega
    by_cases hi' : j = i
    · subst hi'
      rw [List.getElem?_set_self hjl] at hv
      obtain rfl := Option.some.inj hv
      rw [List.getElem?_set_ne hik] at hv'
      exact key k v' hik hv' g hgg
    · rw [List.getElem?_set_ne hi'] at hv
      by_cases hk' : j = k
      · subst hk'
        rw [List.getElem?_set_self hjl] at hv'
        obtain rfl := Option.some.inj hv'
        exact fun e => key i v hi' hv g e hgg
      · rw [List.getElem?_set_ne hk'] at hv'
        exact h.apart i k v v' g hik hv hv' hgg

theorem OwR.empty_ (h : Own w lo E ao 0 c []) (hhi : ∀ g, bk ao = some g → g < hi) : OwR Ow1 w lo hi E ao 0 c [] [] :=
  { own := h, top := hhi, len := rfl, el := fun j u d hj _ => by simp at hj, rng := fun j u hj => by simp at hj, out := fun j u g hj => by simp at hj, apart := fun i j u u' g _ hi => by simp at hi }

/-- one element more: u is in a block of its own -/
theorem OwR.push (I : Inner Ow1) (h : OwR Ow1 w lo hi E ao n c us ds) {ao' : Option Addr} {c' hi' : Nat} {u : Value} {d : D} (hown : Own w' lo E ao' (n + 1) c' (us ++ [u])) (hg : w.grownBy w' (bk ao)) (hu : Ow1 w' u d) (hur : In lo hi' u)
    (hao : ∀ g, bk ao' = some g → g < hi') (hhi : hi ≤ hi') (hnew : ∀ g, bk ao' = some g → (bk ao = some g ∨ ∀ (j : Nat) (u : Value), us[j]? = some u → u.ownBlock ≠ some g))
    (hua : ∀ g, u.ownBlock = some g → bk ao' ≠ some g ∧ ∀ (j : Nat) (v : Value), us[j]? = some v → v.ownBlock ≠ some g) : OwR Ow1 w' lo hi' E ao' (n + 1) c' (us ++ [u]) (ds ++ [d]) := by
  have hul : us.length = n := h.ulen
  have split1 : ∀ {j v}, (us ++ [u])[j]? = some v → (us[j]? = some v ∧ j < n) ∨ (j = n ∧ v = u) := by
    intro j v hj
    rw [List.getElem?_append] at hj
    split at hj
    · exact .inl ⟨hj, by omega⟩
    · rw [hul] at hj
      cases hjn : j - n with
      | zero => rw [hjn] at hj; simp at hj; exact .inr ⟨by omega, hj.symm⟩
      | succ k => rw [hjn] at hj; simp at hj
  refine { own := hown, top := hao, len := by rw [List.length_append, h.len]; rfl, el := ?_, rng := ?_, out := ?_, apart := ?_ }
  · intro j v x hv hx
    rcases split1 hv with ⟨h1, hj⟩ | ⟨rfl, rfl⟩
    · rw [List.getElem?_append_left (by rw [h.len]; exact hj)] at hx
      refine I.loc (h.el j v x h1 hx) fun g hgg => hg.block g (I.lt (h.el j v x h1 hx) g hgg) fun e => h.out j v g h1 hgg e.symm
    · rw [List.getElem?_append_right (by rw [h.len]; exact Nat.le_refl _), h.len, Nat.sub_self] at hx
      simp at hx; subst hx; exact hu
  · intro j v hv
    rcases split1 hv with ⟨h1, hj⟩ | ⟨rfl, rfl⟩
    · exact (h.rng j v h1).mono (Nat.le_refl _) hhi
    · exact hur
  · intro j v g hv hgg
    rcases split1 hv with ⟨h1, hj⟩ | ⟨rfl, rfl⟩
    · intro e
      rcases hnew g e with h2 | h2
      · exact h.out j v g h1 hgg h2
      · exact h2 j v h1 hgg
    · exact (hua g hgg).1
  · intro i j v v' g hij hv hv' hgg
    rcases split1 hv with ⟨h1, hi1⟩ | ⟨rfl, rfl⟩
    · rcases split1 hv' with ⟨h2, hj1⟩ | ⟨rfl, rfl⟩
      · exact h.apart i j v v' g hij h1 h2 hgg
      · exact fun e => (hua g e).2 i v h1 hgg
    · rcases split1 hv' with ⟨h2, hj1⟩ | ⟨rfl, _⟩
      · exact (hua g hgg).2 j v' h2
      · exact absurd rfl hij

/-- the cell of element j -/
theorem OwR.cell {g0 : Nat} (h : OwR Ow1 w lo hi E (some ⟨g0, 0, none⟩) n c us ds) {j : Nat} {u : Value} (hu : us[j]? = some u) : w.cell? ⟨g0, j, none⟩ = some u := by
  have hj : j < n := by have := (List.getElem?_eq_some_iff.1 hu).1; rw [h.ulen] at this; exact this
  obtain ⟨g', hg, _, _, _, hc, _⟩ := h.own.form (by omega)
  obtain rfl : g0 = g' := by injection hg with hg; injection hg
  rw [hc j hj, hu]
end

/-- element k of a list of lists, the empty one behind its end; closed to simp -/
def lget {α : Type} (zss : List (List α)) (k : Nat) : List α := zss.getD k []
theorem lget_lt {α : Type} {zss : List (List α)} {k : Nat} (h : k < zss.length) : lget zss k = zss[k] := by simp [lget, h]
theorem lget_get? {α : Type} {zss : List (List α)} {k : Nat} {z : List α} (h : zss[k]? = some z) : lget zss k = z := by simp [lget, h]
theorem take_lget {α : Type} {zss : List (List α)} {k : Nat} (h : k < zss.length) : zss.take (k + 1) = zss.take k ++ [lget zss k] := by rw [List.take_succ_eq_append_getElem h, lget_lt h]
theorem drop_lget {α : Type} {zss : List (List α)} {k : Nat} (h : k < zss.length) : zss.drop k = lget zss k :: zss.drop (k + 1) := by rw [List.drop_eq_getElem_cons h, lget_lt h]
/-- v is a slice that reads as integers -/
def RdS (w : World) (v : Value) (zs : List Int) : Prop := ∃ ao n c, v = .slice ao n c ∧ Ints w ao n zs
/-- v is a slice that owns its integers -/
def OwS (E : Nat) (w : World) (v : Value) (zs : List Int) : Prop := ∃ ao n c, v = .slice ao n c ∧ Own w 0 E ao n c (zs.map (Value.int .i64))
theorem OwS.rd {E : Nat} {w : World} {v : Value} {zs : List Int} (h : OwS E w v zs) : RdS w v zs := by
  obtain ⟨ao, n, c, rfl, ho⟩ := h
  exact ⟨ao, n, c, rfl, ho.ints⟩
theorem innerS (E : Nat) : Inner (OwS E) :=
  { loc := fun {w w' u d} h hs => by
      obtain ⟨ao, n, c, rfl, ho⟩ := h
      exact ⟨ao, n, c, rfl, ho.same fun g hg => hs g (by rw [ownBlock_slice]; exact hg)⟩
    lt := fun {w u d} h g hg => by
      obtain ⟨ao, n, c, rfl, ho⟩ := h
      rw [ownBlock_slice] at hg
      exact (ho.lt g hg).2
    one := fun {w u d} h => by obtain ⟨ao, n, c, rfl, _⟩ := h; rfl }
theorem RdS.below {w w' : World} {v : Value} {zs : List Int} (h : RdS w v zs) (hb : Below w.heap.size w w') : RdS w' v zs := by
  obtain ⟨ao, n, c, rfl, hi⟩ := h
  exact ⟨ao, n, c, rfl, hi.below hb⟩

/-- the slice at ao, of n slices of integers, reads as zss -/
def Intss (w : World) (ao : Option Addr) (n : Nat) (zss : List (List Int)) : Prop :=
  zss.length = n ∧ n ≤ 17592186044416 ∧ (0 < n → ∃ b off, ao = some ⟨b, off, none⟩ ∧ ∀ j, j < n → ∃ u, w.cell? ⟨b, off + j, none⟩ = some u ∧ RdS w u (lget zss j))
theorem Intss.at_ {w : World} {ao : Option Addr} {n : Nat} {zss : List (List Int)} (h : Intss w ao n zss) {k : Nat} (hk : k < n) :
    ∃ b off a' n' c', ao = some ⟨b, off, none⟩ ∧ w.cell? ⟨b, off + k, none⟩ = some (.slice a' n' c') ∧ Ints w a' n' (lget zss k) := by
  obtain ⟨b, off, e, hc⟩ := h.2.2 (by omega)
  obtain ⟨u, h1, a', n', c', rfl, h2⟩ := hc k hk
  exact ⟨b, off, a', n', c', e, h1, h2⟩
theorem Intss.below {w w' : World} {ao : Option Addr} {n : Nat} {zss : List (List Int)} (h : Intss w ao n zss) (hb : Below w.heap.size w w') : Intss w' ao n zss := by
  refine ⟨h.1, h.2.1, fun hn => ?_⟩
  obtain ⟨b, off, rfl, hc⟩ := h.2.2 hn
  refine ⟨b, off, rfl, fun j hj => ?_⟩
  obtain ⟨u, h1, h2⟩ := hc j hj
  exact ⟨u, (hb.cell (p := ⟨b, off + j, none⟩) (World.block_lt_of_cell? w _ h1)).trans h1, h2.below hb⟩
theorem Intss.nil_ (w : World) (ao : Option Addr) : Intss w ao 0 [] := ⟨rfl, by omega, fun h => absurd h (by omega)⟩
theorem OwR.intss {E1 : Nat} {w : World} {lo hi E : Nat} {ao : Option Addr} {n c : Nat} {us : List Value} {zss : List (List Int)} (h : OwR (OwS E1) w lo hi E ao n c us zss) : Intss w ao n zss := by
  refine ⟨h.len, by have := h.own.2; omega, fun hn => ?_⟩
  obtain ⟨g, rfl, _, _, _, _, _⟩ := h.own.form hn
  refine ⟨g, 0, rfl, fun j hj => ?_⟩
  obtain ⟨u, d, hu, hd, h1, _⟩ := h.get hj
  refine ⟨u, by rw [Nat.zero_add]; exact h.cell hu, ?_⟩
  rw [lget_get? hd]; exact h1.rd

/-- v is a slice that reads as lists of integers -/
def RdSS (w : World) (v : Value) (zss : List (List Int)) : Prop := ∃ ao n c, v = .slice ao n c ∧ Intss w ao n zss
/-- v is a slice that owns its lists of integers, in blocks from lo to below hi -/
def OwSS (E1 E : Nat) (w : World) (lo hi : Nat) (v : Value) (zss : List (List Int)) : Prop := ∃ ao n c us, v = .slice ao n c ∧ OwR (OwS E1) w lo hi E ao n c us zss
theorem OwSS.rd {E1 E : Nat} {w : World} {lo hi : Nat} {v : Value} {zss : List (List Int)} (h : OwSS E1 E w lo hi v zss) : RdSS w v zss := by
  obtain ⟨ao, n, c, us, rfl, ho⟩ := h
  exact ⟨ao, n, c, rfl, ho.intss⟩
theorem OwSS.below {E1 E : Nat} {w w' : World} {lo hi : Nat} {v : Value} {zss : List (List Int)} (h : OwSS E1 E w lo hi v zss) (hb : Below w.heap.size w w') : OwSS E1 E w' lo hi v zss := by
  obtain ⟨ao, n, c, us, rfl, ho⟩ := h
  exact ⟨ao, n, c, us, rfl, ho.below (innerS E1) hb⟩
theorem OwSS.only {E1 E : Nat} {w w' : World} {lo hi : Nat} {v : Value} {zss : List (List Int)} (h : OwSS E1 E w lo hi v zss) {l k : Nat} (ho : Only l k w w') (hd : hi ≤ l ∨ k ≤ lo) : OwSS E1 E w' lo hi v zss := by
  obtain ⟨ao, n, c, us, rfl, h1⟩ := h
  exact ⟨ao, n, c, us, rfl, h1.only (innerS E1) ho hd⟩
theorem OwSS.mono {E1 E : Nat} {w : World} {lo hi lo' hi' : Nat} {v : Value} {zss : List (List Int)} (h : OwSS E1 E w lo hi v zss) (h1 : lo' ≤ lo) (h2 : hi ≤ hi') : OwSS E1 E w lo' hi' v zss := by
  obtain ⟨ao, n, c, us, rfl, ho⟩ := h
  exact ⟨ao, n, c, us, rfl, ho.mono h1 h2⟩
theorem RdSS.below {w w' : World} {v : Value} {zss : List (List Int)} (h : RdSS w v zss) (hb : Below w.heap.size w w') : RdSS w' v zss := by
  obtain ⟨ao, n, c, rfl, hi⟩ := h
  exact ⟨ao, n, c, rfl, hi.below hb⟩
/-- v owns its integers in a block from lo to below hi -/
def OwnS (E : Nat) (w : World) (lo hi : Nat) (v : Value) (zs : List Int) : Prop := OwS E w v zs ∧ In lo hi v
theorem OwnS.rd {E : Nat} {w : World} {lo hi : Nat} {v : Value} {zs : List Int} (h : OwnS E w lo hi v zs) : RdS w v zs := h.1.rd
theorem OwnS.below {E : Nat} {w w' : World} {lo hi : Nat} {v : Value} {zs : List Int} (h : OwnS E w lo hi v zs) (hb : Below w.heap.size w w') : OwnS E w' lo hi v zs :=
  ⟨(innerS E).loc h.1 fun g hg => hb.block g ((innerS E).lt h.1 g hg), h.2⟩
theorem OwnS.only {E : Nat} {w w' : World} {lo hi : Nat} {v : Value} {zs : List Int} (h : OwnS E w lo hi v zs) {l k : Nat} (ho : Only l k w w') (hd : hi ≤ l ∨ k ≤ lo) : OwnS E w' lo hi v zs :=
  ⟨(innerS E).loc h.1 fun g hg => ho.block g ((innerS E).lt h.1 g hg) (by have := h.2 g hg; omega), h.2⟩
theorem OwnS.of {E : Nat} {w : World} {base : Nat} {ao : Option Addr} {n c : Nat} {zs : List Int} (h : Own w base E ao n c (zs.map (Value.int .i64))) : OwnS E w base w.heap.size (.slice ao n c) zs :=
  ⟨⟨ao, n, c, rfl, h.mono (Nat.zero_le _)⟩, in_slice h.lt⟩

/-- k, k + 1, .. : n numbers -/
def marks (k : Int) (n : Nat) : List Int := (List.range n).map fun j : Nat => k + (j : Int)
/-- a struct of one slice of slices, as a value: the mirror and the program's maniplex alike -/
def RdM (w : World) (v : Value) (zss : List (List Int)) : Prop := ∃ ao n c, v = .agg #[.slice ao n c] ∧ Intss w ao n zss
def OwM (E1 E : Nat) (w : World) (lo hi : Nat) (v : Value) (zss : List (List Int)) : Prop := ∃ ao n c us, v = .agg #[.slice ao n c] ∧ OwR (OwS E1) w lo hi E ao n c us zss
theorem OwM.rd {E1 E : Nat} {w : World} {lo hi : Nat} {v : Value} {zss : List (List Int)} (h : OwM E1 E w lo hi v zss) : RdM w v zss := by
  obtain ⟨ao, n, c, us, rfl, ho⟩ := h
  exact ⟨ao, n, c, rfl, ho.intss⟩
theorem OwM.below {E1 E : Nat} {w w' : World} {lo hi : Nat} {v : Value} {zss : List (List Int)} (h : OwM E1 E w lo hi v zss) (hb : Below w.heap.size w w') : OwM E1 E w' lo hi v zss := by
  obtain ⟨ao, n, c, us, rfl, ho⟩ := h
  exact ⟨ao, n, c, us, rfl, ho.below (innerS E1) hb⟩
theorem OwM.only {E1 E : Nat} {w w' : World} {lo hi : Nat} {v : Value} {zss : List (List Int)} (h : OwM E1 E w lo hi v zss) {l k : Nat} (ho : Only l k w w') (hd : hi ≤ l ∨ k ≤ lo) : OwM E1 E w' lo hi v zss := by
  obtain ⟨ao, n, c, us, rfl, h1⟩ := h
  exact ⟨ao, n, c, us, rfl, h1.only (innerS E1) ho hd⟩
theorem OwM.mono {E1 E : Nat} {w : World} {lo hi lo' hi' : Nat} {v : Value} {zss : List (List Int)} (h : OwM E1 E w lo hi v zss) (h1 : lo' ≤ lo) (h2 : hi ≤ hi') : OwM E1 E w lo' hi' v zss := by
  obtain ⟨ao, n, c, us, rfl, ho⟩ := h
  exact ⟨ao, n, c, us, rfl, ho.mono h1 h2⟩
theorem RdM.below {w w' : World} {v : Value} {zss : List (List Int)} (h : RdM w v zss) (hb : Below w.heap.size w w') : RdM w' v zss := by
  obtain ⟨ao, n, c, rfl, hi⟩ := h
  exact ⟨ao, n, c, rfl, hi.below hb⟩

/-- a struct of an integer and a slice of slices, as a value: a presentation -/
abbrev PresD : Type := Int × List (List Int)
def RdP (w : World) (v : Value) (d : PresD) : Prop := ∃ ao n c, v = .agg #[.int .i64 d.1, .slice ao n c] ∧ Intss w ao n d.2
def OwP (E1 E : Nat) (w : World) (lo hi : Nat) (v : Value) (d : PresD) : Prop := ∃ ao n c us, v = .agg #[.int .i64 d.1, .slice ao n c] ∧ OwR (OwS E1) w lo hi E ao n c us d.2
theorem OwP.rd {E1 E : Nat} {w : World} {lo hi : Nat} {v : Value} {d : PresD} (h : OwP E1 E w lo hi v d) : RdP w v d := by
  obtain ⟨ao, n, c, us, rfl, ho⟩ := h
  exact ⟨ao, n, c, rfl, ho.intss⟩
theorem OwP.below {E1 E : Nat} {w w' : World} {lo hi : Nat} {v : Value} {d : PresD} (h : OwP E1 E w lo hi v d) (hb : Below w.heap.size w w') : OwP E1 E w' lo hi v d := by
  obtain ⟨ao, n, c, us, rfl, ho⟩ := h
  exact ⟨ao, n, c, us, rfl, ho.below (innerS E1) hb⟩
theorem OwP.only {E1 E : Nat} {w w' : World} {lo hi : Nat} {v : Value} {d : PresD} (h : OwP E1 E w lo hi v d) {l k : Nat} (ho : Only l k w w') (hd : hi ≤ l ∨ k ≤ lo) : OwP E1 E w' lo hi v d := by
  obtain ⟨ao, n, c, us, rfl, h1⟩ := h
  exact ⟨ao, n, c, us, rfl, h1.only (innerS E1) ho hd⟩
theorem RdP.below {w w' : World} {v : Value} {d : PresD} (h : RdP w v d) (hb : Below w.heap.size w w') : RdP w' v d := by
  obtain ⟨ao, n, c, rfl, hi⟩ := h
  exact ⟨ao, n, c, rfl, hi.below hb⟩

theorem below_tr {w W W' : World} (k : Below W.heap.size W W') (h : Below w.heap.size w W) : Below w.heap.size w W' := h.trans (k.mono h.size)
theorem below_drew1 (w : World) : Below w.heap.size w w.drew := (Below.refl _ _).drew
theorem OwM.form {E1 E : Nat} {w : World} {lo hi : Nat} {v : Value} {zss : List (List Int)} (h : OwM E1 E w lo hi v zss) : ∃ ao n c, v = .agg #[.slice ao n c] := by
  obtain ⟨ao, n, c, us, rfl, _⟩ := h
  exact ⟨ao, n, c, rfl⟩
theorem OwP.form {E1 E : Nat} {w : World} {lo hi : Nat} {v : Value} {d : PresD} (h : OwP E1 E w lo hi v d) : ∃ ao n c, v = .agg #[.int .i64 d.1, .slice ao n c] := by
  obtain ⟨ao, n, c, us, rfl, _⟩ := h
  exact ⟨ao, n, c, rfl⟩
theorem below_alloc1 (w : World) (o : Obj) : Below w.heap.size w (w.alloc o) := (Below.refl _ _).alloc (Nat.le_refl _) o
theorem below_alloc2 (w : World) (o o' : Obj) : Below w.heap.size w ((w.alloc o).alloc o') := (below_alloc1 w o).alloc (by simp) o'
theorem below_alloc3 (w : World) (o o' o'' : Obj) : Below w.heap.size w (((w.alloc o).alloc o').alloc o'') := (below_alloc2 w o o').alloc (by simp; omega) o''
/-- block g is just the cells cs of type t, none frozen -/
def Blk (w : World) (g : Nat) (t : TypeId) (cs : Array Value) : Prop := w.heap[g]? = some (.cells cs t (0, 0))
theorem Blk.lt {w : World} {g : Nat} {t : TypeId} {cs : Array Value} (h : Blk w g t cs) : g < w.heap.size := by
  rcases Nat.lt_or_ge g w.heap.size with hlt | hge
  · exact hlt
  · unfold Blk at h; rw [Array.getElem?_eq_none hge] at h; cases h
theorem Blk.cell {w : World} {g : Nat} {t : TypeId} {cs : Array Value} (h : Blk w g t cs) (i : Nat) : w.cell? ⟨g, i, none⟩ = cs[i]? := cell_of_row w g i cs t (0, 0) h
theorem Blk.frozen {w : World} {g : Nat} {t : TypeId} {cs : Array Value} (h : Blk w g t cs) (i : Nat) : w.frozen? ⟨g, i, none⟩ = false := by
  unfold Blk at h; simp [World.frozen?, h]
theorem Blk.new (w : World) (t : TypeId) (cs : Array Value) : Blk (w.alloc (.cells cs t)) w.heap.size t cs := heap_alloc_new w _
theorem blk_at {w : World} {t : TypeId} {cs : Array Value} {k : Nat} (h : w.heap.size = k) : Blk (w.alloc (.cells cs t)) k t cs := h ▸ Blk.new w t cs
theorem Blk.alloc {w : World} {g : Nat} {t : TypeId} {cs : Array Value} (h : Blk w g t cs) (o : Obj) : Blk (w.alloc o) g t cs := (Below.heap_alloc w o g h.lt).trans h
theorem Blk.set_ {w : World} {g : Nat} {t : TypeId} {cs : Array Value} (h : Blk w g t cs) (i : Nat) (u : Value) : Blk (w.setCell ⟨g, i, none⟩ u) g t (cs.setIfInBounds i u) := by
  unfold Blk at h ⊢
  simp [World.setCell, Array.getElem?_modify, h]
theorem Blk.far {w : World} {g : Nat} {t : TypeId} {cs : Array Value} (h : Blk w g t cs) {p : Addr} (hp : g ≠ p.block) (u : Value) : Blk (w.setCell p u) g t cs := (Below.heap_setCell w p u g hp).trans h
theorem Blk.below {w w' : World} {g : Nat} {t : TypeId} {cs : Array Value} {B : Nat} (h : Blk w g t cs) (hb : Below B w w') (hg : g < B) : Blk w' g t cs := (hb.block g hg).trans h
theorem Blk.belowS {w w' : World} {g : Nat} {t : TypeId} {cs : Array Value} (h : Blk w g t cs) (hb : Below w.heap.size w w') : Blk w' g t cs := h.below hb h.lt
theorem Blk.only {w w' : World} {g : Nat} {t : TypeId} {cs : Array Value} {lo hi : Nat} (h : Blk w g t cs) (ho : Only lo hi w w') (hg : g < lo ∨ hi ≤ g) : Blk w' g t cs := (ho.block g h.lt hg).trans h
end Go.Proofs.Ytpognnifgcacnaa

/- The laws' own helpers on []int64: the copy, the comparison, the marks. -/
namespace Go.Proofs.Ytpognnifgcacnaa
open Go.RowKit

end Go.Proofs.Ytpognnifgcacnaa

/- The laws' helpers on []int64 in the words of Nest. -/
namespace Go.Proofs.Ytpognnifgcacnaa
open Go.RowKit

end Go.Proofs.Ytpognnifgcacnaa

/- The laws' helpers on [][]int64. -/
namespace Go.Proofs.Ytpognnifgcacnaa
open Go.RowKit

end Go.Proofs.Ytpognnifgcacnaa

/- A memory of names: the state of a walk as named chunks of memory (vectors of plain values, flat cells, rows of rows), with the world behind it. No program in sight. -/
namespace Go.Proofs.Ytpognnifgcacnaa
open Go.RowKit

abbrev Nm := Nat
/-- a value of one cell, as the walk knows it: a plain value; a slice or a pointer into chunk x; a slice or a pointer into row i of chunk x -/
inductive A1 where
  | val (v : Value)
  | any
  | sl (x : Nm) (off n : Nat)
  | ptr (x : Nm) (off : Nat)
  | esl (x : Nm) (i off n : Nat)
  | eptr (x : Nm) (i off : Nat)
  | clo (f : Fn) (xs : List (Nm × Nat))
inductive A2 where
  | one (a : A1)
  | agg (l : List A1)
inductive AV where
  | s (a : A2)
  | tup (l : List A2)
abbrev o1 (a : A1) : AV := .s (.one a)
abbrev vv (v : Value) : AV := .s (.one (.val v))

structure Hd where
  ao : Option Addr
  c : Nat
  k : Nat
structure Env where
  h : Nm → Option Hd
  r : Nm → Nat → Hd

def slAt (h : Hd) (off n : Nat) (u : Value) : Prop :=
  ∃ ao, u = .slice ao n (h.c - off) ∧ (off = 0 → ao = h.ao) ∧ (0 < off → off < h.c → ao = h.ao.map fun p => ⟨p.block, p.off + off * h.k, none⟩)
def ptAt (h : Hd) (off : Nat) (u : Value) : Prop := ∃ b o, h.ao = some ⟨b, o, none⟩ ∧ u = .pointer (some ⟨b, o + off, none⟩)

def Den1 (η : Env) : A1 → Value → Prop
  | .val v, u => u = v
  | .any, u => u.oneCell' = true
  | .sl x off n, u => (∃ ao c, u = .slice ao n c) ∧ ∀ h, η.h x = some h → slAt h off n u
  | .ptr x off, u => (∃ p, u = .pointer p) ∧ ∀ h, η.h x = some h → ptAt h off u
  | .esl x i off n, u => (∃ ao c, u = .slice ao n c) ∧ ∀ h, η.h x = some h → slAt (η.r x i) off n u
  | .eptr x i off, u => (∃ p, u = .pointer p) ∧ ∀ h, η.h x = some h → ptAt (η.r x i) off u
  | .clo f xs, u => ∃ us : Array Value, u = .func f #[] us ∧ us.size = xs.length ∧ ∀ (j : Nat) (p : Nm × Nat), xs[j]? = some p → ∃ q, us[j]? = some q ∧ (∃ p', q = .pointer p') ∧ ∀ h, η.h p.1 = some h → ptAt h p.2 q
def Den2 (η : Env) : A2 → Value → Prop
  | .one a, u => Den1 η a u
  | .agg l, u => ∃ us : Array Value, u = .agg us ∧ us.size = l.length ∧ ∀ (j : Nat) (a : A1), l[j]? = some a → ∃ u', us[j]? = some u' ∧ Den1 η a u'
def Den (η : Env) : AV → Value → Prop
  | .s a, u => Den2 η a u
  | .tup l, u => ∃ us : Array Value, u = .tuple us ∧ us.size = l.length ∧ ∀ (j : Nat) (a : A2), l[j]? = some a → ∃ u', us[j]? = some u' ∧ Den2 η a u'

def A1.has (x : Nm) : A1 → Bool
  | .sl y _ _ | .ptr y _ | .esl y _ _ _ | .eptr y _ _ => Nat.beq x y
  | .clo _ xs => xs.any fun p => Nat.beq x p.1
  | .val _ | .any => false
def A2.has (x : Nm) : A2 → Bool
  | .one a => a.has x
  | .agg l => l.any (A1.has x)
def AV.has (x : Nm) : AV → Bool
  | .s a => a.has x
  | .tup l => l.any (A2.has x)
def A1.forget (x : Nm) (a : A1) : A1 := bif a.has x then .any else a

/-- a cell of a mixed vector: a plain value; a row of m elements of k cells each; something -/
inductive Cel where
  | v (x : Value)
  | r (F : TypeId) (k m : Nat) (vs : List Value)
  | any
inductive Dat where
  | flat (l : List A1)
  | vals (vs : List Value)
  | rows (E : TypeId) (vss : List (List Value)) (holes : List Nat)
  | mix (cs : List Cel)
structure Ch where
  own : Bool
  E : TypeId
  k : Nat
  d : Dat
def Dat.len : Dat → Nat
  | .flat l => l.length
  | .vals vs => vs.length
  | .rows _ vss _ => vss.length
  | .mix cs => cs.length
def Dat.forget (x : Nm) : Dat → Dat
  | .flat l => .flat (l.map (A1.forget x))
  | d => d
def Ch.forget (x : Nm) (c : Ch) : Ch := { c with d := c.d.forget x }

/-- the owner of a block: a chunk, or a row of a chunk -/
abbrev Own? := Nat → Option (Nm × Option Nat)

def VecO (ω : Own?) (w : World) (ow : Nm × Option Nat) (h : Hd) (E : TypeId) (len : Nat) (cell : Nat → Value → Prop) : Prop :=
  (h.ao = none ∧ h.c = 0 ∧ len = 0) ∨
  ∃ b o cs, h.ao = some ⟨b, o, none⟩ ∧ ω b = some ow ∧ w.heap[b]? = some (.cells cs E (0, 0)) ∧ (o = 0 ∧ cs.size = h.c * h.k) ∧ len ≤ h.c * h.k ∧ h.c ≤ maxLen ∧
    ∀ j, j < len → ∃ u, cs[o + j]? = some u ∧ cell j u
def VecR (ω : Own?) (w : World) (h : Hd) (len : Nat) (cell : Nat → Value → Prop) : Prop :=
  len ≤ h.c * h.k ∧ ∀ j, j < len → ∃ b o u, h.ao = some ⟨b, o, none⟩ ∧ ω b = none ∧ b < w.heap.size ∧ w.cell? ⟨b, o + j, none⟩ = some u ∧ cell j u
def Vec (own : Bool) (ω : Own?) (w : World) (ow : Nm × Option Nat) (h : Hd) (E : TypeId) (len : Nat) (cell : Nat → Value → Prop) : Prop :=
  match own with
  | true => VecO ω w ow h E len cell
  | false => VecR ω w h len cell

def celOK (η : Env) (ω : Own?) (w : World) (own : Bool) (x : Nm) (j : Nat) : Cel → Value → Prop
  | .v y, u => u = y
  | .any, _ => True
  | .r F k m vs, u => vs.length = m * k ∧ u = .slice (η.r x j).ao m (η.r x j).c ∧ (η.r x j).k = k ∧ Vec own ω w (x, some j) (η.r x j) F vs.length fun i u => vs[i]? = some u
theorem celOK.move {η η' : Env} {ω ω' : Own?} {w w' : World} {own own' : Bool} {x x' : Nm} {j : Nat} {c : Cel} {u : Value} (hr : η'.r x' j = η.r x j)
    (hv : ∀ F k m vs, c = .r F k m vs → Vec own ω w (x, some j) (η.r x j) F vs.length (fun i u => vs[i]? = some u) → Vec own' ω' w' (x', some j) (η.r x j) F vs.length (fun i u => vs[i]? = some u)) (h : celOK η ω w own x j c u) : celOK η' ω' w' own' x' j c u := by
  cases c with
  | v y => exact h
  | any => trivial
  | r F k m vs =>
    obtain ⟨h0, h1, h2, h3⟩ := h
    unfold celOK
    rw [hr]
    exact ⟨h0, h1, h2, hv F k m vs rfl h3⟩
def cellsOK (η : Env) (ω : Own?) (w : World) (own : Bool) (x : Nm) : Dat → Nat → Value → Prop
  | .flat l, j, u => ∀ a, l[j]? = some a → Den1 η a u
  | .vals vs, j, u => vs[j]? = some u
  | .rows E vss holes, j, u => u.oneCell' = true ∧ (j ∉ holes → ∀ vs, vss[j]? = some vs → u = .slice (η.r x j).ao vs.length (η.r x j).c ∧ (η.r x j).k = 1 ∧ Vec own ω w (x, some j) (η.r x j) E vs.length fun i u => vs[i]? = some u)
  | .mix cs, j, u => u.oneCell' = true ∧ ∀ c, cs[j]? = some c → celOK η ω w own x j c u

def ChIs (η : Env) (ω : Own?) (w : World) (x : Nm) (h : Hd) (c : Ch) : Prop := h.k = c.k ∧ Vec c.own ω w (x, none) h c.E c.d.len (cellsOK η ω w c.own x c.d)

def Mem (η : Env) (ω : Own?) (w : World) (ch : Nm → Option Ch) : Prop :=
  (∀ x c, ch x = some c → ∃ h, η.h x = some h ∧ ChIs η ω w x h c) ∧ (∀ x, ch x = none → η.h x = none)

/-- what was not owned has not turned -/
structure Fr (ω : Own?) (w : World) (ω' : Own?) (w' : World) : Prop where
  os : w'.os = w.os
  tape : w'.tape = w.tape
  output : w'.output = w.output
  size : w.heap.size ≤ w'.heap.size
  block : ∀ b, b < w.heap.size → ω b = none → w'.heap[b]? = w.heap[b]? ∧ ω' b = none
theorem Fr.refl (ω : Own?) (w : World) : Fr ω w ω w := ⟨rfl, rfl, rfl, Nat.le_refl _, fun _ _ h => ⟨rfl, h⟩⟩
theorem Fr.trans {ω ω' ω'' : Own?} {w w' w'' : World} (h : Fr ω w ω' w') (k : Fr ω' w' ω'' w'') : Fr ω w ω'' w'' :=
  ⟨k.os.trans h.os, k.tape.trans h.tape, k.output.trans h.output, Nat.le_trans h.size k.size, fun b hb hn =>
    have h1 := h.block b hb hn
    have h2 := k.block b (Nat.lt_of_lt_of_le hb h.size) h1.2
    ⟨h2.1.trans h1.1, h2.2⟩⟩

structure St where
  sl : Nat → Option AV
  ch : Nm → Option Ch
  /-- values that stand in no slot (the arguments), as they are known now -/
  ph : Nat → Option AV
/-- what is fixed at the call's begin: the owners, and values to remember -/
structure Beg where
  own : Own?
  ph : List Value
def St.put (S : St) (t : Nat) (av : AV) : St := { S with sl := fun t' => bif Nat.beq t' t then some av else S.sl t' }
def St.new (S : St) (x : Nm) (c : Ch) : St :=
  { sl := fun t => (S.sl t).bind fun av => bif av.has x then none else some av
    ph := fun t => (S.ph t).bind fun av => bif av.has x then none else some av
    ch := fun y => bif Nat.beq y x then some c else (S.ch y).map (Ch.forget x) }
def St.set (S : St) (x : Nm) (c : Ch) : St := { S with ch := fun y => bif Nat.beq y x then some c else S.ch y }
def St.rm (S : St) (x : Nm) : St := { S with ch := fun y => bif Nat.beq y x then none else S.ch y }

/-- the state S holds in the frame a and the world w; w0, ω0: the world and the owners at the call's begin; nt: the number of slots -/
structure SatE (w0 : World) (ω0 : Beg) (nt : Nat) (S : St) (η : Env) (ω : Own?) (a : Act) (w : World) : Prop where
  dfr : a.defers = []
  tsz : a.tmps.size = nt
  slots : ∀ t av, S.sl t = some av → ∃ u, a.tmps[t]? = some u ∧ Den η av u
  phs : ∀ t av, S.ph t = some av → ∃ u, ω0.ph[t]? = some u ∧ Den η av u
  mem : Mem η ω w S.ch
  fr : Fr ω0.own w0 ω w
def Sat (w0 : World) (ω0 : Beg) (nt : Nat) (S : St) (a : Act) (w : World) : Prop := ∃ η ω, SatE w0 ω0 nt S η ω a w

section
variable {w0 w : World} {ω0 : Beg} {ω : Own?} {nt : Nat} {S : St} {η : Env} {a : Act}

theorem beq_true {x y : Nat} (h : Nat.beq x y = true) : x = y := Nat.eq_of_beq_eq_true h
theorem beq_ne {x y : Nat} (h : x ≠ y) : Nat.beq x y = false := by
  cases hb : Nat.beq x y with
  | true => exact absurd (beq_true hb) h
  | false => rfl
theorem sl_put (S : St) (t t' : Nat) (av : AV) : (S.put t av).sl t' = if t' = t then some av else S.sl t' := by
  unfold St.put
  by_cases h : t' = t
  · subst h; simp
  · simp only [beq_ne h, if_neg h, cond_false]
theorem ch_rm (S : St) (x y : Nm) : (S.rm x).ch y = if y = x then none else S.ch y := by
  unfold St.rm
  by_cases h : y = x
  · subst h; simp
  · simp only [beq_ne h, if_neg h, cond_false]
theorem ch_new (S : St) (x y : Nm) (c : Ch) : (S.new x c).ch y = if y = x then some c else (S.ch y).map (Ch.forget x) := by
  unfold St.new
  by_cases h : y = x
  · subst h; simp
  · simp only [beq_ne h, if_neg h, cond_false]
theorem sl_new {S : St} {x : Nm} {c : Ch} {t : Nat} {av : AV} (h : (S.new x c).sl t = some av) : S.sl t = some av ∧ av.has x = false := by
  unfold St.new at h
  simp only at h
  cases hs : S.sl t with
  | none => rw [hs] at h; cases h
  | some b =>
    rw [hs] at h
    simp only [Option.bind_some] at h
    cases hb : b.has x with
    | true => rw [hb] at h; cases h
    | false => rw [hb] at h; simp at h; subst h; exact ⟨rfl, hb⟩

theorem ph_new {S : St} {x : Nm} {c : Ch} {t : Nat} {av : AV} (h : (S.new x c).ph t = some av) : S.ph t = some av ∧ av.has x = false := by
  unfold St.new at h
  simp only at h
  cases hs : S.ph t with
  | none => rw [hs] at h; cases h
  | some b =>
    rw [hs] at h
    simp only [Option.bind_some] at h
    cases hb : b.has x with
    | true => rw [hb] at h; cases h
    | false => rw [hb] at h; simp at h; subst h; exact ⟨rfl, hb⟩
theorem SatE.putV (h : SatE w0 ω0 nt S η ω a w) {t : Nat} {av : AV} {u : Value} (ht : t < nt) (hd : Den η av u) : SatE w0 ω0 nt (S.put t av) η ω (a.put (some t) u) w :=
  { dfr := h.dfr
    tsz := by simp only [Act.put, Array.size_setIfInBounds]; exact h.tsz
    mem := h.mem, fr := h.fr, phs := h.phs
    slots := fun t' av' ht' => by
      rw [sl_put] at ht'
      simp only [Act.put, Array.getElem?_setIfInBounds, h.tsz]
      by_cases e : t' = t
      · subst e
        rw [if_pos rfl] at ht'
        obtain rfl := Option.some.inj ht'
        exact ⟨u, by simp [ht], hd⟩
      · rw [if_neg e] at ht'
        obtain ⟨u', h1, h2⟩ := h.slots t' av' ht'
        exact ⟨u', by rw [if_neg fun e' => e e'.symm]; exact h1, h2⟩ }

theorem Vec.get {own : Bool} {ow : Nm × Option Nat} {h : Hd} {E : TypeId} {len : Nat} {cell : Nat → Value → Prop} (hv : Vec own ω w ow h E len cell) {j : Nat} (hj : j < len) :
    ∃ b o u, h.ao = some ⟨b, o, none⟩ ∧ w.cell? ⟨b, o + j, none⟩ = some u ∧ cell j u := by
  cases own with
  | true =>
    rcases hv with ⟨_, _, h0⟩ | ⟨b, o, cs, h1, _, h2, _, _, _, h3⟩
    · omega
    · obtain ⟨u, hu, hc⟩ := h3 j hj
      exact ⟨b, o, u, h1, by rw [cell_of_row w b (o + j) cs E (0, 0) h2]; exact hu, hc⟩
  | false =>
    obtain ⟨b, o, u, h1, _, _, h2, h3⟩ := hv.2 j hj
    exact ⟨b, o, u, h1, h2, h3⟩
theorem Vec.cap {own : Bool} {ow : Nm × Option Nat} {h : Hd} {E : TypeId} {len : Nat} {cell : Nat → Value → Prop} (hv : Vec own ω w ow h E len cell) : len ≤ h.c * h.k := by
  cases own with
  | true => rcases hv with ⟨_, _, h0⟩ | ⟨b, o, cs, h1, _, h2, _, h3, _⟩ <;> omega
  | false => exact hv.1
end
end Go.Proofs.Ytpognnifgcacnaa

/- A memory of names: how it goes on when names are laid, dropped, and written. No program in sight. -/
namespace Go.Proofs.Ytpognnifgcacnaa
open Go.RowKit

def A1.mono (η η' : Env) (a : A1) : Prop := ∀ x, a.has x = true → η'.h x = none ∨ (η'.h x = η.h x ∧ ∀ i, η'.r x i = η.r x i)
theorem beq_r (x : Nat) : Nat.beq x x = true := by simp
theorem Den1.mono {η η' : Env} {a : A1} {u : Value} (hm : a.mono η η') (h : Den1 η a u) : Den1 η' a u := by
  cases a with
  | val v => exact h
  | any => exact h
  | sl x off n => exact ⟨h.1, fun hd he => (hm x (beq_r x)).elim (fun e => by rw [e] at he; cases he) (fun e => h.2 hd (e.1 ▸ he))⟩
  | ptr x off => exact ⟨h.1, fun hd he => (hm x (beq_r x)).elim (fun e => by rw [e] at he; cases he) (fun e => h.2 hd (e.1 ▸ he))⟩
  | esl x i off n => exact ⟨h.1, fun hd he => (hm x (beq_r x)).elim (fun e => by rw [e] at he; cases he) (fun e => by rw [e.2 i]; exact h.2 hd (e.1 ▸ he))⟩
  | eptr x i off => exact ⟨h.1, fun hd he => (hm x (beq_r x)).elim (fun e => by rw [e] at he; cases he) (fun e => by rw [e.2 i]; exact h.2 hd (e.1 ▸ he))⟩
  | clo f xs =>
    obtain ⟨us, h1, h2, h3⟩ := h
    refine ⟨us, h1, h2, fun j p hp => ?_⟩
    obtain ⟨q, hq, hq1, hq2⟩ := h3 j p hp
    refine ⟨q, hq, hq1, fun hd he => ?_⟩
    have hx : (A1.clo f xs).has p.1 = true := by simp only [A1.has, List.any_eq_true]; exact ⟨p, List.mem_of_getElem? hp, beq_r _⟩
    exact (hm p.1 hx).elim (fun e => by rw [e] at he; cases he) (fun e => hq2 hd (e.1 ▸ he))
theorem Den1.one {η : Env} {a : A1} {u : Value} (h : Den1 η a u) (hv : ∀ v, a = .val v → v.oneCell' = true) : u.oneCell' = true := by
  cases a with
  | val v => have h : u = v := h; subst h; exact hv _ rfl
  | any => exact h
  | sl x off n => obtain ⟨⟨ao, c, rfl⟩, _⟩ := h; rfl
  | ptr x off => obtain ⟨⟨ao, rfl⟩, _⟩ := h; rfl
  | esl x i off n => obtain ⟨⟨ao, c, rfl⟩, _⟩ := h; rfl
  | eptr x i off => obtain ⟨⟨ao, rfl⟩, _⟩ := h; rfl
  | clo f xs => obtain ⟨us, rfl, _⟩ := h; rfl
theorem has_not_val {a : A1} {x : Nm} (h : a.has x = true) : ∀ v, a = .val v → v.oneCell' = true := by rintro v rfl; cases h
theorem Den1.forget {η η' : Env} {a : A1} {u : Value} {x : Nm} (hm : ∀ y, y ≠ x → η'.h y = none ∨ (η'.h y = η.h y ∧ ∀ i, η'.r y i = η.r y i)) (h : Den1 η a u) : Den1 η' (a.forget x) u := by
  unfold A1.forget
  cases hx : a.has x with
  | true => exact h.one (has_not_val hx)
  | false => exact Den1.mono (a := a) (fun y hy => hm y fun e => by rw [e, hx] at hy; cases hy) h
def A2.mono (η η' : Env) (a : A2) : Prop := ∀ x, a.has x = true → η'.h x = none ∨ (η'.h x = η.h x ∧ ∀ i, η'.r x i = η.r x i)
theorem Den2.mono {η η' : Env} {a : A2} {u : Value} (hm : a.mono η η') (h : Den2 η a u) : Den2 η' a u := by
  cases a with
  | one a => exact Den1.mono hm h
  | agg l =>
    obtain ⟨us, h1, h2, h3⟩ := h
    refine ⟨us, h1, h2, fun j a ha => ?_⟩
    obtain ⟨u', h4, h5⟩ := h3 j a ha
    exact ⟨u', h4, h5.mono fun x hx => hm x (by simp only [A2.has, List.any_eq_true]; exact ⟨a, List.mem_of_getElem? ha, hx⟩)⟩
def AV.mono (η η' : Env) (a : AV) : Prop := ∀ x, a.has x = true → η'.h x = none ∨ (η'.h x = η.h x ∧ ∀ i, η'.r x i = η.r x i)
theorem Den.mono {η η' : Env} {a : AV} {u : Value} (hm : a.mono η η') (h : Den η a u) : Den η' a u := by
  cases a with
  | s a => exact Den2.mono hm h
  | tup l =>
    obtain ⟨us, h1, h2, h3⟩ := h
    refine ⟨us, h1, h2, fun j a ha => ?_⟩
    obtain ⟨u', h4, h5⟩ := h3 j a ha
    exact ⟨u', h4, h5.mono fun x hx => hm x (by simp only [AV.has, List.any_eq_true]; exact ⟨a, List.mem_of_getElem? ha, hx⟩)⟩

section
variable {w0 w w' : World} {ω0 : Beg} {ω ω' : Own?} {nt : Nat} {S : St} {η η' : Env} {a : Act}

/-- the blocks that answer to p have not turned -/
def Same (ω : Own?) (w : World) (ω' : Own?) (w' : World) (p : Option (Nm × Option Nat) → Prop) : Prop :=
  w.heap.size ≤ w'.heap.size ∧ ∀ b, b < w.heap.size → p (ω b) → w'.heap[b]? = w.heap[b]? ∧ ω' b = ω b

theorem lt_of_heap {b : Nat} {o : Obj} (h : w.heap[b]? = some o) : b < w.heap.size := by
  rcases Nat.lt_or_ge b w.heap.size with hlt | hge
  · exact hlt
  · rw [Array.getElem?_eq_none hge] at h; cases h

theorem Vec.same {own : Bool} {ow : Nm × Option Nat} {h : Hd} {E : TypeId} {len : Nat} {cell cell' : Nat → Value → Prop} {p : Option (Nm × Option Nat) → Prop} (hs : Same ω w ω' w' p) (hp : p none) (hp' : p (some ow))
    (hc : ∀ j u, cell j u → cell' j u) (hv : Vec own ω w ow h E len cell) : Vec own ω' w' ow h E len cell' := by
  cases own with
  | true =>
    rcases hv with h0 | ⟨b, o, cs, h1, h2, h3, h4, h5, h6, h7⟩
    · exact .inl h0
    · have hb := hs.2 b (lt_of_heap h3) (by rw [h2]; exact hp')
      refine .inr ⟨b, o, cs, h1, hb.2.trans h2, hb.1.trans h3, h4, h5, h6, fun j hj => ?_⟩
      obtain ⟨u, hu, hcu⟩ := h7 j hj
      exact ⟨u, hu, hc j u hcu⟩
  | false =>
    refine ⟨hv.1, fun j hj => ?_⟩
    obtain ⟨b, o, u, h1, h2, h3, h4, h5⟩ := hv.2 j hj
    have hb := hs.2 b h3 (by rw [h2]; exact hp)
    exact ⟨b, o, u, h1, hb.2.trans h2, Nat.lt_of_lt_of_le h3 hs.1, (World.cell?_of_block hb.1).trans h4, hc j u h5⟩

theorem ChIs.same {x : Nm} {h : Hd} {c : Ch} {p : Option (Nm × Option Nat) → Prop} (hs : Same ω w ω' w' p) (hp : p none) (hp' : ∀ i, p (some (x, i))) (hr : ∀ i, η'.r x i = η.r x i)
    (hm : ∀ l, c.d = .flat l → ∀ a ∈ l, a.mono η η') (hc : ChIs η ω w x h c) : ChIs η' ω' w' x h c := by
  refine ⟨hc.1, hc.2.same hs hp (hp' none) fun j u hu => ?_⟩
  cases hd : c.d with
  | flat l => rw [hd] at hu; exact fun a ha => (hu a ha).mono (hm l hd a (List.mem_of_getElem? ha))
  | vals vs => rw [hd] at hu; exact hu
  | rows E vss holes =>
    rw [hd] at hu
    refine ⟨hu.1, fun hj vs hvs => ?_⟩
    obtain ⟨h1, h2, h3⟩ := hu.2 hj vs hvs
    rw [hr j]
    exact ⟨h1, h2, h3.same hs hp (hp' (some j)) fun _ _ h => h⟩
  | mix cs => rw [hd] at hu; exact ⟨hu.1, fun c hc => (hu.2 c hc).move (hr j) fun _ _ _ _ _ h3 => h3.same hs hp (hp' (some j)) fun _ _ h => h⟩

theorem ChIs.forget {x y : Nm} {h : Hd} {c : Ch} {p : Option (Nm × Option Nat) → Prop} (hs : Same ω w ω' w' p) (hp : p none) (hp' : ∀ i, p (some (x, i))) (hr : ∀ i, η'.r x i = η.r x i)
    (hm : ∀ z, z ≠ y → η'.h z = none ∨ (η'.h z = η.h z ∧ ∀ i, η'.r z i = η.r z i)) (hc : ChIs η ω w x h c) : ChIs η' ω' w' x h (c.forget y) := by
  refine ⟨hc.1, ?_⟩
  have hl : (c.forget y).d.len = c.d.len := by unfold Ch.forget Dat.forget; cases c.d <;> simp [Dat.len]
  rw [hl]
  refine hc.2.same hs hp (hp' none) fun j u hu => ?_
  unfold Ch.forget Dat.forget
  cases hd : c.d with
  | flat l =>
    rw [hd] at hu
    intro a ha
    simp only [List.getElem?_map, Option.map_eq_some_iff] at ha
    obtain ⟨b, hb, rfl⟩ := ha
    exact (hu b hb).forget hm
  | vals vs => rw [hd] at hu; exact hu
  | rows E vss holes =>
    rw [hd] at hu
    refine ⟨hu.1, fun hj vs hvs => ?_⟩
    obtain ⟨h1, h2, h3⟩ := hu.2 hj vs hvs
    rw [hr j]
    exact ⟨h1, h2, h3.same hs hp (hp' (some j)) fun _ _ h => h⟩
  | mix cs => rw [hd] at hu; exact ⟨hu.1, fun c hc => (hu.2 c hc).move (hr j) fun _ _ _ _ _ h3 => h3.same hs hp (hp' (some j)) fun _ _ h => h⟩

/-- the owners that are alive, and nobody -/
def live (S : St) (o : Option (Nm × Option Nat)) : Prop := o = none ∨ ∃ y i c, o = some (y, i) ∧ S.ch y = some c
structure Calm (S : St) (ω : Own?) (w : World) (ω' : Own?) (w' : World) : Prop where
  os : w'.os = w.os
  tape : w'.tape = w.tape
  output : w'.output = w.output
  same : Same ω w ω' w' (live S)
theorem Calm.fr {ω0 : Own?} (h : Calm S ω w ω' w') (hf : Fr ω0 w0 ω w) : Fr ω0 w0 ω' w' :=
  ⟨h.os.trans hf.os, h.tape.trans hf.tape, h.output.trans hf.output, Nat.le_trans hf.size h.same.1, fun b hb hn => by
    have h1 := hf.block b hb hn
    have h2 := h.same.2 b (Nat.lt_of_lt_of_le hb hf.size) (.inl h1.2)
    exact ⟨h2.1.trans h1.1, h2.2.trans h1.2⟩⟩

/-- the environment with a new name -/
def Env.new (η : Env) (x : Nm) (hd : Hd) (r : Nat → Hd) : Env := { h := fun y => if y = x then some hd else η.h y, r := fun y i => if y = x then r i else η.r y i }
theorem Env.new_ne (η : Env) {x : Nm} (hd : Hd) (r : Nat → Hd) (y : Nm) (h : y ≠ x) : (η.new x hd r).h y = none ∨ ((η.new x hd r).h y = η.h y ∧ ∀ i, (η.new x hd r).r y i = η.r y i) :=
  .inr ⟨by simp [Env.new, h], fun i => by simp [Env.new, h]⟩

/-- a chunk is laid under a name that is free -/
theorem SatE.lay (h : SatE w0 ω0 nt S η ω a w) {x : Nm} {c : Ch} {hd : Hd} {r : Nat → Hd} (hk : Calm S ω w ω' w') (hc : ChIs (η.new x hd r) ω' w' x hd c) : SatE w0 ω0 nt (S.new x c) (η.new x hd r) ω' a w' :=
  { dfr := h.dfr, tsz := h.tsz, fr := hk.fr h.fr
    slots := fun t av ht => by
      obtain ⟨h1, h2⟩ := sl_new ht
      obtain ⟨u, h3, h4⟩ := h.slots t av h1
      exact ⟨u, h3, h4.mono fun y hy => Env.new_ne η hd r y fun e => by rw [e, h2] at hy; cases hy⟩
    phs := fun t av ht => by
      obtain ⟨h1, h2⟩ := ph_new ht
      obtain ⟨u, h3, h4⟩ := h.phs t av h1
      exact ⟨u, h3, h4.mono fun y hy => Env.new_ne η hd r y fun e => by rw [e, h2] at hy; cases hy⟩
    mem := ⟨fun y d hy => by
      rw [ch_new] at hy
      by_cases e : y = x
      · subst e
        rw [if_pos rfl] at hy
        obtain rfl := Option.some.inj hy
        exact ⟨hd, by simp [Env.new], hc⟩
      · rw [if_neg e, Option.map_eq_some_iff] at hy
        obtain ⟨d', hy', rfl⟩ := hy
        obtain ⟨h', e1, e2⟩ := h.mem.1 y d' hy'
        exact ⟨h', by simp [Env.new, e, e1], e2.forget hk.same (.inl rfl) (fun i => .inr ⟨y, i, d', rfl, hy'⟩) (fun i => by simp [Env.new, e]) fun z hz => Env.new_ne η hd r z hz⟩,
     fun y hy => by
      rw [ch_new] at hy
      by_cases e : y = x
      · rw [if_pos e] at hy; cases hy
      · rw [if_neg e, Option.map_eq_none_iff] at hy
        simp [Env.new, e, h.mem.2 y hy]⟩ }

/-- a name is dropped -/
def Env.drop (η : Env) (x : Nm) : Env := { η with h := fun y => if y = x then none else η.h y }
theorem Env.drop_any (η : Env) (x y : Nm) : (η.drop x).h y = none ∨ ((η.drop x).h y = η.h y ∧ ∀ i, (η.drop x).r y i = η.r y i) := by
  by_cases e : y = x
  · exact .inl (by simp [Env.drop, e])
  · exact .inr ⟨by simp [Env.drop, e], fun _ => rfl⟩
theorem Same.refl (ω : Own?) (w : World) (p : Option (Nm × Option Nat) → Prop) : Same ω w ω w p := ⟨Nat.le_refl _, fun _ _ _ => ⟨rfl, rfl⟩⟩
theorem Calm.refl (S : St) (ω : Own?) (w : World) : Calm S ω w ω w := ⟨rfl, rfl, rfl, Same.refl _ _ _⟩
theorem SatE.drop (h : SatE w0 ω0 nt S η ω a w) (x : Nm) : SatE w0 ω0 nt (S.rm x) (η.drop x) ω a w :=
  { dfr := h.dfr, tsz := h.tsz, fr := h.fr
    slots := fun t av ht => by
      obtain ⟨u, h3, h4⟩ := h.slots t av ht
      exact ⟨u, h3, h4.mono fun y _ => Env.drop_any η x y⟩
    phs := fun t av ht => by
      obtain ⟨u, h3, h4⟩ := h.phs t av ht
      exact ⟨u, h3, h4.mono fun y _ => Env.drop_any η x y⟩
    mem := ⟨fun y d hy => by
      rw [ch_rm] at hy
      by_cases e : y = x
      · rw [if_pos e] at hy; cases hy
      · rw [if_neg e] at hy
        obtain ⟨h', e1, e2⟩ := h.mem.1 y d hy
        exact ⟨h', by simp [Env.drop, e, e1], ChIs.same (η := η) (p := fun _ => True) (Same.refl _ _ _) trivial (fun _ => trivial) (fun _ => rfl) (fun l _ a _ z _ => Env.drop_any η x z) e2⟩,
     fun y hy => by
      rw [ch_rm] at hy
      by_cases e : y = x
      · simp [Env.drop, e]
      · rw [if_neg e] at hy
        simp [Env.drop, e, h.mem.2 y hy]⟩ }

end
end Go.Proofs.Ytpognnifgcacnaa

/- A memory of names: the operations that make no memory, and the loads. No program in sight. -/
namespace Go.Proofs.Ytpognnifgcacnaa
open Go.RowKit

def cv : Value → AV
  | .agg cs => .s (.agg (cs.toList.map .val))
  | v => vv v
def St.op (S : St) : Operand → Option AV
  | .tmp t => S.sl t
  | .const v => some (cv v)
  | .func f => some (o1 (.clo (.func f) []))
  | .global _ => none

structure Stp (P : Program) (nt : Nat) (o : Oper) (S S' : St) : Prop where
  go : ∀ (w0 : World) (ω0 : Beg) (a : Act) (w : World) (Q : Exit → Act → World → Prop), Sat w0 ω0 nt S a w → o.wp P a w (Sat w0 ω0 nt S') Q

section
variable {P : Program} {nt : Nat} {S S' : St} {w0 w : World} {ω0 : Beg} {ω : Own?} {η : Env} {a : Act}

theorem Stp.of (o : Oper) (h : ∀ w0 ω0 η ω a w, SatE w0 ω0 nt S η ω a w → ∃ v w', (execOp a.eval o).run P w = .ok (.value v) w' ∧ Sat w0 ω0 nt S' (a.put o.dst v) w') : Stp P nt o S S' := by
  refine ⟨fun w0 ω0 a w Q ⟨η, ω, hs⟩ => ?_⟩
  obtain ⟨v, w', h1, h2⟩ := h w0 ω0 η ω a w hs
  unfold Oper.wp
  rw [h1]
  exact h2
theorem Stp.pure {o : Oper} {t : Nat} {av : AV} (hd : o.dst = some t) (ht : Nat.blt t nt = true) (h : ∀ w0 ω0 η ω a w, SatE w0 ω0 nt S η ω a w → ∃ v, (execOp a.eval o).run P w = .ok (.value v) w ∧ Den η av v) : Stp P nt o S (S.put t av) := by
  refine Stp.of o fun w0 ω0 η ω a w hs => ?_
  obtain ⟨v, h1, h2⟩ := h w0 ω0 η ω a w hs
  exact ⟨v, w, h1, η, ω, by rw [hd]; exact hs.putV (by simpa using ht) h2⟩

variable {t : Nat} {ty : TypeId} {ps : String} {af : Array Edge} {gd : Option (Nat × Bool)} {x y : Operand} {av : AV}

/-- a cell behind a name -/
theorem SatE.chunk (h : SatE w0 ω0 nt S η ω a w) {x : Nm} {c : Ch} (hx : S.ch x = some c) : ∃ hd, η.h x = some hd ∧ hd.k = c.k ∧ Vec c.own ω w (x, none) hd c.E c.d.len (cellsOK η ω w c.own x c.d) :=
  have ⟨hd, h1, h2, h3⟩ := h.mem.1 x c hx
  ⟨hd, h1, h2, h3⟩

/-- a type of one cell -/
def oneB (P : Program) (T : TypeId) : Bool :=
  match P.underlying T with
  | some (.struct _) | some (.array _ _) | none => false
  | _ => true
theorem oneB_agg {T : TypeId} (h : oneB P T = true) (w : World) : (isAgg T).run P w = .ok false w := by
  unfold oneB at h
  cases hu : P.underlying T with
  | none => rw [hu] at h; cases h
  | some d => rw [hu] at h; cases d <;> first | (cases h; done) | simp [isAgg, run_underlying hu]
/-- what lies in cell j of a chunk -/
def Dat.at_ (x : Nm) : Dat → Nat → Option A1
  | .flat l, j => l[j]?
  | .vals vs, j => vs[j]?.map .val
  | .rows _ vss holes, j => if holes.contains j then none else vss[j]?.map fun vs => .esl x j 0 vs.length
  | .mix cs, j => match cs[j]? with
    | some (.v y) => some (.val y)
    | some (.r _ _ m _) => some (.esl x j 0 m)
    | some .any => some .any
    | none => none
theorem den_at {x : Nm} {own : Bool} {d : Dat} {j : Nat} {u : Value} {b : A1} (hu : cellsOK η ω w own x d j u) (hb : d.at_ x j = some b) : Den1 η b u := by
  cases d with
  | flat l => exact hu b hb
  | vals vs =>
    have hu : vs[j]? = some u := hu
    have hb : vs[j]?.map A1.val = some b := hb
    rw [hu] at hb; simp at hb; subst hb; exact rfl
  | rows E vss holes =>
    have hb : (if holes.contains j then none else vss[j]?.map fun vs => A1.esl x j 0 vs.length) = some b := hb
    split at hb
    · cases hb
    · rename_i hh
      rw [Option.map_eq_some_iff] at hb
      obtain ⟨vs, hvs, rfl⟩ := hb
      obtain ⟨rfl, h2, _⟩ := hu.2 (by simpa using hh) vs hvs
      exact ⟨⟨_, _, rfl⟩, fun hd _ => ⟨_, rfl, fun _ => rfl, fun h => absurd h (by omega)⟩⟩
  | mix cs =>
    simp only [Dat.at_] at hb
    cases hc : cs[j]? with
    | none => rw [hc] at hb; cases hb
    | some c =>
      rw [hc] at hb
      have hk := hu.2 c hc
      cases c with
      | v y => obtain rfl := Option.some.inj hb; exact hk
      | any => obtain rfl := Option.some.inj hb; exact hu.1
      | r F k m vs =>
        obtain rfl := Option.some.inj hb
        obtain ⟨_, rfl, _, _⟩ := hk
        exact ⟨⟨_, _, rfl⟩, fun hd _ => ⟨_, rfl, fun _ => rfl, fun h => absurd h (by omega)⟩⟩
theorem Dat.at_lt {x : Nm} {d : Dat} {j : Nat} {b : A1} (h : d.at_ x j = some b) : j < d.len := by
  cases d with
  | flat l => exact (List.getElem?_eq_some_iff.1 h).1
  | vals vs =>
    have h : vs[j]?.map A1.val = some b := h
    rw [Option.map_eq_some_iff] at h
    obtain ⟨v, hv, _⟩ := h
    exact (List.getElem?_eq_some_iff.1 hv).1
  | rows E vss holes =>
    have h : (if holes.contains j then none else vss[j]?.map fun vs => A1.esl x j 0 vs.length) = some b := h
    split at h
    · cases h
    · rw [Option.map_eq_some_iff] at h
      obtain ⟨vs, hvs, rfl⟩ := h
      exact (List.getElem?_eq_some_iff.1 hvs).1
  | mix cs =>
    simp only [Dat.at_] at h
    cases hc : cs[j]? with
    | none => rw [hc] at h; cases h
    | some c => exact (List.getElem?_eq_some_iff.1 hc).1

end
end Go.Proofs.Ytpognnifgcacnaa

/- A memory of names: indices of rows and arrays, lengths, slices of slices, aggregates, closures. No program in sight. -/
namespace Go.Proofs.Ytpognnifgcacnaa
open Go.RowKit

section
variable {P : Program} {nt : Nat} {S S' : St} {w0 w : World} {ω0 : Beg} {ω : Own?} {η : Env} {a : Act}
variable {t : Nat} {ty : TypeId} {ps : String} {af : Array Edge} {gd : Option (Nat × Bool)} {x y : Operand} {av : AV}

/-- how long a slice is -/
def A1.len : A1 → Option Nat
  | .sl _ _ n => some n
  | .esl _ _ _ n => some n
  | .val (.slice _ n _) => some n
  | _ => none
end
end Go.Proofs.Ytpognnifgcacnaa

/- A memory of names: new chunks (boxes, variables, literals, make). No program in sight. -/
namespace Go.Proofs.Ytpognnifgcacnaa
open Go.RowKit

section
variable {P : Program} {nt : Nat} {S S' : St} {w0 w : World} {ω0 : Beg} {ω : Own?} {η : Env} {a : Act}
variable {t : Nat} {ty : TypeId} {ps : String} {af : Array Edge} {gd : Option (Nat × Bool)} {x y : Operand} {av : AV}

def Own?.new (ω : Own?) (b : Nat) (o : Nm × Option Nat) : Own? := fun b' => if b' = b then some o else ω b'
theorem calm_alloc (S : St) (ω : Own?) (w : World) (o : Obj) (ow : Nm × Option Nat) : Calm S ω w (Own?.new ω w.heap.size ow) (w.alloc o) :=
  ⟨rfl, rfl, rfl, by simp, fun b hb _ => ⟨Below.heap_alloc w o b hb, by simp [Own?.new, Nat.ne_of_lt hb]⟩⟩
/-- a new block under the name x -/
theorem SatE.alloc (h : SatE w0 ω0 nt S η ω a w) {x : Nm} {c : Ch} {cs : Array Value} {r : Nat → Hd} {n : Nat} (hown : c.own = true) (hn : cs.size = n * c.k) (hl : c.d.len ≤ n * c.k) (hm : n ≤ maxLen)
    (hc : ∀ j, j < c.d.len → ∃ u, cs[j]? = some u ∧ cellsOK (η.new x ⟨some ⟨w.heap.size, 0, none⟩, n, c.k⟩ r) (Own?.new ω w.heap.size (x, none)) (w.alloc (.cells cs c.E)) true x c.d j u) :
    SatE w0 ω0 nt (S.new x c) (η.new x ⟨some ⟨w.heap.size, 0, none⟩, n, c.k⟩ r) (Own?.new ω w.heap.size (x, none)) a (w.alloc (.cells cs c.E)) :=
  h.lay (calm_alloc S ω w _ _) ⟨rfl, by
    rw [hown]
    refine .inr ⟨w.heap.size, 0, cs, rfl, by simp [Own?.new], heap_alloc_new w _, ⟨rfl, hn⟩, hl, hm, fun j hj => ?_⟩
    obtain ⟨u, h1, h2⟩ := hc j hj
    exact ⟨u, by simpa using h1, h2⟩⟩

def A2.list : A2 → List A1
  | .one a => [a]
  | .agg l => l
/-- a plain value of the walk's is of one cell -/
def A2.okB : A2 → Bool
  | .one (.val v) => v.oneCell'
  | _ => true
theorem A2.okB_spec {a2 : A2} (h : a2.okB = true) : ∀ v, a2 = .one (.val v) → v.oneCell' = true := by rintro v rfl; exact h

end
end Go.Proofs.Ytpognnifgcacnaa

/- A memory of names: stores. No program in sight. -/
namespace Go.Proofs.Ytpognnifgcacnaa
open Go.RowKit

section
variable {P : Program} {nt : Nat} {S S' : St} {w0 w : World} {ω0 : Beg} {ω : Own?} {η : Env} {a : Act}
variable {t : Nat} {ty : TypeId} {ps : String} {af : Array Edge} {gd : Option (Nat × Bool)} {x y : Operand} {av : AV}

/-- a type of k cells -/
def sizeB (P : Program) (T : TypeId) (k : Nat) : Bool :=
  match P.info? T with
  | some i => i.size == k
  | none => false
theorem sizeB_run {T : TypeId} {k : Nat} (h : sizeB P T k = true) (w : World) : (sizeOf T).run P w = .ok k w := by
  unfold sizeB at h
  split at h
  · rename_i i hi
    have : i.size = k := by simpa using h
    simp [sizeOf, typeInfo, hi, this]
  · cases h
end
end Go.Proofs.Ytpognnifgcacnaa

/- A memory of names: the walk over operations and code. No program in sight. -/
namespace Go.Proofs.Ytpognnifgcacnaa
open Go.RowKit

/-- a state that is written out -/
def lk {α : Type} (t : Nat) : List (Nat × α) → Option α
  | [] => none
  | (t', a) :: r => bif Nat.beq t t' then some a else lk t r
def St.of (sl : List (Nat × AV)) (ch : List (Nm × Ch)) (ph : List (Nat × AV) := []) : St := { sl := fun t => lk t sl, ch := fun x => lk x ch, ph := fun t => lk t ph }

section
variable {P : Program} {nt : Nat} {w0 : World} {ω0 : Beg} {S S1 S' : St} {Q : Exit → Act → World → Prop}

structure Run (P : Program) (w0 : World) (ω0 : Beg) (nt : Nat) (ops : Array Oper) (Q : Exit → Act → World → Prop) (S : St) (rest : List Oper) : Prop where
  go : ∀ a w, Sat w0 ω0 nt S a w → wpList P ops Q rest a w
structure Goes (P : Program) (w0 : World) (ω0 : Beg) (nt : Nat) (S : St) (c : Code) (Q : Exit → Act → World → Prop) : Prop where
  go : ∀ a w, Sat w0 ω0 nt S a w → c.wp P Q a w
structure Fin (w0 : World) (ω0 : Beg) (nt : Nat) (S : St) (e : Exit) (Q : Exit → Act → World → Prop) : Prop where
  go : ∀ a w, Sat w0 ω0 nt S a w → Q e a w
structure Wk (S S' : St) : Prop where
  go : ∀ w0 ω0 nt a w, Sat w0 ω0 nt S a w → Sat w0 ω0 nt S' a w

variable {ops : Array Oper} {rest : List Oper} {o : Oper}
theorem Wk.refl (S : St) : Wk S S := ⟨fun _ _ _ _ _ h => h⟩
theorem Wk.trans {S2 : St} (h : Wk S S1) (k : Wk S1 S2) : Wk S S2 := ⟨fun _ _ _ _ _ x => k.go _ _ _ _ _ (h.go _ _ _ _ _ x)⟩

/-- every row of the list is so in the state -/
def allSl (S : St) : List (Nat × AV) → Prop
  | [] => True
  | (t, av) :: r => S.sl t = some av ∧ allSl S r
def allCh (S : St) : List (Nm × Ch) → Prop
  | [] => True
  | (x, c) :: r => S.ch x = some c ∧ allCh S r
theorem allSl_lk : ∀ {l : List (Nat × AV)} {t : Nat} {av : AV}, allSl S l → lk t l = some av → S.sl t = some av
  | [], _, _, _, h => by cases h
  | (t', av') :: r, t, av, h, hl => by
    unfold lk at hl
    cases hb : Nat.beq t t' with
    | true => rw [hb] at hl; simp at hl; subst hl; rw [beq_true hb]; exact h.1
    | false => rw [hb] at hl; exact allSl_lk h.2 hl
def allPh (S : St) : List (Nat × AV) → Prop
  | [] => True
  | (t, av) :: r => S.ph t = some av ∧ allPh S r
theorem allPh_lk : ∀ {l : List (Nat × AV)} {t : Nat} {av : AV}, allPh S l → lk t l = some av → S.ph t = some av
  | [], _, _, _, h => by cases h
  | (t', av') :: r, t, av, h, hl => by
    unfold lk at hl
    cases hb : Nat.beq t t' with
    | true => rw [hb] at hl; simp at hl; subst hl; rw [beq_true hb]; exact h.1
    | false => rw [hb] at hl; exact allPh_lk h.2 hl
theorem allCh_lk : ∀ {l : List (Nm × Ch)} {t : Nat} {av : Ch}, allCh S l → lk t l = some av → S.ch t = some av
  | [], _, _, _, h => by cases h
  | (t', av') :: r, t, av, h, hl => by
    unfold lk at hl
    cases hb : Nat.beq t t' with
    | true => rw [hb] at hl; simp at hl; subst hl; rw [beq_true hb]; exact h.1
    | false => rw [hb] at hl; exact allCh_lk h.2 hl
open Classical in
theorem Wk.less (hs : ∀ t av, S'.sl t = some av → S.sl t = some av) (hc : ∀ x c, S'.ch x = some c → S.ch x = some c) (hp : ∀ t av, S'.ph t = some av → S.ph t = some av) : Wk S S' := by
  refine ⟨fun w0 ω0 nt a w ⟨η, ω, h⟩ => ?_⟩
  have key : ∀ x, (if S'.ch x = none then none else η.h x) = none ∨ ((if S'.ch x = none then none else η.h x) = η.h x ∧ ∀ i, η.r x i = η.r x i) := fun x => by
    by_cases e : S'.ch x = none
    · exact .inl (if_pos e)
    · exact .inr ⟨if_neg e, fun _ => rfl⟩
  refine ⟨{ η with h := fun x => if S'.ch x = none then none else η.h x }, ω, ⟨h.dfr, h.tsz, fun t av ht => ?_, fun t av ht => ?_, ⟨fun x c hx => ?_, fun x hx => if_pos hx⟩, h.fr⟩⟩
  · obtain ⟨u, h1, h2⟩ := h.slots t av (hs t av ht)
    exact ⟨u, h1, h2.mono fun y _ => key y⟩
  · obtain ⟨u, h1, h2⟩ := h.phs t av (hp t av ht)
    exact ⟨u, h1, h2.mono fun y _ => key y⟩
  · obtain ⟨hd, h1, h2⟩ := h.mem.1 x c (hc x c hx)
    refine ⟨hd, by simp [hx, h1], ChIs.same (η := η) (p := fun _ => True) (Same.refl _ _ _) trivial (fun _ => trivial) (fun _ => rfl) (fun l _ a _ z _ => key z) h2⟩
theorem Wk.of {sl ph : List (Nat × AV)} {ch : List (Nm × Ch)} (hs : allSl S sl) (hc : allCh S ch) (hp : allPh S ph) : Wk S (St.of sl ch ph) := Wk.less (fun _ _ h => allSl_lk hs h) (fun _ _ h => allCh_lk hc h) (fun _ _ h => allPh_lk hp h)
end
end Go.Proofs.Ytpognnifgcacnaa

/- A memory of names: contracts of functions; how a walk begins and ends; calls. No program in sight. -/
namespace Go.Proofs.Ytpognnifgcacnaa
open Go.RowKit

def DenL (η : Env) (avs : List AV) (us : List Value) : Prop := us.length = avs.length ∧ ∀ (j : Nat) (av : AV), avs[j]? = some av → ∃ u, us[j]? = some u ∧ Den η av u
/-- what a call leaves: a value, chunks, and what is known of the arguments -/
def Left (w : World) (ω : Own?) (us : List Value) (outs : List (Nm × Ch)) (res : AV) (back : List (Nat × AV)) (e : Ending) (w' : World) : Prop :=
  ∃ v η' ω', e = .returned v ∧ Den η' res v ∧ Mem η' ω' w' (fun x => lk x outs) ∧ Fr ω w ω' w' ∧ ∀ t av, lk t back = some av → ∃ u, us[t]? = some u ∧ Den η' av u
/-- the contract of a function in names: it takes the chunks ins and the arguments args; it leaves the chunks outs and the result res -/
def FC (P : Program) (f : FuncId) (ins : List (Nm × Ch)) (args : List AV) (outs : List (Nm × Ch)) (res : AV) (back : List (Nat × AV)) : Prop :=
  ∀ w η ω us, Mem η ω w (fun x => lk x ins) → DenL η args us → Calls P f us.toArray w (Left w ω us outs res back)

section
variable {P : Program} {nt : Nat} {S S' : St} {w0 w : World} {ω0 : Beg} {ω : Own?} {η : Env} {a : Act}

/-- the sum of the cells of a struct or an array -/
def aggB (P : Program) (T : TypeId) (k : Nat) : Bool :=
  match P.underlying T with
  | some (.struct _) | some (.array _ _) => sizeB P T k
  | _ => false
theorem aggB_agg {T : TypeId} {k : Nat} (h : aggB P T k = true) (w : World) : (isAgg T).run P w = .ok true w := by
  unfold aggB at h
  cases hu : P.underlying T with
  | none => rw [hu] at h; cases h
  | some d => rw [hu] at h; cases d <;> first | (cases h; done) | simp [isAgg, run_underlying hu]
theorem aggB_size {T : TypeId} {k : Nat} (h : aggB P T k = true) : sizeB P T k = true := by
  unfold aggB at h
  cases hu : P.underlying T with
  | none => rw [hu] at h; cases h
  | some d => rw [hu] at h; cases d <;> first | (cases h; done) | exact h
theorem run_loadAgg {T : TypeId} {k : Nat} (h : aggB P T k = true) {b o : Nat} {us : List Value} (hl : us.length = k) (hc : ∀ j u, us[j]? = some u → w.cell? ⟨b, o + j, none⟩ = some u) : (loadVar T ⟨b, o, none⟩).run P w = .ok (.agg us.toArray) w := by
  have hr := run_loadCells_list (P := P) w ⟨b, o, none⟩ us fun j u hu => by rw [Addr.add_lit]; exact hc j u hu
  rw [hl] at hr
  simp [loadVar, aggB_agg h, sizeB_run (aggB_size h), hr]
/-- the cells of a flat chunk, read as a struct -/
theorem SatE.readAgg (hs : SatE w0 ω0 nt S η ω a w) {n : Nm} {i k : Nat} {c : Ch} {l : List A1} {T : TypeId} {p : Value} (hp : Den1 η (.ptr n i) p) (hc : S.ch n = some c) (hd : c.d = .flat l) (hk : i + k ≤ l.length) (hk0 : 0 < k) (hT : aggB P T k = true) :
    ∃ ad u, p = .pointer (some ad) ∧ (loadVar T ad).run P w = .ok u w ∧ Den2 η (.agg ((l.drop i).take k)) u := by
  obtain ⟨h, e1, e2, e3⟩ := hs.chunk hc
  obtain ⟨b, o, g1, rfl⟩ := hp.2 h e1
  rw [hd] at e3
  have key : ∀ j, j < k → ∃ u, w.cell? ⟨b, o + i + j, none⟩ = some u ∧ ∀ b1, l[i + j]? = some b1 → Den1 η b1 u := fun j hj => by
    obtain ⟨b', o', u, f1, f2, f3⟩ := e3.get (j := i + j) (by show i + j < l.length; omega)
    rw [g1] at f1; injection f1 with f1; injection f1 with f1 f1'; subst f1 f1'
    exact ⟨u, by rw [Nat.add_assoc]; exact f2, f3⟩
  refine ⟨_, .agg ((List.range k).map fun j => (w.cell? ⟨b, o + i + j, none⟩).getD undef).toArray, rfl, run_loadAgg hT (by simp) fun j u hu => ?_, ⟨_, rfl, by simp; omega, fun j b1 hb1 => ?_⟩⟩
  · rw [List.getElem?_map, Option.map_eq_some_iff] at hu
    obtain ⟨j', hj', rfl⟩ := hu
    have hjk : j < k := by have := (List.getElem?_eq_some_iff.1 hj').1; simpa using this
    rw [List.getElem?_range hjk] at hj'
    obtain rfl := Option.some.inj hj'
    obtain ⟨u, hu, _⟩ := key j hjk
    rw [hu]; rfl
  · have hjk : j < k := by have := (List.getElem?_eq_some_iff.1 hb1).1; simp at this; omega
    rw [List.getElem?_take, if_pos hjk, List.getElem?_drop] at hb1
    obtain ⟨u, hu, hdu⟩ := key j hjk
    exact ⟨u, by simp [hjk, hu], hdu b1 hb1⟩

def resSem (tmps : Array Value) : ResultVar → Sem Value
  | .tmp t => pure (tmps.getD t undef)
  | .cell b t => do loadVar t (← asAddr (tmps.getD b undef))
/-- a result as the state has it -/
inductive ResB (P : Program) (S : St) : ResultVar → A2 → Prop where
  | tmp {t : Nat} {b : A2} (h : S.sl t = some (.s b)) : ResB P S (.tmp t) b
  | cell {t : Nat} {T : TypeId} {n : Nm} {k : Nat} {c : Ch} {l : List A1} (h : S.sl t = some (o1 (.ptr n 0))) (hc : S.ch n = some c) (hd : c.d = .flat l) (hk : l.length = k) (hk0 : Nat.blt 0 k = true) (hT : aggB P T k = true) : ResB P S (.cell t T) (.agg l)
  | one {t : Nat} {T : TypeId} {n : Nm} {c : Ch} {b : A1} (h : S.sl t = some (o1 (.ptr n 0))) (hc : S.ch n = some c) (hb : c.d.at_ n 0 = some b) (hT : oneB P T = true) : ResB P S (.cell t T) (.one b)
theorem SatE.res (hs : SatE w0 ω0 nt S η ω a w) {r : ResultVar} {b : A2} (h : ResB P S r b) : ∃ u, (resSem a.tmps r).run P w = .ok u w ∧ Den2 η b u := by
  cases h with
  | tmp h =>
    obtain ⟨u, h1, h2⟩ := hs.slots _ _ h
    exact ⟨u, by simp [resSem, h1], h2⟩
  | cell h hc hd hk hk0 hT =>
    obtain ⟨p, h1, h2⟩ := hs.slots _ _ h
    obtain ⟨ad, u, rfl, h4, h5⟩ := hs.readAgg (P := P) h2 hc hd (by omega) (by simpa using hk0) hT
    refine ⟨u, by simp [resSem, h1, asAddr, h4], ?_⟩
    rw [List.drop_zero, List.take_of_length_le (by omega)] at h5; exact h5
  | one h hc hb hT =>
    obtain ⟨p, h1, h2⟩ := hs.slots _ _ h
    obtain ⟨hd, e1, e2, e3⟩ := hs.chunk hc
    obtain ⟨bb, o, g1, rfl⟩ := (show Den1 η (.ptr _ 0) p from h2).2 hd e1
    obtain ⟨b', o', u, f1, f2, f3⟩ := e3.get (Dat.at_lt hb)
    rw [g1] at f1; injection f1 with f1; injection f1 with f1 f1'; subst f1 f1'
    simp only [Nat.add_zero] at f2 h1
    exact ⟨u, by simp [resSem, h1, asAddr, loadVar, oneB_agg hT, f2], den_at f3 hb⟩

end
end Go.Proofs.Ytpognnifgcacnaa

/- A memory of names: a call of a function by its contract in names. No program in sight. -/
namespace Go.Proofs.Ytpognnifgcacnaa
open Go.RowKit

def A1.bad (o k : Nm → Bool) : A1 → Bool
  | .val _ | .any => false
  | .sl x _ _ | .esl x _ _ _ | .eptr x _ _ => o x
  | .ptr x _ => o x && !k x
  | .clo _ xs => xs.any fun p => o p.1 && !k p.1
def A2.bad (o k : Nm → Bool) : A2 → Bool
  | .one a => a.bad o k
  | .agg l => l.any (A1.bad o k)
def AV.bad (o k : Nm → Bool) : AV → Bool
  | .s a => a.bad o k
  | .tup l => l.any (A2.bad o k)
def Dat.clean (o k : Nm → Bool) : Dat → Dat
  | .flat l => .flat (l.map fun a => bif a.bad o k then .any else a)
  | d => d
def Ch.clean (o k : Nm → Bool) (c : Ch) : Ch := { c with d := c.d.clean o k }
def A1.names : A1 → List Nm
  | .sl y _ _ | .ptr y _ | .esl y _ _ _ | .eptr y _ _ => [y]
  | .clo _ xs => xs.map (·.1)
  | .val _ | .any => []
def A2.names : A2 → List Nm
  | .one a => a.names
  | .agg l => l.flatMap A1.names
def AV.names : AV → List Nm
  | .s a => a.names
  | .tup l => l.flatMap A2.names
def Ch.names (c : Ch) : List Nm := match c.d with
  | .flat l => l.flatMap A1.names
  | _ => []
theorem ptAt.ao {h h' : Hd} {off : Nat} {u : Value} (e : h'.ao = h.ao) (p : ptAt h off u) : ptAt h' off u := by
  obtain ⟨b, o, h1, h2⟩ := p
  exact ⟨b, o, e.trans h1, h2⟩
def consB (ins : List (Nm × Ch)) (x : Nm) : Bool := match lk x ins with | some c => c.own | none => false
def inL (l : List (Nm × Ch)) (x : Nm) : Bool := (lk x l).isSome
def memB (l : List Nm) (x : Nm) : Bool := l.any (Nat.beq x)
def St.after (S : St) (ins outs : List (Nm × Ch)) (kp : List Nm) : St :=
  { sl := fun t => (S.sl t).bind fun av => bif av.bad (inL outs) (memB kp) then none else some av
    ph := fun t => (S.ph t).bind fun av => bif av.bad (inL outs) (memB kp) then none else some av
    ch := fun y => match lk y outs with
      | some c => some c
      | none => bif consB ins y then none else (S.ch y).map (Ch.clean (inL outs) (memB kp)) }
/-- what an argument may be taken for: something that is less known -/
def toL : List A1 → List A1 → Prop
  | [], [] => True
  | a :: r, b :: l => (a = b ∨ (b = .any ∧ (A2.one a).okB = true)) ∧ toL r l
  | _, _ => False
def AV.to : AV → AV → Prop
  | .s (.agg l), .s (.agg l') => toL l l'
  | a, b => a = b
def allTo : List AV → List AV → Prop
  | [], [] => True
  | a :: r, b :: l => a.to b ∧ allTo r l
  | _, _ => False
theorem toL_at : ∀ {l l' : List A1}, toL l l' → l.length = l'.length ∧ ∀ (j : Nat) (b : A1), l'[j]? = some b → ∃ a, l[j]? = some a ∧ (a = b ∨ (b = .any ∧ (A2.one a).okB = true))
  | [], [], _ => ⟨rfl, fun j b h => by simp at h⟩
  | a :: r, b :: l, h => by
    obtain ⟨h1, h2⟩ := toL_at h.2
    refine ⟨by simp [h1], fun j c hj => ?_⟩
    cases j with
    | zero => simp at hj; subst hj; exact ⟨a, by simp, h.1⟩
    | succ j => exact h2 j c (by simpa using hj)
  | [], _ :: _, h => h.elim
  | _ :: _, [], h => h.elim
theorem Den.to {η : Env} {a b : AV} {u : Value} (h : a.to b) (hd : Den η a u) : Den η b u := by
  match a, b, h, hd with
  | .s (.agg l), .s (.agg l'), h, hd =>
    obtain ⟨h1, h2⟩ := toL_at h
    obtain ⟨us, rfl, h3, h4⟩ := hd
    refine ⟨us, rfl, h3.trans h1, fun j c hj => ?_⟩
    obtain ⟨a, ha, hab⟩ := h2 j c hj
    obtain ⟨u', hu', hda⟩ := h4 j a ha
    refine ⟨u', hu', ?_⟩
    rcases hab with rfl | ⟨rfl, ho⟩
    · exact hda
    · exact hda.one fun v hv => A2.okB_spec ho v (by rw [hv])
  | .s (.one _), b, h, hd => have h : _ = b := h; exact h ▸ hd
  | .tup _, b, h, hd => have h : _ = b := h; exact h ▸ hd
  | .s (.agg l), .s (.one _), h, hd => have h : AV.s (.agg l) = _ := h; exact h ▸ hd
  | .s (.agg l), .tup _, h, hd => have h : AV.s (.agg l) = _ := h; exact h ▸ hd
theorem DenL.to {η : Env} : ∀ {avs avs' : List AV} {us : List Value}, allTo avs avs' → DenL η avs us → DenL η avs' us
  | [], [], us, _, hd => hd
  | a :: r, b :: l, us, h, hd => by
    cases us with
    | nil => exact absurd hd.1 (by simp)
    | cons u us =>
      have hd' : DenL η r us := ⟨by simpa using hd.1, fun j av hj => by
        obtain ⟨u', h1, h2⟩ := hd.2 (j + 1) av (by simpa using hj)
        exact ⟨u', by simpa using h1, h2⟩⟩
      obtain ⟨h1, h2⟩ := DenL.to h.2 hd'
      refine ⟨by simpa using h1, fun j av hj => ?_⟩
      cases j with
      | zero =>
        simp at hj; subst hj
        obtain ⟨u', h3, h4⟩ := hd.2 0 a (by simp)
        simp at h3; subst h3
        exact ⟨u, by simp, h4.to h.1⟩
      | succ j =>
        obtain ⟨u', h3, h4⟩ := h2 j av (by simpa using hj)
        exact ⟨u', by simpa using h3, h4⟩
  | [], _ :: _, _, h, _ => h.elim
  | _ :: _, [], _, h, _ => h.elim

section
variable {P : Program} {nt : Nat} {S S' : St} {w0 w : World} {ω0 : Beg} {ω : Own?} {η : Env} {a : Act}

theorem ChIs.own {ω' : Own?} {x : Nm} {h : Hd} {c : Ch} (hc : ChIs η ω w x h c) (hs : Same ω w ω' w (fun o => o = none ∨ ∃ i, o = some (x, i))) {η' : Env} (hr : ∀ i, η'.r x i = η.r x i) (hm : ∀ l, c.d = .flat l → ∀ a ∈ l, a.mono η η') : ChIs η' ω' w x h c :=
  ChIs.same hs (.inl rfl) (fun i => .inr ⟨i, rfl⟩) hr hm hc

theorem VecO.same {ω' : Own?} {w' : World} {ow : Nm × Option Nat} {h : Hd} {E : TypeId} {len : Nat} {cell cell' : Nat → Value → Prop} (hs : ∀ b, b < w.heap.size → ω b = some ow → w'.heap[b]? = w.heap[b]? ∧ ω' b = some ow)
    (hc : ∀ j u, cell j u → cell' j u) (hv : VecO ω w ow h E len cell) : VecO ω' w' ow h E len cell' := by
  rcases hv with h0 | ⟨b, o, cs, h1, h2, h3, h4, h5, h6, h7⟩
  · exact .inl h0
  · have hb := hs b (lt_of_heap h3) h2
    refine .inr ⟨b, o, cs, h1, hb.2, hb.1.trans h3, h4, h5, h6, fun j hj => ?_⟩
    obtain ⟨u, hu, hcu⟩ := h7 j hj
    exact ⟨u, hu, hc j u hcu⟩
theorem lk_mem {α : Type} : ∀ {l : List (Nat × α)} {t : Nat} {a : α}, lk t l = some a → (t, a) ∈ l
  | [], _, _, h => by cases h
  | (t', a') :: r, t, a, h => by
    unfold lk at h
    cases hb : Nat.beq t t' with
    | true => rw [hb] at h; simp at h; subst h; rw [beq_true hb]; exact List.mem_cons_self
    | false => rw [hb] at h; exact List.mem_cons_of_mem _ (lk_mem h)
end
end Go.Proofs.Ytpognnifgcacnaa

/- A memory of names: a contract under other names. No program in sight. -/
namespace Go.Proofs.Ytpognnifgcacnaa
open Go.RowKit

def A1.ren (σ : Nm → Nm) : A1 → A1
  | .val v => .val v
  | .any => .any
  | .sl x o n => .sl (σ x) o n
  | .ptr x o => .ptr (σ x) o
  | .esl x i o n => .esl (σ x) i o n
  | .eptr x i o => .eptr (σ x) i o
  | .clo f xs => .clo f (xs.map fun p => (σ p.1, p.2))
def A2.ren (σ : Nm → Nm) : A2 → A2
  | .one a => .one (a.ren σ)
  | .agg l => .agg (l.map (A1.ren σ))
def AV.ren (σ : Nm → Nm) : AV → AV
  | .s a => .s (a.ren σ)
  | .tup l => .tup (l.map (A2.ren σ))
def Dat.ren (σ : Nm → Nm) : Dat → Dat
  | .flat l => .flat (l.map (A1.ren σ))
  | .vals vs => .vals vs
  | .rows E vss holes => .rows E vss holes
  | .mix cs => .mix cs
def Ch.ren (σ : Nm → Nm) (c : Ch) : Ch := ⟨c.own, c.E, c.k, c.d.ren σ⟩
def renL (σ : Nm → Nm) (l : List (Nm × Ch)) : List (Nm × Ch) := l.map fun p => (σ p.1, p.2.ren σ)
def renB (σ : Nm → Nm) (l : List (Nat × AV)) : List (Nat × AV) := l.map fun p => (p.1, p.2.ren σ)

def Env.pull (η : Env) (σ : Nm → Nm) : Env := { h := fun x => η.h (σ x), r := fun x => η.r (σ x) }
theorem den1_ren {η : Env} {σ : Nm → Nm} {a : A1} {u : Value} : Den1 η (a.ren σ) u ↔ Den1 (η.pull σ) a u := by
  cases a with
  | clo f xs =>
    constructor
    · rintro ⟨us, h1, h2, h3⟩
      refine ⟨us, h1, by simpa using h2, fun j p hp => ?_⟩
      exact h3 j (σ p.1, p.2) (by simp [hp])
    · rintro ⟨us, h1, h2, h3⟩
      refine ⟨us, h1, by simpa using h2, fun j p hp => ?_⟩
      simp only [List.getElem?_map, Option.map_eq_some_iff] at hp
      obtain ⟨q, hq, rfl⟩ := hp
      exact h3 j q hq
  | _ => exact Iff.rfl
theorem den2_ren {η : Env} {σ : Nm → Nm} {a : A2} {u : Value} : Den2 η (a.ren σ) u ↔ Den2 (η.pull σ) a u := by
  cases a with
  | one a => exact den1_ren
  | agg l =>
    constructor
    · rintro ⟨us, h1, h2, h3⟩
      refine ⟨us, h1, by simpa using h2, fun j a ha => ?_⟩
      obtain ⟨u', h4, h5⟩ := h3 j (a.ren σ) (by simp [ha])
      exact ⟨u', h4, den1_ren.1 h5⟩
    · rintro ⟨us, h1, h2, h3⟩
      refine ⟨us, h1, by simpa using h2, fun j a ha => ?_⟩
      simp only [List.getElem?_map, Option.map_eq_some_iff] at ha
      obtain ⟨q, hq, rfl⟩ := ha
      obtain ⟨u', h4, h5⟩ := h3 j q hq
      exact ⟨u', h4, den1_ren.2 h5⟩
theorem den_ren {η : Env} {σ : Nm → Nm} {a : AV} {u : Value} : Den η (a.ren σ) u ↔ Den (η.pull σ) a u := by
  cases a with
  | s a => exact den2_ren
  | tup l =>
    constructor
    · rintro ⟨us, h1, h2, h3⟩
      refine ⟨us, h1, by simpa using h2, fun j a ha => ?_⟩
      obtain ⟨u', h4, h5⟩ := h3 j (a.ren σ) (by simp [ha])
      exact ⟨u', h4, den2_ren.1 h5⟩
    · rintro ⟨us, h1, h2, h3⟩
      refine ⟨us, h1, by simpa using h2, fun j a ha => ?_⟩
      simp only [List.getElem?_map, Option.map_eq_some_iff] at ha
      obtain ⟨q, hq, rfl⟩ := ha
      obtain ⟨u', h4, h5⟩ := h3 j q hq
      exact ⟨u', h4, den2_ren.2 h5⟩

section
variable {η : Env} {ω ω' : Own?} {w : World} {σ : Nm → Nm}
theorem Vec.ow {own : Bool} {ow ow' : Nm × Option Nat} {h : Hd} {E : TypeId} {len : Nat} {cell cell' : Nat → Value → Prop} (hn : ∀ b, ω b = none → ω' b = none) (ho : ∀ b, ω b = some ow → ω' b = some ow') (hc : ∀ j u, cell j u → cell' j u) (hv : Vec own ω w ow h E len cell) : Vec own ω' w ow' h E len cell' := by
  cases own with
  | true =>
    rcases hv with h0 | ⟨b, o, cs, h1, h2, h3, h4, h5, h6, h7⟩
    · exact .inl h0
    · refine .inr ⟨b, o, cs, h1, ho b h2, h3, h4, h5, h6, fun j hj => ?_⟩
      obtain ⟨u, hu, hcu⟩ := h7 j hj
      exact ⟨u, hu, hc j u hcu⟩
  | false =>
    refine ⟨hv.1, fun j hj => ?_⟩
    obtain ⟨b, o, u, h1, h2, h3, h4, h5⟩ := hv.2 j hj
    exact ⟨b, o, u, h1, hn b h2, h3, h4, hc j u h5⟩
theorem dat_len_ren (d : Dat) : (d.ren σ).len = d.len := by cases d <;> simp [Dat.ren, Dat.len]
theorem ChIs.pull {x : Nm} {h : Hd} {c : Ch} (hn : ∀ b, ω b = none → ω' b = none) (ho : ∀ b i, ω b = some (σ x, i) → ω' b = some (x, i)) (hc : ChIs η ω w (σ x) h (c.ren σ)) : ChIs (η.pull σ) ω' w x h c := by
  refine ⟨hc.1, ?_⟩
  have h2 : Vec c.own ω w (σ x, none) h c.E (c.d.ren σ).len (cellsOK η ω w c.own (σ x) (c.d.ren σ)) := hc.2
  rw [dat_len_ren] at h2
  refine h2.ow hn (fun b => ho b none) fun j u hu => ?_
  cases hd : c.d with
  | flat l => rw [hd] at hu; exact fun a ha => den1_ren.1 (hu (a.ren σ) (by simp [ha]))
  | vals vs => rw [hd] at hu; exact hu
  | rows E vss holes =>
    rw [hd] at hu
    refine ⟨hu.1, fun hj vs hvs => ?_⟩
    obtain ⟨h1, h2, h3⟩ := hu.2 hj vs hvs
    exact ⟨h1, h2, h3.ow hn (fun b => ho b (some j)) fun _ _ h => h⟩
  | mix cs => rw [hd] at hu; exact ⟨hu.1, fun c hc => celOK.move (η := η) (η' := η.pull σ) (x := σ x) (x' := x) rfl (fun _ _ _ _ _ h3 => h3.ow hn (fun b => ho b (some j)) fun _ _ h => h) (hu.2 c hc)⟩
theorem ChIs.push {x : Nm} {h : Hd} {c : Ch} (hn : ∀ b, ω b = none → ω' b = none) (ho : ∀ b i, ω b = some (x, i) → ω' b = some (σ x, i)) (hc : ChIs (η.pull σ) ω w x h c) : ChIs η ω' w (σ x) h (c.ren σ) := by
  refine ⟨hc.1, ?_⟩
  show Vec c.own ω' w (σ x, none) h c.E (c.d.ren σ).len (cellsOK η ω' w c.own (σ x) (c.d.ren σ))
  rw [dat_len_ren]
  refine hc.2.ow hn (fun b => ho b none) fun j u hu => ?_
  cases hd : c.d with
  | flat l =>
    rw [hd] at hu
    intro a ha
    simp only [List.getElem?_map, Option.map_eq_some_iff] at ha
    obtain ⟨q, hq, rfl⟩ := ha
    exact den1_ren.2 (hu q hq)
  | vals vs => rw [hd] at hu; exact hu
  | rows E vss holes =>
    rw [hd] at hu
    refine ⟨hu.1, fun hj vs hvs => ?_⟩
    obtain ⟨h1, h2, h3⟩ := hu.2 hj vs hvs
    exact ⟨h1, h2, h3.ow hn (fun b => ho b (some j)) fun _ _ h => h⟩
  | mix cs => rw [hd] at hu; exact ⟨hu.1, fun c hc => celOK.move (η := η.pull σ) (η' := η) (x := x) (x' := σ x) rfl (fun _ _ _ _ _ h3 => h3.ow hn (fun b => ho b (some j)) fun _ _ h => h) (hu.2 c hc)⟩
theorem lk_renL (hi : ∀ x y, σ x = σ y → x = y) : ∀ (l : List (Nm × Ch)) (x : Nm), lk (σ x) (renL σ l) = (lk x l).map (Ch.ren σ)
  | [], _ => rfl
  | (y, c) :: r, x => by
    simp only [renL, List.map_cons, lk]
    by_cases e : x = y
    · subst e; simp
    · rw [beq_ne e, beq_ne fun h => e (hi _ _ h)]; exact lk_renL hi r x
theorem lk_renL_mem {l : List (Nm × Ch)} {y : Nm} {c : Ch} (h : lk y (renL σ l) = some c) : ∃ x, σ x = y := by
  obtain ⟨p, _, hp⟩ := List.mem_map.1 (lk_mem h)
  simp only [Prod.mk.injEq] at hp
  exact ⟨p.1, hp.1⟩
theorem lk_renB : ∀ (l : List (Nat × AV)) (t : Nat), lk t (renB σ l) = (lk t l).map (AV.ren σ)
  | [], _ => rfl
  | (y, c) :: r, t => by
    simp only [renB, List.map_cons, lk]
    cases Nat.beq t y with
    | true => rfl
    | false => exact lk_renB r t

open Classical in
theorem FC.ren {P : Program} {f : FuncId} {ins outs : List (Nm × Ch)} {args : List AV} {res : AV} {back : List (Nat × AV)} (hi : ∀ x y, σ x = σ y → x = y) (h : FC P f ins args outs res back) : FC P f (renL σ ins) (args.map (AV.ren σ)) (renL σ outs) (res.ren σ) (renB σ back) := by
  intro w η ω us hm hd
  let inv : Nm → Option Nm := fun y => if h : ∃ x, σ x = y then some (Classical.choose h) else none
  have hinv : ∀ x, inv (σ x) = some x := fun x => by
    have hx : ∃ z, σ z = σ x := ⟨x, rfl⟩
    simp only [inv, dif_pos hx]
    exact congrArg some (hi _ _ (Classical.choose_spec hx))
  let ω1 : Own? := fun b => (ω b).bind fun o => (inv o.1).map fun x => (x, o.2)
  have m1 : Mem (η.pull σ) ω1 w fun x => lk x ins := by
    refine ⟨fun x c hx => ?_, fun x hx => ?_⟩
    · have hx : lk x ins = some c := hx
      obtain ⟨hq, h1, h2⟩ := hm.1 (σ x) (c.ren σ) (by show lk (σ x) (renL σ ins) = _; rw [lk_renL hi, hx]; rfl)
      exact ⟨hq, h1, ChIs.pull (ω := ω) (fun b hb => by simp only [ω1, hb]; rfl) (fun b i hb => by simp only [ω1, hb, Option.bind_some, hinv, Option.map_some]) h2⟩
    · have hx : lk x ins = none := hx
      exact hm.2 (σ x) (by show lk (σ x) (renL σ ins) = none; rw [lk_renL hi, hx]; rfl)
  have d1 : DenL (η.pull σ) args us := by
    refine ⟨by have := hd.1; simpa using this, fun j av hj => ?_⟩
    obtain ⟨u, h1, h2⟩ := hd.2 j (av.ren σ) (by simp [hj])
    exact ⟨u, h1, den_ren.1 h2⟩
  refine (h w _ ω1 us m1 d1).mono fun e w' hl => ?_
  obtain ⟨v, η2, ω2, he, hv, hm2, hfr, hb⟩ := hl
  let η3 : Env := { h := fun y => (inv y).bind η2.h, r := fun y => match inv y with | some x => η2.r x | none => fun _ => ⟨none, 0, 1⟩ }
  have hp : η3.pull σ = η2 := by
    have h1 : (η3.pull σ).h = η2.h := by funext x; simp only [Env.pull, η3, hinv, Option.bind_some]
    have h2 : (η3.pull σ).r = η2.r := by funext x; simp only [Env.pull, η3, hinv]
    cases hq : η3.pull σ; rw [hq] at h1 h2; cases η2; simp only at h1 h2; rw [h1, h2]
  refine ⟨v, η3, fun b => (ω2 b).map fun o => (σ o.1, o.2), he, den_ren.2 (hp ▸ hv), ⟨fun y c hy => ?_, fun y hy => ?_⟩, ⟨hfr.os, hfr.tape, hfr.output, hfr.size, fun b hb1 hb2 => ?_⟩, fun t av ht => ?_⟩
  · have hy : lk y (renL σ outs) = some c := hy
    obtain ⟨x, rfl⟩ := lk_renL_mem hy
    rw [lk_renL hi, Option.map_eq_some_iff] at hy
    obtain ⟨c0, hc0, rfl⟩ := hy
    obtain ⟨hq, h1, h2⟩ := hm2.1 x c0 hc0
    refine ⟨hq, by simp only [η3, hinv, Option.bind_some]; exact h1, ?_⟩
    refine ChIs.push (ω := ω2) (fun b hb => by simp [hb]) (fun b i hb => by simp [hb]) ?_
    rw [hp]; exact h2
  · have hy : lk y (renL σ outs) = none := hy
    cases hiv : inv y with
    | none => simp only [η3, hiv, Option.bind_none]
    | some x =>
      have hxy : σ x = y := by
        simp only [inv] at hiv
        split at hiv
        · rename_i hx; have := Option.some.inj hiv; rw [← this]; exact Classical.choose_spec hx
        · cases hiv
      subst hxy
      rw [lk_renL hi, Option.map_eq_none_iff] at hy
      simp only [η3, hiv, Option.bind_some]
      exact hm2.2 x hy
  · have h1 : ω1 b = none := by simp only [ω1, hb2]; rfl
    obtain ⟨h2, h3⟩ := hfr.block b hb1 h1
    exact ⟨h2, by simp [h3]⟩
  · rw [lk_renB, Option.map_eq_some_iff] at ht
    obtain ⟨a0, ha0, rfl⟩ := ht
    obtain ⟨u, h1, h2⟩ := hb t a0 ha0
    exact ⟨u, h1, den_ren.2 (hp ▸ h2)⟩
end

end Go.Proofs.Ytpognnifgcacnaa

/- A memory of names: structs loaded and stored whole; the everyday forms of the rules. No program in sight. -/
namespace Go.Proofs.Ytpognnifgcacnaa
open Go.RowKit

abbrev I6 (z : Int) : Value := .int .i64 z
def ivals (zs : List Int) : List Value := zs.map I6
theorem ivals_len (zs : List Int) : (ivals zs).length = zs.length := by simp [ivals]
section
variable {P : Program} {nt : Nat} {S S' : St} {w0 w : World} {ω0 : Beg} {ω : Own?} {η : Env} {a : Act}
variable {t : Nat} {ty : TypeId} {ps : String} {af : Array Edge} {gd : Option (Nat × Bool)} {x y : Operand} {av : AV}

end
end Go.Proofs.Ytpognnifgcacnaa

/- A memory of names: append. No program in sight. -/
namespace Go.Proofs.Ytpognnifgcacnaa
open Go.RowKit

/-- what append leaves of a vector of the call's own -/
structure Grown (ω : Own?) (w w' : World) (ow : Nm × Option Nat) (h' : Hd) (E : TypeId) (k nk : Nat) (news : List Value) (cell : Nat → Value → Prop) : Prop where
  k_ : h'.k = k
  os : w'.os = w.os
  tape : w'.tape = w.tape
  output : w'.output = w.output
  size : w.heap.size ≤ w'.heap.size
  other : ∀ b, b < w.heap.size → ω b ≠ some ow → w'.heap[b]? = w.heap[b]?
  vec : ∃ b o cs, h'.ao = some ⟨b, o, none⟩ ∧ Own?.new ω w.heap.size ow b = some ow ∧ w'.heap[b]? = some (.cells cs E (0, 0)) ∧ (o = 0 ∧ cs.size = h'.c * k) ∧ nk + news.length ≤ h'.c * k ∧ h'.c ≤ maxLen ∧
    (∀ j, j < nk → ∃ u, cs[o + j]? = some u ∧ cell j u) ∧ ∀ j v, news[j]? = some v → cs[o + nk + j]? = some v
end Go.Proofs.Ytpognnifgcacnaa

/- A memory of names: append and make as operations of the walk. No program in sight. -/
namespace Go.Proofs.Ytpognnifgcacnaa
open Go.RowKit

/-- what a slice reads as, m elements of k cells -/
structure Reads (S : St) (b : A1) (m k : Nat) (news : List Value) : Prop where
  len : news.length = m * k
  go : ∀ {w0 ω0 nt η ω a w u}, SatE w0 ω0 nt S η ω a w → Den1 η b u → ∃ ad c, u = .slice ad m c ∧ ∀ (j : Nat) (v : Value), news[j]? = some v → ∃ bb o, ad = some ⟨bb, o, none⟩ ∧ w.cell? ⟨bb, o + j, none⟩ = some v
section
variable {P : Program} {nt : Nat} {S S' : St} {w0 w : World} {ω0 : Beg} {ω : Own?} {η : Env} {a : Act}
variable {t : Nat} {ty : TypeId} {ps : String} {af : Array Edge} {gd : Option (Nat × Bool)} {x y : Operand} {av : AV}

/-- the cells of a slice of a chunk -/
theorem SatE.slice (hs : SatE w0 ω0 nt S η ω a w) {n : Nm} {off m k : Nat} {c : Ch} {u : Value} (hd : Den1 η (.sl n off m) u) (hc : S.ch n = some c) (hk : c.k = k) (hk0 : 0 < k) (hl : (off + m) * k ≤ c.d.len) :
    ∃ ad cp, u = .slice ad m cp ∧ ∀ j, j < m * k → ∃ bb o v, ad = some ⟨bb, o, none⟩ ∧ w.cell? ⟨bb, o + j, none⟩ = some v ∧ cellsOK η ω w c.own n c.d (off * k + j) v := by
  obtain ⟨hd', e1, e2, e3⟩ := hs.chunk hc
  obtain ⟨ao, rfl, f1, f2⟩ := hd.2 hd' e1
  refine ⟨ao, _, rfl, fun j hj => ?_⟩
  have hlt : off * k + j < c.d.len := Nat.lt_of_lt_of_le (by rw [Nat.add_mul]; omega) hl
  obtain ⟨b', o', v, g1, g2, g3⟩ := e3.get hlt
  have hcap := e3.cap
  rw [e2, hk] at hcap
  have h5 : off + m ≤ hd'.c := Nat.le_of_mul_le_mul_right (Nat.le_trans hl hcap) hk0
  have hm : 0 < m := by
    rcases Nat.eq_zero_or_pos m with h8 | h8
    · subst h8; simp at hj
    · exact h8
  refine ⟨b', o' + off * k, v, ?_, by rw [Nat.add_assoc]; exact g2, g3⟩
  rcases Nat.eq_zero_or_pos off with h0 | h0
  · rw [f1 h0, g1, h0]; simp
  · rw [f2 h0 (by omega), g1, e2, hk]; rfl

end
end Go.Proofs.Ytpognnifgcacnaa

/- A memory of names: rows that are appended and laid into rows; make; what is nil; structs stored whole. No program in sight. -/
namespace Go.Proofs.Ytpognnifgcacnaa
open Go.RowKit

section
variable {P : Program} {nt : Nat} {S S' : St} {w0 w : World} {ω0 : Beg} {ω : Own?} {η : Env} {a : Act}
variable {t : Nat} {ty : TypeId} {ps : String} {af : Array Edge} {gd : Option (Nat × Bool)} {x y : Operand} {av : AV}

end
end Go.Proofs.Ytpognnifgcacnaa

/- A memory of names: structs stored whole, rows laid into rows, nil cells. No program in sight. -/
namespace Go.Proofs.Ytpognnifgcacnaa
open Go.RowKit

structure RowTurn (η η' : Env) (n : Nm) : Prop where
  h : ∀ y, η'.h y = η.h y
  r : ∀ y, y ≠ n → ∀ i, η'.r y i = η.r y i
section
variable {P : Program} {nt : Nat} {S S' : St} {w0 w : World} {ω0 : Beg} {ω : Own?} {η : Env} {a : Act}
variable {t : Nat} {ty : TypeId} {ps : String} {af : Array Edge} {gd : Option (Nat × Bool)} {x y : Operand} {av : AV}

end
end Go.Proofs.Ytpognnifgcacnaa

/- A memory of names: a region that draws its order. Its first operations read, or make memory; whatever comes behind waits for all of them. No program in sight. -/
namespace Go.Proofs.Ytpognnifgcacnaa
open Go.RowKit

structure Add where
  t : Nat
  av : AV
  news : Option (Nm × Ch)
def St.newO (S : St) : Option (Nm × Ch) → St
  | none => S
  | some (x, c) => S.new x c
def St.add (S : St) (A : Add) : St := (S.newO A.news).put A.t A.av
def memN (l : List Nat) (x : Nat) : Bool := l.any (Nat.beq x)
def noK : Nm → Bool := fun _ => false
/-- no name of the list, no slot of the list -/
def St.clear (S : St) (ds nms : List Nat) : St :=
  { sl := fun t => bif memN ds t then none else (S.sl t).bind fun av => bif av.bad (memN nms) noK then none else some av
    ph := fun t => (S.ph t).bind fun av => bif av.bad (memN nms) noK then none else some av
    ch := fun x => bif memN nms x then none else (S.ch x).map (Ch.clean (memN nms) noK) }
def Add.chAt (A : Add) (x : Nm) : Option Ch := match A.news with
  | some (y, c) => bif Nat.beq x y then some c else none
  | none => none
structure St.le (S S1 : St) : Prop where
  sl : ∀ t av, S.sl t = some av → S1.sl t = some av
  ch : ∀ x c, S.ch x = some c → S1.ch x = some c
theorem St.le.op {S S1 : St} (h : S.le S1) {x : Operand} {av : AV} (hx : S.op x = some av) : S1.op x = some av := by
  cases x with
  | tmp t => exact h.sl t av hx
  | const v => exact hx
  | func f => exact hx
  | global g => cases hx

def newNms (l : List Add) : List Nm := l.filterMap fun A => A.news.map (·.1)
def Add.names (A : Add) : List Nm := A.av.names ++ (match A.news with | some (_, c) => c.names | none => [])
/-- whoever names what another operation of the region makes waits for it -/
def mentionB (cls : List (List Nat)) (adds : List Add) : Bool :=
  adds.zipIdx.all fun p => p.1.names.all fun y => adds.zipIdx.all fun q => match q.1.news with
    | some (x, _) => !(Nat.beq x y) || Nat.beq q.2 p.2 || memN (cls.getD p.2 []) q.2
    | none => true
end Go.Proofs.Ytpognnifgcacnaa

/- A memory of names: a region that draws its order, walked once. No program in sight. -/
namespace Go.Proofs.Ytpognnifgcacnaa
open Go.RowKit

section
variable {P : Program} {nt : Nat} {w0 w : World} {ω0 : Beg} {S S1 : St} {Q : Exit → Act → World → Prop} {a : Act}

def lkTR (ℓ : Nat → Bool) (t : Nat) : List Add → Option AV
  | [] => none
  | A :: r => bif Nat.beq t A.t && ℓ r.length then some A.av else lkTR ℓ t r
def lkNR (ℓ : Nat → Bool) (x : Nm) : List Add → Option Ch
  | [] => none
  | A :: r => match (bif ℓ r.length then A.chAt x else none) with
    | some c => some c
    | none => lkNR ℓ x r
/-- the same with the last operation in front -/
def St.partR (S : St) (ℓ : Nat → Bool) (done : List Add) : St :=
  { sl := fun t => match lkTR ℓ t done with | some av => some av | none => S.sl t
    ph := S.ph
    ch := fun x => match lkNR ℓ x done with | some c => some c | none => S.ch x }
/-- the operations, one behind the other in the text's order: each may look at what it depends on alone -/
inductive Draw (P : Program) (nt : Nat) (S : St) (cls : List (List Nat)) (sk : List Nat) : List Oper → List Add → List Add → Prop where
  | nil {done : List Add} : Draw P nt S cls sk [] done done
  | skip {o : Oper} {rest : List Oper} {done all : List Add} (A : Add) (hs : memN sk done.length = true) (k : Draw P nt S cls sk rest (A :: done) all) : Draw P nt S cls sk (o :: rest) done all
  | cons {o : Oper} {rest : List Oper} {done all : List Add} (A : Add) (hg : o.guard = none)
      (h : ∀ S1, (S.partR (memN (cls.getD done.length [])) done).le S1 → Stp P nt o S1 (S1.add A)) (k : Draw P nt S cls sk rest (A :: done) all) : Draw P nt S cls sk (o :: rest) done all
structure ClsOK (ops : Array Oper) (nA : Nat) (sk : List Nat) (cls : List (List Nat)) : Prop where
  size : nA ≤ ops.size
  less : ∀ i o, ops[i]? = some o → i < nA → memN sk i = false → ∀ e ∈ o.after, Region.binds .any e = true → e.on < i ∧ memN sk e.on = false
  dep : ∀ i o, ops[i]? = some o → ∀ j ∈ cls.getD i [], ∃ e ∈ o.after, Region.binds .any e = true ∧ (j = e.on ∨ j ∈ cls.getD e.on [])
  late : ∀ i o, ops[i]? = some o → (nA ≤ i ∨ memN sk i = true) → ∀ j, j < nA → memN sk j = false → j ∈ cls.getD i []
  lt : ∀ i o, ops[i]? = some o → i < nA → ∀ j ∈ cls.getD i [], j < i
/-- the checks on what the operations make -/
structure AddsOK (adds : List Add) (cls : List (List Nat)) (ds nms : List Nat) : Prop where
  t : (adds.map (·.t)).Nodup
  n : (newNms adds).Nodup
  ds : ∀ A ∈ adds, A.t ∈ ds
  nms : ∀ A ∈ adds, ∀ x c, A.news = some (x, c) → x ∈ nms
  ment : mentionB cls adds = true
/-- what comes behind the first operations, whatever is to come -/
structure Rest (P : Program) (w0 : World) (ω0 : Beg) (nt : Nat) (ops : Array Oper) (Q : Exit → Act → World → Prop) (n : Nat) (L : Array Bool) (S : St) : Prop where
  go : ∀ a w, Sat w0 ω0 nt S a w → wpAny P .any ops Q n L a w

end
end Go.Proofs.Ytpognnifgcacnaa

/- A memory of names: the steps of a region that draws its order. No program in sight. -/
namespace Go.Proofs.Ytpognnifgcacnaa
open Go.RowKit

section
variable {P : Program} {nt : Nat} {w0 w : World} {ω0 : Beg} {S S1 : St} {Q : Exit → Act → World → Prop} {cls : List (List Nat)} {sk : List Nat} {o : Oper} {rest : List Oper} {done all : List Add}
end
end Go.Proofs.Ytpognnifgcacnaa

/- A memory of names: everyday forms of alloc and append. No program in sight. -/
namespace Go.Proofs.Ytpognnifgcacnaa
open Go.RowKit


section
variable {P : Program} {nt : Nat} {S S' : St} {w0 w : World} {ω0 : Beg} {ω : Own?} {η : Env} {a : Act}
variable {t : Nat} {ty : TypeId} {ps : String} {af : Array Edge} {gd : Option (Nat × Bool)} {x y : Operand} {av : AV}
end
section
variable {P : Program} {nt : Nat} {w0 : World} {ω0 : Beg} {S S1 S' : St} {Q : Exit → Act → World → Prop}
end
end Go.Proofs.Ytpognnifgcacnaa

/- A memory of names: a region that draws its order, in which one operation of the first ones is free to come at any time. No program in sight. -/
namespace Go.Proofs.Ytpognnifgcacnaa
open Go.RowKit

section
variable {P : Program} {nt : Nat} {w0 w : World} {ω0 : Beg} {S S1 : St} {Q : Exit → Act → World → Prop} {a : Act}

structure ClsFOK (ops : Array Oper) (nA : Nat) (sk : List Nat) (f : Nat) (cls : List (List Nat)) : Prop where
  size : nA ≤ ops.size
  less : ∀ i o, ops[i]? = some o → i < nA → memN sk i = false → ∀ e ∈ o.after, Region.binds .any e = true → e.on < i ∧ memN sk e.on = false
  dep : ∀ i o, ops[i]? = some o → ∀ j ∈ cls.getD i [], ∃ e ∈ o.after, Region.binds .any e = true ∧ (j = e.on ∨ j ∈ cls.getD e.on [])
  late : ∀ i o, ops[i]? = some o → (nA ≤ i ∨ memN sk i = true) → ∀ j, j < nA → memN sk j = false → j ≠ f → j ∈ cls.getD i []
  lt : ∀ i o, ops[i]? = some o → i < nA → ∀ j ∈ cls.getD i [], j < i
end
end Go.Proofs.Ytpognnifgcacnaa

/- A memory of names: guards, picks, nil slices inside of aggregates. No program in sight. -/
namespace Go.Proofs.Ytpognnifgcacnaa
open Go.RowKit

section
variable {P : Program} {nt : Nat} {S S1 S' : St} {w0 w : World} {ω0 : Beg} {ω : Own?} {η : Env} {a : Act} {Q : Exit → Act → World → Prop} {ops : Array Oper} {rest : List Oper} {o : Oper}
variable {t : Nat} {ty : TypeId} {ps : String} {af : Array Edge} {gd : Option (Nat × Bool)} {x y z : Operand} {av : AV}

end
end Go.Proofs.Ytpognnifgcacnaa

/- From contracts in names to contracts in words (RdS, OwSS, ..), and back. No program in sight. -/
namespace Go.Proofs.Ytpognnifgcacnaa
open Go.RowKit

/-- nobody's blocks -/
def noOwn : Own? := fun _ => none
/-- a chunk that is only read lies at the head h, its rows at the heads r -/
def Hv (w : World) (x : Nm) (c : Ch) (h : Hd) (r : Nat → Hd) : Prop := ∀ η : Env, (∀ i, η.r x i = r i) → ChIs η noOwn w x h c
abbrev Lay := List (Nm × (Ch × Hd × (Nat → Hd)))
def envOf (l : Lay) : Env := { h := fun x => (lk x l).map fun q => q.2.1, r := fun x i => match lk x l with | some q => q.2.2 i | none => ⟨none, 0, 1⟩ }
theorem lk_map {α β : Type} (f : α → β) : ∀ (l : List (Nat × α)) (x : Nat), lk x (l.map fun p => (p.1, f p.2)) = (lk x l).map f
  | [], x => rfl
  | p :: r, x => by
    simp only [List.map_cons, lk]
    rw [lk_map f r x]
    cases Nat.beq x p.1 <;> rfl
theorem mem_of {w : World} {l : Lay} (h : ∀ p ∈ l, Hv w p.1 p.2.1 p.2.2.1 p.2.2.2) : Mem (envOf l) noOwn w (fun x => lk x (l.map fun p => (p.1, p.2.1))) := by
  have hl : ∀ x, lk x (l.map fun p => (p.1, p.2.1)) = (lk x l).map fun q => q.1 := fun x => lk_map (fun q => q.1) l x
  refine ⟨fun x c hx => ?_, fun x hx => ?_⟩
  · replace hx := (hl x).symm.trans hx
    obtain ⟨q, hq, rfl⟩ := Option.map_eq_some_iff.1 hx
    refine ⟨q.2.1, by simp [envOf, hq], h (x, q) (lk_mem hq) _ fun i => by simp [envOf, hq]⟩
  · replace hx := (hl x).symm.trans hx
    have : lk x l = none := by simpa using hx
    simp [envOf, this]
/-- what a contract in names says of a call whose arguments are only read -/
theorem FC.call {P : Program} {f : FuncId} {ins outs : List (Nm × Ch)} {args : List AV} {res : AV} {back : List (Nat × AV)} (h : FC P f ins args outs res back) {w : World} {l : Lay} {us : List Value} (hl : ∀ p ∈ l, Hv w p.1 p.2.1 p.2.2.1 p.2.2.2) (hi : (l.map fun p => (p.1, p.2.1)) = ins)
    (hd : DenL (envOf l) args us) : Calls P f us.toArray w fun e w' => ∃ v η ω, e = .returned v ∧ Den η res v ∧ Mem η ω w' (fun x => lk x outs) ∧ Below w.heap.size w w' ∧ ∀ b, b < w.heap.size → ω b = none := by
  subst hi
  refine (h w (envOf l) noOwn us (mem_of hl) hd).mono ?_
  rintro e w' ⟨v, η, ω, he, h1, h2, h3, _⟩
  exact ⟨v, η, ω, he, h1, h2, ⟨h3.os, h3.tape, h3.output, h3.size, fun b hb => (h3.block b hb rfl).1⟩, fun b hb => (h3.block b hb rfl).2⟩

section
variable {η : Env} {ω : Own?} {w' : World} {lo : Nat} {outs : List (Nm × Ch)}
/-- a vector of the call's own is a row of the words -/
theorem VecO.own {ow : Nm × Option Nat} {h : Hd} {E : Nat} {xs : List Value} {len : Nat} {cell : Nat → Value → Prop} (hk : h.k = 1) (hv : VecO ω w' ow h E len cell) (hlo : ∀ b, b < lo → ω b = none) (hn : len ≤ 4398046511104) (hx : xs.length = len)
    (hc : ∀ j u, j < len → (∃ b o, h.ao = some ⟨b, o, none⟩ ∧ w'.cell? ⟨b, o + j, none⟩ = some u) → xs[j]? = some u) :
    Own w' lo E h.ao len h.c xs ∧ ∀ g, bk h.ao = some g → g < w'.heap.size ∧ ω g = some ow := by
  rcases hv with ⟨h1, h2, h3⟩ | ⟨b, o, cs, h1, h2, h3, ⟨h4, h4'⟩, h5, h6, h7⟩
  · subst h3
    refine ⟨⟨⟨by simpa using hx, .inl ⟨by rw [h1, h2], rfl⟩⟩, hn⟩, fun g hg => by rw [h1] at hg; cases hg⟩
  · subst h4
    rw [hk, Nat.mul_one] at h4' h5
    have hb : lo ≤ b := by
      rcases Nat.lt_or_ge b lo with h8 | h8
      · rw [hlo b h8] at h2; cases h2
      · exact h8
    refine ⟨⟨⟨by simpa using hx, .inr ⟨b, h.c, cs, by rw [h1], hb, h3, h5, h6, by rw [h4', Nat.mul_one], ?_⟩⟩, hn⟩, fun g hg => ?_⟩
    · apply List.ext_getElem?
      intro j
      rw [Nat.mul_one, List.getElem?_take]
      by_cases hj : j < len
      · obtain ⟨u, hu, _⟩ := h7 j hj
        rw [Nat.zero_add] at hu
        rw [if_pos hj, hc j u hj ⟨b, 0, h1, by rw [Nat.zero_add, cell_of_row w' b j cs E (0, 0) h3]; exact hu⟩]
        simpa using hu
      · rw [if_neg hj, List.getElem?_eq_none (by omega)]
    · rw [h1] at hg
      simp [bk] at hg
      subst hg
      exact ⟨lt_of_heap h3, h2⟩
end

section
variable {η : Env} {ω : Own?} {w : World} {ins : List (Nm × Ch)}
end
end Go.Proofs.Ytpognnifgcacnaa

/- A memory of names: make of integers; small steps. No program in sight. -/
namespace Go.Proofs.Ytpognnifgcacnaa
open Go.RowKit

section
variable {P : Program} {nt : Nat} {S S1 : St} {w0 w : World} {ω0 : Beg} {ω : Own?} {η : Env} {a : Act} {Q : Exit → Act → World → Prop}
variable {t : Nat} {ty : TypeId} {ps : String} {af : Array Edge} {gd : Option (Nat × Bool)} {x y : Operand} {av : AV}
end
end Go.Proofs.Ytpognnifgcacnaa

/- A memory of names: a region that draws, with several operations free to come at any time. No program in sight. -/
namespace Go.Proofs.Ytpognnifgcacnaa
open Go.RowKit

section
variable {P : Program} {nt : Nat} {S S1 : St} {w0 w : World} {ω0 : Beg} {ω : Own?} {η : Env} {a : Act} {Q : Exit → Act → World → Prop}

def AllSubs : List Nat → (List Nat → Prop) → Prop
  | [], p => p []
  | f :: r, p => AllSubs r p ∧ AllSubs r (fun ks => p (f :: ks))
theorem AllSubs.map {p p' : List Nat → Prop} (h : ∀ ks, p ks → p' ks) : ∀ {fs : List Nat}, AllSubs fs p → AllSubs fs p'
  | [], k => h _ k
  | _ :: _, k => ⟨AllSubs.map h k.1, AllSubs.map (fun ks => h _) k.2⟩
structure ClsLOK (ops : Array Oper) (nA : Nat) (sk : List Nat) (fs : List Nat) (cls : List (List Nat)) : Prop where
  size : nA ≤ ops.size
  less : ∀ i o, ops[i]? = some o → i < nA → memN sk i = false → ∀ e ∈ o.after, Region.binds .any e = true → e.on < i ∧ memN sk e.on = false
  dep : ∀ i o, ops[i]? = some o → ∀ j ∈ cls.getD i [], ∃ e ∈ o.after, Region.binds .any e = true ∧ (j = e.on ∨ j ∈ cls.getD e.on [])
  late : ∀ i o, ops[i]? = some o → (nA ≤ i ∨ memN sk i = true) → ∀ j, j < nA → memN sk j = false → memN fs j = false → j ∈ cls.getD i []
  lt : ∀ i o, ops[i]? = some o → i < nA → ∀ j ∈ cls.getD i [], j < i
end
end Go.Proofs.Ytpognnifgcacnaa

/- A memory of names: calls that make one vector; rows taken out and laid back; slices of rows; literals of rows and of arrays. No program in sight. -/
namespace Go.Proofs.Ytpognnifgcacnaa
open Go.RowKit

section
variable {P : Program} {nt : Nat} {S S1 S2 : St} {w0 w : World} {ω0 : Beg} {ω : Own?} {η : Env} {a : Act} {Q : Exit → Act → World → Prop} {ops : Array Oper} {rest : List Oper}
variable {t : Nat} {ty : TypeId} {ps : String} {af : Array Edge} {gd : Option (Nat × Bool)} {x y : Operand} {av : AV} {o : Oper}

end
end Go.Proofs.Ytpognnifgcacnaa

/- A memory of names: append behind the front of a vector (a queue): in place, or to new memory; arrays of two integers. No program in sight. -/
namespace Go.Proofs.Ytpognnifgcacnaa
open Go.RowKit

section
variable {P : Program} {nt : Nat} {S S1 S2 : St} {w0 w : World} {ω0 : Beg} {ω : Own?} {η : Env} {a : Act} {Q : Exit → Act → World → Prop} {ops : Array Oper} {rest : List Oper}
variable {t : Nat} {ty : TypeId} {ps : String} {af : Array Edge} {gd : Option (Nat × Bool)} {x y : Operand} {av : AV} {o : Oper}
/-- a step that ends in one of two states -/
structure StpOr (P : Program) (nt : Nat) (o : Oper) (S S1 S2 : St) : Prop where
  go : ∀ w0 ω0 a w Q, Sat w0 ω0 nt S a w → o.wp P a w (fun a w => Sat w0 ω0 nt S1 a w ∨ Sat w0 ω0 nt S2 a w) Q
def pflat (q : List (Int × Int)) : List Int := q.flatMap fun p => [p.1, p.2]
theorem pflat_len : ∀ q : List (Int × Int), (pflat q).length = 2 * q.length
  | [] => rfl
  | p :: r => by have := pflat_len r; simp [pflat] at this ⊢; omega
end
end Go.Proofs.Ytpognnifgcacnaa

/- A region that draws its order, whose operations only read and whose callees make new memory alone: one walk, in the order of the text. (The steps are printed by fill.py out of the mark CALM.) -/
namespace Go.Proofs.Ytpognnifgcacnaa
open Go.RowKit

section
variable {P : Program} {ops : Array Oper} {C : World → Prop} {o : Oper} {a : Act} {K : Act → Prop}
theorem quiet_val {u : Value} (h : ∀ w, C w → (execOp a.eval o).run P w = .ok (.value u) w) (hk : K (a.put o.dst u)) : o.quiet P a C K :=
  ⟨u, fun w hw => by unfold Oper.quietAt; rw [h w hw]; exact ⟨rfl, rfl⟩, hk⟩
theorem quiet_call {f : FuncId} {args : Array Value} {v : Value} (h : ∀ w, C w → (execOp a.eval o).run P w = .ok (.enter f args) w) (hc : ∀ w, C w → Calls P f args w (fun e w'' => e = .returned v ∧ C w'')) (hk : K (a.put o.dst v)) : o.quiet P a C K :=
  ⟨v, fun w hw => by unfold Oper.quietAt; rw [h w hw]; exact ⟨rfl, hc w hw⟩, hk⟩
theorem wp_region_calm {id : Nat} {Q : Exit → Act → World → Prop} {w : World} {l : List Oper} (hm : P.follows .mixedOrders = true) (hB : Region.lexB .any l.toArray = true)
    (h : wpQuiet P l.toArray (fun w' => Below w.heap.size w w') (fun a' => ∀ w', Below w.heap.size w w' → Q .normal a' w') l a) : (Code.region id l.toArray true).wp P Q a w :=
  wp_region_quiet (C := fun w' => Below w.heap.size w w') hm hB (below_drew1 w) (by simpa using h)
end

end Go.Proofs.Ytpognnifgcacnaa

/- Lists of structs of two integers: words, the laws' helpers on []Kind. -/
namespace Go.Proofs.Ytpognnifgcacnaa
open Go.RowKit

/-- the cell of the j-th struct -/
def kA (ks : List (Int × Int)) (j : Nat) : Int := (ks.getD j (0, 0)).1
def kB (ks : List (Int × Int)) (j : Nat) : Int := (ks.getD j (0, 0)).2
theorem pflat_get : ∀ (ks : List (Int × Int)) (j : Nat), j < ks.length → (ivals (pflat ks))[j * 2]? = some (.int .i64 (kA ks j)) ∧ (ivals (pflat ks))[j * 2 + 1]? = some (.int .i64 (kB ks j))
  | [], j, h => absurd h (by simp)
  | p :: ks, 0, _ => by simp [pflat, ivals, kA, kB]
  | p :: ks, j + 1, h => by
    have ih := pflat_get ks j (by simpa using h)
    have e : ivals (pflat (p :: ks)) = .int .i64 p.1 :: .int .i64 p.2 :: ivals (pflat ks) := by simp [pflat, ivals]
    rw [e, show (j + 1) * 2 = j * 2 + 1 + 1 by omega]
    simp only [List.getElem?_cons_succ]
    exact ⟨by rw [ih.1]; simp [kA], by rw [ih.2]; simp [kB]⟩
theorem pflat_set : ∀ (A : List (Int × Int)) (p : Int × Int) (B : List (Int × Int)) (x y : Int), ((ivals (pflat (A ++ p :: B))).set (A.length * 2) (.int .i64 x)).set (A.length * 2 + 1) (.int .i64 y) = ivals (pflat (A ++ (x, y) :: B))
  | [], p, B, x, y => by simp [pflat, ivals]
  | q :: A, p, B, x, y => by
    have ih := pflat_set A p B x y
    have e : ∀ L, ivals (pflat (q :: L)) = .int .i64 q.1 :: .int .i64 q.2 :: ivals (pflat L) := fun L => by simp [pflat, ivals]
    rw [List.cons_append, e, List.length_cons, show (A.length + 1) * 2 = A.length * 2 + 1 + 1 by omega]
    simp only [List.set_cons_succ]
    rw [ih, List.cons_append, e]
/-- the slice at ao, of n structs, is a row of the call's own -/
def Own2 (w : World) (base E : Nat) (ao : Option Addr) (n c : Nat) (ks : List (Int × Int)) : Prop :=
  w.ownsRow base E 2 (.slice ao n c) n (ivals (pflat ks)) ∧ n ≤ 4398046511104
section
variable {w w' : World} {base E : Nat} {ao : Option Addr} {n c : Nat} {ks : List (Int × Int)}
theorem Own2.len (h : Own2 w base E ao n c ks) : ks.length = n := by
  have := h.1.1; rw [ivals_len, pflat_len] at this; omega
theorem Own2.lt (h : Own2 w base E ao n c ks) : ∀ g, bk ao = some g → base ≤ g ∧ g < w.heap.size := by
  have := h.1.lt
  rw [ownBlock_slice] at this; exact this
theorem Own2.same (h : Own2 w base E ao n c ks) (hs : ∀ g, bk ao = some g → w'.heap[g]? = w.heap[g]?) : Own2 w' base E ao n c ks := by
  refine ⟨⟨h.1.1, ?_⟩, h.2⟩
  rcases h.1.2 with h2 | ⟨g, cap, cur, hv, hg, hh, r⟩
  · exact Or.inl h2
  · refine Or.inr ⟨g, cap, cur, hv, hg, ?_, r⟩
    have : bk ao = some g := by injection hv with h1; subst h1; rfl
    rw [hs g this]; exact hh
theorem Own2.form (h : Own2 w base E ao n c ks) (hn : 0 < n) : ∃ g, ao = some ⟨g, 0, none⟩ ∧ base ≤ g ∧ g < w.heap.size ∧ n ≤ c ∧ (∀ j, j < n → w.cell? ⟨g, j * 2, none⟩ = some (.int .i64 (kA ks j)) ∧ w.cell? ⟨g, j * 2 + 1, none⟩ = some (.int .i64 (kB ks j))) ∧ (∀ j, w.frozen? ⟨g, j, none⟩ = false) := by
  have hl := h.len
  obtain ⟨g, cap, hv, hb, hlt⟩ := h.1.form (by omega)
  injection hv with h1 _ h2
  subst h1 h2
  refine ⟨g, rfl, hb, hlt, ?_, fun j hj => ?_, fun j => h.1.frozenAt j⟩
  · rcases h.1.2 with ⟨h2, _⟩ | ⟨g', cap', cur, hv, _, _, hnc, _⟩
    · cases h2
    · injection hv with _ _ h3; subst h3; exact hnc
  · have := pflat_get ks j (by omega)
    exact ⟨(h.1.cellAt (j * 2) (by omega)).trans this.1, (h.1.cellAt (j * 2 + 1) (by omega)).trans this.2⟩
end
def RdK (w : World) (v : Value) (ks : List (Int × Int)) : Prop := ∃ ao n c, v = .slice ao n c ∧ ks.length = n ∧ n ≤ 4398046511104 ∧ (0 < n → ∃ g, ao = some ⟨g, 0, none⟩ ∧ g < w.heap.size ∧ ∀ j, j < n → w.cell? ⟨g, j * 2, none⟩ = some (.int .i64 (kA ks j)) ∧ w.cell? ⟨g, j * 2 + 1, none⟩ = some (.int .i64 (kB ks j)))
theorem RdK.below {w w' : World} {v : Value} {ks : List (Int × Int)} (h : RdK w v ks) (hb : Below w.heap.size w w') : RdK w' v ks := by
  obtain ⟨ao, n, c, rfl, hl, hn, hc⟩ := h
  refine ⟨ao, n, c, rfl, hl, hn, fun h0 => ?_⟩
  obtain ⟨g, rfl, hg, hc⟩ := hc h0
  exact ⟨g, rfl, Nat.lt_of_lt_of_le hg hb.size, fun j hj => ⟨(World.cell?_of_block (hb.block g hg)).trans (hc j hj).1, (World.cell?_of_block (hb.block g hg)).trans (hc j hj).2⟩⟩
def OwnK (E : Nat) (w : World) (lo hi : Nat) (v : Value) (ks : List (Int × Int)) : Prop := ∃ ao n c, v = .slice ao n c ∧ Own2 w 0 E ao n c ks ∧ ∀ g, bk ao = some g → lo ≤ g ∧ g < hi
theorem OwnK.rd {E : Nat} {w : World} {lo hi : Nat} {v : Value} {ks : List (Int × Int)} (h : OwnK E w lo hi v ks) : RdK w v ks := by
  obtain ⟨ao, n, c, rfl, ho, _⟩ := h
  refine ⟨ao, n, c, rfl, ho.len, ho.2, fun h0 => ?_⟩
  obtain ⟨g, rfl, _, hg, _, hc, _⟩ := ho.form h0
  exact ⟨g, rfl, hg, hc⟩
theorem OwnK.below {E : Nat} {w w' : World} {lo hi : Nat} {v : Value} {ks : List (Int × Int)} (h : OwnK E w lo hi v ks) (hb : Below w.heap.size w w') : OwnK E w' lo hi v ks := by
  obtain ⟨ao, n, c, rfl, ho, h1⟩ := h
  exact ⟨ao, n, c, rfl, ho.same fun g hg => hb.block g (ho.lt g hg).2, h1⟩
theorem OwnK.only {E : Nat} {w w' : World} {lo hi : Nat} {v : Value} {ks : List (Int × Int)} (h : OwnK E w lo hi v ks) {l k : Nat} (hq : Only l k w w') (hd : hi ≤ l ∨ k ≤ lo) : OwnK E w' lo hi v ks := by
  obtain ⟨ao, n, c, rfl, ho, h1⟩ := h
  exact ⟨ao, n, c, rfl, ho.same fun g hg => hq.block g (ho.lt g hg).2 (by have := h1 g hg; omega), h1⟩
def marksK (k : Int) (n : Nat) : List (Int × Int) := (List.range n).map fun j : Nat => (k + 2 * (j : Int), k + 2 * (j : Int) + 1)
theorem length_marksK (k : Int) (n : Nat) : (marksK k n).length = n := by simp [marksK]
theorem marksK_succ (k : Int) (n : Nat) : marksK k (n + 1) = marksK k n ++ [(k + 2 * n, k + 2 * n + 1)] := by simp [marksK, List.range_succ]
theorem marksK_get (k : Int) (n j : Nat) (h : j < n) : kA (marksK k n) j = k + 2 * j ∧ kB (marksK k n) j = k + 2 * j + 1 := by
  simp [kA, kB, marksK, h]
theorem Own2.stored {w : World} {base E g n c : Nat} {A B : List (Int × Int)} {p : Int × Int} (h : Own2 w base E (some ⟨g, 0, none⟩) n c (A ++ p :: B)) (x y : Int) :
    Own2 ((w.setCell ⟨g, A.length * 2, none⟩ (.int .i64 x)).setCell ⟨g, A.length * 2 + 1, none⟩ (.int .i64 y)) base E (some ⟨g, 0, none⟩) n c (A ++ (x, y) :: B) ∧ w.grownBy ((w.setCell ⟨g, A.length * 2, none⟩ (.int .i64 x)).setCell ⟨g, A.length * 2 + 1, none⟩ (.int .i64 y)) (some g) := by
  have h1 := h.1.stored (A.length * 2) (.int .i64 x)
  have h2 := h1.1.stored (A.length * 2 + 1) (.int .i64 y)
  refine ⟨⟨?_, h.2⟩, grown_tr h1.2 h2.2⟩
  have := h2.1
  rw [pflat_set] at this
  exact this
end Go.Proofs.Ytpognnifgcacnaa

/- Lists of lists of structs of two integers: words. -/
namespace Go.Proofs.Ytpognnifgcacnaa
open Go.RowKit

/-- the slice type S has elements of type E: structs of two integers -/
structure ET2 (P : Program) (S E : TypeId) (bytes : Nat) : Prop where
  und : P.underlying S = some (.slice E)
  info : (P.info? E).map (fun i => (i.zero, i.size, i.bytes)) = some (some (.agg #[.int .i64 0, .int .i64 0]), 2, bytes)
  small : bytes ≤ 32
section
variable {P : Program} {ops : Array Oper} {o : Oper} {rest : List Oper} {a : Act} {Q : Exit → Act → World → Prop}
end

/-- the slice at ao, of n structs, reads as ks -/
def Tgts (w : World) (ao : Option Addr) (n : Nat) (ks : List (Int × Int)) : Prop :=
  ks.length = n ∧ n ≤ 17592186044416 ∧ (0 < n → ∃ b off, ao = some ⟨b, off, none⟩ ∧ ∀ j, j < n → w.cell? ⟨b, off + j * 2, none⟩ = some (.int .i64 (kA ks j)) ∧ w.cell? ⟨b, off + j * 2 + 1, none⟩ = some (.int .i64 (kB ks j)))
theorem Tgts.below {w w' : World} {ao : Option Addr} {n : Nat} {ks : List (Int × Int)} (h : Tgts w ao n ks) (hb : Below w.heap.size w w') : Tgts w' ao n ks := by
  refine ⟨h.1, h.2.1, fun hn => ?_⟩
  obtain ⟨b, off, rfl, hc⟩ := h.2.2 hn
  exact ⟨b, off, rfl, fun j hj => ⟨(hb.cell (p := ⟨b, off + j * 2, none⟩) (World.block_lt_of_cell? w _ (hc j hj).1)).trans (hc j hj).1, (hb.cell (p := ⟨b, off + j * 2 + 1, none⟩) (World.block_lt_of_cell? w _ (hc j hj).2)).trans (hc j hj).2⟩⟩
theorem Tgts.at_ {w : World} {ao : Option Addr} {n : Nat} {ks : List (Int × Int)} (h : Tgts w ao n ks) {k : Nat} (hk : k < n) : ∃ b off, ao = some ⟨b, off, none⟩ ∧ w.cell? ⟨b, off + k * 2, none⟩ = some (.int .i64 (kA ks k)) ∧ w.cell? ⟨b, off + k * 2 + 1, none⟩ = some (.int .i64 (kB ks k)) := by
  obtain ⟨b, off, rfl, hc⟩ := h.2.2 (by omega)
  exact ⟨b, off, rfl, hc k hk⟩
theorem Tgts.nil_ (w : World) (ao : Option Addr) : Tgts w ao 0 [] := ⟨rfl, by omega, fun h => absurd h (by omega)⟩
def RdTs (w : World) (v : Value) (ks : List (Int × Int)) : Prop := ∃ ao n c, v = .slice ao n c ∧ Tgts w ao n ks
theorem RdTs.below {w w' : World} {v : Value} {ks : List (Int × Int)} (h : RdTs w v ks) (hb : Below w.heap.size w w') : RdTs w' v ks := by
  obtain ⟨ao, n, c, rfl, hi⟩ := h
  exact ⟨ao, n, c, rfl, hi.below hb⟩
/-- v is a slice that owns its structs -/
def OwTs (E : Nat) (w : World) (v : Value) (ks : List (Int × Int)) : Prop := ∃ ao n c, v = .slice ao n c ∧ Own2 w 0 E ao n c ks
theorem Own2.tgts {w : World} {base E : Nat} {ao : Option Addr} {n c : Nat} {ks : List (Int × Int)} (h : Own2 w base E ao n c ks) : Tgts w ao n ks := by
  refine ⟨h.len, by have := h.2; omega, fun h0 => ?_⟩
  obtain ⟨g, rfl, _, _, _, hc, _⟩ := h.form h0
  exact ⟨g, 0, rfl, fun j hj => by rw [Nat.zero_add]; exact hc j hj⟩
theorem Own2.mono {w : World} {base base' E : Nat} {ao : Option Addr} {n c : Nat} {ks : List (Int × Int)} (h : Own2 w base E ao n c ks) (hb : base' ≤ base) : Own2 w base' E ao n c ks := by
  refine ⟨⟨h.1.1, ?_⟩, h.2⟩
  rcases h.1.2 with h2 | ⟨g, cap, cur, hv, hg, r⟩
  · exact Or.inl h2
  · exact Or.inr ⟨g, cap, cur, hv, Nat.le_trans hb hg, r⟩
theorem OwTs.rd {E : Nat} {w : World} {v : Value} {ks : List (Int × Int)} (h : OwTs E w v ks) : RdTs w v ks := by
  obtain ⟨ao, n, c, rfl, ho⟩ := h
  exact ⟨ao, n, c, rfl, ho.tgts⟩
theorem innerTs (E : Nat) : Inner (OwTs E) :=
  { loc := fun {w w' u d} h hs => by
      obtain ⟨ao, n, c, rfl, ho⟩ := h
      exact ⟨ao, n, c, rfl, ho.same fun g hg => hs g (by rw [ownBlock_slice]; exact hg)⟩
    lt := fun {w u d} h g hg => by
      obtain ⟨ao, n, c, rfl, ho⟩ := h
      rw [ownBlock_slice] at hg
      exact (ho.lt g hg).2
    one := fun {w u d} h => by obtain ⟨ao, n, c, rfl, _⟩ := h; rfl }

/-- the slice at ao, of n slices of structs, reads as d -/
def Tgtss (w : World) (ao : Option Addr) (n : Nat) (d : List (List (Int × Int))) : Prop :=
  d.length = n ∧ n ≤ 17592186044416 ∧ (0 < n → ∃ b off, ao = some ⟨b, off, none⟩ ∧ ∀ j, j < n → ∃ u, w.cell? ⟨b, off + j, none⟩ = some u ∧ RdTs w u (lget d j))
theorem Tgtss.at_ {w : World} {ao : Option Addr} {n : Nat} {d : List (List (Int × Int))} (h : Tgtss w ao n d) {k : Nat} (hk : k < n) :
    ∃ b off a' n' c', ao = some ⟨b, off, none⟩ ∧ w.cell? ⟨b, off + k, none⟩ = some (.slice a' n' c') ∧ Tgts w a' n' (lget d k) := by
  obtain ⟨b, off, e, hc⟩ := h.2.2 (by omega)
  obtain ⟨u, h1, a', n', c', rfl, h2⟩ := hc k hk
  exact ⟨b, off, a', n', c', e, h1, h2⟩
theorem Tgtss.below {w w' : World} {ao : Option Addr} {n : Nat} {d : List (List (Int × Int))} (h : Tgtss w ao n d) (hb : Below w.heap.size w w') : Tgtss w' ao n d := by
  refine ⟨h.1, h.2.1, fun hn => ?_⟩
  obtain ⟨b, off, rfl, hc⟩ := h.2.2 hn
  refine ⟨b, off, rfl, fun j hj => ?_⟩
  obtain ⟨u, h1, h2⟩ := hc j hj
  exact ⟨u, (hb.cell (p := ⟨b, off + j, none⟩) (World.block_lt_of_cell? w _ h1)).trans h1, h2.below hb⟩
theorem Tgtss.nil_ (w : World) (ao : Option Addr) : Tgtss w ao 0 [] := ⟨rfl, by omega, fun h => absurd h (by omega)⟩
theorem OwR.tgtss {E1 : Nat} {w : World} {lo hi E : Nat} {ao : Option Addr} {n c : Nat} {us : List Value} {d : List (List (Int × Int))} (h : OwR (OwTs E1) w lo hi E ao n c us d) : Tgtss w ao n d := by
  refine ⟨h.len, by have := h.own.2; omega, fun hn => ?_⟩
  obtain ⟨g, rfl, _, _, _, _, _⟩ := h.own.form hn
  refine ⟨g, 0, rfl, fun j hj => ?_⟩
  obtain ⟨u, d', hu, hd, h1, _⟩ := h.get hj
  refine ⟨u, by rw [Nat.zero_add]; exact h.cell hu, ?_⟩
  rw [lget_get? hd]; exact h1.rd
def RdTT (w : World) (v : Value) (d : List (List (Int × Int))) : Prop := ∃ ao n c, v = .slice ao n c ∧ Tgtss w ao n d
theorem RdTT.below {w w' : World} {v : Value} {d : List (List (Int × Int))} (h : RdTT w v d) (hb : Below w.heap.size w w') : RdTT w' v d := by
  obtain ⟨ao, n, c, rfl, hi⟩ := h
  exact ⟨ao, n, c, rfl, hi.below hb⟩
/-- a struct of one such slice -/
def RdT (w : World) (v : Value) (d : List (List (Int × Int))) : Prop := ∃ ao n c, v = .agg #[.slice ao n c] ∧ Tgtss w ao n d
theorem RdT.below {w w' : World} {v : Value} {d : List (List (Int × Int))} (h : RdT w v d) (hb : Below w.heap.size w w') : RdT w' v d := by
  obtain ⟨ao, n, c, rfl, hi⟩ := h
  exact ⟨ao, n, c, rfl, hi.below hb⟩
def OwTT (E1 E : Nat) (w : World) (lo hi : Nat) (v : Value) (d : List (List (Int × Int))) : Prop := ∃ ao n c us, v = .slice ao n c ∧ OwR (OwTs E1) w lo hi E ao n c us d
def OwT (E1 E : Nat) (w : World) (lo hi : Nat) (v : Value) (d : List (List (Int × Int))) : Prop := ∃ ao n c us, v = .agg #[.slice ao n c] ∧ OwR (OwTs E1) w lo hi E ao n c us d
theorem OwTT.rd {E1 E : Nat} {w : World} {lo hi : Nat} {v : Value} {d : List (List (Int × Int))} (h : OwTT E1 E w lo hi v d) : RdTT w v d := by
  obtain ⟨ao, n, c, us, rfl, ho⟩ := h
  exact ⟨ao, n, c, rfl, ho.tgtss⟩
theorem OwT.rd {E1 E : Nat} {w : World} {lo hi : Nat} {v : Value} {d : List (List (Int × Int))} (h : OwT E1 E w lo hi v d) : RdT w v d := by
  obtain ⟨ao, n, c, us, rfl, ho⟩ := h
  exact ⟨ao, n, c, rfl, ho.tgtss⟩
theorem OwT.below {E1 E : Nat} {w w' : World} {lo hi : Nat} {v : Value} {d : List (List (Int × Int))} (h : OwT E1 E w lo hi v d) (hb : Below w.heap.size w w') : OwT E1 E w' lo hi v d := by
  obtain ⟨ao, n, c, us, rfl, ho⟩ := h
  exact ⟨ao, n, c, us, rfl, ho.below (innerTs E1) hb⟩
theorem OwT.only {E1 E : Nat} {w w' : World} {lo hi : Nat} {v : Value} {d : List (List (Int × Int))} (h : OwT E1 E w lo hi v d) {l k : Nat} (ho : Only l k w w') (hd : hi ≤ l ∨ k ≤ lo) : OwT E1 E w' lo hi v d := by
  obtain ⟨ao, n, c, us, rfl, h1⟩ := h
  exact ⟨ao, n, c, us, rfl, h1.only (innerTs E1) ho hd⟩
theorem OwT.mono {E1 E : Nat} {w : World} {lo hi lo' hi' : Nat} {v : Value} {d : List (List (Int × Int))} (h : OwT E1 E w lo hi v d) (h1 : lo' ≤ lo) (h2 : hi ≤ hi') : OwT E1 E w lo' hi' v d := by
  obtain ⟨ao, n, c, us, rfl, ho⟩ := h
  exact ⟨ao, n, c, us, rfl, ho.mono h1 h2⟩
theorem OwT.form {E1 E : Nat} {w : World} {lo hi : Nat} {v : Value} {d : List (List (Int × Int))} (h : OwT E1 E w lo hi v d) : ∃ ao n c, v = .agg #[.slice ao n c] := by
  obtain ⟨ao, n, c, us, rfl, _⟩ := h
  exact ⟨ao, n, c, rfl⟩
/-- how many structs there are -/
def lenTT0 (d : List (List (Int × Int))) : Nat := (d.map List.length).sum
theorem lenTT0_take {d : List (List (Int × Int))} {k : Nat} (h : k < d.length) : lenTT0 (d.take (k + 1)) = lenTT0 (d.take k) + (lget d k).length := by
  rw [take_lget h]; simp [lenTT0]
theorem lenTT0_app (a b : List (List (Int × Int))) : lenTT0 (a ++ b) = lenTT0 a + lenTT0 b := by simp [lenTT0]
theorem lenTT0_take_le (d : List (List (Int × Int))) (k : Nat) : lenTT0 (d.take k) ≤ lenTT0 d := by
  have := lenTT0_app (d.take k) (d.drop k)
  rw [List.take_append_drop] at this; omega
end Go.Proofs.Ytpognnifgcacnaa

/- The laws' helpers on Template: sizes, copies, comparison. -/
namespace Go.Proofs.Ytpognnifgcacnaa
open Go.RowKit

set_option maxHeartbeats 400000 in
theorem eqTarget_any (a b : Int) (w : World) : Calls Try.prog 205 #[.agg #[.int .i64 a, .int .i64 b], .agg #[.int .i64 a, .int .i64 b]] w fun e w' => e = .returned (.bool true) ∧ Below w.heap.size w w' := by
  have h1 : ((a : Int) != a) = false := by simp
  have h2 : ((b : Int) != b) = false := by simp
  go_enter Try.func205, Try.ntmps205
  go_wp2
  go_ret
  exact ⟨rfl, below_alloc2 w _ _⟩
set_option maxHeartbeats 400000 in
theorem eqTargets_any (ao ao' : Option Addr) (n c c' : Nat) (ks : List (Int × Int)) (w : World) (h : Tgts w ao n ks) (h' : Tgts w ao' n ks) :
    Calls Try.prog 159 #[.slice ao n c, .slice ao' n c'] w fun e w' => e = .returned (.bool true) ∧ Below w.heap.size w w' := by
  have hn := h.2.1
  have hq : ((n : Int) != (n : Int)) = false := by simp
  have H := Lib.hid h
  have H' := Lib.hid h'
  clear h h'
  go_enter Try.func159, Try.ntmps159
  go_wp2
  go_loopw [5] (fun i wr => ∃ k : Nat, k ≤ n ∧ i = .int .i64 k ∧ Below w.heap.size w wr) (fun i _ => (n - intOf i).toNat)
  case atStart => exact ⟨0, Nat.zero_le _, rfl, Below.refl _ _⟩
  case round =>
    obtain ⟨k, hk, rfl, hb⟩ := hrel
    have HB := Lib.hid hb
    have hsz := hb.size
    clear hb
    by_cases hlt : k < n
    · obtain ⟨b1, o1, rfl, p1, p2⟩ := (H.out.below HB.out).at_ hlt
      obtain ⟨b2, o2, rfl, p3, p4⟩ := (H'.out.below HB.out).at_ hlt
      have hS : ∀ w', Below wr.heap.size wr w' → (w'.cell? ⟨b1, o1 + k * 2, none⟩ = some (.int .i64 (kA ks k)) ∧ w'.cell? ⟨b1, o1 + k * 2 + 1, none⟩ = some (.int .i64 (kB ks k))) ∧ (w'.cell? ⟨b2, o2 + k * 2, none⟩ = some (.int .i64 (kA ks k)) ∧ w'.cell? ⟨b2, o2 + k * 2 + 1, none⟩ = some (.int .i64 (kB ks k))) := fun w' hb =>
        ⟨⟨(hb.cell (p := ⟨b1, o1 + k * 2, none⟩) (World.block_lt_of_cell? wr _ p1)).trans p1, (hb.cell (p := ⟨b1, o1 + k * 2 + 1, none⟩) (World.block_lt_of_cell? wr _ p2)).trans p2⟩, (hb.cell (p := ⟨b2, o2 + k * 2, none⟩) (World.block_lt_of_cell? wr _ p3)).trans p3, (hb.cell (p := ⟨b2, o2 + k * 2 + 1, none⟩) (World.block_lt_of_cell? wr _ p4)).trans p4⟩
      have HS := Lib.hid hS
      clear hS p1 p2 p3 p4
      go_wp2_with fail
      (refine wp_region_calm (by kernel_rfl) (by kernel_rfl) ?_; (repeat (first | go_big_quiet_skip | (go_big_quiet_want; first | (go_big_quiet_op; go_big_quiet_on) | (apply quiet_val; (· (intro _ hw; have f1 := (HS.out _ hw).1.1; have f2 := (HS.out _ hw).1.2; have f3 := (HS.out _ hw).2.1; have f4 := (HS.out _ hw).2.2; go_simp; exact rfl)); go_simp; go_big_quiet_on) | (apply quiet_call; (· (intro _ _; go_simp; exact ⟨rfl, rfl⟩)); (· (intro _ hw; go_at_call 205; refine (eqTarget_any _ _ _).mono ?_; rintro e w2 ⟨rfl, hb2⟩; exact ⟨rfl, below_tr hb2 hw⟩)); go_simp; go_big_quiet_on)))); refine wpQuiet_nil ?_; intro wq bq)
      go_wp2_with fail
      go_roundw
      case rel => exact ⟨k + 1, by omega, by go_num, HB.out.trans (bq.mono hsz)⟩
      case measure => simp [intOf]; omega
    · obtain rfl : k = n := by omega
      go_wp2
      go_ret
      exact ⟨rfl, HB.out⟩
set_option maxHeartbeats 800000 in
theorem eqTargetss_any (ao ao' : Option Addr) (n c c' : Nat) (d : List (List (Int × Int))) (w : World) (h : Tgtss w ao n d) (h' : Tgtss w ao' n d) :
    Calls Try.prog 85 #[.slice ao n c, .slice ao' n c'] w fun e w' => e = .returned (.bool true) ∧ Below w.heap.size w w' := by
  have hn := h.2.1
  have hq : ((n : Int) != (n : Int)) = false := by simp
  have H := Lib.hid h
  have H' := Lib.hid h'
  clear h h'
  go_enter Try.func85, Try.ntmps85
  go_wp2
  go_loopw [5] (fun i wr => ∃ k : Nat, k ≤ n ∧ i = .int .i64 k ∧ Below w.heap.size w wr) (fun i _ => (n - intOf i).toNat)
  case atStart => exact ⟨0, Nat.zero_le _, rfl, Below.refl _ _⟩
  case round =>
    obtain ⟨k, hk, rfl, hb⟩ := hrel
    have HB := Lib.hid hb
    have hsz := hb.size
    clear hb
    by_cases hlt : k < n
    · obtain ⟨b1, o1, a1, n1, c1, rfl, p1, q1⟩ := (H.out.below HB.out).at_ hlt
      obtain ⟨b2, o2, a2, n2, c2, rfl, p2, q2⟩ := (H'.out.below HB.out).at_ hlt
      obtain rfl : n1 = n2 := by have := q1.1; have := q2.1; omega
      have hS : ∀ w', Below wr.heap.size wr w' → (w'.cell? ⟨b1, o1 + k, none⟩ = some (.slice a1 n1 c1) ∧ w'.cell? ⟨b2, o2 + k, none⟩ = some (.slice a2 n1 c2)) ∧ Tgts w' a1 n1 (lget d k) ∧ Tgts w' a2 n1 (lget d k) := fun w' hb =>
        ⟨⟨(hb.cell (p := ⟨b1, o1 + k, none⟩) (World.block_lt_of_cell? wr _ p1)).trans p1, (hb.cell (p := ⟨b2, o2 + k, none⟩) (World.block_lt_of_cell? wr _ p2)).trans p2⟩, q1.below hb, q2.below hb⟩
      have HS := Lib.hid hS
      clear hS p1 p2 q1 q2
      go_wp2_with fail
      (refine wp_region_calm (by kernel_rfl) (by kernel_rfl) ?_; (repeat (first | go_big_quiet_skip | (go_big_quiet_want; first | (go_big_quiet_op; go_big_quiet_on) | (apply quiet_val; (· (intro _ hw; have f1 := (HS.out _ hw).1.1; have f2 := (HS.out _ hw).1.2; go_simp; exact rfl)); go_simp; go_big_quiet_on) | (apply quiet_call; (· (intro _ _; go_simp; exact ⟨rfl, rfl⟩)); (· (intro _ hw; go_at_call 159; refine (eqTargets_any a1 a2 n1 c1 c2 (lget d k) _ (HS.out _ hw).2.1 (HS.out _ hw).2.2).mono ?_; rintro e w2 ⟨rfl, hb2⟩; exact ⟨rfl, below_tr hb2 hw⟩)); go_simp; go_big_quiet_on)))); refine wpQuiet_nil ?_; intro wq bq)
      go_wp2_with fail
      go_roundw
      case rel => exact ⟨k + 1, by omega, by go_num, HB.out.trans (bq.mono hsz)⟩
      case measure => simp [intOf]; omega
    · obtain rfl : k = n := by omega
      go_wp2
      go_ret
      exact ⟨rfl, HB.out⟩
set_option maxHeartbeats 400000 in
theorem law_eqT {v v' : Value} {d : List (List (Int × Int))} (w : World) (h : RdT w v d) (h' : RdT w v' d) :
    Calls Try.prog 19 #[v, v'] w fun e w' => e = .returned (.bool true) ∧ Below w.heap.size w w' := by
  obtain ⟨ao, n, c, rfl, hi⟩ := h
  obtain ⟨ao', n', c', rfl, hi'⟩ := h'
  obtain rfl : n = n' := by rw [← hi.1, ← hi'.1]
  go_enter Try.func19, Try.ntmps19
  go_wp2_with fail
  have hb : Below w.heap.size w ((w.alloc (.cells #[.slice ao n c] 29)).alloc (.cells #[.slice ao' n c'] 29)) := below_alloc2 _ _ _
  refine (eqTargetss_any ao ao' n c c' d _ (hi.below hb) (hi'.below hb)).mono ?_
  rintro e w1 ⟨rfl, b1⟩
  go_wp2
  go_ret
  exact ⟨rfl, hb.trans (b1.mono hb.size)⟩
end Go.Proofs.Ytpognnifgcacnaa

/- The laws' helpers on templates: marks. -/
namespace Go.Proofs.Ytpognnifgcacnaa
open Go.RowKit

/-- what the laws' marks leave in lists of lists of structs -/
def marksTT (k : Int) : List (List (Int × Int)) → List (List (Int × Int))
  | [] => []
  | z :: r => marksK k z.length :: marksTT (k + 2 * z.length) r
def lenTT (d : List (List (Int × Int))) : Nat := 2 * lenTT0 d
theorem length_marksTT (k : Int) (d : List (List (Int × Int))) : (marksTT k d).length = d.length := by
  induction d generalizing k with
  | nil => rfl
  | cons z r ih => simp [marksTT, ih]
theorem lenTT_take {d : List (List (Int × Int))} {k : Nat} (h : k < d.length) : lenTT (d.take (k + 1)) = lenTT (d.take k) + 2 * (lget d k).length := by unfold lenTT; rw [lenTT0_take h]; omega
theorem lenTT_take_le (d : List (List (Int × Int))) (k : Nat) : lenTT (d.take k) ≤ lenTT d := by unfold lenTT; have := lenTT0_take_le d k; omega
theorem lget_marksTT {k : Int} {d : List (List (Int × Int))} {j : Nat} (h : j < d.length) : lget (marksTT k d) j = marksK (k + lenTT (d.take j)) (lget d j).length := by
  induction d generalizing k j with
  | nil => simp at h
  | cons z r ih =>
    cases j with
    | zero => simp [marksTT, lget, lenTT, lenTT0]
    | succ j =>
      have := ih (k := k + 2 * z.length) (j := j) (by simpa using h)
      simp only [marksTT, lget, List.getD_cons_succ, List.take_succ_cons] at this ⊢
      rw [this]
      congr 1
      simp [lenTT, lenTT0]; omega
theorem marksTT_take {k : Int} {d : List (List (Int × Int))} {j : Nat} (h : j < d.length) : (marksTT k d).take (j + 1) = (marksTT k d).take j ++ [marksK (k + lenTT (d.take j)) (lget d j).length] := by
  rw [take_lget (by rw [length_marksTT]; exact h), lget_marksTT h]

set_option maxHeartbeats 800000 in
theorem markTs_any (g n c : Nat) (ks : List (Int × Int)) (k0 : Int) (w : World) (base : Nat) (h : Own2 w base 143 (some ⟨g, 0, none⟩) n c ks) (hk0 : 0 ≤ k0) (hk1 : k0 ≤ 1125899906842624) :
    Calls Try.prog 160 #[.slice (some ⟨g, 0, none⟩) n c, .int .i64 k0] w fun e w' => e = .returned (.int .i64 (k0 + 2 * n)) ∧ Own2 w' base 143 (some ⟨g, 0, none⟩) n c (marksK k0 n) ∧ w.grownBy w' (some g) := by
  have hn := h.2
  have hlen : ks.length = n := h.len
  go_enter Try.func160, Try.ntmps160
  go_wp2
  go_loopw [1, 5] (fun m i wr => ∃ k : Nat, k ≤ n ∧ i = .int .i64 k ∧ m = .int .i64 (k0 + 2 * k) ∧ Own2 wr base 143 (some ⟨g, 0, none⟩) n c (marksK k0 k ++ ks.drop k) ∧ w.grownBy wr (some g)) (fun _ i _ => (n - intOf i).toNat)
  case atStart => exact ⟨0, Nat.zero_le _, rfl, by simp, by simpa [marksK] using h, World.grownBy.refl _ _⟩
  case round =>
    obtain ⟨k, hk, rfl, rfl, ho, hg⟩ := hrel
    have HO := Lib.hid ho
    have HG := Lib.hid hg
    have HL := Lib.hid hlen
    clear ho hg hlen
    by_cases hlt : k < n
    · obtain ⟨g', hgg, _, hgl, _, hcell, hfr⟩ := HO.out.form (by omega)
      injection hgg with hgg; injection hgg with hgg
      subst hgg
      have hc2 := (hcell k hlt).1
      have hc3 := (hcell k hlt).2
      have hf := hfr (k * 2)
      have hf2 := hfr (k * 2 + 1)
      have ho2 := HO.out
      rw [List.drop_eq_getElem_cons (by rw [HL.out]; omega)] at ho2
      have hst := ho2.stored (k0 + 2 * k) (k0 + 2 * k + 1)
      rw [length_marksK] at hst
      have HS := Lib.hid hst
      clear hst hcell hfr ho2
      go_wp2
      go_roundw
      case rel => exact ⟨k + 1, by omega, by go_num, by congr 1; omega, by rw [marksK_succ, List.append_assoc]; exact HS.out.1, grown_tr HG.out HS.out.2⟩
      case measure => simp [intOf]; omega
    · obtain rfl : k = n := by omega
      go_wp2
      go_ret
      exact ⟨rfl, by simpa [List.drop_of_length_le (Nat.le_of_eq HL.out)] using HO.out, HG.out⟩
set_option maxHeartbeats 400000 in
theorem markTs_none (ao : Option Addr) (c : Nat) (k0 : Int) (w : World) : Calls Try.prog 160 #[.slice ao 0 c, .int .i64 k0] w fun e w' => e = .returned (.int .i64 k0) ∧ w' = w := by
  go_enter Try.func160, Try.ntmps160
  go_wp2
  go_loop [1, 5] (fun m i => i = .int .i64 0 ∧ m = .int .i64 k0) (fun _ _ => 0)
  case atStart => exact ⟨rfl, rfl⟩
  case round =>
    obtain ⟨rfl, rfl⟩ := hrel
    go_wp2
    go_ret
    exact ⟨rfl, rfl⟩
theorem markTs (ao : Option Addr) (n c : Nat) (ks : List (Int × Int)) (k0 : Int) (w : World) (base : Nat) (h : Own2 w base 143 ao n c ks) (hk0 : 0 ≤ k0) (hk1 : k0 ≤ 1125899906842624) :
    Calls Try.prog 160 #[.slice ao n c, .int .i64 k0] w fun e w' => e = .returned (.int .i64 (k0 + 2 * n)) ∧ Own2 w' base 143 ao n c (marksK k0 n) ∧ w.grownBy w' (bk ao) := by
  have hl := h.len
  rcases Nat.eq_zero_or_pos n with h0 | h0
  · subst h0
    refine (markTs_none ao c k0 w).mono ?_
    rintro e w' ⟨rfl, rfl⟩
    have : ks = [] := List.length_eq_zero_iff.1 hl
    subst this
    exact ⟨ret_int (by simp), h, World.grownBy.refl _ _⟩
  · obtain ⟨g, rfl, _⟩ := h.form h0
    exact markTs_any g n c ks k0 w base h hk0 hk1
set_option maxHeartbeats 400000 in
theorem heldTs_any (ao : Option Addr) (n c : Nat) (k0 : Int) (w : World) (h : Tgts w ao n (marksK k0 n)) (hk0 : 0 ≤ k0) (hk1 : k0 ≤ 1125899906842624) :
    Calls Try.prog 161 #[.slice ao n c, .int .i64 k0] w fun e w' => e = .returned (.int .i64 (k0 + 2 * n)) ∧ w' = w := by
  have H := Lib.hid h
  have hn := h.2.1
  clear h
  go_enter Try.func161, Try.ntmps161
  go_wp2
  go_loop [1, 5] (fun m i => ∃ k : Nat, k ≤ n ∧ i = .int .i64 k ∧ m = .int .i64 (k0 + 2 * k)) (fun _ i => n - (intOf i).toNat)
  case atStart => exact ⟨0, Nat.zero_le _, rfl, by simp⟩
  case round =>
    obtain ⟨k, hk, rfl, rfl⟩ := hrel
    by_cases hlt : k < n
    · obtain ⟨b, off, rfl, hc, hc2⟩ := H.out.at_ hlt
      have hm := marksK_get k0 n k hlt
      rw [hm.1] at hc
      rw [hm.2] at hc2
      have he : ((k0 + 2 * k : Int) != (k0 + 2 * k : Int)) = false := by simp
      have he2 : ((k0 + 2 * k + 1 : Int) != (k0 + 2 * k + 1 : Int)) = false := by simp
      clear hm
      go_wp2
      go_round
      case rel => exact ⟨k + 1, by omega, by go_num, by congr 1; omega⟩
      case measure => simp [intOf]; omega
    · obtain rfl : k = n := by omega
      go_wp2
      go_ret
      exact ⟨rfl, rfl⟩

set_option maxHeartbeats 800000 in
theorem law_markTT {v : Value} {d : List (List (Int × Int))} {lo hi : Nat} (k0 : Int) (w : World) (h : OwTT 143 100 w lo hi v d) (hk0 : 0 ≤ k0) (hk1 : k0 + lenTT d ≤ 1125899906842624) :
    Calls Try.prog 89 #[v, .int .i64 k0] w fun e w' => e = .returned (.int .i64 (k0 + lenTT d)) ∧ OwTT 143 100 w' lo hi v (marksTT k0 d) ∧ Only lo hi w w' := by
  obtain ⟨ao, n, c, us, rfl, ho⟩ := h
  have hl := ho.len
  have hn := ho.own.2
  have HL := Lib.hid hl
  clear hl
  go_enter Try.func89, Try.ntmps89
  go_wp2
  go_loopw [1, 5] (fun m i wr => ∃ k : Nat, k ≤ n ∧ i = .int .i64 k ∧ m = .int .i64 (k0 + lenTT (d.take k)) ∧ OwR (OwTs 143) wr lo hi 100 ao n c us ((marksTT k0 d).take k ++ d.drop k) ∧ Only lo hi w wr) (fun _ i _ => n - (intOf i).toNat)
  case atStart => exact ⟨0, Nat.zero_le _, rfl, by simp [lenTT, lenTT0], by simpa using ho, Only.refl _ _ _⟩
  case round =>
    obtain ⟨k, hk, rfl, rfl, h1, hon⟩ := hrel
    have hle := lenTT_take_le d k
    by_cases hlt : k < n
    · have hkz : k < d.length := by rw [HL.out]; exact hlt
      have HK := Lib.hid hkz
      obtain ⟨u, d', hu, hd, hou, hru⟩ := h1.get hlt
      have hdz : d' = lget d k := by
        rw [List.getElem?_append_right (by simp [length_marksTT]; omega)] at hd
        rw [show k - ((marksTT k0 d).take k).length = 0 by simp [length_marksTT]; omega, drop_lget hkz] at hd
        simpa using hd.symm
      subst hdz
      obtain ⟨a', n', c', rfl, ho'⟩ := hou
      obtain ⟨g, rfl, -, -, -, -, -⟩ := ho.own.form (by omega)
      have hc := h1.cell hu
      have hsum := lenTT_take hkz
      have hle2 := lenTT_take_le d (k + 1)
      have HS := Lib.hid hsum
      have HD := Lib.hid hd
      have HU := Lib.hid hu
      have HR := Lib.hid hru
      have hk2 : k0 + (lenTT (d.take k) : Int) ≤ 1125899906842624 := by omega
      have hk3 : 0 ≤ k0 + (lenTT (d.take k) : Int) := by omega
      clear hsum hle2 hd hu hru hkz
      go_wp2_with fail
      refine (markTs a' n' c' (lget d k) _ wr 0 ho' hk3 hk2).mono ?_
      rintro e w2 ⟨rfl, o2, g2⟩
      have hn' : (lget d k).length = n' := ho'.len
      have HN := Lib.hid hn'
      have hup := h1.upd (innerTs _) (d' := marksK (k0 + lenTT (d.take k)) n') HU.out (by rw [ownBlock_slice]; exact g2) ⟨a', n', c', rfl, o2⟩
      have HP := Lib.hid hup
      have hon2 : Only lo hi w w2 := hon.trans (Only.of_grown g2 (fun g hg => HR.out g (by rw [ownBlock_slice]; exact hg)))
      clear hup hn' h1 o2 g2 ho'
      go_wp2
      go_roundw
      case rel =>
        refine ⟨k + 1, by omega, by go_num, ?_, ?_, hon2⟩
        · congr 1
          rw [HS.out, HN.out]; omega
        · have := HP.out
          rw [List.set_append_right _ _ (by simp [length_marksTT]; omega), show k - ((marksTT k0 d).take k).length = 0 by simp [length_marksTT, HL.out]; omega, drop_lget HK.out] at this
          rw [marksTT_take HK.out, HN.out, List.append_assoc]
          exact this
      case measure => simp [intOf]; omega
    · obtain rfl : k = n := by omega
      go_wp2
      go_ret
      refine ⟨ret_int (by rw [List.take_of_length_le (Nat.le_of_eq HL.out)]), ⟨_, _, _, us, rfl, ?_⟩, hon⟩
      simpa [List.take_of_length_le, List.drop_of_length_le, length_marksTT, HL.out] using h1

set_option maxHeartbeats 800000 in
theorem law_heldTT {v : Value} {d : List (List (Int × Int))} (k0 : Int) (w : World) (h : RdTT w v (marksTT k0 d)) (hk0 : 0 ≤ k0) (hk1 : k0 + lenTT d ≤ 1125899906842624) :
    Calls Try.prog 90 #[v, .int .i64 k0] w fun e w' => e = .returned (.int .i64 (k0 + lenTT d)) ∧ Below w.heap.size w w' := by
  obtain ⟨ao, n, c, rfl, hi⟩ := h
  have hbd := hi.2.1
  have hl : d.length = n := by rw [← hi.1, length_marksTT]
  have HL := Lib.hid hl
  clear hl
  go_enter Try.func90, Try.ntmps90
  go_wp2
  go_loopw [1, 5] (fun m i wr => ∃ k : Nat, k ≤ n ∧ i = .int .i64 k ∧ m = .int .i64 (k0 + lenTT (d.take k)) ∧ Below w.heap.size w wr) (fun _ i _ => n - (intOf i).toNat)
  case atStart => exact ⟨0, Nat.zero_le _, rfl, by simp [lenTT, lenTT0], Below.refl _ _⟩
  case round =>
    obtain ⟨k, hk, rfl, rfl, hb⟩ := hrel
    have hle := lenTT_take_le d k
    by_cases hlt : k < n
    · obtain ⟨b1, o1, a1, n1, c1, rfl, hc1, hin1⟩ := (hi.below hb).at_ hlt
      have hkz : k < d.length := by rw [HL.out]; exact hlt
      rw [lget_marksTT hkz] at hin1
      have hn1 : (lget d k).length = n1 := by have := hin1.1; rwa [length_marksK] at this
      have hsum := lenTT_take hkz
      have hle2 := lenTT_take_le d (k + 1)
      rw [hn1] at hin1 hsum
      have HS := Lib.hid hsum
      have HH := Lib.hid hi
      have hk2 : k0 + (lenTT (d.take k) : Int) ≤ 1125899906842624 := by omega
      have hk3 : 0 ≤ k0 + (lenTT (d.take k) : Int) := by omega
      have hk4 : 0 ≤ k0 + (lenTT (d.take k) : Int) + 2 * n1 := by omega
      clear hsum hle2 hkz hn1 hi
      go_wp2_with fail
      refine (heldTs_any a1 n1 c1 _ wr hin1 hk3 hk2).mono ?_
      rintro e w2 ⟨rfl, rfl⟩
      go_wp2
      go_roundw
      case rel => exact ⟨k + 1, by omega, by go_num, by congr 1; rw [HS.out]; omega, hb⟩
      case measure => simp [intOf]; omega
    · obtain rfl : k = n := by omega
      go_wp2
      go_ret
      exact ⟨ret_int (by rw [List.take_of_length_le (Nat.le_of_eq HL.out)]), hb⟩

set_option maxHeartbeats 400000 in
theorem law_markT {v : Value} {d : List (List (Int × Int))} {lo hi : Nat} (k0 : Int) (w : World) (h : OwT 143 100 w lo hi v d) (hk0 : 0 ≤ k0) (hk1 : k0 + lenTT d ≤ 1125899906842624) :
    Calls Try.prog 22 #[v, .int .i64 k0] w fun e w' => e = .returned (.int .i64 (k0 + lenTT d)) ∧ OwT 143 100 w' lo hi v (marksTT k0 d) ∧ Only lo hi w w' := by
  obtain ⟨ao, n, c, us, rfl, ho⟩ := h
  go_enter Try.func22, Try.ntmps22
  go_wp2_with fail
  have hb : Below w.heap.size w (w.alloc (.cells #[.slice ao n c] 29)) := (Below.refl _ _).alloc (Nat.le_refl _) _
  refine (law_markTT k0 _ ⟨ao, n, c, us, rfl, ho.below (innerTs _) hb⟩ hk0 hk1).mono ?_
  rintro e w1 ⟨rfl, ⟨a2, n2, c2, us2, e2, o2⟩, q1⟩
  injection e2 with e3 e4 e5
  subst e3 e4 e5
  go_wp2
  go_ret
  refine ⟨rfl, ⟨_, _, _, us2, rfl, o2⟩, ⟨q1.os.trans hb.os, q1.tape.trans hb.tape, q1.output.trans hb.output, Nat.le_trans hb.size q1.size, fun g hg hd => (q1.block g (Nat.lt_of_lt_of_le hg hb.size) hd).trans (hb.block g hg)⟩⟩

set_option maxHeartbeats 400000 in
theorem law_heldT {v : Value} {d : List (List (Int × Int))} (k0 : Int) (w : World) (h : RdT w v (marksTT k0 d)) (hk0 : 0 ≤ k0) (hk1 : k0 + lenTT d ≤ 1125899906842624) :
    Calls Try.prog 23 #[v, .int .i64 k0] w fun e w' => e = .returned (.int .i64 (k0 + lenTT d)) ∧ Below w.heap.size w w' := by
  obtain ⟨ao, n, c, rfl, hi⟩ := h
  go_enter Try.func23, Try.ntmps23
  go_wp2_with fail
  have hb : Below w.heap.size w (w.alloc (.cells #[.slice ao n c] 29)) := (Below.refl _ _).alloc (Nat.le_refl _) _
  refine (law_heldTT k0 _ ⟨_, _, _, rfl, hi.below hb⟩ hk0 hk1).mono ?_
  rintro e w1 ⟨rfl, b1⟩
  have h2 : 0 ≤ k0 + (lenTT d : Int) := by omega
  go_wp2
  go_ret
  exact ⟨rfl, hb.trans (b1.mono hb.size)⟩
end Go.Proofs.Ytpognnifgcacnaa

/- within and its twin in the reference; slices.IndexFunc and slices.ContainsFunc at []int64, over any predicate that only reads or makes memory. -/
namespace Go.Proofs.Ytpognnifgcacnaa
open Go.RowKit

end Go.Proofs.Ytpognnifgcacnaa

/- Templates: what a template is; the reference's test. -/
namespace Go.Proofs.Ytpognnifgcacnaa
open Go.RowKit

/-- the piece and the move that are kept for piece j and index i -/
def tP (d : List (List (Int × Int))) (j i : Nat) : Int := kA (lget d j) i
def tM (d : List (List (Int × Int))) (j i : Nat) : Int := kB (lget d j) i
/-- moves x and y commute -/
def cmM (x y : Int) : Bool := decide (x = y ∨ x < 0 ∨ y < 0 ∨ (x + y = 2 ∧ x ≠ 1))
/-- index 0 and index 2 commute at piece j -/
def CmT (d : List (List (Int × Int))) (j : Nat) : Prop :=
  tP d (tP d j 0).toNat 2 = tP d (tP d j 2).toNat 0 ∧ tM d (tP d j 0).toNat 2 = tM d j 2 ∧ tM d (tP d j 2).toNat 0 = tM d j 0 ∧ cmM (tM d j 0) (tM d j 2) = true ∧ ¬ (tM d j 0 = tM d j 2 ∧ tP d (tP d j 0).toNat 2 = j)
def RgT (d : List (List (Int × Int))) (j i : Nat) : Prop := (0 ≤ tP d j i ∧ tP d j i ≤ (d.length : Int) - 1) ∧ -1 ≤ tM d j i ∧ tM d j i ≤ 2
def FxT (d : List (List (Int × Int))) (j i : Nat) : Prop := tP d j i = j ∧ tM d j i < 0
def BkT (d : List (List (Int × Int))) (j i : Nat) : Prop := tP d (tP d j i).toNat i = j ∧ tM d (tP d j i).toNat i = tM d j i
structure Tmp (d : List (List (Int × Int))) : Prop where
  one : 1 ≤ d.length
  few : d.length ≤ 12
  three : ∀ j, j < d.length → (lget d j).length = 3
  rng : ∀ j, j < d.length → ∀ i, i < 3 → RgT d j i
  fix : ∀ j, j < d.length → ∀ i, i < 3 → ¬ FxT d j i
  back : ∀ j, j < d.length → ∀ i, i < 3 → BkT d j i
  comm : ∀ j, j < d.length → CmT d j
end Go.Proofs.Ytpognnifgcacnaa

/- The composition of two templates: what it is; the state of both walks. -/
namespace Go.Proofs.Ytpognnifgcacnaa
open Go.RowKit

section
variable {P : Program} {ops : Array Oper} {rest : List Oper} {o : Oper} {a : Act} {Q : Exit → Act → World → Prop}
/-- append(s, x) of one struct: x lies in a block of its own, just laid -/
theorem wpList_ap2 {S E : TypeId} {bytes : Nat} (et : ET2 P S E bytes) (w : World) (hg : o.guard = none) (s x : Operand) (ho : o.op = .call { callee := .builtin .append, args := #[s, x], argTypes := #[S, S] })
    (base : Nat) (ao : Option Addr) (n c : Nat) (ks : List (Int × Int)) (hs : a.eval s = .slice ao n c) (hown : Own2 w base E ao n c ks) (u v : Int)
    (hx : a.eval x = .slice (some ⟨w.heap.size, 0, none⟩) 1 1) (hn : n + 1 ≤ 4398046511104) (hbase : base ≤ w.heap.size)
    (hK : ∀ ao' c' w', Own2 w' base E ao' (n + 1) c' (ks ++ [(u, v)]) → w.grownBy w' (bk ao) → (bk ao' = bk ao ∨ bk ao' = some (w.heap.size + 1)) → wpList P ops Q rest (a.put o.dst (.slice ao' (n + 1) c')) w') :
    wpList P ops Q (o :: rest) a (w.alloc (.cells #[.int .i64 u, .int .i64 v] E)) := by
  obtain ⟨i, hi, hz, hsz, hby⟩ := info_parts et.info
  refine wpList_append_own_at _ hg s x S ho base E i (.agg #[.int .i64 0, .int .i64 0]) 2 bytes et.und hi hz hsz hby rfl (by omega) (.slice ao n c) n (ivals (pflat ks)) hs (hown.1.alloc _) ⟨w.heap.size, 0, none⟩ 1 1 [.int .i64 u, .int .i64 v] hx rfl (by
      intro j y hj
      match j, hj with
      | 0, hj => simp at hj; subst hj; simp [Addr.add]
      | 1, hj => simp at hj; subst hj; simp [Addr.add]
      | j + 2, hj => simp at hj)
    (by intro y hy; simp at hy; rcases hy with rfl | rfl <;> rfl) (by simp [maxLen]; omega) (by have := et.small; have : (n + 1) * bytes ≤ (n + 1) * 32 := Nat.mul_le_mul_left _ this; omega) (by simp; omega) ?_
  intro v' w' h1 h2 _ h4
  rw [ownBlock_slice] at h2 h4
  have e : ivals (pflat ks) ++ [.int .i64 u, .int .i64 v] = ivals (pflat (ks ++ [(u, v)])) := by simp [pflat, ivals]
  rw [e] at h1
  have hl : ks.length = n := hown.len
  obtain ⟨g, cap, rfl, hb, hlt⟩ := h1.form (by omega)
  refine hK _ _ _ ⟨h1, hn⟩ (grown_tr (World.grownBy_alloc w _ _) h2) ?_
  rw [ownBlock_slice] at h4
  simpa using h4
end
theorem Own2.empty_ (w : World) {base E : Nat} (hb : base ≤ w.heap.size) : Own2 (w.alloc (.cells #[] E)) base E (some ⟨w.heap.size, 0, none⟩) 0 0 [] := by
  refine ⟨?_, by omega⟩
  have := World.ownsRow_lit (e := E) (size := 2) w #[] 0 hb (by simp [maxLen]) (by simp)
  simpa [pflat, ivals] using this
theorem Own2.nil_ (w : World) (base E : Nat) : Own2 w base E none 0 0 [] := ⟨World.ownsRow_nil _ _ _ _, by omega⟩
theorem Own2.below {w w' : World} {base E : Nat} {ao : Option Addr} {n c : Nat} {ks : List (Int × Int)} (h : Own2 w base E ao n c ks) (hb : Below w.heap.size w w') : Own2 w' base E ao n c ks := h.same fun g hg => hb.block g (h.lt g hg).2

/-- one target of the composition -/
def cmT (d e : List (List (Int × Int))) (j k i : Nat) : Int × Int :=
  if 0 ≤ tM e k i then (tP d j (tM e k i).toNat * (e.length : Int) + tP e k i, tM d j (tM e k i).toNat) else ((j : Int) * (e.length : Int) + tP e k i, -1)
def cmRow (d e : List (List (Int × Int))) (j k i : Nat) : List (Int × Int) := (List.range i).map (cmT d e j k)
theorem cmRow_succ (d e : List (List (Int × Int))) (j k i : Nat) : cmRow d e j k (i + 1) = cmRow d e j k i ++ [cmT d e j k i] := by simp [cmRow, List.range_succ]
def cmPart (d e : List (List (Int × Int))) (j k : Nat) : List (List (Int × Int)) := (List.range k).map fun k => cmRow d e j k 3
theorem cmPart_succ (d e : List (List (Int × Int))) (j k : Nat) : cmPart d e j (k + 1) = cmPart d e j k ++ [cmRow d e j k 3] := by simp [cmPart, List.range_succ]
def cmUp (d e : List (List (Int × Int))) : Nat → List (List (Int × Int))
  | 0 => []
  | j + 1 => cmUp d e j ++ cmPart d e j e.length
def cmD (d e : List (List (Int × Int))) : List (List (Int × Int)) := cmUp d e d.length
theorem cmPart_len (d e : List (List (Int × Int))) (j k : Nat) : (cmPart d e j k).length = k := by simp [cmPart]
theorem cmUp_len (d e : List (List (Int × Int))) : ∀ j, (cmUp d e j).length = j * e.length
  | 0 => by simp [cmUp]
  | j + 1 => by rw [cmUp, List.length_append, cmUp_len d e j, cmPart_len, Nat.succ_mul]

/-- pushing a row of structs -/
theorem trows_push {T1 E lo : Nat} {wr w2 w3 w4 : World} {ao ao' ao2 : Option Addr} {m c n' c' c2 : Nat} {us : List Value} {ds : List (List (Int × Int))} {ks : List (Int × Int)}
    (hR : OwR (OwTs T1) wr lo wr.heap.size E ao m c us ds) (hlo : lo ≤ wr.heap.size) (hb : Below wr.heap.size wr w2) (hu : Own2 w2 wr.heap.size T1 ao' n' c' ks) (hb3 : Below w2.heap.size w2 w3)
    (hown : Own w4 lo E ao2 (m + 1) c2 (us ++ [.slice ao' n' c'])) (hg : w3.grownBy w4 (bk ao)) (hat : bk ao2 = bk ao ∨ ∃ g, bk ao2 = some g ∧ w2.heap.size ≤ g) :
    OwR (OwTs T1) w4 lo w4.heap.size E ao2 (m + 1) c2 (us ++ [.slice ao' n' c']) (ds ++ [ks]) := by
  have hR3 : OwR (OwTs T1) w3 lo wr.heap.size E ao m c us ds := hR.below (innerTs _) (hb.trans (hb3.mono hb.size))
  have s1 := hb.size
  have s2 := hb3.size
  have s3 := hg.size
  have hub : ∀ g, bk ao' = some g → wr.heap.size ≤ g ∧ g < w2.heap.size := hu.lt
  have hne : ∀ g, bk ao' = some g → bk ao ≠ some g := fun g h1 h2 => by have := hub g h1; have := hR.top g h2; omega
  have hu4 : OwTs T1 w4 (.slice ao' n' c') ks := (innerTs T1).loc (w := w2) ⟨ao', n', c', rfl, hu.mono (Nat.zero_le _)⟩ fun g h => by
    rw [ownBlock_slice] at h
    have := hub g h
    rw [hg.block g (by omega) (fun e => hne g h e.symm)]
    exact hb3.block g this.2
  refine hR3.push (innerTs _) hown hg hu4 (in_slice fun g h => ⟨by have := hub g h; omega, by have := hub g h; omega⟩) (fun g h => (hown.lt g h).2) (by omega) ?_ ?_
  · intro g h
    rcases hat with h1 | ⟨g1, h1, h5⟩
    · exact .inl (h1 ▸ h)
    · refine .inr fun j u hj e => ?_
      rw [h1] at h; obtain rfl := Option.some.inj h
      have := (hR3.rng j u hj _ e).2
      omega
  · intro g h
    rw [ownBlock_slice] at h
    have hh := hub g h
    refine ⟨fun e => ?_, fun j v hj e => ?_⟩
    · rcases hat with h1 | ⟨g1, h1, h5⟩
      · exact hne g h (h1 ▸ e)
      · rw [h1] at e; have := Option.some.inj e; omega
    · have := (hR3.rng j v hj _ e).2; omega

/-- the boxes of the arguments, of the result, of out; the rows of out -/
structure CmpSt (w wr : World) (va vb : Value) (ao : Option Addr) (m c : Nat) (us : List Value) (ds : List (List (Int × Int))) : Prop where
  tt : Blk wr w.heap.size 29 #[va]
  uu : Blk wr (w.heap.size + 1) 29 #[vb]
  res : Blk wr (w.heap.size + 2) 29 #[.slice none 0 0]
  box : Blk wr (w.heap.size + 3) 29 #[.slice ao m c]
  row : OwR (OwTs 143) wr (w.heap.size + 4) wr.heap.size 100 ao m c us ds
  size : w.heap.size + 4 ≤ wr.heap.size
  below : Below w.heap.size w wr
theorem CmpSt.push {w wr w2 w3 w4 : World} {va vb : Value} {m c' n1 c1 c2 : Nat} {ao' a1 ao2 : Option Addr} {us : List Value} {ds : List (List (Int × Int))} {ks : List (Int × Int)} (st : CmpSt w wr va vb ao' m c' us ds)
    (b2 : Below wr.heap.size wr w2) (o1 : Own2 w2 wr.heap.size 143 a1 n1 c1 ks) (b3 : Below w2.heap.size w2 w3) (o4 : Own w4 (w.heap.size + 4) 100 ao2 (m + 1) c2 (us ++ [.slice a1 n1 c1]))
    (g4 : w3.grownBy w4 (bk ao')) (hat : bk ao2 = bk ao' ∨ ∃ g, bk ao2 = some g ∧ w2.heap.size ≤ g) :
    CmpSt w (w4.setCell ⟨w.heap.size + 3, 0, none⟩ (.slice ao2 (m + 1) c2)) va vb ao2 (m + 1) c2 (us ++ [.slice a1 n1 c1]) (ds ++ [ks]) := by
  have hR := trows_push st.row (by have := st.size; omega) b2 o1 b3 o4 g4 hat
  have hsz := st.size
  have s2 := b2.size
  have s3 := b3.size
  have s4 := g4.size
  have B4 : Below (w.heap.size + 4) wr w4 := ((b2.trans (b3.mono s2)).mono hsz).grown g4 (by omega) (fun g hg => (st.row.own.lt g hg).1)
  have hh : (w4.setCell ⟨w.heap.size + 3, 0, none⟩ (.slice ao2 (m + 1) c2)).heap.size = w4.heap.size := by simp [World.setCell]
  refine ⟨(st.tt.below B4 (by omega)).far (by simp) _, (st.uu.below B4 (by omega)).far (by simp) _, (st.res.below B4 (by omega)).far (by simp) _, ?_, ?_, by rw [hh]; omega, (st.below.trans (B4.mono (by omega))).setCell (by simp) _⟩
  · have := (st.box.below B4 (by omega)).set_ 0 (.slice ao2 (m + 1) c2)
    simpa using this
  · rw [hh]
    exact hR.same (innerTs _) fun g h1 _ _ => Below.heap_setCell _ _ _ _ (by simp; omega)
theorem CmpSt.done {w wr : World} {va vb : Value} {m c' : Nat} {ao' : Option Addr} {us : List Value} {ds : List (List (Int × Int))} (st : CmpSt w wr va vb ao' m c' us ds) :
    Blk (wr.setCell ⟨w.heap.size + 2, 0, none⟩ (.slice ao' m c')) (w.heap.size + 2) 29 #[.slice ao' m c'] ∧
    OwR (OwTs 143) (wr.setCell ⟨w.heap.size + 2, 0, none⟩ (.slice ao' m c')) (w.heap.size + 4) (wr.setCell ⟨w.heap.size + 2, 0, none⟩ (.slice ao' m c')).heap.size 100 ao' m c' us ds ∧
    Below w.heap.size w (wr.setCell ⟨w.heap.size + 2, 0, none⟩ (.slice ao' m c')) := by
  have hh : (wr.setCell ⟨w.heap.size + 2, 0, none⟩ (.slice ao' m c')).heap.size = wr.heap.size := by simp [World.setCell]
  refine ⟨?_, ?_, st.below.setCell (by simp) _⟩
  · have := st.res.set_ 0 (.slice ao' m c')
    simpa using this
  · rw [hh]
    exact st.row.same (innerTs _) fun g h1 _ _ => Below.heap_setCell _ _ _ _ (by simp; omega)
theorem CmpSt.start {w w' : World} {va vb : Value} (hb : Below w.heap.size w w') (h1 : Blk w' w.heap.size 29 #[va]) (h2 : Blk w' (w.heap.size + 1) 29 #[vb]) (h3 : Blk w' (w.heap.size + 2) 29 #[.slice none 0 0]) (h4 : Blk w' (w.heap.size + 3) 29 #[.slice none 0 0]) (hs : w.heap.size + 4 ≤ w'.heap.size) :
    CmpSt w w' va vb none 0 0 [] [] := ⟨h1, h2, h3, h4, OwR.empty_ (Own.nil_ _ _ _) (fun g hg => by cases hg), hs, hb⟩
end Go.Proofs.Ytpognnifgcacnaa
