/- polygonOf, the program's; PolygonOf, both. -/
import Derived.Test.YtpognnifgcacnaaPart5
import Derived.Laws.BitsAllLaws
import Derived.Laws.BitsLemmas
import Derived.Laws.StructEq
import Derived.Laws.IdiomRangeMap
import Derived.Maps.RangeRun
import Derived.Test.YtpognnifgcacnaaPart3
import Derived.Test.YtpognnifgcacnaaPart1
import Derived.Shelf.RegionOpenPlain
import Derived.Deep.RegionLaw
import Derived.Lib.SliceRun
import Derived.Laws.IdiomCopy
import Derived.Lib.EndianMore
import Derived.Deep.DeepCutAuto
import Derived.Test.YtpognnifgcacnaaPart4
import Derived.Test.YtpognnifgcacnaaPart2
namespace Go.Proofs.Ytpognnifgcacnaa
open Go.RowKit

theorem ofInt_i64 (a : Nat) (ha : a < 9223372036854775808) : (BitVec.ofInt 64 (a : Int)).toNat = a := by
  rw [BitVec.ofInt_natCast, BitVec.toNat_ofNat]; exact Nat.mod_eq_of_lt (by omega)
theorem i64_xor_nat (a b : Nat) (ha : a < 9223372036854775808) (hb : b < 9223372036854775808) : bits .xor .i64 (a : Int) (b : Int) = ((a ^^^ b : Nat) : Int) := by
  have hx : a ^^^ b < 2 ^ 63 := Nat.xor_lt_two_pow (by omega) (by omega)
  show IntKind.i64.wrap ((BitVec.ofInt 64 (a : Int) ^^^ BitVec.ofInt 64 (b : Int)).toNat : Int) = _
  rw [BitVec.toNat_xor, ofInt_i64 a ha, ofInt_i64 b hb, IntKind.wrap_i64]
  omega
theorem xor_one_div (k : Nat) : (k ^^^ 1) / 2 = k / 2 := by rw [Nat.xor_div_two]; simp
theorem xor_one_mod (k : Nat) : (k ^^^ 1) % 2 = (k + 1) % 2 := by
  have h := Nat.xor_mod_two_pow (a := k) (b := 1) (n := 1)
  rw [Nat.pow_one] at h
  rcases Nat.mod_two_eq_zero_or_one k with e | e
  · rw [h, e]; have : (0 ^^^ 1 % 2) = 1 := by decide
    omega
  · rw [h, e]; have : (1 ^^^ 1 % 2) = 0 := by decide
    omega
theorem xor_one_even {k : Nat} (h : k % 2 = 0) : k ^^^ 1 = k + 1 := by
  have h1 := xor_one_div k
  have h2 := xor_one_mod k
  omega
theorem xor_one_odd {k : Nat} (h : k % 2 = 1) : k ^^^ 1 = k - 1 := by
  have h1 := xor_one_div k
  have h2 := xor_one_mod k
  omega
theorem xor1_even {k : Nat} (h : k % 2 = 0) (hk : k ≤ 1048576) : bits .xor .i64 (k : Int) 1 = (k : Int) + 1 := by
  have := i64_xor_nat k 1 (by omega) (by omega)
  rw [xor_one_even h] at this
  simpa using this
theorem xor1_odd {k : Nat} (h : k % 2 = 1) (hk : k ≤ 1048576) : bits .xor .i64 (k : Int) 1 = (k : Int) - 1 := by
  have := i64_xor_nat k 1 (by omega) (by omega)
  rw [xor_one_odd h] at this
  have e : ((k - 1 : Nat) : Int) = (k : Int) - 1 := by omega
  rw [e] at this
  simpa using this

end Go.Proofs.Ytpognnifgcacnaa

/- Maps of polygons: the lists of the program's walk, and its map from sides to their flags. -/
namespace Go.Proofs.Ytpognnifgcacnaa
open Go.RowKit

/-- the sides of the first n corners -/
def sdA (ps : List (List Int)) (c : Nat) : Int × Int := (((2 * c : Nat) : Int), ((2 * nxP ps c + 1 : Nat) : Int))
def sdL (ps : List (List Int)) (n : Nat) : List (Int × Int) := (List.range n).map (sdA ps)
theorem sdL_succ (ps : List (List Int)) (n : Nat) : sdL ps (n + 1) = sdL ps n ++ [sdA ps n] := by simp [sdL, List.range_succ]
theorem sdL_kA {ps : List (List Int)} {n j : Nat} (h : j < n) : kA (sdL ps n) j = ((2 * j : Nat) : Int) ∧ kB (sdL ps n) j = ((2 * nxP ps j + 1 : Nat) : Int) := by
  unfold kA kB sdL
  simp [h, sdA]
theorem etPair : ET2 Try.prog 170 171 16 := ⟨Try.underlying170, by kernel_rfl, by omega⟩
/-- the vertices and the sides, as they grow -/
structure VS (w wr : World) (ps : List (List Int)) (j c : Nat) (a1 : Option Addr) (c1 : Nat) (a2 : Option Addr) (c2 : Nat) : Prop where
  bx : Blk wr w.heap.size 41 #[.slice none 0 0]
  vx : Own wr (w.heap.size + 1) 2 a1 (begP ps j) c1 (((ps.take j).flatten).map (Value.int .i64))
  sd : Own2 wr (w.heap.size + 1) 171 a2 c c2 (sdL ps c)
  bel : Below w.heap.size w wr
theorem sizeP_any (ao : Option Addr) (n c : Nat) (w : World) : Calls Try.prog 139 #[.slice ao n c] w fun e w' => e = .returned (.int .i64 n) ∧ w' = w := by
  go_enter Try.func139, Try.ntmps139
  go_wp2
  go_ret
  exact ⟨rfl, rfl⟩
theorem own_typP {w : World} {lo E n c : Nat} {ao : Option Addr} {xs : List Value} (h : Own w lo E ao n c xs) {g : Nat} (hg : bk ao = some g) : ∃ cs, w.heap[g]? = some (.cells cs E (0, 0)) := by
  rcases h.1.2 with h2 | ⟨g', cap, cur, hv, _, hh, _⟩
  · have h2 := h2.1
    injection h2 with h3; subst h3; cases hg
  · injection hv with h3; subst h3
    obtain rfl := Option.some.inj hg
    exact ⟨cur, hh⟩
theorem own2_typP {w : World} {lo E n c : Nat} {ao : Option Addr} {ks : List (Int × Int)} (h : Own2 w lo E ao n c ks) {g : Nat} (hg : bk ao = some g) : ∃ cs, w.heap[g]? = some (.cells cs E (0, 0)) := by
  rcases h.1.2 with h2 | ⟨g', cap, cur, hv, _, hh, _⟩
  · have h2 := h2.1
    injection h2 with h3; subst h3; cases hg
  · injection hv with h3; subst h3
    obtain rfl := Option.some.inj hg
    exact ⟨cur, hh⟩
theorem own_own2 {w : World} {lo lo' E E' n c n' c' : Nat} {ao ao' : Option Addr} {xs : List Value} {ks : List (Int × Int)} (h : Own w lo E ao n c xs) (h' : Own2 w lo' E' ao' n' c' ks) (hE : E ≠ E') : ∀ g, bk ao = some g → bk ao' ≠ some g := fun g hg e => by
  obtain ⟨cs, h1⟩ := own_typP h hg
  obtain ⟨cs', h2⟩ := own2_typP h' e
  rw [h1] at h2
  injection h2 with h2
  injection h2 with _ h2
  exact hE h2
theorem flat_take {ps : List (List Int)} {j : Nat} (h : j < ps.length) : (ps.take (j + 1)).flatten = (ps.take j).flatten ++ lget ps j := by
  rw [take_lget h]; simp
section
variable {w wr w' : World} {ps : List (List Int)} {j c : Nat} {a1 : Option Addr} {c1 : Nat} {a2 : Option Addr} {c2 : Nat}
theorem VS.lt (h : VS w wr ps j c a1 c1 a2 c2) : w.heap.size + 1 ≤ wr.heap.size := by have := h.bx.lt; omega
theorem VS.vert (h : VS w wr ps j c a1 c1 a2 c2) (hj : j < ps.length) {a1' : Option Addr} {c1' : Nat} (ho : Own w' (w.heap.size + 1) 2 a1' (begP ps j + (lget ps j).length) c1' (((ps.take j).flatten).map (Value.int .i64) ++ (lget ps j).map (Value.int .i64))) (hg : wr.grownBy w' (bk a1)) : VS w w' ps (j + 1) c a1' c1' a2 c2 := by
  have hlt := h.lt
  have hne : ∀ g, bk a1 = some g → w.heap.size + 1 ≤ g := fun g e => (h.vx.lt g e).1
  refine ⟨?_, ?_, ?_, ?_⟩
  · exact (hg.block _ (by omega) fun e => by have := hne _ e.symm; omega).trans h.bx
  · rw [begP_succ hj, flat_take hj, List.map_append]; exact ho
  · exact h.sd.same fun g hgb => hg.block g (h.sd.lt g hgb).2 fun e => own_own2 h.vx h.sd (by decide) g e.symm hgb
  · exact h.bel.grown hg (by omega) fun k e => by have := hne k e; omega
theorem VS.side (h : VS w wr ps j c a1 c1 a2 c2) {a2' : Option Addr} {c2' : Nat} {u v : Int} (hu : u = ((2 * c : Nat) : Int)) (hv : v = ((2 * nxP ps c + 1 : Nat) : Int)) (ho : Own2 w' (w.heap.size + 1) 171 a2' (c + 1) c2' (sdL ps c ++ [(u, v)])) (hg : wr.grownBy w' (bk a2)) : VS w w' ps j (c + 1) a1 c1 a2' c2' := by
  have hlt := h.lt
  have hne : ∀ g, bk a2 = some g → w.heap.size + 1 ≤ g := fun g e => (h.sd.lt g e).1
  subst hu hv
  refine ⟨?_, ?_, ?_, ?_⟩
  · exact (hg.block _ (by omega) fun e => by have := hne _ e.symm; omega).trans h.bx
  · exact h.vx.same fun g hgb => hg.block g (h.vx.lt g hgb).2 fun e => own_own2 h.vx h.sd (by decide) g hgb e.symm
  · rw [sdL_succ]; exact ho
  · exact h.bel.grown hg (by omega) fun k e => by have := hne k e; omega
theorem VS.start (w : World) (ps : List (List Int)) : VS w (w.alloc (.cells #[.slice none 0 0] 41)) ps 0 0 none 0 none 0 :=
  ⟨blk_at rfl, by rw [begP_zero]; exact Own.nil_ _ _ _, Own2.nil_ _ _ _, below_alloc1 _ _⟩
end
end Go.Proofs.Ytpognnifgcacnaa

/- Maps of polygons: three rows of moves, and a map from sides to lists of sides. -/
namespace Go.Proofs.Ytpognnifgcacnaa
open Go.RowKit

/-- three rows of F numbers, in four blocks behind those of w1 -/
structure MS (w1 wr : World) (g0 r0 r1 r2 F : Nat) (z0 z1 z2 : List Int) : Prop where
  mx : Own wr w1.heap.size 49 (some ⟨g0, 0, none⟩) 3 3 [.slice (some ⟨r0, 0, none⟩) F F, .slice (some ⟨r1, 0, none⟩) F F, .slice (some ⟨r2, 0, none⟩) F F]
  o0 : Own wr w1.heap.size 2 (some ⟨r0, 0, none⟩) F F (z0.map (Value.int .i64))
  o1 : Own wr w1.heap.size 2 (some ⟨r1, 0, none⟩) F F (z1.map (Value.int .i64))
  o2 : Own wr w1.heap.size 2 (some ⟨r2, 0, none⟩) F F (z2.map (Value.int .i64))
  ne : (r0 ≠ r1 ∧ r0 ≠ r2 ∧ r1 ≠ r2) ∧ g0 ≠ r0 ∧ g0 ≠ r1 ∧ g0 ≠ r2
  top : g0 < w1.heap.size + 4 ∧ r0 < w1.heap.size + 4 ∧ r1 < w1.heap.size + 4 ∧ r2 < w1.heap.size + 4
  bel : Below w1.heap.size w1 wr
  sz : w1.heap.size + 4 ≤ wr.heap.size
section
variable {w w1 wr w' : World} {g0 r0 r1 r2 F : Nat} {z0 z1 z2 : List Int}
theorem bk_lit (g : Nat) : bk (some ⟨g, 0, none⟩) = some g := rfl
theorem MS.keep (h : MS w1 wr g0 r0 r1 r2 F z0 z1 z2) (hs : ∀ g, g < w1.heap.size + 4 → w'.heap[g]? = wr.heap[g]?) (hb : Below w1.heap.size w1 w') (hz : wr.heap.size ≤ w'.heap.size) : MS w1 w' g0 r0 r1 r2 F z0 z1 z2 := by
  obtain ⟨t0, t1, t2, t3⟩ := h.top
  refine ⟨h.mx.same fun g e => ?_, h.o0.same fun g e => ?_, h.o1.same fun g e => ?_, h.o2.same fun g e => ?_, h.ne, h.top, hb, Nat.le_trans h.sz hz⟩ <;> (rw [bk_lit] at e; injection e with e; subst e; exact hs _ (by assumption))
theorem MS.below (h : MS w1 wr g0 r0 r1 r2 F z0 z1 z2) (hb : Below wr.heap.size wr w') : MS w1 w' g0 r0 r1 r2 F z0 z1 z2 :=
  h.keep (fun g hg => hb.block g (by have := h.sz; omega)) (h.bel.trans (hb.mono (by have := h.sz; omega))) hb.size
theorem MS.only (h : MS w1 wr g0 r0 r1 r2 F z0 z1 z2) {l k : Nat} (ho : Only l k wr w') (hl : w1.heap.size + 4 ≤ l) : MS w1 w' g0 r0 r1 r2 F z0 z1 z2 :=
  h.keep (fun g hg => ho.block g (by have := h.sz; omega) (.inl (by omega))) (h.bel.trans (ho.below (by omega) (by have := h.sz; omega))) ho.size
theorem MS.st0 (h : MS w1 wr g0 r0 r1 r2 F z0 z1 z2) (k : Nat) (x : Int) : MS w1 (wr.setCell ⟨r0, k, none⟩ (.int .i64 x)) g0 r0 r1 r2 F (z0.set k x) z1 z2 := by
  obtain ⟨⟨n1, n2, n3⟩, n4, n5, n6⟩ := h.ne
  obtain ⟨s1, t1⟩ := h.o0.stored k (.int .i64 x)
  have hr := (h.o0.lt r0 rfl).1
  refine ⟨h.mx.kept t1 (.inr ?_), by rw [List.map_set]; exact s1, h.o1.kept t1 (.inr ?_), h.o2.kept t1 (.inr ?_), h.ne, h.top, h.bel.setCell (by exact hr) _, by simpa [World.setCell] using h.sz⟩ <;> (simp only [bk_lit]; intro e; injection e with e; omega)
theorem MS.st1 (h : MS w1 wr g0 r0 r1 r2 F z0 z1 z2) (k : Nat) (x : Int) : MS w1 (wr.setCell ⟨r1, k, none⟩ (.int .i64 x)) g0 r0 r1 r2 F z0 (z1.set k x) z2 := by
  obtain ⟨⟨n1, n2, n3⟩, n4, n5, n6⟩ := h.ne
  obtain ⟨s1, t1⟩ := h.o1.stored k (.int .i64 x)
  have hr := (h.o1.lt r1 rfl).1
  refine ⟨h.mx.kept t1 (.inr ?_), h.o0.kept t1 (.inr ?_), by rw [List.map_set]; exact s1, h.o2.kept t1 (.inr ?_), h.ne, h.top, h.bel.setCell (by exact hr) _, by simpa [World.setCell] using h.sz⟩ <;> (simp only [bk_lit]; intro e; injection e with e; omega)
theorem MS.st2 (h : MS w1 wr g0 r0 r1 r2 F z0 z1 z2) (k : Nat) (x : Int) : MS w1 (wr.setCell ⟨r2, k, none⟩ (.int .i64 x)) g0 r0 r1 r2 F z0 z1 (z2.set k x) := by
  obtain ⟨⟨n1, n2, n3⟩, n4, n5, n6⟩ := h.ne
  obtain ⟨s1, t1⟩ := h.o2.stored k (.int .i64 x)
  have hr := (h.o2.lt r2 rfl).1
  refine ⟨h.mx.kept t1 (.inr ?_), h.o0.kept t1 (.inr ?_), h.o1.kept t1 (.inr ?_), by rw [List.map_set]; exact s1, h.ne, h.top, h.bel.setCell (by exact hr) _, by simpa [World.setCell] using h.sz⟩ <;> (simp only [bk_lit]; intro e; injection e with e; omega)
theorem MS.cells (h : MS w1 wr g0 r0 r1 r2 F z0 z1 z2) : wr.cell? ⟨g0, 0, none⟩ = some (.slice (some ⟨r0, 0, none⟩) F F) ∧ wr.cell? ⟨g0, 1, none⟩ = some (.slice (some ⟨r1, 0, none⟩) F F) ∧ wr.cell? ⟨g0, 2, none⟩ = some (.slice (some ⟨r2, 0, none⟩) F F) := by
  obtain ⟨g', e, -, -, -, hc, -⟩ := h.mx.form (by omega)
  injection e with e; injection e with e; subst e
  exact ⟨hc 0 (by omega), hc 1 (by omega), hc 2 (by omega)⟩
theorem MS.int (w1 : World) {wr : World} {r F : Nat} {z : List Int} (h : Own wr w1.heap.size 2 (some ⟨r, 0, none⟩) F F (z.map (Value.int .i64))) {k : Nat} (hk : k < F) : wr.cell? ⟨r, k, none⟩ = some (.int .i64 (iget z k)) ∧ wr.frozen? ⟨r, k, none⟩ = false := by
  have hl := h.len
  rw [List.length_map] at hl
  obtain ⟨g', e, -, -, -, hc, hf⟩ := h.form (by omega)
  injection e with e; injection e with e; subst e
  refine ⟨?_, hf k⟩
  rw [hc k hk, List.getElem?_map, List.getElem?_eq_getElem (by omega), iget_lt (by omega)]; rfl
theorem MS.lens (h : MS w1 wr g0 r0 r1 r2 F z0 z1 z2) : z0.length = F ∧ z1.length = F ∧ z2.length = F := by
  have a := h.o0.len; have b := h.o1.len; have c := h.o2.len
  simp at a b c
  exact ⟨a, b, c⟩
theorem MS.owM (h : MS w1 wr g0 r0 r1 r2 F z0 z1 z2) {lo : Nat} (hlo : lo ≤ w1.heap.size) : OwM 2 49 wr lo wr.heap.size (.agg #[.slice (some ⟨g0, 0, none⟩) 3 3]) [z0, z1, z2] := by
  obtain ⟨⟨n1, n2, n3⟩, n4, n5, n6⟩ := h.ne
  have hsz := h.sz
  obtain ⟨t0, t1, t2, t3⟩ := h.top
  have b0 := (h.o0.lt r0 rfl).1; have b1 := (h.o1.lt r1 rfl).1; have b2 := (h.o2.lt r2 rfl).1
  refine ⟨_, _, _, _, rfl, { own := h.mx.mono hlo, top := fun g e => ?_, len := rfl, el := ?_, rng := ?_, out := ?_, apart := ?_ }⟩
  · rw [bk_lit] at e; injection e with e; omega
  · intro j u d hu hd
    match j, hu, hd with
    | 0, hu, hd => simp at hu hd; subst hu hd; exact ⟨_, _, _, rfl, h.o0.mono (Nat.zero_le _)⟩
    | 1, hu, hd => simp at hu hd; subst hu hd; exact ⟨_, _, _, rfl, h.o1.mono (Nat.zero_le _)⟩
    | 2, hu, hd => simp at hu hd; subst hu hd; exact ⟨_, _, _, rfl, h.o2.mono (Nat.zero_le _)⟩
  · intro j u hu g hg
    match j, hu with
    | 0, hu => simp at hu; subst hu; rw [ownBlock_slice, bk_lit] at hg; injection hg with hg; omega
    | 1, hu => simp at hu; subst hu; rw [ownBlock_slice, bk_lit] at hg; injection hg with hg; omega
    | 2, hu => simp at hu; subst hu; rw [ownBlock_slice, bk_lit] at hg; injection hg with hg; omega
  · intro j u g hu hg e
    rw [bk_lit] at e; injection e with e
    match j, hu with
    | 0, hu => simp at hu; subst hu; rw [ownBlock_slice, bk_lit] at hg; injection hg with hg; omega
    | 1, hu => simp at hu; subst hu; rw [ownBlock_slice, bk_lit] at hg; injection hg with hg; omega
    | 2, hu => simp at hu; subst hu; rw [ownBlock_slice, bk_lit] at hg; injection hg with hg; omega
  · intro i j u u' g hij hu hu' hg e
    have key : ∀ (j : Nat) (u : Value), [Value.slice (some ⟨r0, 0, none⟩) F F, .slice (some ⟨r1, 0, none⟩) F F, .slice (some ⟨r2, 0, none⟩) F F][j]? = some u → u.ownBlock = some g → (j = 0 ∧ g = r0) ∨ (j = 1 ∧ g = r1) ∨ (j = 2 ∧ g = r2) := fun j u hu hg => by
      match j, hu with
      | 0, hu => simp at hu; subst hu; rw [ownBlock_slice, bk_lit] at hg; injection hg with hg; exact .inl ⟨rfl, hg.symm⟩
      | 1, hu => simp at hu; subst hu; rw [ownBlock_slice, bk_lit] at hg; injection hg with hg; exact .inr (.inl ⟨rfl, hg.symm⟩)
      | 2, hu => simp at hu; subst hu; rw [ownBlock_slice, bk_lit] at hg; injection hg with hg; exact .inr (.inr ⟨rfl, hg.symm⟩)
    rcases key i u hu hg with ⟨a, b⟩ | ⟨a, b⟩ | ⟨a, b⟩ <;> rcases key j u' hu' e with ⟨c, d⟩ | ⟨c, d⟩ | ⟨c, d⟩ <;> omega
theorem madeI (W : World) {F g base : Nat} (hF : F ≤ 1000) (hg : W.heap.size = g) (hb : base ≤ W.heap.size) : Own (W.alloc (.cells (madeCells #[.int .i64 0] F) 2)) base 2 (some ⟨g, 0, none⟩) F F ((List.replicate F (0 : Int)).map (Value.int .i64)) := by
  rw [List.map_replicate]
  exact own_made (etI : ET Try.prog 49 2 (.int .i64 0) _) hg (by omega) hb
theorem MS.make (w1 : World) {F r0 r1 r2 : Nat} (hF : F ≤ 1000) (h0 : r0 = w1.heap.size ∨ r0 = w1.heap.size + 1 ∨ r0 = w1.heap.size + 2) (h1 : r1 = w1.heap.size ∨ r1 = w1.heap.size + 1 ∨ r1 = w1.heap.size + 2) (h2 : r2 = w1.heap.size ∨ r2 = w1.heap.size + 1 ∨ r2 = w1.heap.size + 2) (ne : r0 ≠ r1 ∧ r0 ≠ r2 ∧ r1 ≠ r2) :
    MS w1 ((((w1.alloc (.cells (madeCells #[.int .i64 0] F) 2)).alloc (.cells (madeCells #[.int .i64 0] F) 2)).alloc (.cells (madeCells #[.int .i64 0] F) 2)).alloc (.cells #[.slice (some ⟨r0, 0, none⟩) F F, .slice (some ⟨r1, 0, none⟩) F F, .slice (some ⟨r2, 0, none⟩) F F] 49)) (w1.heap.size + 3) r0 r1 r2 F (List.replicate F 0) (List.replicate F 0) (List.replicate F 0) := by
  have hro : ∀ r, r = w1.heap.size ∨ r = w1.heap.size + 1 ∨ r = w1.heap.size + 2 → Own ((((w1.alloc (.cells (madeCells #[.int .i64 0] F) 2)).alloc (.cells (madeCells #[.int .i64 0] F) 2)).alloc (.cells (madeCells #[.int .i64 0] F) 2)).alloc (.cells #[.slice (some ⟨r0, 0, none⟩) F F, .slice (some ⟨r1, 0, none⟩) F F, .slice (some ⟨r2, 0, none⟩) F F] 49)) w1.heap.size 2 (some ⟨r, 0, none⟩) F F ((List.replicate F (0 : Int)).map (Value.int .i64)) := fun r hr => by
    rcases hr with rfl | rfl | rfl
    · exact (((madeI w1 hF rfl (Nat.le_refl _)).alloc _).alloc _).alloc _
    · exact ((madeI _ hF (by simp) (by simp)).alloc _).alloc _
    · exact (madeI _ hF (by simp) (by simp; omega)).alloc _
  refine ⟨?_, hro r0 h0, hro r1 h1, hro r2 h2, ⟨ne, by omega, by omega, by omega⟩, by omega, ?_, by simp⟩
  · exact own_lit (us := [.slice (some ⟨r0, 0, none⟩) F F, .slice (some ⟨r1, 0, none⟩) F F, .slice (some ⟨r2, 0, none⟩) F F]) (by simp) (by simp; omega) (by simp)
  · exact (below_alloc3 w1 _ _ _).alloc (by simp; omega) _
theorem MS.drew (h : MS w1 wr g0 r0 r1 r2 F z0 z1 z2) : MS w1 wr.drew g0 r0 r1 r2 F z0 z1 z2 := h.below (below_drew1 wr)
end
end Go.Proofs.Ytpognnifgcacnaa

/- Maps of polygons: maps from pairs to slices. -/
namespace Go.Proofs.Ytpognnifgcacnaa
open Go.RowKit

def kv (k : Int × Int) : Value := .agg #[.int .i64 k.1, .int .i64 k.2]
theorem kv_eq (k l : Int × Int) (w : World) : (Op.equalIn 10000 171 (kv k) (kv l)).run Try.prog w = .ok (decide (k = l)) w := by
  obtain ⟨x, y⟩ := k
  obtain ⟨x', y'⟩ := l
  rw [kv, kv, show (10000 : Nat) = 9999 + 1 from rfl, Op.equalIn]
  simp only [Sem.run_bind, run_underlying Try.underlying171, Result.andThen_ok]
  simp only [Std.Legacy.Range.forIn_eq_forIn_range', Std.Legacy.Range.size, Nat.sub_zero, Nat.add_sub_cancel, Nat.div_one, List.range'_succ, List.range'_zero, List.forIn_cons, List.forIn_nil]
  go_simp
  by_cases h1 : x = x' <;> by_cases h2 : y = y' <;> simp [h1, h2]
theorem kv_check (b : Bool) (k : Int × Int) (w : World) : (Instr.checkKey b 10000 171 (kv k)).run Try.prog w = .ok () w := by
  obtain ⟨x, y⟩ := k
  have u := run_underlying (P := Try.prog) Try.underlying2
  rw [kv]
  have h : ∀ n, (Instr.checkKey b (n + 1 + 1) 171 (.agg #[.int .i64 x, .int .i64 y])).run Try.prog w = .ok () w := fun n => by
    rw [Instr.checkKey]
    simp only [Sem.run_bind, run_underlying Try.underlying171, Result.andThen_ok]
    simp only [Std.Legacy.Range.forIn_eq_forIn_range', Std.Legacy.Range.size, Nat.sub_zero, Nat.add_sub_cancel, Nat.div_one, List.range'_succ, List.range'_zero, List.forIn_cons, List.forIn_nil]
    simp [Instr.checkKey, go_sem, run_underlying Try.underlying2]
  exact h 9998
/-- where a key is -/
def fndK (k : Int × Int) : List (Int × Int) → Nat → Option Nat
  | [], _ => none
  | a :: r, i => if k = a then some i else fndK k r (i + 1)
/-- the block holds a map of these keys to these values -/
def MapG (w : World) (b : Nat) (ks : List (Int × Int)) (us : List Value) : Prop :=
  ∃ es clock, w.heap[b]? = some (.map es clock) ∧ es.toList.map (·.key) = ks.map kv ∧ es.toList.map (·.val) = us ∧ (∀ e ∈ es.toList, e.born < clock) ∧ (es.toList.map (·.born)).Nodup
theorem MapG.lt {w : World} {b : Nat} {ks : List (Int × Int)} {us : List Value} (h : MapG w b ks us) : b < w.heap.size := by
  obtain ⟨es, k, hb, _⟩ := h
  exact (Array.getElem?_eq_some_iff.1 hb).1
theorem MapG.same {w w' : World} {b : Nat} {ks : List (Int × Int)} {us : List Value} (h : MapG w b ks us) (hs : w'.heap[b]? = w.heap[b]?) : MapG w' b ks us := by
  obtain ⟨es, k, hb, r⟩ := h
  exact ⟨es, k, hs.trans hb, r⟩
theorem MapG.lens {w : World} {b : Nat} {ks : List (Int × Int)} {us : List Value} (h : MapG w b ks us) : us.length = ks.length := by
  obtain ⟨es, c, hb, h1, h2, _⟩ := h
  have := congrArg List.length h1
  have := congrArg List.length h2
  simp at *; omega
theorem MapG.new (w : World) : MapG (w.alloc (.map #[] 0)) w.heap.size [] [] := ⟨#[], 0, heap_alloc_new w _, rfl, rfl, by simp, by simp⟩
def uget (us : List Value) (m : Nat) : Value := us.getD m (.slice none 0 0)
theorem fndK_sh (k : Int × Int) : ∀ (r : List (Int × Int)) (n m : Nat), fndK k r (n + m) = (fndK k r n).map (· + m)
  | [], n, m => rfl
  | c :: r, n, m => by
    unfold fndK
    split
    · rfl
    · rw [show n + m + 1 = (n + 1) + m by omega]; exact fndK_sh k r (n + 1) m
theorem findG_run (k : Int × Int) (w : World) : ∀ (es : List MapEntry) (ks : List (Int × Int)) (us : List Value) (i : Nat), es.map (·.key) = ks.map kv → es.map (·.val) = us → (Instr.findAsking 171 (kv k) es i).run Try.prog w = .ok ((fndK k ks 0).map fun m => (i + m, uget us m)) w
  | [], ks, us, i, h, hu => by
    cases ks with
    | nil => simp [Instr.findAsking, fndK, Sem.run_pure]
    | cons a r => simp at h
  | e :: es, ks, us, i, h, hu => by
    cases ks with
    | nil => simp at h
    | cons a r =>
      simp at h hu
      subst hu
      have ih := findG_run k w es r _ (i + 1) h.2 rfl
      simp only [Instr.findAsking, Sem.run_bind, h.1, Op.equal, Op.maxDepth, kv_eq, Result.andThen_ok]
      by_cases hk : k = a
      · simp [hk, fndK, Sem.run_pure, uget]
      · rw [decide_eq_false hk]
        simp only [Bool.false_eq_true, if_false]
        rw [ih]
        have := fndK_sh k r 0 1
        simp only [fndK, hk, if_false]
        rw [this]
        cases fndK k r 0 with
        | none => rfl
        | some m => simp [uget]; omega
theorem keyG_run (k : Int × Int) (w : World) {es : List MapEntry} {ks : List (Int × Int)} {us : List Value} (h : es.map (·.key) = ks.map kv) (hu : es.map (·.val) = us) : (Instr.findKey 171 (kv k) es).run Try.prog w = .ok ((fndK k ks 0).map fun m => (m, uget us m)) w := by
  have hr := findG_run k w es ks us 0 h hu
  simp only [Nat.zero_add] at hr
  unfold Instr.findKey
  simp only [Sem.run_bind, run_underlying Try.underlying171, Result.andThen_ok]
  cases es with
  | nil =>
    cases ks with
    | nil => rfl
    | cons a r => simp at h
  | cons e es => exact hr
theorem lookG_run (k : Int × Int) {w : World} {b : Nat} {ks : List (Int × Int)} {us : List Value} (h : MapG w b ks us) :
    (Instr.lookup 172 (.map (some b)) (kv k) false).run Try.prog w = .ok (match fndK k ks 0 with | some m => uget us m | none => .slice none 0 0) w := by
  obtain ⟨es, clock, hb, hm, hu, _⟩ := h
  have hz : (zeroValue 170).run Try.prog w = .ok (.slice none 0 0) w := by simp [go_sem, run_underlying Try.underlying170]
  have hk := keyG_run k w hm hu
  cases hf : fndK k ks 0 with
  | none =>
    rw [hf] at hk
    simp [Instr.lookup, run_underlying Try.underlying172, MapKept.run_getObj_map hb, kv_check, hk, hz, Result.andThen]
  | some m =>
    rw [hf] at hk
    simp [Instr.lookup, run_underlying Try.underlying172, MapKept.run_getObj_map hb, kv_check, hk, Result.andThen]
theorem fndK_lt (k : Int × Int) : ∀ (ks : List (Int × Int)) (m : Nat), fndK k ks 0 = some m → m < ks.length ∧ ks[m]? = some k
  | [], m, h => by simp [fndK] at h
  | a :: r, m, h => by
    unfold fndK at h
    split at h
    · rename_i e; injection h with h; subst h; exact ⟨by simp, by rw [e]; rfl⟩
    · rw [fndK_sh k r 0 1] at h
      cases hf : fndK k r 0 with
      | none => rw [hf] at h; simp at h
      | some q =>
        rw [hf] at h; simp at h; subst h
        obtain ⟨h1, h2⟩ := fndK_lt k r q hf
        exact ⟨by simp; omega, by simpa using h2⟩
theorem kv_bits (k : Int × Int) (n : Nat) : Instr.sameBits (n + 2) (kv k) (kv k) = true := by
  simp [kv, Instr.sameBits]
theorem putG_old (k : Int × Int) {w : World} {b m : Nat} {ks : List (Int × Int)} {us : List Value} (h : MapG w b ks us) (hf : fndK k ks 0 = some m) (v : Value) :
    ∃ o, (Instr.mapUpdate 172 (.map (some b)) (kv k) v).run Try.prog w = .ok () (Go.ChangeMaps.setBlock w b o) ∧ MapG (Go.ChangeMaps.setBlock w b o) b ks (us.set m v) := by
  have hlt := h.lt
  obtain ⟨es, clock, hb, hm, hu, hbn, hnd⟩ := h
  have hk := keyG_run k w hm hu
  rw [hf] at hk
  obtain ⟨hml, hmk⟩ := fndK_lt k ks m hf
  have hel : es.size = ks.length := by have := congrArg List.length hm; simpa using this
  have hme : m < es.size := by omega
  have hkey : es[m].key = kv k := by
    have h1 := congrArg (fun l => l[m]?) hm
    simp [hml, hme] at h1
    rw [List.getElem?_eq_getElem hml] at hmk
    have hmk2 : ks[m] = k := Option.some.inj hmk
    rw [hmk2] at h1
    exact h1
  have hm2 : ((es.modify m fun e => { e with key := kv k, val := v }).toList.map (·.key)) = ks.map kv := by
    rw [← hm]
    apply List.ext_getElem?
    intro i
    simp [Array.getElem?_modify, List.getElem?_modify]
    by_cases hi : m = i
    · subst hi; simp [hme, hkey]
    · simp [hi]; rfl
  have hu2 : ((es.modify m fun e => { e with key := kv k, val := v }).toList.map (·.val)) = us.set m v := by
    rw [← hu]
    apply List.ext_getElem?
    intro i
    simp [List.getElem?_modify, List.getElem?_set]
    by_cases hi : m = i
    · subst hi; simp [hme]
    · simp [hi]; rfl
  have hb2 : ((es.modify m fun e => { e with key := kv k, val := v }).toList.map (·.born)) = es.toList.map (·.born) := by
    apply List.ext_getElem?
    intro i
    simp [List.getElem?_modify]
    by_cases hi : m = i
    · subst hi; simp [hme]
    · simp [hi]; rfl
  refine ⟨.map (es.modify m fun e => { e with key := kv k, val := v }) clock, ?_, ?_⟩
  · have hkeep : (Instr.keyThatStays (kv k) (kv k)).run Try.prog w = .ok (kv k) w := by
      unfold Instr.keyThatStays
      rw [show (10000 : Nat) = 9998 + 2 from rfl, kv_bits]
      rfl
    simp [Instr.mapUpdate, run_underlying Try.underlying172, MapKept.run_getObj_map hb, kv_check, hk, MapKept.run_setObj_map _ hb, Result.andThen, Go.ChangeMaps.setBlock, hme, hkey, hkeep]
  · refine ⟨es.modify m fun e => { e with key := kv k, val := v }, clock, by simp [Go.ChangeMaps.setBlock, hlt], hm2, hu2, ?_, by rw [hb2]; exact hnd⟩
    intro e he
    have : e.born ∈ es.toList.map (·.born) := by rw [← hb2]; exact List.mem_map_of_mem he
    obtain ⟨e', he', hee⟩ := List.mem_map.1 this
    have := hbn e' he'
    omega
theorem putG_new (k : Int × Int) {w : World} {b : Nat} {ks : List (Int × Int)} {us : List Value} (h : MapG w b ks us) (hf : fndK k ks 0 = none) (v : Value) :
    ∃ o, (Instr.mapUpdate 172 (.map (some b)) (kv k) v).run Try.prog w = .ok () (Go.ChangeMaps.setBlock w b o) ∧ MapG (Go.ChangeMaps.setBlock w b o) b (ks ++ [k]) (us ++ [v]) := by
  have hlt := h.lt
  obtain ⟨es, clock, hb, hm, hu, hbn, hnd⟩ := h
  have hk := keyG_run k w hm hu
  rw [hf] at hk
  refine ⟨.map (es.push { key := kv k, val := v, born := clock }) (clock + 1), ?_, ?_⟩
  · simp [Instr.mapUpdate, run_underlying Try.underlying172, MapKept.run_getObj_map hb, kv_check, hk, MapKept.run_setObj_map _ hb, Result.andThen, Go.ChangeMaps.setBlock]
  · refine ⟨es.push { key := kv k, val := v, born := clock }, clock + 1, by simp [Go.ChangeMaps.setBlock, hlt], by simp [hm], by simp [hu], ?_, ?_⟩
    · intro e he
      simp at he
      rcases he with he | he
      · have := hbn e (by simpa using he); omega
      · subst he; exact Nat.lt_succ_self _
    · simp only [Array.toList_push, List.map_append, List.map_cons, List.map_nil]
      rw [List.nodup_append]
      refine ⟨hnd, by simp, fun a ha c hc => ?_⟩
      simp at hc
      obtain ⟨e, he, hee⟩ := List.mem_map.1 ha
      have := hbn e he
      omega
theorem only_blockG (w : World) (b : Nat) (o : Obj) : Only b (b + 1) w (Go.ChangeMaps.setBlock w b o) := by
  refine ⟨rfl, rfl, rfl, by simp [Go.ChangeMaps.setBlock], fun k hk hd => ?_⟩
  simp [Go.ChangeMaps.setBlock, Array.getElem?_setIfInBounds]
  intro h; omega
section
variable (w : World) {ops : Array Oper} {rest : List Oper} {o : Oper} {a : Act} {Q : Exit → Act → World → Prop}
end
/-- the move that changes the edge at a corner -/
def x1P (f : Nat) : Int := if f % 2 = 0 then (f : Int) + 1 else (f : Int) - 1
theorem oneL_of {z : List Int} {N : Nat} (hl : z.length = 2 * N) (h : ∀ i, i < 2 * N → iget z i = x1P i) : z = oneL N := by
  refine iget_ext (by rw [hl]; exact (dupL_len _ _ _).symm) fun k hk => ?_
  rw [h k (by omega)]
  obtain ⟨a, b⟩ := dupL_get (fun c => ((2 * c + 1 : Nat) : Int)) (fun c => ((2 * c : Nat) : Int)) N (k / 2) (by omega)
  unfold x1P
  split
  · have e : 2 * (k / 2) = k := by omega
    rw [e] at a
    show _ = iget (dupL _ _ N) k
    rw [a]; omega
  · have e : 2 * (k / 2) + 1 = k := by omega
    rw [e] at b
    show _ = iget (dupL _ _ N) k
    rw [b]; omega
end Go.Proofs.Ytpognnifgcacnaa

/- Maps of polygons: the state of the loop over sides. -/
namespace Go.Proofs.Ytpognnifgcacnaa
open Go.RowKit

/-- one struct more, at the end of a row of the call's own, in a region that draws its order -/
theorem step_apP {P : Program} {S E : TypeId} {bytes : Nat} (et : ET2 P S E bytes) {ops : Array Oper} {o : Oper} {a : Act} {Q : Exit → Act → World → Prop} {w : World} {K : Act → World → Prop} {X : Prop} (hg : o.guard = none) (s x : Operand) (ho : o.op = .call { callee := .builtin .append, args := #[s, x], argTypes := #[S, S] })
    (base : Nat) (ao : Option Addr) (n c : Nat) (ks : List (Int × Int)) (hs : a.eval s = .slice ao n c) (hown : Own2 w base E ao n c ks) (u v : Int) (xb xc : Nat)
    (hx : a.eval x = .slice (some ⟨xb, 0, none⟩) 1 xc) (hc : w.cell? ⟨xb, 0, none⟩ = some (.int .i64 u)) (hc2 : w.cell? ⟨xb, 1, none⟩ = some (.int .i64 v)) (hn : n + 1 ≤ 4398046511104) (hbase : base ≤ w.heap.size)
    (h : ∀ ao' c' w', Own2 w' base E ao' (n + 1) c' (ks ++ [(u, v)]) → w.grownBy w' (bk ao) → (bk ao' = bk ao ∨ bk ao' = some w.heap.size) → K (a.put o.dst (.slice ao' (n + 1) c')) w') : if Region.wanted o (yielded ops a.tmps) = true then Oper.wp P o a w K Q else X := by
  obtain ⟨i, hi, hz, hsz, hby⟩ := info_parts et.info
  have hw : Region.wanted o (yielded ops a.tmps) = true := by simp [Region.wanted, hg]
  rw [if_pos hw]
  obtain ⟨v', w', hr, h2, h3, h4, h5⟩ := run_append_own_at (P := P) w base S o.type E i (.agg #[.int .i64 0, .int .i64 0]) 2 bytes et.und hi hz hsz hby rfl (by omega) (.slice ao n c) n (ivals (pflat ks)) hown.1 ⟨xb, 0, none⟩ 1 xc [.int .i64 u, .int .i64 v] rfl
    (by
      intro j u' hu'
      match j, hu' with
      | 0, hu' => simp at hu'; subst hu'; rw [Addr.add_lit]; exact hc
      | 1, hu' => simp at hu'; subst hu'; rw [Addr.add_lit]; exact hc2)
    (by intro y hy; simp at hy; rcases hy with rfl | rfl <;> rfl) (by simp [maxLen]; omega) (by have := et.small; have : (n + 1) * bytes ≤ (n + 1) * 32 := Nat.mul_le_mul_left _ this; omega) hbase
  unfold Oper.wp execOp
  simp only [ho, resolve, invoke, builtin, Sem.run_bind, Sem.run_pure, Result.andThen_ok, List.map_toArray, List.map_cons, List.map_nil, hs, hx, hr]
  have e : ivals (pflat ks) ++ [.int .i64 u, .int .i64 v] = ivals (pflat (ks ++ [(u, v)])) := by simp [pflat, ivals]
  rw [e] at h2
  obtain ⟨g, cap, rfl, hb, hlt⟩ := h2.form (by omega)
  rw [ownBlock_slice] at h3
  refine h _ _ _ ⟨h2, hn⟩ h3 ?_
  rw [ownBlock_slice, ownBlock_slice] at h5
  exact h5

theorem by_tail {α β γ δ : Type} {H : α → β → Prop} (G : α → β → γ → δ → Prop) {R : Prop} (main : (∀ a b c d, H a b → G a b c d) → R) (tl : ∀ a b c d, H a b → G a b c d) : R := main tl
theorem own2_up {w : World} {lo E n c : Nat} {ao : Option Addr} {ks : List (Int × Int)} (h : Own2 w 0 E ao n c ks) (hl : ∀ g, bk ao = some g → lo ≤ g) : Own2 w lo E ao n c ks := by
  refine ⟨⟨h.1.1, ?_⟩, h.2⟩
  rcases h.1.2 with h2 | ⟨g, cap, cur, hv, _, r⟩
  · exact .inl h2
  · refine .inr ⟨g, cap, cur, hv, ?_, r⟩
    injection hv with h3
    subst h3
    exact hl g rfl
/-- side c, from its lesser vertex; its vertices -/
def nrmS (ps : List (List Int)) (c : Nat) : Int × Int := if vtx ps (nxP ps c) < vtx ps c then (((2 * nxP ps c + 1 : Nat) : Int), ((2 * c : Nat) : Int)) else (((2 * c : Nat) : Int), ((2 * nxP ps c + 1 : Nat) : Int))
def keyS (ps : List (List Int)) (c : Nat) : Int × Int := if vtx ps (nxP ps c) < vtx ps c then (vtx ps (nxP ps c), vtx ps c) else (vtx ps c, vtx ps (nxP ps c))
/-- the sides of the first n corners, by their vertices -/
def gF (ps : List (List Int)) : Nat → List (Int × Int) × List (List (Int × Int))
  | 0 => ([], [])
  | c + 1 => match fndK (keyS ps c) (gF ps c).1 0 with
    | some m => ((gF ps c).1, (gF ps c).2.set m (lget (gF ps c).2 m ++ [nrmS ps c]))
    | none => ((gF ps c).1 ++ [keyS ps c], (gF ps c).2 ++ [[nrmS ps c]])
def z0F (ps : List (List Int)) (N : Nat) : Nat → List Int
  | 0 => List.replicate (2 * N) 0
  | c + 1 => ((z0F ps N c).set (2 * c) ((2 * nxP ps c + 1 : Nat) : Int)).set (2 * nxP ps c + 1) ((2 * c : Nat) : Int)
structure DS (wB wi : World) (g0 r0 r1 r2 N mb : Nat) (ps : List (List Int)) (c : Nat) (us : List Value) : Prop where
  ms : MS wB wi g0 r0 r1 r2 (2 * N) (z0F ps N c) (oneL N) (List.replicate (2 * N) 0)
  mg : MapG wi mb (gF ps c).1 us
  ol : OwL (OwTs 171) wi (mb + 1) us (gF ps c).2
section
variable {wB wi w' : World} {g0 r0 r1 r2 N mb : Nat} {ps : List (List Int)} {c : Nat} {us : List Value}
/-- what keeps the blocks keeps all -/
theorem DS.below (h : DS wB wi g0 r0 r1 r2 N mb ps c us) (hb : Below wi.heap.size wi w') : DS wB w' g0 r0 r1 r2 N mb ps c us :=
  ⟨h.ms.below hb, h.mg.same (hb.block mb h.mg.lt), h.ol.below (innerTs _) hb⟩
/-- the two moves of a side -/
theorem DS.moves (h : DS wB wi g0 r0 r1 r2 N mb ps c us) (hmb : wB.heap.size + 4 ≤ mb) (k l : Nat) (x y : Int) : MS wB ((wi.setCell ⟨r0, k, none⟩ (.int .i64 x)).setCell ⟨r0, l, none⟩ (.int .i64 y)) g0 r0 r1 r2 (2 * N) (((z0F ps N c).set k x).set l y) (oneL N) (List.replicate (2 * N) 0) ∧ MapG ((wi.setCell ⟨r0, k, none⟩ (.int .i64 x)).setCell ⟨r0, l, none⟩ (.int .i64 y)) mb (gF ps c).1 us ∧ OwL (OwTs 171) ((wi.setCell ⟨r0, k, none⟩ (.int .i64 x)).setCell ⟨r0, l, none⟩ (.int .i64 y)) (mb + 1) us (gF ps c).2 := by
  have hr := h.ms.top.2.1
  have hs : ∀ g, g ≠ r0 → ((wi.setCell ⟨r0, k, none⟩ (.int .i64 x)).setCell ⟨r0, l, none⟩ (.int .i64 y)).heap[g]? = wi.heap[g]? := fun g hg => (Below.heap_setCell _ _ _ g (by exact hg)).trans (Below.heap_setCell _ _ _ g (by exact hg))
  exact ⟨(h.ms.st0 k x).st0 l y, h.mg.same (hs mb (by omega)), h.ol.same (innerTs _) fun j u g hu hg => hs g (by have := h.ol.low j u g hu hg; omega)⟩
end
end Go.Proofs.Ytpognnifgcacnaa

/- Maps of polygons: sides by their keys, the second move, and when each side has a partner. No program in sight. -/
namespace Go.Proofs.Ytpognnifgcacnaa
open Go.RowKit

theorem filter_none_ {p : Nat → Bool} : ∀ n, (∀ h, h < n → p h = false) → (List.range n).filter p = []
  | 0, _ => rfl
  | n + 1, H => by
    rw [List.range_succ, List.filter_append, filter_none_ n fun h hh => H h (by omega)]
    simp [H n (by omega)]
theorem filter_one_ {p : Nat → Bool} {g : Nat} (hp : p g = true) : ∀ n, g < n → (∀ h, h < n → p h = true → h = g) → (List.range n).filter p = [g]
  | 0, h, _ => by omega
  | n + 1, hg, H => by
    rw [List.range_succ, List.filter_append]
    by_cases e : g = n
    · subst e
      rw [filter_none_ g fun h hh => by
        cases hc : p h with
        | false => rfl
        | true => have := H h (by omega) hc; omega]
      simp [hp]
    · rw [filter_one_ hp n (by omega) fun h hh => H h (by omega)]
      have : p n = false := by
        cases hc : p n with
        | false => rfl
        | true => have := H n (by omega) hc; omega
      simp [this]
theorem filter_two_ {p : Nat → Bool} {g k : Nat} (hg : p g = true) (hk : p k = true) (hgk : g < k) : ∀ n, k < n → (∀ h, h < n → p h = true → h = g ∨ h = k) → (List.range n).filter p = [g, k]
  | 0, h, _ => by omega
  | n + 1, hkn, H => by
    rw [List.range_succ, List.filter_append]
    by_cases e : k = n
    · subst e
      rw [filter_one_ hg k hgk fun h hh hc => by have := H h (by omega) hc; omega]
      simp [hk]
    · rw [filter_two_ hg hk hgk n (by omega) fun h hh => H h (by omega)]
      have : p n = false := by
        cases hc : p n with
        | false => rfl
        | true => have := H n (by omega) hc; omega
      simp [this]
theorem filter_pair {p : Nat → Bool} {g k : Nat} (hg : p g = true) (hk : p k = true) (hgk : g ≠ k) {n : Nat} (h1 : g < n) (h2 : k < n) (H : ∀ h, h < n → p h = true → h = g ∨ h = k) : ((List.range n).filter p).length = 2 := by
  rcases Nat.lt_or_ge g k with h | h
  · rw [filter_two_ hg hk h n h2 H]; rfl
  · rw [filter_two_ hk hg (by omega) n h1 fun x hx hp => (H x hx hp).symm]; rfl

theorem len_two_ {α : Type} : ∀ {l : List α}, l.length = 2 → ∃ a b, l = [a, b]
  | [], h => by simp at h
  | [_], h => by simp at h
  | [a, b], _ => ⟨a, b, rfl⟩
  | _ :: _ :: _ :: _, h => by simp at h
/-- the sides of the first n corners with a key -/
def sideL (ps : List (List Int)) (K : Int × Int) (n : Nat) : List Nat := (List.range n).filter fun c => decide (keyS ps c = K)
theorem mem_sideL {ps : List (List Int)} {K : Int × Int} {n c : Nat} : c ∈ sideL ps K n ↔ c < n ∧ keyS ps c = K := by
  unfold sideL; simp
theorem sideL_succ (ps : List (List Int)) (K : Int × Int) (n : Nat) : sideL ps K (n + 1) = if keyS ps n = K then sideL ps K n ++ [n] else sideL ps K n := by
  unfold sideL
  rw [List.range_succ, List.filter_append]
  split
  · rename_i h; simp [h]
  · rename_i h; simp [h]
theorem fndK_no {k : Int × Int} : ∀ {ks : List (Int × Int)} {n : Nat}, fndK k ks n = none → k ∉ ks
  | [], _, _ => by simp
  | a :: r, n, h => by
    unfold fndK at h
    split at h
    · cases h
    · rename_i e
      have := fndK_no h
      simp [this, e]
structure GFok (ps : List (List Int)) (n : Nat) (G : List (Int × Int) × List (List (Int × Int))) : Prop where
  nd : G.1.Nodup
  len : G.2.length = G.1.length
  el : ∀ (m : Nat) (K : Int × Int), G.1[m]? = some K → lget G.2 m = (sideL ps K n).map (nrmS ps)
  all : ∀ c, c < n → keyS ps c ∈ G.1
  some_ : ∀ K, K ∈ G.1 → ∃ c, c < n ∧ keyS ps c = K
theorem gF_ok (ps : List (List Int)) : ∀ n, GFok ps n (gF ps n)
  | 0 => ⟨by simp [gF], rfl, fun m K h => by simp [gF] at h, fun c h => absurd h (by omega), fun K h => by simp [gF] at h⟩
  | n + 1 => by
    have ih := gF_ok ps n
    obtain ⟨h1, h2, h3, h4, h5⟩ := ih
    have hs : gF ps (n + 1) = match fndK (keyS ps n) (gF ps n).1 0 with
      | some m => ((gF ps n).1, (gF ps n).2.set m (lget (gF ps n).2 m ++ [nrmS ps n]))
      | none => ((gF ps n).1 ++ [keyS ps n], (gF ps n).2 ++ [[nrmS ps n]]) := rfl
    cases hf : fndK (keyS ps n) (gF ps n).1 0 with
    | some m =>
      rw [hf] at hs
      simp only at hs
      obtain ⟨hm, hk⟩ := fndK_lt _ _ _ hf
      rw [hs]
      refine ⟨h1, by simp [h2], fun j K hj => ?_, fun c hc => ?_, fun K hK => ?_⟩
      · rw [sideL_succ]
        by_cases e : j = m
        · subst e
          have hKK : keyS ps n = K := by rw [hk] at hj; exact Option.some.inj hj
          rw [if_pos hKK]
          have := h3 j K hj
          rw [List.map_append, ← this]
          unfold lget
          simp only [List.getD_eq_getElem?_getD]
          rw [List.getElem?_set_self (by omega)]
          rfl
        · have hne : keyS ps n ≠ K := fun e2 => by
            subst e2
            exact e ((List.getElem?_inj (List.getElem?_eq_some_iff.1 hj).1 h1).1 (hj.trans hk.symm))
          rw [if_neg hne, ← h3 j K hj]
          unfold lget
          simp only [List.getD_eq_getElem?_getD]
          rw [List.getElem?_set_ne (by omega)]
      · by_cases e : c = n
        · subst e; exact List.mem_of_getElem? hk
        · exact h4 c (by omega)
      · obtain ⟨c, a, b⟩ := h5 K hK
        exact ⟨c, by omega, b⟩
    | none =>
      rw [hf] at hs
      simp only at hs
      have hno := fndK_no hf
      rw [hs]
      refine ⟨?_, by simp [h2], fun j K hj => ?_, fun c hc => ?_, fun K hK => ?_⟩
      · rw [List.nodup_append]
        refine ⟨h1, by simp, fun a ha b hb => ?_⟩
        simp at hb; subst hb
        intro e; subst e; exact hno ha
      · rw [sideL_succ]
        by_cases e : j < (gF ps n).1.length
        · rw [List.getElem?_append_left e] at hj
          have hne : keyS ps n ≠ K := fun e2 => by subst e2; exact hno (List.mem_of_getElem? hj)
          rw [if_neg hne, ← h3 j K hj]
          unfold lget
          simp only [List.getD_eq_getElem?_getD]
          rw [List.getElem?_append_left (by omega)]
        · rw [List.getElem?_append_right (by omega)] at hj
          have hj0 : j = (gF ps n).1.length := by
            have := (List.getElem?_eq_some_iff.1 hj).1
            simp at this; omega
          subst hj0
          rw [Nat.sub_self] at hj
          have hKK : keyS ps n = K := by simpa using hj
          rw [if_pos hKK]
          have hnil : sideL ps K n = [] := by
            cases hl : sideL ps K n with
            | nil => rfl
            | cons a r =>
              have : a ∈ sideL ps K n := by rw [hl]; simp
              obtain ⟨ha, hb⟩ := mem_sideL.1 this
              have := h4 a ha
              rw [hb, ← hKK] at this
              exact absurd this hno
          rw [hnil]
          unfold lget
          simp only [List.getD_eq_getElem?_getD]
          rw [List.getElem?_append_right (by omega), h2, Nat.sub_self]
          rfl
      · by_cases e : c = n
        · subst e; simp
        · exact List.mem_append_left _ (h4 c (by omega))
      · rcases List.mem_append.1 hK with h | h
        · obtain ⟨c, a, b⟩ := h5 K h
          exact ⟨c, by omega, b⟩
        · simp at h; exact ⟨n, by omega, h.symm⟩

/-- neighbouring corners have different vertices -/
def AdjNe (ps : List (List Int)) : Prop := ∀ c, c < lenSS ps → vtx ps c ≠ vtx ps (nxP ps c)
theorem adjNe_of {n : Int} {ps : List (List Int)} (ok : PsOk n ps) : AdjNe ps := fun c hc => by
  obtain ⟨k, i, h1, h2, rfl⟩ := corner_of ps c hc
  have hp := ok.poly k h1
  unfold polyOk at hp
  simp only [Bool.and_eq_true, List.all_eq_true, List.mem_range, polyAt, decide_eq_true_eq] at hp
  have h3 := (hp.2 i h2).2
  rw [nxP_at ps k i h1 h2]
  unfold vtx
  rw [flat_at ps k i h1 h2, flat_at ps k _ h1 (Nat.mod_lt _ (by omega))]
  simpa using h3
/-- the two flags of a side, from its lesser vertex -/
def nA (ps : List (List Int)) (c : Nat) : Nat := if vtx ps (nxP ps c) < vtx ps c then 2 * nxP ps c + 1 else 2 * c
def nB (ps : List (List Int)) (c : Nat) : Nat := if vtx ps (nxP ps c) < vtx ps c then 2 * c else 2 * nxP ps c + 1
theorem nrmS_eq (ps : List (List Int)) (c : Nat) : nrmS ps c = ((nA ps c : Int), (nB ps c : Int)) := by
  unfold nrmS nA nB
  split <;> rfl
def sdO (ps : List (List Int)) (f : Nat) : Nat := if f % 2 = 0 then f / 2 else pvP ps (f / 2)
section
variable {ps : List (List Int)}
theorem sdO_lt {f : Nat} (h : f < 2 * lenSS ps) : sdO ps f < lenSS ps := by
  unfold sdO
  split
  · omega
  · exact pvP_lt (by omega)
theorem sd_AB {f : Nat} (h : f < 2 * lenSS ps) : f = nA ps (sdO ps f) ∨ f = nB ps (sdO ps f) := by
  unfold sdO
  split
  · rename_i e
    unfold nA nB
    split
    · right; omega
    · left; omega
  · rename_i e
    have hn := nx_pv (ps := ps) (c := f / 2) (by omega)
    unfold nA nB
    rw [hn]
    split
    · left; omega
    · right; omega
theorem sdO_A {c : Nat} (h : c < lenSS ps) : sdO ps (nA ps c) = c := by
  have hp := pv_nx h
  unfold nA sdO
  split
  · rw [if_neg (by omega), show (2 * nxP ps c + 1) / 2 = nxP ps c by omega, hp]
  · rw [if_pos (by omega)]; omega
theorem sdO_B {c : Nat} (h : c < lenSS ps) : sdO ps (nB ps c) = c := by
  have hp := pv_nx h
  unfold nB sdO
  split
  · rw [if_pos (by omega)]; omega
  · rw [if_neg (by omega), show (2 * nxP ps c + 1) / 2 = nxP ps c by omega, hp]
theorem nA_lt {c : Nat} (h : c < lenSS ps) : nA ps c < 2 * lenSS ps := by
  have := nxP_lt h
  unfold nA; split <;> omega
theorem nB_lt {c : Nat} (h : c < lenSS ps) : nB ps c < 2 * lenSS ps := by
  have := nxP_lt h
  unfold nB; split <;> omega
theorem nA_ne (c : Nat) : nA ps c ≠ nB ps c := by unfold nA nB; split <;> omega
theorem own_even {c : Nat} (h : c < lenSS ps) : iget (ownL ps (lenSS ps)) (2 * c) = vtx ps c ∧ iget (othL ps (lenSS ps)) (2 * c) = vtx ps (nxP ps c) :=
  ⟨(dupL_get _ _ _ c h).1, (dupL_get _ _ _ c h).1⟩
theorem own_odd {c : Nat} (h : c < lenSS ps) : iget (ownL ps (lenSS ps)) (2 * c + 1) = vtx ps c ∧ iget (othL ps (lenSS ps)) (2 * c + 1) = vtx ps (pvP ps c) :=
  ⟨(dupL_get _ _ _ c h).2, (dupL_get _ _ _ c h).2⟩
theorem own_A {c : Nat} (h : c < lenSS ps) : iget (ownL ps (lenSS ps)) (nA ps c) = (keyS ps c).1 ∧ iget (othL ps (lenSS ps)) (nA ps c) = (keyS ps c).2 := by
  have hp := pv_nx h
  have a := own_even h
  have b := own_odd (nxP_lt h)
  rw [hp] at b
  unfold nA keyS
  split
  · exact b
  · exact a
theorem own_B {c : Nat} (h : c < lenSS ps) : iget (ownL ps (lenSS ps)) (nB ps c) = (keyS ps c).2 ∧ iget (othL ps (lenSS ps)) (nB ps c) = (keyS ps c).1 := by
  have hp := pv_nx h
  have a := own_even h
  have b := own_odd (nxP_lt h)
  rw [hp] at b
  unfold nB keyS
  split
  · exact a
  · exact b
theorem key_lt (hA : AdjNe ps) {c : Nat} (h : c < lenSS ps) : (keyS ps c).1 < (keyS ps c).2 := by
  have := hA c h
  unfold keyS
  split
  · assumption
  · show vtx ps c < vtx ps (nxP ps c)
    omega
theorem fndB_A (hA : AdjNe ps) {s g : Nat} (hs : s < lenSS ps) (hg : g < 2 * lenSS ps) : fndB ps (lenSS ps) (nA ps s) g = true ↔ ∃ t, t < lenSS ps ∧ t ≠ s ∧ keyS ps t = keyS ps s ∧ g = nA ps t := by
  obtain ⟨a1, a2⟩ := own_A hs
  unfold fndB
  simp only [Bool.and_eq_true, beq_iff_eq, Bool.not_eq_true', beq_eq_false_iff_ne, ne_eq, a1, a2]
  constructor
  · rintro ⟨⟨h1, h2⟩, h3⟩
    have hl := sdO_lt hg
    rcases sd_AB hg with e | e
    · obtain ⟨b1, b2⟩ := own_A hl
      rw [← e] at b1 b2
      refine ⟨sdO ps g, hl, fun e2 => h1 ?_, Prod.ext (b1.symm.trans h2) (b2.symm.trans h3), e⟩
      rw [e2] at e; rw [e]
    · obtain ⟨b1, b2⟩ := own_B hl
      rw [← e] at b1 b2
      have := key_lt hA hl
      have := key_lt hA hs
      rw [b1] at h2; rw [b2] at h3
      omega
  · rintro ⟨t, h1, h2, h3, rfl⟩
    obtain ⟨b1, b2⟩ := own_A h1
    rw [b1, b2, h3]
    refine ⟨⟨fun e => h2 ?_, rfl⟩, rfl⟩
    have e2 : nA ps t = nA ps s := by omega
    rw [← sdO_A h1, e2, sdO_A hs]
theorem fndB_B (hA : AdjNe ps) {s g : Nat} (hs : s < lenSS ps) (hg : g < 2 * lenSS ps) : fndB ps (lenSS ps) (nB ps s) g = true ↔ ∃ t, t < lenSS ps ∧ t ≠ s ∧ keyS ps t = keyS ps s ∧ g = nB ps t := by
  obtain ⟨a1, a2⟩ := own_B hs
  unfold fndB
  simp only [Bool.and_eq_true, beq_iff_eq, Bool.not_eq_true', beq_eq_false_iff_ne, ne_eq, a1, a2]
  constructor
  · rintro ⟨⟨h1, h2⟩, h3⟩
    have hl := sdO_lt hg
    rcases sd_AB hg with e | e
    · obtain ⟨b1, b2⟩ := own_A hl
      rw [← e] at b1 b2
      have := key_lt hA hl
      have := key_lt hA hs
      rw [b1] at h2; rw [b2] at h3
      omega
    · obtain ⟨b1, b2⟩ := own_B hl
      rw [← e] at b1 b2
      refine ⟨sdO ps g, hl, fun e2 => h1 ?_, Prod.ext (b2.symm.trans h3) (b1.symm.trans h2), e⟩
      rw [e2] at e; rw [e]
  · rintro ⟨t, h1, h2, h3, rfl⟩
    obtain ⟨b1, b2⟩ := own_B h1
    rw [b1, b2, h3]
    refine ⟨⟨fun e => h2 ?_, rfl⟩, rfl⟩
    have e2 : nB ps t = nB ps s := by omega
    rw [← sdO_B h1, e2, sdO_B hs]
theorem fndL_filter (N f : Nat) : ∀ m, fndL ps N f m = ((List.range m).filter (fndB ps N f)).map (fun (g : Nat) => (g : Int))
  | 0 => rfl
  | m + 1 => by
    have e : fndL ps N f (m + 1) = if fndB ps N f m = true then fndL ps N f m ++ [(m : Int)] else fndL ps N f m := rfl
    rw [e, List.range_succ, List.filter_append, List.map_append, ← fndL_filter N f m]
    split
    · rename_i h; simp [h]
    · rename_i h; simp [h]
/-- side t is the only other one with the key of s -/
def Mate (ps : List (List Int)) (s t : Nat) : Prop := t < lenSS ps ∧ t ≠ s ∧ keyS ps t = keyS ps s ∧ ∀ u, u < lenSS ps → u ≠ s → keyS ps u = keyS ps s → u = t
theorem fndL_A (hA : AdjNe ps) {s t : Nat} (hs : s < lenSS ps) (h : Mate ps s t) : fndL ps (lenSS ps) (nA ps s) (2 * lenSS ps) = [(nA ps t : Int)] := by
  obtain ⟨h1, h2, h3, h4⟩ := h
  rw [fndL_filter, filter_one_ ((fndB_A hA hs (nA_lt h1)).2 ⟨t, h1, h2, h3, rfl⟩) _ (nA_lt h1) fun g hg hp => by
    obtain ⟨u, a, b, c, d⟩ := (fndB_A hA hs hg).1 hp
    rw [d, h4 u a b c]]
  rfl
theorem fndL_B (hA : AdjNe ps) {s t : Nat} (hs : s < lenSS ps) (h : Mate ps s t) : fndL ps (lenSS ps) (nB ps s) (2 * lenSS ps) = [(nB ps t : Int)] := by
  obtain ⟨h1, h2, h3, h4⟩ := h
  rw [fndL_filter, filter_one_ ((fndB_B hA hs (nB_lt h1)).2 ⟨t, h1, h2, h3, rfl⟩) _ (nB_lt h1) fun g hg hp => by
    obtain ⟨u, a, b, c, d⟩ := (fndB_B hA hs hg).1 hp
    rw [d, h4 u a b c]]
  rfl
theorem mate_of (hA : AdjNe ps) {s : Nat} (hs : s < lenSS ps) (h : (fndL ps (lenSS ps) (nA ps s) (2 * lenSS ps)).length = 1) : ∃ t, Mate ps s t := by
  rw [fndL_filter, List.length_map] at h
  obtain ⟨g, hg⟩ := List.length_eq_one_iff.1 h
  have hm : ∀ x, x ∈ (List.range (2 * lenSS ps)).filter (fndB ps (lenSS ps) (nA ps s)) ↔ x = g := fun x => by rw [hg]; simp
  have h0 := (hm g).2 rfl
  rw [List.mem_filter, List.mem_range] at h0
  obtain ⟨t, a, b, c, d⟩ := (fndB_A hA hs h0.1).1 h0.2
  refine ⟨t, a, b, c, fun u hu hus hk => ?_⟩
  have hu2 := (hm (nA ps u)).1 (by rw [List.mem_filter, List.mem_range]; exact ⟨nA_lt hu, (fndB_A hA hs (nA_lt hu)).2 ⟨u, hu, hus, hk, rfl⟩⟩)
  rw [← sdO_A hu, hu2, d, sdO_A a]
theorem sideL_two {s t : Nat} (hs : s < lenSS ps) (h : Mate ps s t) : (sideL ps (keyS ps s) (lenSS ps)).length = 2 := by
  obtain ⟨h1, h2, h3, h4⟩ := h
  exact filter_pair (p := fun c => decide (keyS ps c = keyS ps s)) (g := s) (k := t) (by simp) (by simp [h3]) (fun e => h2 e.symm) hs h1 fun u hu hp => by
    by_cases e : u = s
    · exact .inl e
    · exact .inr (h4 u hu e (by simpa using hp))
theorem mate_two {s : Nat} (hs : s < lenSS ps) (h : (sideL ps (keyS ps s) (lenSS ps)).length = 2) : ∃ t, Mate ps s t := by
  obtain ⟨a, b, hab⟩ := len_two_ h
  have hm : ∀ x, x ∈ sideL ps (keyS ps s) (lenSS ps) ↔ x = a ∨ x = b := fun x => by rw [hab]; simp
  have hnd : (sideL ps (keyS ps s) (lenSS ps)).Nodup := by unfold sideL; exact List.Pairwise.filter _ List.nodup_range
  rw [hab] at hnd
  have hne : a ≠ b := by simpa using hnd
  have h0 := (hm s).1 (mem_sideL.2 ⟨hs, rfl⟩)
  rcases h0 with rfl | rfl
  · have hb := mem_sideL.1 ((hm b).2 (.inr rfl))
    exact ⟨b, hb.1, fun e => hne e.symm, hb.2, fun u hu hus hk => by rcases (hm u).1 (mem_sideL.2 ⟨hu, hk⟩) with e | e; exact absurd e hus; exact e⟩
  · have hb := mem_sideL.1 ((hm a).2 (.inl rfl))
    exact ⟨a, hb.1, hne, hb.2, fun u hu hus hk => by rcases (hm u).1 (mem_sideL.2 ⟨hu, hk⟩) with e | e; exact e; exact absurd e hus⟩
/-- some key does not have two sides: no map -/
theorem good_no (hA : AdjNe ps) {m : Nat} (hm : m < (gF ps (lenSS ps)).2.length) (h : (lget (gF ps (lenSS ps)).2 m).length ≠ 2) : mpGood ps = false := by
  have g := gF_ok ps (lenSS ps)
  have hm1 : m < (gF ps (lenSS ps)).1.length := by rw [← g.len]; exact hm
  have hK := List.getElem?_eq_getElem hm1
  obtain ⟨c, hc, hk⟩ := g.some_ _ (List.getElem_mem hm1)
  have he := g.el m _ hK
  rw [he, List.length_map, ← hk] at h
  refine goodUp_no (f := nA ps c) (nA_lt hc) fun e => ?_
  obtain ⟨t, ht⟩ := mate_of hA hc e
  exact h (sideL_two hc ht)
/-- every key has two sides: a map -/
theorem good_yes (hA : AdjNe ps) (h : ∀ m, m < (gF ps (lenSS ps)).2.length → (lget (gF ps (lenSS ps)).2 m).length = 2) : (∀ s, s < lenSS ps → ∃ t, Mate ps s t) ∧ mpGood ps = true := by
  have g := gF_ok ps (lenSS ps)
  have h1 : ∀ s, s < lenSS ps → ∃ t, Mate ps s t := fun s hs => by
    have := g.all s hs
    obtain ⟨m, hm, hme⟩ := List.getElem_of_mem this
    have hK : (gF ps (lenSS ps)).1[m]? = some (keyS ps s) := by rw [List.getElem?_eq_getElem hm, hme]
    have h2 := h m (by rw [g.len]; exact hm)
    rw [g.el m _ hK, List.length_map] at h2
    exact mate_two hs h2
  refine ⟨h1, ?_⟩
  unfold mpGood goodUp
  rw [List.all_eq_true]
  intro f hf
  rw [List.mem_range] at hf
  rw [decide_eq_true_eq]
  obtain ⟨t, ht⟩ := h1 _ (sdO_lt hf)
  rcases sd_AB hf with e | e
  · rw [e, fndL_A hA (sdO_lt hf) ht]; rfl
  · rw [e, fndL_B hA (sdO_lt hf) ht]; rfl
/-- the sides of a key with two sides are the partners of each other -/
structure P2 (z : List Int) (l : List (Int × Int)) : Prop where
  ex : ∃ x y x' y' : Nat, l = [((x : Int), (y : Int)), ((x' : Int), (y' : Int))] ∧ iget z x = (x' : Int) ∧ iget z x' = (x : Int) ∧ iget z y = (y' : Int) ∧ iget z y' = (y : Int)
theorem sideL_mem2 {K : Int × Int} {a b : Nat} (h : sideL ps K (lenSS ps) = [a, b]) : (a < lenSS ps ∧ keyS ps a = K) ∧ (b < lenSS ps ∧ keyS ps b = K) ∧ a ≠ b := by
  have hnd : (sideL ps K (lenSS ps)).Nodup := by unfold sideL; exact List.Pairwise.filter _ List.nodup_range
  refine ⟨mem_sideL.1 (by rw [h]; simp), mem_sideL.1 (by rw [h]; simp), ?_⟩
  rw [h] at hnd; simpa using hnd
/-- all keys have their two sides, and the move leads from one to the other: it is the second move -/
theorem mpTwo_of (hA : AdjNe ps) {z : List Int} (hz : z.length = 2 * lenSS ps) (h : ∀ m, m < (gF ps (lenSS ps)).2.length → P2 z (lget (gF ps (lenSS ps)).2 m)) : z = twoL ps (lenSS ps) (2 * lenSS ps) ∧ mpGood ps = true := by
  have g := gF_ok ps (lenSS ps)
  obtain ⟨hmate, hgood⟩ := good_yes hA fun m hm => by
    obtain ⟨x, y, x', y', e, _⟩ := (h m hm).ex
    rw [e]; rfl
  refine ⟨?_, hgood⟩
  have htw : ∀ F f, f < F → iget (twoL ps (lenSS ps) F) f = iget (fndL ps (lenSS ps) f (2 * lenSS ps)) 0 := by
    intro F
    induction F with
    | zero => intro f hf; omega
    | succ F ih =>
      intro f hf
      have hl := twoL_len ps (lenSS ps) F
      unfold twoL
      by_cases e : f = F
      · subst e
        conv => lhs; unfold iget
        rw [List.getD_eq_getElem?_getD, List.getElem?_append_right (by omega), hl, Nat.sub_self]; rfl
      · rw [← ih f (by omega)]
        conv => lhs; unfold iget
        rw [List.getD_eq_getElem?_getD, List.getElem?_append_left (by omega), ← List.getD_eq_getElem?_getD]; rfl
  refine iget_ext (by rw [hz, twoL_len]) fun f hf => ?_
  rw [hz] at hf
  rw [htw _ f hf]
  have hs := sdO_lt hf
  obtain ⟨t, ht⟩ := hmate _ hs
  obtain ⟨m, hm, hme⟩ := List.getElem_of_mem (g.all _ hs)
  have hK : (gF ps (lenSS ps)).1[m]? = some (keyS ps (sdO ps f)) := by rw [List.getElem?_eq_getElem hm, hme]
  obtain ⟨x, y, x', y', e, e1, e2, e3, e4⟩ := (h m (by rw [g.len]; exact hm)).ex
  rw [g.el m _ hK] at e
  have hab : ∃ a b, sideL ps (keyS ps (sdO ps f)) (lenSS ps) = [a, b] := len_two_ (by have := congrArg List.length e; simpa using this)
  obtain ⟨a, b, hab⟩ := hab
  obtain ⟨⟨ha, hka⟩, ⟨hb, hkb⟩, hne⟩ := sideL_mem2 hab
  rw [hab] at e
  simp only [List.map_cons, List.map_nil, nrmS_eq, List.cons.injEq, Prod.mk.injEq, and_true] at e
  obtain ⟨⟨p1, p2⟩, p3, p4⟩ := e
  obtain rfl : nA ps a = x := by omega
  obtain rfl : nB ps a = y := by omega
  obtain rfl : nA ps b = x' := by omega
  obtain rfl : nB ps b = y' := by omega
  have hf' := mem_sideL.2 (⟨hs, rfl⟩ : sdO ps f < lenSS ps ∧ keyS ps (sdO ps f) = keyS ps (sdO ps f))
  rw [hab] at hf'
  have hcase : (sdO ps f = a ∧ t = b) ∨ (sdO ps f = b ∧ t = a) := by
    simp at hf'
    rcases hf' with q | q
    · refine .inl ⟨q, ?_⟩
      rw [q] at ht hkb
      exact (ht.2.2.2 b hb (fun e => hne e.symm) hkb).symm
    · refine .inr ⟨q, ?_⟩
      rw [q] at ht hka
      exact (ht.2.2.2 a ha hne hka).symm
  rcases sd_AB hf with q | q
  · have hF := fndL_A hA hs ht
    rw [← q] at hF
    rw [hF]
    rcases hcase with ⟨q1, q2⟩ | ⟨q1, q2⟩
    · rw [q, q1, q2, e1]; rfl
    · rw [q, q1, q2, e2]; rfl
  · have hF := fndL_B hA hs ht
    rw [← q] at hF
    rw [hF]
    rcases hcase with ⟨q1, q2⟩ | ⟨q1, q2⟩
    · rw [q, q1, q2, e3]; rfl
    · rw [q, q1, q2, e4]; rfl
/-- the moves of sides are the zeroth move -/
theorem z0F_len (N : Nat) : ∀ c, (z0F ps N c).length = 2 * N
  | 0 => by simp [z0F]
  | c + 1 => by simp [z0F, z0F_len N c]
theorem iget_setE {z : List Int} {k : Nat} {x : Int} (h : k < z.length) : iget (z.set k x) k = x := by
  unfold iget; rw [List.getD_eq_getElem?_getD, List.getElem?_set_self h]; rfl
theorem iget_setN {z : List Int} {k j : Nat} {x : Int} (h : k ≠ j) : iget (z.set k x) j = iget z j := by
  unfold iget; rw [List.getD_eq_getElem?_getD, List.getElem?_set_ne h, ← List.getD_eq_getElem?_getD]
theorem z0F_get : ∀ c, c ≤ lenSS ps → ∀ d, d < c → iget (z0F ps (lenSS ps) c) (2 * d) = ((2 * nxP ps d + 1 : Nat) : Int) ∧ iget (z0F ps (lenSS ps) c) (2 * nxP ps d + 1) = ((2 * d : Nat) : Int)
  | 0, _, d, h => by omega
  | c + 1, hc, d, hd => by
    have hl := z0F_len (ps := ps) (lenSS ps) c
    have hn := nxP_lt (ps := ps) (c := c) (by omega)
    unfold z0F
    by_cases e : d = c
    · subst e
      exact ⟨by rw [iget_setN (by omega), iget_setE (by omega)], by rw [iget_setE (by rw [List.length_set]; omega)]⟩
    · obtain ⟨h1, h2⟩ := z0F_get c (by omega) d (by omega)
      have hne : nxP ps c ≠ nxP ps d := fun q => e (by rw [← pv_nx (ps := ps) (c := d) (by omega), ← q, pv_nx (by omega)])
      exact ⟨by rw [iget_setN (by omega), iget_setN (by omega), h1], by rw [iget_setN (by omega), iget_setN (by omega), h2]⟩
theorem z0F_zer : z0F ps (lenSS ps) (lenSS ps) = zerL ps (lenSS ps) := by
  refine iget_ext (by rw [z0F_len]; exact (dupL_len _ _ _).symm) fun k hk => ?_
  rw [z0F_len] at hk
  obtain ⟨a, b⟩ := dupL_get (fun c => ((2 * nxP ps c + 1 : Nat) : Int)) (fun c => ((2 * pvP ps c : Nat) : Int)) (lenSS ps) (k / 2) (by omega)
  by_cases e : k % 2 = 0
  · have h1 := (z0F_get (lenSS ps) (Nat.le_refl _) (k / 2) (by omega)).1
    rw [show 2 * (k / 2) = k by omega] at h1 a
    rw [h1]; exact a.symm
  · have hp := pvP_lt (ps := ps) (c := k / 2) (by omega)
    have h2 := (z0F_get (lenSS ps) (Nat.le_refl _) _ hp).2
    rw [nx_pv (by omega), show 2 * (k / 2) + 1 = k by omega] at h2
    rw [show 2 * (k / 2) + 1 = k by omega] at b
    rw [h2]; exact b.symm
end
end Go.Proofs.Ytpognnifgcacnaa

/- Maps of polygons: the loop over the map from sides to their flags. -/
namespace Go.Proofs.Ytpognnifgcacnaa
open Go.RowKit

theorem implManQ {E1 E : Nat} {lo hi : Nat} {v : Value} {d : List (List Int)} (w : World) (h : OwM E1 E w lo hi v d) (h1 : d.length ≤ 1048576) (h2 : ∀ i, i < d.length → (lget d i).length ≤ 1048576) :
    Calls Try.prog 114 #[v] w fun e w' => e = .returned (.bool (manB d)) ∧ Below w.heap.size w w' := one_val (callM (fun _ => manI_fc d h1 h2) h)
/-- the list of a key with two sides -/
theorem two_sides {ps : List (List Int)} {m : Nat} {l : List (Int × Int)} (hm : m < (gF ps (lenSS ps)).2.length) (hl : lget (gF ps (lenSS ps)).2 m = l) (h2 : l.length = 2) :
    ∃ a b : Nat, a ≠ b ∧ a < lenSS ps ∧ b < lenSS ps ∧ (gF ps (lenSS ps)).1[m]? = some (keyS ps a) ∧ keyS ps b = keyS ps a ∧ l = [((nA ps a : Int), (nB ps a : Int)), ((nA ps b : Int), (nB ps b : Int))] := by
  have g := gF_ok ps (lenSS ps)
  have hm1 : m < (gF ps (lenSS ps)).1.length := by rw [← g.len]; exact hm
  have hK := List.getElem?_eq_getElem hm1
  have he := g.el m _ hK
  rw [hl] at he
  have h3 := congrArg List.length he
  rw [List.length_map, h2] at h3
  obtain ⟨a, b, hab⟩ := len_two_ h3.symm
  obtain ⟨⟨ha, hka⟩, ⟨hb, hkb⟩, hne⟩ := sideL_mem2 hab
  refine ⟨a, b, hne, ha, hb, by rw [hK, hka], by rw [hka, hkb], ?_⟩
  rw [he, hab]
  simp [nrmS_eq]
def zSt (z : List Int) (x x' : Nat) : List Int := (z.set x (x' : Int)).set x' (x : Int)
theorem zSt_len (z : List Int) (x x' : Nat) : (zSt z x x').length = z.length := by simp [zSt]
theorem zSt_far {z : List Int} {x x' f : Nat} (h1 : f ≠ x) (h2 : f ≠ x') : iget (zSt z x x') f = iget z f := by
  unfold zSt; rw [iget_setN (by omega), iget_setN (by omega)]
theorem zSt_one {z : List Int} {x x' : Nat} (h : x ≠ x') (hx : x < z.length) : iget (zSt z x x') x = (x' : Int) := by
  unfold zSt; rw [iget_setN (by omega), iget_setE hx]
theorem zSt_two {z : List Int} {x x' : Nat} (hx : x' < z.length) : iget (zSt z x x') x' = (x : Int) := by
  unfold zSt; rw [iget_setE (by rw [List.length_set]; exact hx)]
section
variable {ps : List (List Int)}
theorem nA_inj {a b : Nat} (ha : a < lenSS ps) (hb : b < lenSS ps) (h : a ≠ b) : nA ps a ≠ nA ps b := fun e => h (by rw [← sdO_A ha, e, sdO_A hb])
theorem nB_inj {a b : Nat} (ha : a < lenSS ps) (hb : b < lenSS ps) (h : a ≠ b) : nB ps a ≠ nB ps b := fun e => h (by rw [← sdO_B ha, e, sdO_B hb])
theorem nAB_ne {a b : Nat} (ha : a < lenSS ps) (hb : b < lenSS ps) : nA ps a ≠ nB ps b := fun e => by
  by_cases h : a = b
  · subst h; exact nA_ne a e
  · exact h (by rw [← sdO_A ha, e, sdO_B hb])
/-- the two moves of a list are laid -/
theorem P2.new {z : List Int} (hz : z.length = 2 * lenSS ps) {a b : Nat} (hab : a ≠ b) (ha : a < lenSS ps) (hb : b < lenSS ps) :
    P2 (zSt (zSt z (nA ps a) (nA ps b)) (nB ps a) (nB ps b)) [((nA ps a : Int), (nB ps a : Int)), ((nA ps b : Int), (nB ps b : Int))] := by
  have h1 := nA_inj ha hb hab
  have h2 := nB_inj ha hb hab
  have l1 := nA_lt ha; have l2 := nA_lt hb; have l3 := nB_lt ha; have l4 := nB_lt hb
  refine ⟨_, _, _, _, rfl, ?_, ?_, ?_, ?_⟩
  · rw [zSt_far (nAB_ne ha ha) (nAB_ne ha hb), zSt_one h1 (by omega)]
  · rw [zSt_far (nAB_ne hb ha) (nAB_ne hb hb), zSt_two (by omega)]
  · rw [zSt_one h2 (by rw [zSt_len]; omega)]
  · rw [zSt_two (by rw [zSt_len]; omega)]
/-- the lists of other keys stay laid -/
theorem P2.keep {z : List Int} {a b m : Nat} (ha : a < lenSS ps) (hb : b < lenSS ps) (hkb : keyS ps b = keyS ps a) (hm : m < (gF ps (lenSS ps)).2.length) (hK : (gF ps (lenSS ps)).1[m]? ≠ some (keyS ps a)) (h : P2 z (lget (gF ps (lenSS ps)).2 m)) :
    P2 (zSt (zSt z (nA ps a) (nA ps b)) (nB ps a) (nB ps b)) (lget (gF ps (lenSS ps)).2 m) := by
  obtain ⟨x, y, x', y', e, e1, e2, e3, e4⟩ := h.ex
  obtain ⟨c, d, hcd, hc, hd, hkc, hkd, e'⟩ := two_sides hm e rfl
  have hne : keyS ps c ≠ keyS ps a := fun q => hK (by rw [hkc, q])
  simp only [List.cons.injEq, Prod.mk.injEq, and_true] at e'
  obtain ⟨⟨p1, p2⟩, p3, p4⟩ := e'
  obtain rfl : x = nA ps c := by omega
  obtain rfl : y = nB ps c := by omega
  obtain rfl : x' = nA ps d := by omega
  obtain rfl : y' = nB ps d := by omega
  have q1 : c ≠ a := fun q => hne (by rw [q])
  have q2 : c ≠ b := fun q => hne (by rw [q, hkb])
  have q3 : d ≠ a := fun q => hne (by rw [← hkd, q])
  have q4 : d ≠ b := fun q => hne (by rw [← hkd, q, hkb])
  refine ⟨_, _, _, _, e, ?_, ?_, ?_, ?_⟩
  · rw [zSt_far (nAB_ne hc ha) (nAB_ne hc hb), zSt_far (nA_inj hc ha q1) (nA_inj hc hb q2), e1]
  · rw [zSt_far (nAB_ne hd ha) (nAB_ne hd hb), zSt_far (nA_inj hd ha q3) (nA_inj hd hb q4), e2]
  · rw [zSt_far (nB_inj hc ha q1) (nB_inj hc hb q2), zSt_far (fun q => nAB_ne ha hc q.symm) (fun q => nAB_ne hb hc q.symm), e3]
  · rw [zSt_far (nB_inj hd ha q3) (nB_inj hd hb q4), zSt_far (fun q => nAB_ne ha hd q.symm) (fun q => nAB_ne hb hd q.symm), e4]
end
def zK (z : List Int) (x x' y y' : Nat) : Nat → List Int
  | 0 => z
  | 1 => zSt z x x'
  | _ => zSt (zSt z x x') y y'
theorem zK_step {z : List Int} {x x' y y' k : Nat} (hk : k < 2) : zK z x x' y y' (k + 1) = zSt (zK z x x' y y' k) (if k = 0 then x else y) (if k = 0 then x' else y') := by
  match k, hk with
  | 0, _ => rfl
  | 1, _ => rfl
/-- the entries that are seen are laid -/
def SN (ps : List (List Int)) (es : Array MapEntry) (seen : Array Nat) (z : List Int) : Prop := ∀ (m : Nat) (e : MapEntry), es.toList[m]? = some e → seen.contains e.born = true → P2 z (lget (gF ps (lenSS ps)).2 m)
theorem SN.push {ps : List (List Int)} {es : Array MapEntry} {seen : Array Nat} {z : List Int} (h : SN ps es seen z) (hz : z.length = 2 * lenSS ps) (hnd : (es.toList.map (·.born)).Nodup) (hlen : es.toList.length = (gF ps (lenSS ps)).2.length)
    {m : Nat} {e : MapEntry} (he : es.toList[m]? = some e) {a b : Nat} (hab : a ≠ b) (ha : a < lenSS ps) (hb : b < lenSS ps) (hK : (gF ps (lenSS ps)).1[m]? = some (keyS ps a)) (hkb : keyS ps b = keyS ps a)
    (hl : lget (gF ps (lenSS ps)).2 m = [((nA ps a : Int), (nB ps a : Int)), ((nA ps b : Int), (nB ps b : Int))]) :
    SN ps es (seen.push e.born) (zSt (zSt z (nA ps a) (nA ps b)) (nB ps a) (nB ps b)) := fun m' e' he' hs => by
  by_cases hmm : m' = m
  · subst hmm; rw [hl]; exact P2.new hz hab ha hb
  · have g := gF_ok ps (lenSS ps)
    have hm' : m' < (gF ps (lenSS ps)).2.length := by rw [← hlen]; exact (List.getElem?_eq_some_iff.1 he').1
    rw [contains_push] at hs
    have hne : (e'.born == e.born) = false := by
      cases hc : e'.born == e.born with
      | false => rfl
      | true =>
        have h1 : (es.toList.map (·.born))[m']? = some e'.born := by rw [List.getElem?_map, he']; rfl
        have h2 : (es.toList.map (·.born))[m]? = some e.born := by rw [List.getElem?_map, he]; rfl
        rw [beq_iff_eq.1 hc, ← h2] at h1
        exact absurd ((List.getElem?_inj (by rw [List.length_map]; omega) hnd).1 h1) hmm
    rw [hne, Bool.or_false] at hs
    refine P2.keep ha hb hkb hm' (fun q => hmm ?_) (h m' e' he' hs)
    exact (List.getElem?_inj (by rw [← g.len]; exact hm') g.nd).1 (q.trans hK.symm)
theorem left_none {es : Array MapEntry} {seen : Array Nat} (h : (leftOf es seen).size = 0) {e : MapEntry} (he : e ∈ es.toList) : seen.contains e.born = true := by
  cases hc : seen.contains e.born with
  | true => rfl
  | false =>
    have h1 : e ∈ leftOf es seen := Array.mem_filter.2 ⟨Array.mem_toList_iff.1 he, by rw [hc]; rfl⟩
    have := Array.size_pos_of_mem h1
    omega
theorem SN.all {ps : List (List Int)} (hA : AdjNe ps) {es : Array MapEntry} {seen : Array Nat} {z : List Int} (h : SN ps es seen z) (hz : z.length = 2 * lenSS ps) (hlen : es.toList.length = (gF ps (lenSS ps)).2.length) (h0 : (leftOf es seen).size = 0) :
    z = twoL ps (lenSS ps) (2 * lenSS ps) ∧ mpGood ps = true :=
  mpTwo_of hA hz fun m hm => by
    have hm2 : m < es.toList.length := by rw [hlen]; exact hm
    exact h m _ (List.getElem?_eq_getElem hm2) (left_none h0 (List.getElem_mem hm2))
/-- the state of the loop -/
structure ES (wB wi : World) (g0 r0 r1 r2 N mb ib clock : Nat) (es : Array MapEntry) (ps : List (List Int)) (us : List Value) (seen : Array Nat) (c0 : Nat) (z2 : List Int) : Prop where
  ms : MS wB wi g0 r0 r1 r2 (2 * N) (zerL ps N) (oneL N) z2
  mp : wi.heap[mb]? = some (.map es clock)
  it : wi.heap[ib]? = some (.mapIter (some mb) clock seen c0)
  ol : OwL (OwTs 171) wi (mb + 1) us (gF ps N).2
  up : ∀ (j : Nat) (u : Value) (g : Nat), us[j]? = some u → u.ownBlock = some g → g < ib
  lt : wB.heap.size + 4 ≤ mb ∧ mb < ib
  cl : clock ≤ c0
section
variable {wB wi : World} {g0 r0 r1 r2 N mb ib clock : Nat} {es : Array MapEntry} {ps : List (List Int)} {us : List Value} {seen : Array Nat} {c0 : Nat} {z2 : List Int}
theorem ES.sz (h : ES wB wi g0 r0 r1 r2 N mb ib clock es ps us seen c0 z2) : ib < wi.heap.size := (Array.getElem?_eq_some_iff.1 h.it).1
theorem ES.start (h : DS wB wi g0 r0 r1 r2 N mb ps N us) (hN : N = lenSS ps) (hmb : wB.heap.size + 4 ≤ mb) (hm : wi.heap[mb]? = some (.map es clock)) : ES wB (wi.alloc (.mapIter (some mb) clock #[] clock)) g0 r0 r1 r2 N mb wi.heap.size clock es ps us #[] clock (List.replicate (2 * N) 0) := by
  have hb := below_alloc1 wi (.mapIter (some mb) clock #[] clock)
  have hlt := h.mg.lt
  refine ⟨?_, (Below.heap_alloc _ _ _ hlt).trans hm, heap_alloc_new _ _, h.ol.below (innerTs _) hb, fun j u g hu hg => h.ol.lt (innerTs _) hu hg, ⟨hmb, hlt⟩, Nat.le_refl _⟩
  have := h.ms.below hb
  have e : z0F ps N N = zerL ps N := by rw [hN]; exact z0F_zer
  rw [e] at this; exact this
theorem ES.next (h : ES wB wi g0 r0 r1 r2 N mb ib clock es ps us seen c0 z2) {w1 : World} (hw : w1 = wi ∨ w1 = wi.drew) (b : Nat) : ES wB (Go.ChangeMaps.setBlock w1 ib (.mapIter (some mb) clock (seen.push b) clock)) g0 r0 r1 r2 N mb ib clock es ps us (seen.push b) clock z2 := by
  have hs := h.sz
  obtain ⟨l1, l2⟩ := h.lt
  have ho := only_blockG w1 ib (.mapIter (some mb) clock (seen.push b) clock)
  have hm : MS wB w1 g0 r0 r1 r2 (2 * N) (zerL ps N) (oneL N) z2 := by rcases hw with rfl | rfl; exact h.ms; exact h.ms.drew
  have hh : w1.heap = wi.heap := by rcases hw with rfl | rfl <;> rfl
  refine ⟨hm.only ho (by omega), ?_, ?_, ?_, h.up, h.lt, Nat.le_refl _⟩
  · rw [ho.block mb (by rw [hh]; omega) (.inl l2), hh]; exact h.mp
  · simp [Go.ChangeMaps.setBlock, hh, hs]
  · exact h.ol.same (innerTs _) fun j u g hu hg => by
      have := h.up j u g hu hg
      rw [ho.block g (by rw [hh]; omega) (.inl this), hh]
/-- a number of the second row is turned -/
theorem ES.put (h : ES wB wi g0 r0 r1 r2 N mb ib clock es ps us seen c0 z2) {w' : World} {z : List Int} (hm : MS wB w' g0 r0 r1 r2 (2 * N) (zerL ps N) (oneL N) z) (hs : ∀ g, g ≠ r2 → w'.heap[g]? = wi.heap[g]?) : ES wB w' g0 r0 r1 r2 N mb ib clock es ps us seen c0 z := by
  obtain ⟨l1, l2⟩ := h.lt
  have hr := h.ms.top.2.2.2
  exact ⟨hm, (hs mb (by omega)).trans h.mp, (hs ib (by omega)).trans h.it, h.ol.same (innerTs _) fun j u g hu hg => hs g (by have := h.ol.low j u g hu hg; omega), h.up, h.lt, h.cl⟩
end
end Go.Proofs.Ytpognnifgcacnaa

/- Maps of polygons: the program's mapOfPolygons, walked. -/
namespace Go.Proofs.Ytpognnifgcacnaa
open Go.RowKit

set_option maxRecDepth 100000 in
set_option maxHeartbeats 3200000 in
theorem mapI_any {n : Int} {v : Value} {ps : List (List Int)} (ok : PsOk n ps) (w : World) (h : RdSSc w v ps) : Calls Try.prog 118 #[v] w (MpAns ps w) := by
  obtain ⟨ao, m, c, rfl, hin0⟩ := h.rd
  have hm := hin0.2.1
  have HL := Lib.hid hin0.1
  have hm200 : m ≤ 1000 := by have := ok.len; rw [hin0.1] at this; exact this
  have hS : ∀ j, j ≤ m → begP ps j ≤ 200 := fun j hj => Nat.le_trans (lenSS_take_le ps j) ok.few
  have HS := Lib.hid hS
  clear hS
  go_enter Try.func118, Try.ntmps118
  have VS0 := VS.start w ps
  go_upto_region 1 with fail
  generalize w.alloc (.cells #[.slice none 0 0] 41) = w0 at *
  go_wp2_with fail
  go_loopw [4, 5, 27] (fun xv sv iv wr => ∃ (j : Nat) (a1 : Option Addr) (c1 : Nat) (a2 : Option Addr) (c2 : Nat), j ≤ m ∧ xv = .slice a1 (begP ps j) c1 ∧ sv = .slice a2 (begP ps j) c2 ∧ iv = .int .i64 j ∧ VS w wr ps j (begP ps j) a1 c1 a2 c2) (fun _ _ i _ => m - (intOf i).toNat)
  case atStart => exact ⟨0, none, 0, none, 0, Nat.zero_le _, by rw [begP_zero], by rw [begP_zero], rfl, by rw [begP_zero]; exact VS0⟩
  case round =>
    clear VS0
    obtain ⟨j, a1, c1, a2, c2, hj, rfl, rfl, rfl, st⟩ := hrel
    have hjb := HS.out j hj
    by_cases hlt : j < m
    · have hjl : j < ps.length := by rw [HL.out]; exact hlt
      obtain ⟨b, off, ar, nr, cr, rfl, hc, hin⟩ := (hin0.below st.bel).at_ hlt
      have hnl := hin.1
      have hn3 := ok.three hjl
      rw [hnl] at hn3
      have hb2 := HS.out (j + 1) (by omega)
      rw [begP_succ hjl, hnl] at hb2
      have HB := Lib.hid (begP_succ hjl)
      have HN := Lib.hid hnl
      have hat : ∀ i, i < nr → nxP ps (begP ps j + i) = begP ps j + (i + 1) % nr := fun i hi => by rw [nxP_at ps j i hjl (by omega), hnl]
      have HAT := Lib.hid hat
      have SV := Lib.hid st.vx
      have sl := st.lt
      have vert : ∀ (a1' : Option Addr) (c1' : Nat) (w' : World), Own w' (w.heap.size + 1) 2 a1' (begP ps j + nr) c1' (((ps.take j).flatten).map (Value.int .i64) ++ (lget ps j).map (Value.int .i64)) → wr.grownBy w' (bk a1) → VS w w' ps (j + 1) (begP ps j) a1' c1' a2 c2 := fun _ _ _ ho hg => st.vert hjl (by rw [hnl]; exact ho) hg
      have VT := Lib.hid vert
      clear vert hat hnl st
      generalize begP ps j = b0 at *
      go_wp2_with (first | (go_at_call 139; refine (sizeP_any _ _ _ _).mono ?_; rintro e w' ⟨rfl, rfl⟩) | (at_builtin; refine wpList_apN etI _ rfl _ _ rfl (w.heap.size + 1) a1 b0 c1 _ rfl SV.out ar nr cr (lget ps j) rfl hin (by omega) (by omega) ?_; intro a1' c1' w3 h3 g3 hb3))
      have s3 := VT.out _ _ _ h3 g3
      clear h3 g3 hb3 VT SV sl hc hin
      go_loopw [5, 39] (fun sv iv wi => ∃ (i : Nat) (a2 : Option Addr) (c2 : Nat), i ≤ nr ∧ sv = .slice a2 (b0 + i) c2 ∧ iv = .int .i64 i ∧ VS w wi ps (j + 1) (b0 + i) a1' c1' a2 c2) (fun _ i _ => nr - (intOf i).toNat)
      case atStart => exact ⟨0, a2, c2, Nat.zero_le _, rfl, rfl, s3⟩
      case round =>
        clear s3
        obtain ⟨i, a2, c2, hi, rfl, rfl, st⟩ := hrel
        by_cases hlt2 : i < nr
        · have hx := HAT.out i hlt2
          have hq : (i + 1) % nr < nr := Nat.mod_lt _ (by omega)
          have hr : ((i : Int) + 1).tmod (nr : Int) = (((i + 1) % nr : Nat) : Int) := by rw [show ((i : Int) + 1) = ((i + 1 : Nat) : Int) by omega]; rfl
          generalize (i + 1) % nr = q at *
          have HX := Lib.hid hx
          have SD := Lib.hid st.sd
          have ST := Lib.hid st
          have sl := st.lt
          clear st hx
          go_wp2_with (at_builtin; refine wpList_ap2 etPair _ rfl _ _ rfl (w.heap.size + 1) a2 (b0 + i) c2 (sdL ps (b0 + i)) rfl SD.out _ _ rfl (by omega) (by omega) ?_; intro a4 c4 w4 h4 g4 hb4)
          go_roundw
          case rel => exact ⟨i + 1, a4, c4, by omega, rfl, by go_num, ST.out.side (by omega) (by rw [HX.out]; omega) h4 g4⟩
          case measure => simp [intOf]; omega
        · obtain rfl : i = nr := by omega
          go_wp2_with fail
          go_roundw
          case rel => exact ⟨j + 1, a1', c1', a2, c2, by omega, by rw [HB.out, HN.out], by rw [HB.out, HN.out], by go_num, by rw [HB.out, HN.out]; exact st⟩
          case measure => simp [intOf]; omega
    · obtain rfl : j = m := by omega
      have hN : begP ps j = lenSS ps := by rw [← HL.out]; exact begP_all ps
      have hvx := st.vx
      have htk : (ps.take j).flatten = ps.flatten := by rw [← HL.out, List.take_length]
      rw [htk] at hvx
      have HV := Lib.hid hvx.ints
      have SD := Lib.hid st.sd
      have BX := Lib.hid st.bx
      have BE := Lib.hid st.bel
      have sl := st.lt
      clear st hvx htk
      generalize begP ps j = N at *
      have HN := Lib.hid hN
      clear hN
      have HMK := Lib.hid (run_mk etI .i64 .i64 (2 * (N : Int)) (2 * N) (by omega) (by omega))
      go_upto_region 15 with (go_at_call 139; refine (sizeP_any _ _ _ _).mono ?_; rintro e w' ⟨rfl, hw⟩; rw [hw]; clear hw w')
      go_cut [12] (fun s12 wx => ∃ g0 r0 r1 r2 : Nat, s12 = .slice (some ⟨g0, 0, none⟩) 3 3 ∧ MS wr wx g0 r0 r1 r2 (2 * N) (List.replicate (2 * N) 0) (List.replicate (2 * N) 0) (List.replicate (2 * N) 0))
      case first =>
        have hmk := HMK.out
        go_region
        all_goals go_wp2_with fail
        all_goals go_meet
        all_goals exact ⟨wr.heap.size + 3, _, _, _, rfl, (MS.make wr (by omega) (by omega) (by omega) (by omega) (by omega)).drew⟩
      case rest =>
        obtain ⟨g0, r0, r1, r2, rfl, ms⟩ := hcut
        clear HMK
        generalize wr = wB at *
        have hmk2 : ∀ W : World, (Instr.makeMap 172 none).run Try.prog W = .ok (.map (some W.heap.size)) (W.alloc (.map #[] 0)) := fun W => Go.RowKit.run_makeMap _ W
        go_wp2_with fail
        have MG1 := Lib.hid (MapG.new wc)
        have MS1 := Lib.hid (ms.below (below_alloc1 wc (.map #[] 0)))
        have hmb := ms.sz
        have hmlt : wc.heap.size < (wc.alloc (.map #[] 0)).heap.size := by simp
        clear hmk2 ms
        generalize wc.alloc (.map #[] 0) = w2 at *
        generalize wc.heap.size = mb at *
        go_loopw [72] (fun iv wi => ∃ (f : Nat) (z1 : List Int), f ≤ 2 * N ∧ iv = .int .i64 f ∧ (∀ i, i < f → iget z1 i = x1P i) ∧ MS wB wi g0 r0 r1 r2 (2 * N) (List.replicate (2 * N) 0) z1 (List.replicate (2 * N) 0) ∧ MapG wi mb [] []) (fun i _ => 2 * N - (intOf i).toNat)
        case atStart => exact ⟨0, _, Nat.zero_le _, rfl, fun i hi => absurd hi (by omega), MS1.out, MG1.out⟩
        case round =>
          clear MS1 MG1 hmlt
          obtain ⟨f, z1, hf, rfl, hx1, ms, mg⟩ := hrel
          have HX1 := Lib.hid hx1
          have hl1 := ms.lens.2.1
          clear hx1
          by_cases hlt3 : f < 2 * N
          · obtain ⟨x0, x1, x2⟩ := ms.cells
            obtain ⟨y1, y2⟩ := MS.int wB ms.o1 hlt3
            have hxo : bits .xor .i64 (f : Int) 1 = x1P f := by
              unfold x1P
              split
              · exact xor1_even (by assumption) (by omega)
              · exact xor1_odd (by omega) (by omega)
            have MS2 := Lib.hid (ms.st1 f (x1P f))
            have hr1 := ms.top.2.2.1
            have MG2 := Lib.hid (mg.same (w' := wr.setCell ⟨r1, f, none⟩ (.int .i64 (x1P f))) (Below.heap_setCell _ _ _ _ (by show mb ≠ r1; omega)))
            clear ms mg
            go_wp2_with fail
            go_roundw
            case rel => exact ⟨f + 1, z1.set f (x1P f), by omega, by go_num, fun i hi => by
              by_cases e : i = f
              · subst e; unfold iget; rw [List.getD_eq_getElem?_getD, List.getElem?_set_self (by omega)]; rfl
              · have := HX1.out i (by omega)
                unfold iget at this ⊢
                rw [List.getD_eq_getElem?_getD, List.getElem?_set_ne (by omega), ← List.getD_eq_getElem?_getD]; exact this, MS2.out, MG2.out⟩
            case measure => simp [intOf]; omega
          · obtain rfl : f = 2 * N := by omega
            have hz1 : z1 = oneL N := oneL_of hl1 HX1.out
            subst hz1
            have MS2 := Lib.hid ms
            have MG2 := Lib.hid mg
            clear ms mg HX1 hl1
            go_wp2_with fail
            have DS0 : DS wB wr g0 r0 r1 r2 N mb ps 0 [] := ⟨MS2.out, MG2.out, OwL.nil_⟩
            clear MS2 MG2
            go_loopw [85] (fun iv wi => ∃ (c : Nat) (us : List Value), c ≤ N ∧ iv = .int .i64 c ∧ DS wB wi g0 r0 r1 r2 N mb ps c us) (fun i _ => N - (intOf i).toNat)
            case atStart => exact ⟨0, [], Nat.zero_le _, rfl, DS0⟩
            case round =>
              clear DS0
              obtain ⟨c, us, hcN, rfl, ds⟩ := hrel
              by_cases hlt4 : c < N
              · have hcl : c < lenSS ps := by have := HN.out; omega
                have hnx := nxP_lt hcl
                rw [← HN.out] at hnx
                obtain ⟨g2, e2, -, hg2l, -, hc2, -⟩ := (SD.out.below ds.ms.bel).form (by omega)
                obtain ⟨s0, s1⟩ := hc2 c hlt4
                obtain ⟨q0, q1⟩ := sdL_kA (ps := ps) hlt4
                rw [q0] at s0
                rw [q1] at s1
                subst e2
                clear hc2 q0 q1
                obtain ⟨A, hA⟩ : ∃ A, A = 2 * c := ⟨_, rfl⟩
                obtain ⟨B, hB⟩ : ∃ B, B = 2 * nxP ps c + 1 := ⟨_, rfl⟩
                rw [← hA] at s0
                rw [← hB] at s1
                have hAN : A < 2 * N := by omega
                have hBN : B < 2 * N := by omega
                have HA := Lib.hid hA
                have HB := Lib.hid hB
                have hpb := ds.mg.lt
                have hup : ∀ (j : Nat) (u : Value) (g : Nat), us[j]? = some u → u.ownBlock = some g → g < wr.heap.size := fun j u g hu hg => ds.ol.lt (innerTs _) hu hg
                have DS1 := ds.below (below_alloc1 wr (.cells #[.int .i64 (A : Int), .int .i64 (B : Int)] 171))
                have B1 : Blk (wr.alloc (.cells #[.int .i64 (A : Int), .int .i64 (B : Int)] 171)) wr.heap.size 171 #[.int .i64 (A : Int), .int .i64 (B : Int)] := blk_at rfl
                clear hA hB ds hnx
                go_upto_region 25 with fail
                generalize wr.alloc (.cells #[.int .i64 (A : Int), .int .i64 (B : Int)] 171) = w5 at *
                generalize wr.heap.size = pb at *
                have DS2 := DS1.below (below_drew1 w5)
                obtain ⟨x0, -, -⟩ := DS2.ms.cells
                have b0 : w5.drew.cell? ⟨pb, 0, none⟩ = some (.int .i64 (A : Int)) := B1.cell 0
                have b1 : w5.drew.cell? ⟨pb, 1, none⟩ = some (.int .i64 (B : Int)) := B1.cell 1
                obtain ⟨y0, y1⟩ := MS.int wB DS2.ms.o0 hAN
                obtain ⟨z0, z1⟩ := MS.int wB DS2.ms.o0 hBN
                have hAB : ¬ (B = A) := by have := HA.out; have := HB.out; omega
                have hAB2 : ¬ (A = B) := fun e => hAB e.symm
                have MS3 := DS2.ms.st0 A (B : Int)
                obtain ⟨v0, v1⟩ := MS.int wB MS3.o0 hBN
                have v0b : (w5.setCell ⟨r0, A, none⟩ (.int .i64 (B : Int))).drew.cell? ⟨r0, B, none⟩ = some (.int .i64 (iget ((z0F ps N c).set A (B : Int)) B)) := v0
                have v1b : (w5.setCell ⟨r0, A, none⟩ (.int .i64 (B : Int))).drew.frozen? ⟨r0, B, none⟩ = false := v1
                have v0c : (w5.setCell ⟨r0, A, none⟩ (.int .i64 (B : Int))).cell? ⟨r0, B, none⟩ = some (.int .i64 (iget ((z0F ps N c).set A (B : Int)) B)) := v0
                have v1c : (w5.setCell ⟨r0, A, none⟩ (.int .i64 (B : Int))).frozen? ⟨r0, B, none⟩ = false := v1
                have v0d : w5.cell? ⟨r0, B, none⟩ = some (.int .i64 (iget (z0F ps N c) B)) := z0
                have v1d : w5.frozen? ⟨r0, B, none⟩ = false := z1
                obtain ⟨m4, mg4, ol4⟩ := DS2.moves hmb A B (B : Int) (A : Int)
                have hr0 := DS2.ms.top.2.1
                have hg0 := DS2.ms.ne.2.1
                have hd1 : (w5.drew.setCell ⟨r0, A, none⟩ (.int .i64 (B : Int))).cell? ⟨pb, 0, none⟩ = some (.int .i64 (A : Int)) ∧ (w5.drew.setCell ⟨r0, A, none⟩ (.int .i64 (B : Int))).cell? ⟨pb, 1, none⟩ = some (.int .i64 (B : Int)) := ⟨(World.cell?_of_block (Below.heap_setCell _ _ _ pb (by show pb ≠ r0; omega))).trans b0, (World.cell?_of_block (Below.heap_setCell _ _ _ pb (by show pb ≠ r0; omega))).trans b1⟩
                have B4 : Blk ((w5.drew.setCell ⟨r0, A, none⟩ (.int .i64 (B : Int))).setCell ⟨r0, B, none⟩ (.int .i64 (A : Int))) pb 171 #[.int .i64 (A : Int), .int .i64 (B : Int)] := ((B1.drewN 1).far (by show pb ≠ r0; omega) _).far (by show pb ≠ r0; omega) _
                have K0 := Lib.hid (show w5.drew.cell? ⟨g0, 0, none⟩ = some (.slice (some ⟨r0, 0, none⟩) (2 * N) (2 * N)) ∧ w5.drew.cell? ⟨pb, 0, none⟩ = some (.int .i64 (A : Int)) ∧ w5.drew.cell? ⟨pb, 1, none⟩ = some (.int .i64 (B : Int)) from ⟨x0, b0, b1⟩)
                have K1 := Lib.hid (show (w5.drew.setCell ⟨r0, A, none⟩ (.int .i64 (B : Int))).cell? ⟨g0, 0, none⟩ = some (.slice (some ⟨r0, 0, none⟩) (2 * N) (2 * N)) ∧ (w5.drew.setCell ⟨r0, A, none⟩ (.int .i64 (B : Int))).cell? ⟨pb, 0, none⟩ = some (.int .i64 (A : Int)) ∧ (w5.drew.setCell ⟨r0, A, none⟩ (.int .i64 (B : Int))).cell? ⟨pb, 1, none⟩ = some (.int .i64 (B : Int)) from ⟨MS3.cells.1, hd1.1, hd1.2⟩)
                have K2 := Lib.hid (show ((w5.drew.setCell ⟨r0, A, none⟩ (.int .i64 (B : Int))).setCell ⟨r0, B, none⟩ (.int .i64 (A : Int))).cell? ⟨g0, 0, none⟩ = some (.slice (some ⟨r0, 0, none⟩) (2 * N) (2 * N)) ∧ ((w5.drew.setCell ⟨r0, A, none⟩ (.int .i64 (B : Int))).setCell ⟨r0, B, none⟩ (.int .i64 (A : Int))).cell? ⟨pb, 0, none⟩ = some (.int .i64 (A : Int)) ∧ ((w5.drew.setCell ⟨r0, A, none⟩ (.int .i64 (B : Int))).setCell ⟨r0, B, none⟩ (.int .i64 (A : Int))).cell? ⟨pb, 1, none⟩ = some (.int .i64 (B : Int)) from ⟨m4.cells.1, B4.cell 0, B4.cell 1⟩)
                have M4 := Lib.hid m4
                have G4 := Lib.hid mg4
                have O4 := Lib.hid ol4
                have BB4 := Lib.hid B4
                clear m4 mg4 ol4 B4 DS1 DS2 MS3 B1 hd1 x0 b0 b1
                have hA1 : (0 : Int) ≤ (A : Int) := by omega
                have hA2 : (A : Int) < 2 * (N : Int) := by omega
                have hB1 : (0 : Int) ≤ (B : Int) := by omega
                have hB2 : (B : Int) < 2 * (N : Int) := by omega
                go_region_held3 (fun w' => w'.cell? ⟨g0, 0, none⟩ = some (.slice (some ⟨r0, 0, none⟩) (2 * N) (2 * N)) ∧ w'.cell? ⟨pb, 0, none⟩ = some (.int .i64 (A : Int)) ∧ w'.cell? ⟨pb, 1, none⟩ = some (.int .i64 (B : Int))) (first | exact K0.out | exact K1.out | exact K2.out) (fail)
                have m6 : MS wB ((w5.setCell ⟨r0, A, none⟩ (.int .i64 (B : Int))).setCell ⟨r0, B, none⟩ (.int .i64 (A : Int))).drew g0 r0 r1 r2 (2 * N) (((z0F ps N c).set A (B : Int)).set B (A : Int)) (oneL N) (List.replicate (2 * N) 0) := M4.out
                have g6 : MapG ((w5.setCell ⟨r0, A, none⟩ (.int .i64 (B : Int))).setCell ⟨r0, B, none⟩ (.int .i64 (A : Int))).drew mb (gF ps c).1 us := G4.out
                have o6 : OwL (OwTs 171) ((w5.setCell ⟨r0, A, none⟩ (.int .i64 (B : Int))).setCell ⟨r0, B, none⟩ (.int .i64 (A : Int))).drew (mb + 1) us (gF ps c).2 := O4.out
                have k6 : Blk ((w5.setCell ⟨r0, A, none⟩ (.int .i64 (B : Int))).setCell ⟨r0, B, none⟩ (.int .i64 (A : Int))).drew pb 171 #[.int .i64 (A : Int), .int .i64 (B : Int)] := BB4.out
                clear M4 G4 O4 BB4 K0 K1 K2 v0 v1 v0b v1b v0c v1c v0d v1d y0 y1 z0 z1
                generalize ((w5.setCell ⟨r0, A, none⟩ (.int .i64 (B : Int))).setCell ⟨r0, B, none⟩ (.int .i64 (A : Int))).drew = w6 at *
                clear w5
                have hnl : nxP ps c < N := by have := HB.out; omega
                have hv6 := HV.out.below m6.bel
                obtain ⟨bv, ov, ea, hcA⟩ := hv6.at_ hlt4
                obtain ⟨bv', ov', ea', hcB⟩ := hv6.at_ hnl
                rw [ea] at ea'
                injection ea' with ea'
                injection ea' with ea1 ea2
                subst ea1 ea2
                have hq0 : (A : Int).tdiv 2 = (c : Int) := by rw [show (A : Int).tdiv 2 = ((A / 2 : Nat) : Int) from rfl, HA.out]; omega
                have hq1 : (B : Int).tdiv 2 = (nxP ps c : Int) := by rw [show (B : Int).tdiv 2 = ((B / 2 : Nat) : Int) from rfl, HB.out]; omega
                have hq2 : (A : Int) / 2 = (c : Int) := by have := HA.out; omega
                have hq3 : (B : Int) / 2 = (nxP ps c : Int) := by have := HB.out; omega
                have hq4 : IntKind.i64.wrap (c : Int) = (c : Int) := IntWalk.i64_in _ (by omega)
                have hq5 : IntKind.i64.wrap (nxP ps c : Int) = (nxP ps c : Int) := IntWalk.i64_in _ (by omega)
                have hq6 : IntKind.i64.wrap ((A : Int).tdiv 2) = (c : Int) := by rw [hq0]; exact hq4
                have hq7 : IntKind.i64.wrap ((B : Int).tdiv 2) = (nxP ps c : Int) := by rw [hq1]; exact hq5
                have hc0 : (0 : Int) ≤ (c : Int) := by omega
                have hc1 : (c : Int) < (N : Int) := by omega
                have hn0 : (0 : Int) ≤ (nxP ps c : Int) := by omega
                have hn1 : (nxP ps c : Int) < (N : Int) := by omega
                generalize hnn : nxP ps c = q at *
                have HQ := Lib.hid hnn
                clear hnn hv6
                subst ea
                have kb0 : w6.drew.cell? ⟨pb, 0, none⟩ = some (.int .i64 (A : Int)) := k6.cell 0
                have kb1 : w6.drew.cell? ⟨pb, 1, none⟩ = some (.int .i64 (B : Int)) := k6.cell 1
                have K0 := Lib.hid (show w6.drew.cell? ⟨pb, 0, none⟩ = some (.int .i64 (A : Int)) ∧ w6.drew.cell? ⟨pb, 1, none⟩ = some (.int .i64 (B : Int)) ∧ w6.drew.cell? ⟨bv, ov + c, none⟩ = some (.int .i64 (iget ps.flatten c)) ∧ w6.drew.cell? ⟨bv, ov + q, none⟩ = some (.int .i64 (iget ps.flatten q)) from ⟨kb0, kb1, hcA, hcB⟩)
                go_upto_region 26 with fail
                go_region_held3 (fun w' => w'.cell? ⟨pb, 0, none⟩ = some (.int .i64 (A : Int)) ∧ w'.cell? ⟨pb, 1, none⟩ = some (.int .i64 (B : Int)) ∧ w'.cell? ⟨bv, ov + c, none⟩ = some (.int .i64 (iget ps.flatten c)) ∧ w'.cell? ⟨bv, ov + q, none⟩ = some (.int .i64 (iget ps.flatten q))) (first | exact K0.out) (fail)
                have m7 : MS wB w6.drew g0 r0 r1 r2 (2 * N) (((z0F ps N c).set A (B : Int)).set B (A : Int)) (oneL N) (List.replicate (2 * N) 0) := m6.drew
                have g7 : MapG w6.drew mb (gF ps c).1 us := g6
                have o7 : OwL (OwTs 171) w6.drew (mb + 1) us (gF ps c).2 := o6.below (innerTs _) (below_drew1 w6)
                have k7 : Blk w6.drew pb 171 #[.int .i64 (A : Int), .int .i64 (B : Int)] := k6
                have hk0 : vtx ps q < vtx ps c → keyS ps c = (vtx ps q, vtx ps c) ∧ nrmS ps c = ((B : Int), (A : Int)) := fun hlt => by
                  unfold keyS nrmS
                  rw [HQ.out, if_pos hlt, if_pos hlt, HA.out, HB.out]
                  exact ⟨rfl, rfl⟩
                have hk1 : ¬ vtx ps q < vtx ps c → keyS ps c = (vtx ps c, vtx ps q) ∧ nrmS ps c = ((A : Int), (B : Int)) := fun hlt => by
                  unfold keyS nrmS
                  rw [HQ.out, if_neg hlt, if_neg hlt, HA.out, HB.out]
                  exact ⟨rfl, rfl⟩
                have HK0 := Lib.hid hk0
                have HK1 := Lib.hid hk1
                clear m6 g6 o6 k6 K0 kb0 kb1 hcA hcB hk0 hk1
                generalize w6.drew = w7 at *
                have hvc : vtx ps c = iget ps.flatten c := rfl
                have hvq : vtx ps q = iget ps.flatten q := rfl
                rw [hvc, hvq] at HK0 HK1
                clear hvc hvq
                generalize iget ps.flatten c = vc at *
                generalize iget ps.flatten q = vq at *
                go_upto_if 119 with fail
                go_cut [17, 18] (fun s17 s18 wx => ∃ u v x y : Int, s17 = .int .i64 u ∧ s18 = .int .i64 v ∧ keyS ps c = (u, v) ∧ nrmS ps c = (x, y) ∧ MS wB wx g0 r0 r1 r2 (2 * N) (((z0F ps N c).set A (B : Int)).set B (A : Int)) (oneL N) (List.replicate (2 * N) 0) ∧ MapG wx mb (gF ps c).1 us ∧ OwL (OwTs 171) wx (mb + 1) us (gF ps c).2 ∧ Blk wx pb 171 #[.int .i64 x, .int .i64 y])
                case first =>
                  by_cases hcmp : vq < vc
                  · obtain ⟨e1, e2⟩ := HK0.out hcmp
                    have E1 := Lib.hid e1
                    have E2 := Lib.hid e2
                    clear e1 e2
                    have b0 := k7.cell 0
                    have b1 := k7.cell 1
                    have f0 := k7.frozen 0
                    have f1 := k7.frozen 1
                    have hs8 : ∀ g, g ≠ pb → ((w7.setCell ⟨pb, 0, none⟩ (.int .i64 (B : Int))).setCell ⟨pb, 1, none⟩ (.int .i64 (A : Int))).heap[g]? = w7.heap[g]? := fun g hg => (Below.heap_setCell _ _ _ g (by exact hg)).trans (Below.heap_setCell _ _ _ g (by exact hg))
                    have m8 := Lib.hid (m7.keep (w' := (w7.setCell ⟨pb, 0, none⟩ (.int .i64 (B : Int))).setCell ⟨pb, 1, none⟩ (.int .i64 (A : Int))) (fun g hg => hs8 g (by omega)) ((m7.bel.setCell (by show wB.heap.size ≤ pb; omega) _).setCell (by show wB.heap.size ≤ pb; omega) _) (by simp [World.setCell]))
                    have g8 := Lib.hid (g7.same (w' := (w7.setCell ⟨pb, 0, none⟩ (.int .i64 (B : Int))).setCell ⟨pb, 1, none⟩ (.int .i64 (A : Int))) (hs8 mb (by omega)))
                    have o8 := Lib.hid (o7.same (w' := (w7.setCell ⟨pb, 0, none⟩ (.int .i64 (B : Int))).setCell ⟨pb, 1, none⟩ (.int .i64 (A : Int))) (innerTs _) fun j u g hu hg => hs8 g (by have := hup j u g hu hg; omega))
                    have k8 : Hid (Blk ((w7.setCell ⟨pb, 0, none⟩ (.int .i64 (B : Int))).setCell ⟨pb, 1, none⟩ (.int .i64 (A : Int))) pb 171 #[.int .i64 (B : Int), .int .i64 (A : Int)]) := Lib.hid ((k7.set_ 0 (.int .i64 (B : Int))).set_ 1 (.int .i64 (A : Int)))
                    clear m7 g7 o7 k7 hs8
                    go_wp2_with fail
                    go_meet
                    case rel => exact ⟨vq, vc, B, A, rfl, rfl, E1.out, E2.out, m8.out, g8.out, o8.out, k8.out⟩
                  · obtain ⟨e1, e2⟩ := HK1.out hcmp
                    have E1 := Lib.hid e1
                    have E2 := Lib.hid e2
                    clear e1 e2
                    go_wp2_with fail
                    go_meet
                    case rel => exact ⟨vc, vq, A, B, rfl, rfl, E1.out, E2.out, m7, g7, o7, k7⟩
                case rest =>
                  obtain ⟨u, v, x, y, rfl, rfl, hkey, hnrm, m8, g8, o8, k8⟩ := hcut
                  clear HK0 HK1 m7 g7 o7 k7
                  have HKY := Lib.hid hkey
                  have HNR := Lib.hid hnrm
                  clear hkey hnrm
                  have hmb8 := g8.lt
                  have kb0 : wc.drew.cell? ⟨pb, 0, none⟩ = some (.int .i64 x) := k8.cell 0
                  have kb1 : wc.drew.cell? ⟨pb, 1, none⟩ = some (.int .i64 y) := k8.cell 1
                  generalize wc = w8 at *
                  have hlens := g8.lens
                  have W0 : (w8.alloc (.cells #[.int .i64 x, .int .i64 y] 171)).drew.cell? ⟨w8.heap.size, 0, none⟩ = some (.int .i64 x) := (show Blk (w8.alloc (.cells #[.int .i64 x, .int .i64 y] 171)) w8.heap.size 171 #[.int .i64 x, .int .i64 y] from blk_at rfl).cell 0
                  have W1 : (w8.alloc (.cells #[.int .i64 x, .int .i64 y] 171)).drew.cell? ⟨w8.heap.size, 1, none⟩ = some (.int .i64 y) := (show Blk (w8.alloc (.cells #[.int .i64 x, .int .i64 y] 171)) w8.heap.size 171 #[.int .i64 x, .int .i64 y] from blk_at rfl).cell 1
                  have W2 : mb + 1 ≤ (w8.alloc (.cells #[.int .i64 x, .int .i64 y] 171)).drew.heap.size := by show mb + 1 ≤ (w8.heap.push _).size; rw [Array.size_push]; omega
                  have W4 : (w8.alloc (.cells #[.int .i64 x, .int .i64 y] 171)).drew.heap[mb]? = w8.heap[mb]? := Below.heap_alloc _ _ _ hmb8
                  have bW : Below w8.heap.size w8 (w8.alloc (.cells #[.int .i64 x, .int .i64 y] 171)).drew := (below_alloc1 w8 (.cells #[.int .i64 x, .int .i64 y] 171)).drew
                  have hWs : (w8.alloc (.cells #[.int .i64 x, .int .i64 y] 171)).drew.heap.size = w8.heap.size + 1 := by show (w8.heap.push _).size = _; rw [Array.size_push]
                  have hgF := gF_ok ps c
                  have hsz8 := m8.sz
                  have hbel8 := m8.bel
                  have hZ : z0F ps N (c + 1) = ((z0F ps N c).set A (B : Int)).set B (A : Int) := by
                    have e : z0F ps N (c + 1) = ((z0F ps N c).set (2 * c) ((2 * nxP ps c + 1 : Nat) : Int)).set (2 * nxP ps c + 1) ((2 * c : Nat) : Int) := rfl
                    rw [e, HQ.out, ← HA.out, ← HB.out]
                  have hG0 : gF ps (c + 1) = match fndK (keyS ps c) (gF ps c).1 0 with
                    | some m => ((gF ps c).1, (gF ps c).2.set m (lget (gF ps c).2 m ++ [nrmS ps c]))
                    | none => ((gF ps c).1 ++ [keyS ps c], (gF ps c).2 ++ [[nrmS ps c]]) := rfl
                  rw [HKY.out, HNR.out] at hG0
                  have M8 := Lib.hid m8
                  have G8 := Lib.hid g8
                  have O8 := Lib.hid o8
                  have HZ := Lib.hid hZ
                  have HG0 := Lib.hid hG0
                  have HGF := Lib.hid hgF
                  have HLEN := Lib.hid hlens
                  clear m8 g8 o8 k8 hZ hG0 hgF hlens
                  go_upto_region 30 with fail
                  refine by_tail (α := World) (β := List Value) (γ := Value) (δ := Value) (H := fun w10 us' => Hid (DS wB w10 g0 r0 r1 r2 N mb ps (c + 1) us')) ?G (fun tail => ?main) ?tl
                  case main =>
                    cases hf : fndK (u, v) (gF ps c).1 0 with
                    | some m =>
                      have hG0 := HG0.out
                      rw [hf] at hG0
                      obtain ⟨hml, hmk⟩ := fndK_lt _ _ _ hf
                      obtain ⟨um, dm, hum, hdm, ⟨ao, n9, c9, rfl, ow⟩⟩ := O8.out.get (j := m) (by have := HLEN.out; omega)
                      have hG : gF ps (c + 1) = ((gF ps c).1, (gF ps c).2.set m (dm ++ [(x, y)])) := by rw [hG0]; show ((gF ps c).1, (gF ps c).2.set m (lget (gF ps c).2 m ++ [(x, y)])) = _; rw [lget_get? hdm]
                      have hgm : uget us m = .slice ao n9 c9 := by unfold uget; rw [List.getD_eq_getElem?_getD, hum]; rfl
                      have hlook : ∀ W : World, W.heap[mb]? = w8.heap[mb]? → (Instr.lookup 172 (.map (some mb)) (.agg #[.int .i64 u, .int .i64 v]) false).run Try.prog W = .ok (.slice ao n9 c9) W := fun W hW => by
                        have := lookG_run (u, v) (G8.out.same hW)
                        rw [hf] at this
                        simp only [hgm] at this
                        exact this
                      have l1 := hlook w8.drew rfl
                      have l3 := hlook (w8.alloc (.cells #[.int .i64 x, .int .i64 y] 171)).drew (Below.heap_alloc _ _ _ hmb8)
                      have hn9 : n9 + 1 ≤ 4398046511104 := by
                        have h1 : dm.length = n9 := ow.len
                        have h2 := HGF.out.el m _ hmk
                        rw [lget_get? hdm] at h2
                        have h3 := congrArg List.length h2
                        rw [List.length_map] at h3
                        have h4 : (sideL ps (u, v) c).length ≤ (List.range c).length := List.length_filter_le _ _
                        rw [List.length_range] at h4
                        omega
                      have hlow : ∀ g, bk ao = some g → mb + 1 ≤ g := fun g hg => O8.out.low m _ g hum (by rw [ownBlock_slice]; exact hg)
                      have OB := Lib.hid (own2_up ow hlow)
                      have HF := Lib.hid hf
                      have HUM := Lib.hid hum
                      have HG := Lib.hid hG
                      clear hlook hf hum hdm hgm ow hG0 hG hmk hml
                      have W3 := Lib.hid (OB.out.below bW)
                      have W5 : ∀ w9 : World, (w8.alloc (.cells #[.int .i64 x, .int .i64 y] 171)).drew.grownBy w9 (bk ao) → ∀ ao3 c3, ∃ ob, (Instr.mapUpdate 172 (.map (some mb)) (.agg #[.int .i64 u, .int .i64 v]) (.slice ao3 (n9 + 1) c3)).run Try.prog w9 = .ok () (Go.ChangeMaps.setBlock w9 mb ob) ∧ MapG (Go.ChangeMaps.setBlock w9 mb ob) mb (gF ps c).1 (us.set m (.slice ao3 (n9 + 1) c3)) := fun w9 g9 ao3 c3 => putG_old (u, v) (G8.out.same ((g9.block mb (by omega) (fun e => by have := hlow mb e.symm; omega)).trans W4)) HF.out (.slice ao3 (n9 + 1) c3)
                      go_region_law (refine step_apP (o := ⟨some 139, _, _, _, _, _⟩) etPair rfl (.tmp 136) (.tmp 138) rfl (mb + 1) ao n9 c9 dm rfl W3.out x y w8.heap.size 1 rfl W0 W1 hn9 W2 ?_; intro ao3 c3 w9 h9 g9 hb9; obtain ⟨ob, hput, hM9⟩ := W5 w9 g9 ao3 c3)
                      all_goals
                        have DSn : DS wB (Go.ChangeMaps.setBlock w9 mb ob) g0 r0 r1 r2 N mb ps (c + 1) (us.set m (.slice ao3 (n9 + 1) c3)) := by
                          have oW := O8.out.below (innerTs _) bW
                          have o9 := oW.upd (innerTs _) HUM.out (by rw [ownBlock_slice]; exact g9) (⟨ao3, n9 + 1, c3, rfl, h9.mono (Nat.zero_le _)⟩ : OwTs 171 w9 (.slice ao3 (n9 + 1) c3) (dm ++ [(x, y)])) (by
                            rw [ownBlock_slice, ownBlock_slice]
                            rcases hb9 with h | h
                            · exact .inr (.inl h)
                            · exact .inr (.inr ⟨_, h, Nat.le_refl _⟩)) W2
                          have m9 := (M8.out.below bW).keep (w' := w9) (fun g hg => g9.block g (by omega) (fun e => by have := hlow g e.symm; omega)) ((hbel8.trans (bW.mono (by omega))).grown g9 (by omega) (fun k e => by have := hlow k e; omega)) g9.size
                          refine ⟨?_, ?_, ?_⟩
                          · rw [HZ.out]; exact m9.only (only_blockG w9 mb ob) hmb
                          · rw [HG.out]; exact hM9
                          · rw [HG.out]; exact o9.same (innerTs _) fun j u' g hu hg => (only_blockG w9 mb ob).block g (o9.lt (innerTs _) hu hg) (.inr (o9.low j u' g hu hg))
                        have DN := Lib.hid DSn
                        clear DSn hput hM9 h9 g9 hb9 W5 l1 l3 HF HG
                        generalize Go.ChangeMaps.setBlock w9 mb ob = w10 at *
                        generalize us.set m (.slice ao3 (n9 + 1) c3) = us' at DN
                        generalize Value.slice ao3 (n9 + 1) c3 = s139 at DN ⊢
                        generalize Value.slice ao n9 c9 = s136
                        exact tail w10 us' s136 s139 DN
                    | none =>
                      have hG0 := HG0.out
                      rw [hf] at hG0
                      have hlook : ∀ W : World, W.heap[mb]? = w8.heap[mb]? → (Instr.lookup 172 (.map (some mb)) (.agg #[.int .i64 u, .int .i64 v]) false).run Try.prog W = .ok (.slice none 0 0) W := fun W hW => by
                        have := lookG_run (u, v) (G8.out.same hW)
                        rw [hf] at this
                        exact this
                      have l1 := hlook w8.drew rfl
                      have l3 := hlook (w8.alloc (.cells #[.int .i64 x, .int .i64 y] 171)).drew (Below.heap_alloc _ _ _ hmb8)
                      have HF := Lib.hid hf
                      have HG := Lib.hid hG0
                      clear hlook hf hG0
                      have W5 : ∀ w9 : World, (w8.alloc (.cells #[.int .i64 x, .int .i64 y] 171)).drew.grownBy w9 (bk none) → ∀ ao3 c3, ∃ ob, (Instr.mapUpdate 172 (.map (some mb)) (.agg #[.int .i64 u, .int .i64 v]) (.slice ao3 (0 + 1) c3)).run Try.prog w9 = .ok () (Go.ChangeMaps.setBlock w9 mb ob) ∧ MapG (Go.ChangeMaps.setBlock w9 mb ob) mb ((gF ps c).1 ++ [(u, v)]) (us ++ [.slice ao3 (0 + 1) c3]) := fun w9 g9 ao3 c3 => putG_new (u, v) (G8.out.same ((g9.block mb (by omega) (fun e => by cases e)).trans W4)) HF.out (.slice ao3 (0 + 1) c3)
                      go_region_law (refine step_apP (o := ⟨some 139, _, _, _, _, _⟩) etPair rfl (.tmp 136) (.tmp 138) rfl (mb + 1) none 0 0 [] rfl (Own2.nil_ _ _ _) x y w8.heap.size 1 rfl W0 W1 (by decide) W2 ?_; intro ao3 c3 w9 h9 g9 hb9; obtain ⟨ob, hput, hM9⟩ := W5 w9 g9 ao3 c3)
                      all_goals
                        have DSn : DS wB (Go.ChangeMaps.setBlock w9 mb ob) g0 r0 r1 r2 N mb ps (c + 1) (us ++ [.slice ao3 (0 + 1) c3]) := by
                          have oW := O8.out.below (innerTs _) bW
                          have hnb : ∀ g, bk ao3 = some g → (w8.alloc (.cells #[.int .i64 x, .int .i64 y] 171)).drew.heap.size ≤ g := fun g hg => by
                            rcases hb9 with h | h
                            · rw [h] at hg; cases hg
                            · rw [h] at hg; obtain rfl := Option.some.inj hg; exact Nat.le_refl _
                          have b9 : Below (w8.alloc (.cells #[.int .i64 x, .int .i64 y] 171)).drew.heap.size (w8.alloc (.cells #[.int .i64 x, .int .i64 y] 171)).drew w9 := (Below.refl _ _).grown g9 (Nat.le_refl _) (fun k e => by cases e)
                          have o9 := oW.push (innerTs _) b9 (⟨ao3, 0 + 1, c3, rfl, h9.mono (Nat.zero_le _)⟩ : OwTs 171 w9 (.slice ao3 (0 + 1) c3) ([] ++ [(x, y)])) (fun g hg => hnb g (by rw [ownBlock_slice] at hg; exact hg)) W2
                          have m9 := (M8.out.below bW).below b9
                          refine ⟨?_, ?_, ?_⟩
                          · rw [HZ.out]; exact m9.only (only_blockG w9 mb ob) hmb
                          · rw [HG.out]; exact hM9
                          · rw [HG.out]; exact o9.same (innerTs _) fun j u' g hu hg => (only_blockG w9 mb ob).block g (o9.lt (innerTs _) hu hg) (.inr (o9.low j u' g hu hg))
                        have DN := Lib.hid DSn
                        clear DSn hput hM9 h9 g9 hb9 W5 l1 l3 HF HG
                        generalize Go.ChangeMaps.setBlock w9 mb ob = w10 at *
                        generalize us ++ [.slice ao3 (0 + 1) c3] = us' at DN
                        generalize Value.slice ao3 (0 + 1) c3 = s139 at DN ⊢
                        generalize Value.slice none 0 0 = s136
                        exact tail w10 us' s136 s139 DN
                  case tl =>
                    clear W0 W1 W2 W4 bW hWs kb0 kb1 hbel8 M8 G8 O8 HZ HG0 HGF HLEN hq0 hq1 hq2 hq3 hq4 hq5 hq6 hq7
                    intro w10 us' s136 s139 DN
                    go_wp2_with fail
                    go_roundw
                    case rel => exact ⟨_, _, _, _, ⟨c + 1, by omega, by go_num, us', DN.out⟩, rfl, rfl, rfl, rfl⟩
                    case measure => simp [intOf]; omega
              · obtain rfl : N = c := by omega
                obtain ⟨es, clock, hmp, hks, hus, hbn, hnd⟩ := ds.mg
                have hA := adjNe_of ok
                have hNN := HN.out
                have hES := ES.start ds hNN hmb hmp
                have hrg : ∀ W, W = wr → (Instr.range 172 (.map (some mb))).run Try.prog W = .ok (.pointer (some ⟨wr.heap.size, 0, none⟩)) (wr.alloc (.mapIter (some mb) clock #[] clock)) := fun W hW => by subst hW; exact run_range_map _ _ _ _ mb es clock Try.underlying172 hmp
                have hrg1 := hrg wr rfl
                have hlen : es.toList.length = (gF ps (lenSS ps)).2.length := by
                  have h1 := congrArg List.length hks
                  have h2 := (gF_ok ps N).len
                  rw [← hNN, h2]; simpa using h1
                have HMB := Lib.hid hmb
                have HKS := Lib.hid hks
                have HUS := Lib.hid hus
                have HBN := Lib.hid hbn
                have HND := Lib.hid hnd
                have HLEN := Lib.hid hlen
                have HNN := Lib.hid hNN
                have E0 := Lib.hid hES
                clear hks hus hbn hnd hlen hNN hES ds hmp hmb hrg
                go_upto_region 32 with fail
                go_wp2_with fail
                clear hrg1
                generalize wr.alloc (.mapIter (some mb) clock #[] clock) = w3 at *
                generalize wr.heap.size = ib at *
                go_loopw [] (fun wi => ∃ (seen : Array Nat) (c0 : Nat) (z2 : List Int), ES wB wi g0 r0 r1 r2 N mb ib clock es ps us seen c0 z2 ∧ SN ps es seen z2) (fun wi => (leftOf es (wi.iterSeen ib)).size)
                case atStart => exact ⟨#[], clock, _, E0.out, fun m e he hs => by simp at hs⟩
                case round =>
                  clear E0
                  obtain ⟨seen, c0, z2, E1, hSN⟩ := hrel
                  have SN1 := Lib.hid hSN
                  clear hSN
                  have law := run_next_at (P := Try.prog) wr 0 ib mb clock c0 seen es clock E1.it E1.mp HBN.out E1.cl
                  have EH := Lib.hid E1
                  have hz2 := E1.ms.lens.2.2
                  clear E1
                  rcases law with ⟨h0, hrun⟩ | ⟨e, he, w1, hw1, hrun⟩
                  · have hnx : ∀ ty, (Instr.next (.pointer (some ⟨ib, 0, none⟩)) false ty).run Try.prog wr = .ok (.tuple #[.bool false]) wr := fun _ => hrun
                    obtain ⟨hz, hgd⟩ := SN1.out.all hA (by rw [hz2, HNN.out]) HLEN.out h0
                    rw [← HNN.out] at hz
                    subst hz
                    have HGD := Lib.hid hgd
                    clear hrun hgd SN1 h0 hz2
                    have hmM : mpM ps = [zerL ps N, oneL N, twoL ps N (2 * N)] := by rw [HNN.out]; rfl
                    have hOk : mpOk ps = manB (mpM ps) := by unfold mpOk; rw [HGD.out]; rfl
                    have HOK := Lib.hid hOk
                    have kN : Blk (wr.alloc (.cells #[.slice (some ⟨g0, 0, none⟩) 3 3] 41)) wr.heap.size 41 #[.slice (some ⟨g0, 0, none⟩) 3 3] := blk_at rfl
                    have ms5 := EH.out.ms.below (below_alloc1 wr (.cells #[.slice (some ⟨g0, 0, none⟩) 3 3] 41))
                    have HMM := Lib.hid hmM
                    clear hmM hOk
                    go_upto_region 44 with fail
                    clear hnx
                    generalize wr.alloc (.cells #[.slice (some ⟨g0, 0, none⟩) 3 3] 41) = w5 at *
                    generalize wr.heap.size = pn at *
                    have hb5 := ms5.bel
                    have kB := BX.out.belowS hb5
                    have hOW := ms5.owM (lo := wB.heap.size) (Nat.le_refl _)
                    have HOW := Lib.hid hOW
                    have MS5 := Lib.hid ms5
                    have x5 := kN.cell 0
                    clear hOW ms5 EH
                    have HL1 : (mpM ps).length ≤ 1048576 := by show 3 ≤ _; omega
                    have HL2 : ∀ i, i < (mpM ps).length → (lget (mpM ps) i).length ≤ 1048576 := fun i hi => by
                      have := mpM_rows _ (lget_mem hi)
                      have := HNN.out
                      omega
                    cases hman : manB (mpM ps) with
                    | false =>
                      have hno : mpOk ps = false := HOK.out.trans hman
                      have HNO := Lib.hid hno
                      have HMAN := Lib.hid hman
                      clear hno hman
                      go_wp2_with (go_at_call 114; refine (implManQ (d := mpM ps) w5 (by rw [HMM.out]; exact HOW.out) HL1 HL2).mono ?_; rintro e w6 ⟨rfl, b6⟩; rw [HMAN.out]; have x6 := (kB.belowS b6).cell 0; have f6 := (kB.belowS b6).frozen 0; have y9 := ((kB.belowS b6).set_ 0 (.slice none 0 0)).cell 0)
                      exact bodyPost_ret (v := .tuple #[.agg #[.slice none 0 0], .bool false]) (by simp [results, Try.f118, go_sem, y9]) rfl ⟨_, [], by rw [HNO.out], own_nilM, (fun e => absurd (HNO.out.symm.trans e) (by simp)), (below_tr b6 (below_tr hb5 BE.out)).setCell (Nat.le_refl _) _⟩
                    | true =>
                      have hno : mpOk ps = true := HOK.out.trans hman
                      have HNO := Lib.hid hno
                      have HMAN := Lib.hid hman
                      clear hno hman
                      go_wp2_with (go_at_call 114; refine (implManQ (d := mpM ps) w5 (by rw [HMM.out]; exact HOW.out) HL1 HL2).mono ?_; rintro e w6 ⟨rfl, b6⟩; rw [HMAN.out]; have x6 := (kB.belowS b6).cell 0; have f6 := (kB.belowS b6).frozen 0; have y6 := (kN.belowS b6).cell 0; have s6 := b6.size)
                      have y9 : (w6.setCell ⟨w.heap.size, 0, none⟩ (.slice (some ⟨g0, 0, none⟩) 3 3)).cell? ⟨w.heap.size, 0, none⟩ = some (.slice (some ⟨g0, 0, none⟩) 3 3) := ((kB.belowS b6).set_ 0 (.slice (some ⟨g0, 0, none⟩) 3 3)).cell 0
                      have o6 : OwM 2 49 w6 wB.heap.size w6.heap.size (.agg #[.slice (some ⟨g0, 0, none⟩) 3 3]) (mpM ps) := by rw [HMM.out]; exact (MS5.out.below b6).owM (Nat.le_refl _)
                      have o7 : OwM 2 49 (w6.setCell ⟨w.heap.size, 0, none⟩ (.slice (some ⟨g0, 0, none⟩) 3 3)) wB.heap.size w6.heap.size (.agg #[.slice (some ⟨g0, 0, none⟩) 3 3]) (mpM ps) := by
                        obtain ⟨a6, n6, c6, us6, e6, ho6⟩ := o6
                        exact ⟨a6, n6, c6, us6, e6, ho6.same (innerS _) fun g hg _ _ => Below.heap_setCell _ _ _ g (by show g ≠ w.heap.size; omega)⟩
                      exact bodyPost_ret (v := .tuple #[.agg #[.slice (some ⟨g0, 0, none⟩) 3 3], .bool true]) (by simp [results, Try.f118, go_sem, y9]) rfl ⟨_, mpM ps, by rw [HNO.out], o7.mono (by omega) (by simp [World.setCell]), (fun _ => rfl), (below_tr b6 (below_tr hb5 BE.out)).setCell (Nat.le_refl _) _⟩
                  · obtain ⟨hem, hsn⟩ := mem_left he
                    obtain ⟨m, hm⟩ := List.mem_iff_getElem?.1 hem
                    have hml : m < es.toList.length := (List.getElem?_eq_some_iff.1 hm).1
                    have hum : us[m]? = some e.val := by rw [← HUS.out, List.getElem?_map, hm]; rfl
                    obtain ⟨dm, hdm, ⟨ao, n9, c9, hval, ow⟩⟩ := EH.out.ol.some_ hum
                    have hnx : ∀ ty, (Instr.next (.pointer (some ⟨ib, 0, none⟩)) false ty).run Try.prog wr = .ok (.tuple #[.bool true, e.key, .slice ao n9 c9]) (Go.ChangeMaps.setBlock w1 ib (.mapIter (some mb) clock (seen.push e.born) clock)) := fun _ => by rw [← hval]; exact hrun
                    have E2 := EH.out.next hw1 e.born
                    have hdl : lget (gF ps (lenSS ps)).2 m = dm := by rw [← HNN.out]; exact lget_get? hdm
                    have hdn : dm.length = n9 := ow.len
                    have hm2 : m < (gF ps (lenSS ps)).2.length := by rw [← HLEN.out]; exact hml
                    have hen := run_entry_at (P := Try.prog) (Go.ChangeMaps.setBlock w1 ib (.mapIter (some mb) clock (seen.push e.born) clock)) ib mb clock seen es clock e E2.it E2.mp hem HND.out
                    rw [hval] at hen
                    have hmeas : (leftOf es (seen.push e.born)).size < (leftOf es (wr.iterSeen ib)).size := by
                      have : wr.iterSeen ib = seen := by unfold World.iterSeen; rw [EH.out.it]
                      rw [this]; exact left_shrinks es seen e he
                    have E2H := Lib.hid E2
                    have HM := Lib.hid hm
                    have HUM := Lib.hid (show us[m]? = some (.slice ao n9 c9) by rw [hum, hval])
                    have HDM := Lib.hid hdm
                    have HDL := Lib.hid hdl
                    have HME := Lib.hid hmeas
                    have HDN := Lib.hid hdn
                    clear hrun EH hmeas hdm hdl hum hm hval ow E2 hdn
                    by_cases h92 : n9 = 2
                    · subst h92
                      go_upto_region 37 with fail
                      clear hnx hen
                      generalize Go.ChangeMaps.setBlock w1 ib (.mapIter (some mb) clock (seen.push e.born) clock) = w9 at *
                      obtain ⟨a, b, hab, ha, hb, hK, hkb, hdm2⟩ := two_sides hm2 HDL.out HDN.out
                      have SN2 := Lib.hid (SN1.out.push (by rw [hz2, HNN.out]) HND.out HLEN.out HM.out hab ha hb hK hkb (HDL.out.trans hdm2))
                      have hX := nA_lt ha; have hX' := nA_lt hb; have hY := nB_lt ha; have hY' := nB_lt hb
                      have hXX := nA_inj ha hb hab
                      have hYY := nB_inj ha hb hab
                      rw [← HNN.out] at hX hX' hY hY'
                      have HDM2 := Lib.hid hdm2
                      clear hdm2 hK hkb ha hb hab SN1
                      generalize nA ps a = X at *
                      generalize nA ps b = X' at *
                      generalize nB ps a = Y at *
                      generalize nB ps b = Y' at *
                      go_wp2_with fail
                      go_loopw [151] (fun iv wi => ∃ k : Nat, k ≤ 2 ∧ iv = .int .i64 k ∧ ES wB wi g0 r0 r1 r2 N mb ib clock es ps us (seen.push e.born) clock (zK z2 X X' Y Y' k)) (fun iv _ => 2 - (intOf iv).toNat)
                      case atStart => exact ⟨0, by omega, rfl, E2H.out⟩
                      case round =>
                        clear E2H
                        obtain ⟨k, hk2, rfl, E3⟩ := hrel
                        by_cases hlt5 : k < 2
                        · have hst := zK_step (z := z2) (x := X) (x' := X') (y := Y) (y' := Y') hlt5
                          obtain ⟨ao4, n4, c4, e4, ow4⟩ := E3.ol.el m _ _ HUM.out HDM.out
                          injection e4 with e4 e5 e6
                          subst e4 e5 e6
                          obtain ⟨g4, e4, -, hg4l, -, hc4, -⟩ := ow4.form (by omega)
                          subst e4
                          obtain ⟨t0, t1⟩ := hc4 0 (by omega)
                          obtain ⟨t2, t3⟩ := hc4 1 (by omega)
                          rw [HDM2.out] at t0 t1 t2 t3
                          obtain ⟨P, hP⟩ : ∃ P, P = if k = 0 then X else Y := ⟨_, rfl⟩
                          obtain ⟨P', hP'⟩ : ∃ P', P' = if k = 0 then X' else Y' := ⟨_, rfl⟩
                          have u0 : wr.cell? ⟨g4, k, none⟩ = some (.int .i64 (P : Int)) := by
                            match k, hlt5 with
                            | 0, _ => rw [hP]; exact t0
                            | 1, _ => rw [hP]; exact t1
                          have u1 : wr.cell? ⟨g4, 2 + k, none⟩ = some (.int .i64 (P' : Int)) := by
                            match k, hlt5 with
                            | 0, _ => rw [hP']; exact t2
                            | 1, _ => rw [hP']; exact t3
                          rw [← hP, ← hP'] at hst
                          have hPn : P < 2 * N := by rw [hP]; split <;> omega
                          have hPn' : P' < 2 * N := by rw [hP']; split <;> omega
                          have hPP : P ≠ P' := by rw [hP, hP']; split <;> assumption
                          clear hP hP' t0 t1 t2 t3 hc4 ow4
                          have HST := Lib.hid hst
                          clear hst
                          generalize zK z2 X X' Y Y' k = z at *
                          have HE := Lib.hid E3
                          clear E3
                          go_upto_region 40 with fail
                          have hk0 : (0 : Int) ≤ (k : Int) := by omega
                          have hk1 : (k : Int) < 2 := by omega
                          have K0 := Lib.hid (show wr.drew.cell? ⟨g4, k, none⟩ = some (.int .i64 (P : Int)) ∧ wr.drew.cell? ⟨g4, 2 + k, none⟩ = some (.int .i64 (P' : Int)) from ⟨u0, u1⟩)
                          clear u0 u1
                          go_region_held3 (fun w' => w'.cell? ⟨g4, k, none⟩ = some (.int .i64 (P : Int)) ∧ w'.cell? ⟨g4, 2 + k, none⟩ = some (.int .i64 (P' : Int))) (first | exact K0.out) (fail)
                          have E5 := HE.out.put HE.out.ms.drew (fun g _ => rfl)
                          clear K0 HE
                          generalize wr.drew = w4 at *
                          go_upto_region 41 with fail
                          have E6 := E5.put E5.ms.drew (fun g _ => rfl)
                          obtain ⟨-, -, x2⟩ := E6.ms.cells
                          obtain ⟨y0, y1⟩ := MS.int wB E6.ms.o2 hPn
                          obtain ⟨z0, z1⟩ := MS.int wB E6.ms.o2 hPn'
                          have hPP2 : ¬ (P' = P) := fun e => hPP e.symm
                          have MS3 := E6.ms.st2 P (P' : Int)
                          obtain ⟨v0, v1⟩ := MS.int wB MS3.o2 hPn'
                          have v0b : (w4.setCell ⟨r2, P, none⟩ (.int .i64 (P' : Int))).drew.cell? ⟨r2, P', none⟩ = some (.int .i64 (iget (z.set P (P' : Int)) P')) := v0
                          have v1b : (w4.setCell ⟨r2, P, none⟩ (.int .i64 (P' : Int))).drew.frozen? ⟨r2, P', none⟩ = false := v1
                          have v0c : (w4.setCell ⟨r2, P, none⟩ (.int .i64 (P' : Int))).cell? ⟨r2, P', none⟩ = some (.int .i64 (iget (z.set P (P' : Int)) P')) := v0
                          have v1c : (w4.setCell ⟨r2, P, none⟩ (.int .i64 (P' : Int))).frozen? ⟨r2, P', none⟩ = false := v1
                          have v0d : w4.cell? ⟨r2, P', none⟩ = some (.int .i64 (iget z P')) := z0
                          have v1d : w4.frozen? ⟨r2, P', none⟩ = false := z1
                          have m4 := MS3.st2 P' (P : Int)
                          have hs4 : ∀ g, g ≠ r2 → ((w4.drew.setCell ⟨r2, P, none⟩ (.int .i64 (P' : Int))).setCell ⟨r2, P', none⟩ (.int .i64 (P : Int))).heap[g]? = w4.drew.heap[g]? := fun g hg => (Below.heap_setCell _ _ _ g (by exact hg)).trans (Below.heap_setCell _ _ _ g (by exact hg))
                          have E7 := Lib.hid (E6.put (z := zSt z P P') m4 hs4)
                          have K0 := Lib.hid (show w4.drew.cell? ⟨g0, 2, none⟩ = some (.slice (some ⟨r2, 0, none⟩) (2 * N) (2 * N)) from x2)
                          have K1 := Lib.hid (show (w4.drew.setCell ⟨r2, P, none⟩ (.int .i64 (P' : Int))).cell? ⟨g0, 2, none⟩ = some (.slice (some ⟨r2, 0, none⟩) (2 * N) (2 * N)) from MS3.cells.2.2)
                          have K2 := Lib.hid (show ((w4.drew.setCell ⟨r2, P, none⟩ (.int .i64 (P' : Int))).setCell ⟨r2, P', none⟩ (.int .i64 (P : Int))).cell? ⟨g0, 2, none⟩ = some (.slice (some ⟨r2, 0, none⟩) (2 * N) (2 * N)) from m4.cells.2.2)
                          clear E5 E6 MS3 m4 hs4 x2
                          have hA1 : (0 : Int) ≤ (P : Int) := by omega
                          have hA2 : (P : Int) < 2 * (N : Int) := by omega
                          have hB1 : (0 : Int) ≤ (P' : Int) := by omega
                          have hB2 : (P' : Int) < 2 * (N : Int) := by omega
                          go_region_held3 (fun w' => w'.cell? ⟨g0, 2, none⟩ = some (.slice (some ⟨r2, 0, none⟩) (2 * N) (2 * N))) (first | exact K0.out | exact K1.out | exact K2.out) (fail)
                          have E8 : ES wB ((w4.setCell ⟨r2, P, none⟩ (.int .i64 (P' : Int))).setCell ⟨r2, P', none⟩ (.int .i64 (P : Int))).drew g0 r0 r1 r2 N mb ib clock es ps us (seen.push e.born) clock (zSt z P P') := E7.out
                          have E9 := Lib.hid E8
                          clear E8 E7 K0 K1 K2 y0 y1 z0 z1 v0 v1 v0b v1b v0c v1c v0d v1d hA1 hA2 hB1 hB2
                          generalize ((w4.setCell ⟨r2, P, none⟩ (.int .i64 (P' : Int))).setCell ⟨r2, P', none⟩ (.int .i64 (P : Int))).drew = w5 at *
                          go_wp2_with fail
                          go_roundw
                          case rel => (repeat apply Exists.intro); exact ⟨⟨k + 1, by omega, by go_num, by rw [HST.out]; exact E9.out⟩, rfl⟩
                          case measure => simp [intOf]; omega
                        · obtain rfl : k = 2 := by omega
                          have E4 := Lib.hid E3
                          clear E3
                          go_wp2_with fail
                          go_roundw
                          case rel => exact ⟨seen.push e.born, clock, _, E4.out, SN2.out⟩
                          case measure =>
                            have : wr.iterSeen ib = seen.push e.born := by unfold World.iterSeen; rw [E4.out.it]
                            rw [this]; exact HME.out
                    · have hbad := good_no hA hm2 (by rw [HDL.out, HDN.out]; exact h92)
                      have HBAD := Lib.hid hbad
                      clear hbad
                      go_upto_region 36 with fail
                      clear hnx hen
                      generalize Go.ChangeMaps.setBlock w1 ib (.mapIter (some mb) clock (seen.push e.born) clock) = w9 at *
                      have k9 := BX.out.belowS E2H.out.ms.bel
                      have x9 := k9.cell 0
                      have f9 := k9.frozen 0
                      have y9 : (w9.setCell ⟨w.heap.size, 0, none⟩ (.slice none 0 0)).cell? ⟨w.heap.size, 0, none⟩ = some (.slice none 0 0) := (k9.set_ 0 (.slice none 0 0)).cell 0
                      have hno : mpOk ps = false := by unfold mpOk; rw [HBAD.out]; rfl
                      have HNO := Lib.hid hno
                      clear hno k9
                      go_wp2_with fail
                      exact bodyPost_ret (v := .tuple #[.agg #[.slice none 0 0], .bool false]) (by simp [results, Try.f118, go_sem, y9]) rfl ⟨_, [], by rw [HNO.out], own_nilM, (fun e => absurd (HNO.out.symm.trans e) (by simp)), (below_tr E2H.out.ms.bel BE.out).setCell (Nat.le_refl _) _⟩
end Go.Proofs.Ytpognnifgcacnaa

/- Maps of polygons: the program's contract whole. -/
namespace Go.Proofs.Ytpognnifgcacnaa
open Go.RowKit

theorem api_implMp {v : Value} {ps : List (List Int)} (n : Int) (w : World) (h : RdSSc w v ps) :
    Calls Try.prog 46 #[.int .i64 n, v] w fun e w' => ∃ r, e = .returned (.tuple #[r, .int .i64 (mpC n ps)]) ∧ OwM 2 49 w' w.heap.size w'.heap.size r (mpR n ps) ∧ Below w.heap.size w w' :=
  implMp_of (fun ok w h => mapI_any ok w h) n w h
end Go.Proofs.Ytpognnifgcacnaa

/- slices.Delete of one element, slices.Clone, at [][]int64; what the program and the reference leave out of a maniplex. -/
namespace Go.Proofs.Ytpognnifgcacnaa
open Go.RowKit

set_option maxRecDepth 100000 in
set_option maxHeartbeats 3200000 in
theorem delete1_any (g n c i base : Nat) (us : List Value) (w : World) (ho : Own w base 49 (some ⟨g, 0, none⟩) n c us) (hi : i < n) (h1 : ∀ u ∈ us, u.oneCell' = true) (j0 : Nat) (hj0 : j0 = i + 1) :
    Calls Try.prog 211 #[.slice (some ⟨g, 0, none⟩) n c, .int .i64 i, .int .i64 j0] w fun e w' => e = .returned (.slice (some ⟨g, 0, none⟩) (n - 1) c) ∧ Below base w w' ∧ ∀ j, j < n - 1 → w'.cell? ⟨g, j, none⟩ = (us.eraseIdx i)[j]? := by
  obtain ⟨g', hg', hbase, hlt, hnc, hcell, hfz⟩ := ho.form (by omega)
  injection hg' with hg'
  injection hg' with hg'
  subst hg'
  have hlen := ho.len
  have hn4 := ho.2
  have hcm : c ≤ 9223372036854775807 := by
    rcases ho.1.2 with ⟨h2, _⟩ | ⟨_, _, _, hv, _, _, _, hm, _⟩
    · cases h2
    · injection hv with _ _ h3; subst h3; simpa [maxLen] using hm
  obtain ⟨news, hnews⟩ : ∃ news, news = us.drop j0 := ⟨_, rfl⟩
  have hnl : news.length = n - j0 := by rw [hnews, List.length_drop, hlen]
  obtain ⟨A, hA, hsrc⟩ : ∃ A : Addr, (if c = j0 then some (⟨g, 0, none⟩ : Addr) else some ⟨g, j0, none⟩) = some A ∧ Hid (∀ t u, news[t]? = some u → w.drew.cell? (A.add t) = some u) := by
    by_cases h : c = j0
    · refine ⟨⟨g, 0, none⟩, by simp [h], Lib.hid fun t u hu => ?_⟩
      have h0 : news.length = 0 := by rw [hnl]; omega
      rw [List.length_eq_zero_iff.1 h0] at hu
      simp at hu
    · refine ⟨⟨g, j0, none⟩, by simp [h], Lib.hid fun t u hu => ?_⟩
      have ht : t < n - j0 := by
        have := (List.getElem?_eq_some_iff.1 hu).1
        rwa [hnl] at this
      rw [hnews, List.getElem?_drop] at hu
      rw [Addr.add_lit]
      exact (hcell (j0 + t) (by omega)).trans hu
  have s1 := Lib.hid (show news.length = (n - j0) * 1 by rw [Nat.mul_one]; exact hnl)
  have s2 := Lib.hid (show ∀ u ∈ news, u.oneCell' = true from fun u hu => h1 u (List.mem_of_mem_drop (hnews ▸ hu)))
  have s3 := Lib.hid (show ∀ t, t < news.length → (w.drew.cell? ⟨g, 0 + i * 1 + t, none⟩).isSome = true ∧ w.drew.frozen? ⟨g, 0 + i * 1 + t, none⟩ = false from fun t ht => by
    rw [hnl] at ht
    rw [Nat.mul_one, Nat.zero_add]
    refine ⟨?_, hfz _⟩
    show (w.cell? _).isSome = true
    rw [hcell (i + t) (by omega), List.getElem?_eq_getElem (by omega)]; rfl)
  obtain ⟨W1, hW1⟩ : ∃ W1, W1 = w.drew.setCells g (0 + i * 1) news := ⟨_, rfl⟩
  have hc1 : ∀ j, j < n → W1.cell? ⟨g, j, none⟩ = if j < i then us[j]? else if j < n - 1 then us[j + 1]? else us[j]? := fun j hj => by
    rw [hW1, Nat.mul_one, Nat.zero_add]
    by_cases e1 : j < i
    · rw [if_pos e1, World.cell?_setCells_out g news i w.drew ⟨g, j, none⟩ (fun _ _ => .inl e1)]
      exact hcell j hj
    · rw [if_neg e1]
      by_cases e2 : j < n - 1
      · rw [if_pos e2]
        have := World.cell?_setCells_in g news i w.drew (fun t ht => by
          rw [hnl] at ht
          show (w.cell? _).isSome = true
          rw [hcell (i + t) (by omega), List.getElem?_eq_getElem (by omega)]; rfl) (j - i) (by rw [hnl]; omega)
        rw [show i + (j - i) = j by omega] at this
        rw [this]
        have e3 : news[j - i]? = us[j + 1]? := by rw [hnews, List.getElem?_drop, show j0 + (j - i) = j + 1 by omega]
        rw [← e3, List.getElem?_eq_getElem (by rw [hnl]; omega)]
      · rw [if_neg e2, World.cell?_setCells_out g news i w.drew ⟨g, j, none⟩ (fun _ _ => .inr (by rw [hnl]; show i + (n - j0) ≤ j; omega))]
        exact hcell j hj
  have hf1 : ∀ j, W1.frozen? ⟨g, j, none⟩ = false := fun j => by rw [hW1, World.frozen?_setCells]; exact hfz j
  have hb1 : Below base w W1 := by
    rw [hW1]
    exact (Below.refl base w).drew.trans (Lib.below_setCells_w hbase _ _ _)
  have hc2 : ∀ j, j < n → (W1.cell? ⟨g, j, none⟩).isSome = true := fun j hj => by
    rw [hc1 j hj]
    split
    · rw [List.getElem?_eq_getElem (by omega)]; rfl
    · split
      · rw [List.getElem?_eq_getElem (by omega)]; rfl
      · rw [List.getElem?_eq_getElem (by omega)]; rfl
  have hcl : ∀ ty, (Builtin.clear_ #[39] ty #[.slice (some ⟨g, i + (n - j0), none⟩) (n - (i + (n - j0))) (c - (i + (n - j0)))]).run Try.prog W1 = .ok (.tuple #[]) (W1.setCells g (i + (n - j0)) (List.replicate (n - (i + (n - j0))) (.slice none 0 0))) :=
    fun ty => Lib.run_clear_slice W1 _ _ ty _ etSS.und (fun w => by rfl) rfl rfl g (i + (n - j0)) _ _ (by omega) (fun t ht => hc2 _ (by omega)) (fun t ht => hf1 _)
  have hW := Lib.hid hW1
  have HC1 := Lib.hid hc1
  have HB1 := Lib.hid hb1
  obtain ⟨i0, hi0, _, hsz0, _⟩ := info_parts etSS.info
  have hic : i ≤ c := by omega
  have hjc : j0 ≤ c := by omega
  clear hW1 hc1 hc2 hf1 hb1 hcell hfz hnews hnl ho h1 hlen
  have HJ0 := Lib.hid hj0
  have hij : i < j0 := by omega
  have hjn : j0 ≤ n := by omega
  have hne : ((i : Int) == j0) = false := beq_false_of_ne (by omega)
  clear hj0
  go_enter Try.func211, Try.ntmps211
  go_wp2_with fail
  go_region_law (refine step_append_room rfl (.tmp 22) (.tmp 25) 39 rfl 49 i0 1 etSS.und hi0 hsz0 g 0 i c (by simp [Act.eval, Act.put]) A (n - j0) (c - j0) news (by simp [Act.eval, Act.put]) s1.out hsrc.out s2.out (by omega) s3.out ?_; rw [← hW.out])
  all_goals
    go_wp2
    go_ret
    have hj0 := HJ0.out
    refine ⟨(congrArg (fun m => Ending.returned (Value.slice (some ⟨g, 0, none⟩) m c)) (show i + (n - j0) = n - 1 by omega) : _ = _), HB1.out.trans (Lib.below_setCells_w hbase _ _ _), fun j hj => ?_⟩
    rw [World.cell?_setCells_out g _ _ W1 ⟨g, j, none⟩ (fun _ _ => .inl (by show j < i + (n - j0); omega)), HC1.out j (by omega), List.getElem?_eraseIdx]
    split
    · rfl
    · first | rfl | (rw [if_pos hj]) | (rw [if_pos hj]; rfl)
end Go.Proofs.Ytpognnifgcacnaa

/- What the program and the reference leave out of a maniplex: without, l02Others; flags. -/
namespace Go.Proofs.Ytpognnifgcacnaa
open Go.RowKit

/-- values that read as lists, each within its capacity -/
def RwV (w : World) (us : List Value) (zss : List (List Int)) : Prop := us.length = zss.length ∧ ∀ j, j < zss.length → ∃ a' c', us[j]? = some (.slice a' (lget zss j).length c') ∧ (lget zss j).length ≤ c' ∧ Ints w a' (lget zss j).length (lget zss j)
theorem RwV.below {w w' : World} {us : List Value} {zss : List (List Int)} (h : RwV w us zss) (hb : Below w.heap.size w w') : RwV w' us zss :=
  ⟨h.1, fun j hj => by obtain ⟨a, c, h1, h2, h3⟩ := h.2 j hj; exact ⟨a, c, h1, h2, h3.below hb⟩⟩
theorem RwV.one {w : World} {us : List Value} {zss : List (List Int)} (h : RwV w us zss) : ∀ u ∈ us, u.oneCell' = true := fun u hu => by
  obtain ⟨j, hj, rfl⟩ := List.getElem_of_mem hu
  obtain ⟨a, c, h1, _, _⟩ := h.2 j (by rw [← h.1]; exact hj)
  rw [List.getElem?_eq_getElem hj] at h1
  rw [Option.some.inj h1]; rfl
theorem lget_erase {zss : List (List Int)} {i j : Nat} : lget (zss.eraseIdx i) j = if j < i then lget zss j else lget zss (j + 1) := by
  unfold lget
  rw [List.getD_eq_getElem?_getD, List.getElem?_eraseIdx]
  split <;> simp [List.getD_eq_getElem?_getD]
theorem RwV.erase {w : World} {us : List Value} {zss : List (List Int)} (h : RwV w us zss) {i : Nat} (hi : i < zss.length) : RwV w (us.eraseIdx i) (zss.eraseIdx i) := by
  have h0 := h.1
  refine ⟨by rw [List.length_eraseIdx, List.length_eraseIdx, h0], fun j hj => ?_⟩
  rw [List.length_eraseIdx, if_pos hi] at hj
  rw [lget_erase, List.getElem?_eraseIdx]
  split
  · exact h.2 j (by omega)
  · exact h.2 (j + 1) (by omega)
theorem RdSSc.rows {w : World} {v : Value} {zss : List (List Int)} (h : RdSSc w v zss) : ∃ ao c us, v = .slice ao zss.length c ∧ Vals w ao zss.length us ∧ RwV w us zss ∧ (0 < zss.length → zss.length ≤ c) := by
  obtain ⟨ao, c, rfl, hn, hc⟩ := h
  rcases Nat.eq_zero_or_pos zss.length with h0 | h0
  · refine ⟨ao, c, [], rfl, ⟨by rw [h0]; rfl, hn, fun h => by omega⟩, ⟨by rw [h0]; rfl, fun j hj => by omega⟩, fun h => by omega⟩
  · obtain ⟨h1, b, off, e, hlt, h2⟩ := hc h0
    have hget : ∀ j, j < zss.length → ((List.range zss.length).map fun j => (w.cell? ⟨b, off + j, none⟩).getD (.slice none 0 0))[j]? = some ((w.cell? ⟨b, off + j, none⟩).getD (.slice none 0 0)) := fun j hj => by simp [hj]
    refine ⟨ao, c, (List.range zss.length).map fun j => (w.cell? ⟨b, off + j, none⟩).getD (.slice none 0 0), rfl, ⟨by simp, hn, fun _ => ⟨b, off, e, fun j u hu => ?_⟩⟩, ⟨by simp, fun j hj => ?_⟩, fun _ => h1⟩
    · have hj : j < zss.length := by have := (List.getElem?_eq_some_iff.1 hu).1; simpa using this
      obtain ⟨a', c', h3, _, _⟩ := h2 j hj
      rw [hget j hj, h3] at hu
      rw [h3]; exact hu
    · obtain ⟨a', c', h3, h4, h5⟩ := h2 j hj
      exact ⟨a', c', by rw [hget j hj, h3]; rfl, h4, h5⟩
theorem rdc_of {w : World} {g n c : Nat} {us : List Value} {zss : List (List Int)} (hn : zss.length = n) (hn1 : n ≤ c) (hn2 : n ≤ 17592186044416) (hg : g < w.heap.size) (hc : ∀ j, j < n → w.cell? ⟨g, j, none⟩ = us[j]?) (hr : RwV w us zss) : RdSSc w (.slice (some ⟨g, 0, none⟩) n c) zss := by
  subst hn
  refine ⟨_, _, rfl, hn2, fun h0 => ⟨hn1, g, 0, rfl, hg, fun j hj => ?_⟩⟩
  obtain ⟨a', c', h1, h2, h3⟩ := hr.2 j hj
  exact ⟨a', c', by rw [Nat.zero_add, hc j hj]; exact h1, h2, h3⟩

set_option maxRecDepth 100000 in
set_option maxHeartbeats 800000 in
theorem cloneSS_any (ao : Option Addr) (n c : Nat) (us : List Value) (w : World) (h : Vals w ao n us) (hn : 0 < n) (hn4 : n ≤ 4398046511104) (h1 : ∀ u ∈ us, u.oneCell' = true) :
    Calls Try.prog 212 #[.slice ao n c] w fun e w' => ∃ g c', e = .returned (.slice (some ⟨g, 0, none⟩) n c') ∧ Own w' w.heap.size 49 (some ⟨g, 0, none⟩) n c' us ∧ Below w.heap.size w w' := by
  have he := fun (w : World) => Lib.run_eql_slice_nil (P := Try.prog) w 39 49 ao n c 0 0 Try.underlying39
  obtain ⟨b, off, rfl, hcell⟩ := h.2.2 hn
  go_enter Try.func212, Try.ntmps212
  have hO : Own (w.alloc (.cells #[] 49)) w.heap.size 49 (some ⟨w.heap.size, 0, none⟩) 0 0 [] := Own.empty_ w _ (Nat.le_refl _)
  have HO := Lib.hid hO
  have hV : Vals (w.alloc (.cells #[] 49)) (some ⟨b, off, none⟩) n us := ⟨h.1, h.2.1, fun _ => ⟨b, off, rfl, fun j u hu => by
    have h2 := hcell j u hu
    exact (World.cell?_of_block (Below.heap_alloc w _ b (World.block_lt_of_cell? w _ h2))).trans h2⟩⟩
  have HV := Lib.hid hV
  have hs : w.heap.size ≤ (w.alloc (.cells #[] 49)).heap.size := by simp
  have H1 := Lib.hid h1
  clear hO hV hcell h h1
  go_wp2_with (at_builtin; refine wpList_apV etSS _ rfl _ _ rfl w.heap.size _ 0 0 [] rfl HO.out (some ⟨b, off, none⟩) n c us rfl HV.out H1.out (by omega) hs ?_; intro ao2 c2 w2 o2 g2 hat)
  rw [Nat.zero_add] at o2
  obtain ⟨g, hg, hg1, _⟩ := o2.form hn
  subst hg
  have hb : Below w.heap.size w w2 := (below_alloc1 w (.cells #[] 49)).grown g2 (by simp) (fun k hk => by simp [bk] at hk; omega)
  go_ret
  exact ⟨g, c2, rfl, by simpa using o2, hb⟩
set_option maxRecDepth 100000 in
set_option maxHeartbeats 800000 in
theorem without_any (mb c i : Nat) (ao : Option Addr) (d : List (List Int)) (w : World) (hm : Blk w mb 41 #[.slice ao d.length c]) (h : RdSSc w (.slice ao d.length c) d) (hi : i < d.length) (hd4 : d.length ≤ 1000) :
    Calls Try.prog 173 #[.pointer (some ⟨mb, 0, none⟩), .int .i64 i] w fun e w' => ∃ v, e = .returned v ∧ RdSSc w' v (d.eraseIdx i) ∧ Below w.heap.size w w' := by
  obtain ⟨ao', c', us, e, hv, hr, hc⟩ := h.rows
  injection e with e1 e2 e3
  subst e1 e3
  have x0 := hm.cell 0
  simp at x0
  have HV := Lib.hid hv
  have HR := Lib.hid hr
  obtain ⟨n, hn⟩ : ∃ n, d.length = n := ⟨_, rfl⟩
  have HN := Lib.hid hn
  rw [hn] at x0 HV hi hd4
  clear hv hr h hc hm hn
  go_enter Try.func173, Try.ntmps173
  go_wp2_with fail
  refine (cloneSS_any ao n c us w HV.out (by omega) (by omega) HR.out.one).mono ?_
  rintro e w2 ⟨g, c2, rfl, o2, b2⟩
  have hle := o2.form (by omega)
  obtain ⟨g', hg', hg1, hg2, hnc, _, _⟩ := hle
  injection hg' with hg'
  injection hg' with hg'
  subst hg'
  have O2 := Lib.hid o2
  have R2 := Lib.hid (HR.out.below b2)
  have B2 := Lib.hid b2
  clear x0 o2 b2
  obtain ⟨j0, hj0, hj1⟩ : ∃ j0 : Nat, (i : Int) + 1 = (j0 : Int) ∧ j0 = i + 1 := ⟨i + 1, by omega, rfl⟩
  have HJ1 := Lib.hid hj1
  have hj4 : j0 ≤ 1000 := by omega
  clear hj1
  go_wp2_with fail
  refine (delete1_any g n c2 i w.heap.size us w2 O2.out hi R2.out.one j0 HJ1.out).mono ?_
  rintro e w3 ⟨rfl, b3, hc3⟩
  have hr3 := (R2.out.erase (i := i) (by rw [HN.out]; exact hi))
  have B3 := B2.out.trans b3
  have hzz : w2.heap.size ≤ w3.heap.size := b3.size
  have R3 : RwV w3 (us.eraseIdx i) (d.eraseIdx i) := ((HR.out.erase (i := i) (by rw [HN.out]; exact hi)).below B3)
  have hlen : (d.eraseIdx i).length = n - 1 := by rw [List.length_eraseIdx, if_pos (by rw [HN.out]; exact hi), HN.out]
  have hfin := rdc_of (g := g) (c := c2) hlen (by omega) (by omega) (by omega) hc3 R3
  go_wp2
  go_ret
  exact ⟨_, rfl, hfin, B3⟩
end Go.Proofs.Ytpognnifgcacnaa

/- Words that lead points through a table: l11Lead, applied; what a presentation's words are. -/
namespace Go.Proofs.Ytpognnifgcacnaa
open Go.RowKit

end Go.Proofs.Ytpognnifgcacnaa

/- Words that lead points through permutations: l11Lead, applied, then, isIdentity, arePermutations. -/
namespace Go.Proofs.Ytpognnifgcacnaa
open Go.RowKit

end Go.Proofs.Ytpognnifgcacnaa

/- holdIn: whether permutations hold a presentation. -/
namespace Go.Proofs.Ytpognnifgcacnaa
open Go.RowKit

end Go.Proofs.Ytpognnifgcacnaa

/- HoldIn, the reference's. -/
namespace Go.Proofs.Ytpognnifgcacnaa
open Go.RowKit

end Go.Proofs.Ytpognnifgcacnaa

/- HoldIn, the program's, and both doors. -/
namespace Go.Proofs.Ytpognnifgcacnaa
open Go.RowKit

end Go.Proofs.Ytpognnifgcacnaa

/- What the reference leaves out of a maniplex: l02Others; numbers of flags. -/
namespace Go.Proofs.Ytpognnifgcacnaa
open Go.RowKit

theorem size1_any (ao : Option Addr) (n c : Nat) (w : World) : Calls Try.prog 139 #[.slice ao n c] w fun e w' => e = .returned (.int .i64 n) ∧ w = w' := by
  go_enter Try.func139, Try.ntmps139
  go_wp2
  go_ret
  exact ⟨rfl, rfl⟩
theorem flagsI_any (mb : Nat) (ao : Option Addr) (n c m : Nat) (d : List (List Int)) (w : World) (hm : Blk w mb 41 #[.slice ao n c]) (h : RdSS w (.slice ao n c) d) (hn : 0 < n) (hl : (lget d 0).length = m) (hm4 : m ≤ 1000000) :
    Calls Try.prog 172 #[.pointer (some ⟨mb, 0, none⟩)] w fun e w' => e = .returned (.int .i64 m) ∧ w = w' := by
  obtain ⟨a1, n1, c1, e, hi⟩ := h
  injection e with e1 e2 e3
  subst e1 e2 e3
  obtain ⟨b, off, a', n', c', rfl, hc, hi'⟩ := hi.at_ hn
  have hnm : n' = m := by rw [← hi'.1]; exact hl
  subst hnm
  have x0 := hm.cell 0
  simp at x0 hc
  clear hi hi' hl hm
  go_enter Try.func172, Try.ntmps172
  go_wp2_with (go_at_call 139; refine (size1_any _ _ _ _).mono ?_; rintro e w' ⟨rfl, hw⟩; subst hw)
  go_ret
  exact ⟨rfl, rfl⟩
end Go.Proofs.Ytpognnifgcacnaa

/- Coset enumeration: what it computes, on lists. No program in sight. -/
namespace Go.Proofs.Ytpognnifgcacnaa

/-- where a coset is after all identifications -/
def toRoot (less : List Int) : Nat → Nat → Nat
  | 0, c => c
  | f + 1, c => if iget less c = c then c else toRoot less f (iget less c).toNat
/-- each coset points to itself or to a lesser one -/
def Down (less : List Int) : Prop := ∀ c, c < less.length → 0 ≤ iget less c ∧ iget less c ≤ c
def root (less : List Int) (c : Nat) : Nat := toRoot less (c + 1) c
theorem toRoot_more {less : List Int} (hd : Down less) : ∀ (f f' c : Nat), c < less.length → c < f → c < f' → toRoot less f c = toRoot less f' c := by
  intro f
  induction f with
  | zero => intro f' c _ h; omega
  | succ f ih =>
    intro f' c hc h h'
    cases f' with
    | zero => omega
    | succ f' =>
      unfold toRoot
      by_cases e : iget less c = c
      · rw [if_pos e, if_pos e]
      · rw [if_neg e, if_neg e]
        have h1 := hd c hc
        exact ih f' _ (by omega) (by omega) (by omega)
theorem root_of {less : List Int} {c : Nat} (h : iget less c = c) : root less c = c := by unfold root toRoot; rw [if_pos h]
theorem root_step {less : List Int} (hd : Down less) {c : Nat} (hc : c < less.length) (h : iget less c ≠ c) : root less c = root less (iget less c).toNat := by
  have h1 := hd c hc
  unfold root
  rw [show toRoot less (c + 1) c = toRoot less c (iget less c).toNat by rw [toRoot, if_neg h]]
  exact toRoot_more hd _ _ _ (by omega) (by omega) (by omega)
theorem root_fix {less : List Int} (hd : Down less) : ∀ c, c < less.length → iget less (root less c) = root less c ∧ root less c ≤ c := by
  intro c
  induction c using Nat.strongRecOn with
  | _ c ih =>
    intro hc
    by_cases e : iget less c = c
    · rw [root_of e]; exact ⟨e, Nat.le_refl _⟩
    · have h1 := hd c hc
      rw [root_step hd hc e]
      have := ih (iget less c).toNat (by omega) (by omega)
      exact ⟨this.1, by omega⟩
theorem root_lt {less : List Int} (hd : Down less) {c : Nat} (hc : c < less.length) : root less c < less.length := Nat.lt_of_le_of_lt (root_fix hd c hc).2 hc

def ent (im : List (List Int)) (c g : Nat) : Int := iget (lget im c) g
def image (im : List (List Int)) (less : List Int) (c g : Nat) : Int := if ent im c g < 0 then -1 else root less (ent im c g).toNat

theorem iget_set {zs : List Int} {i j : Nat} {z : Int} : iget (zs.set i z) j = if i = j ∧ i < zs.length then z else iget zs j := by
  simp only [iget, List.getD_eq_getElem?_getD, List.getElem?_set]
  by_cases h : i = j
  · subst h
    by_cases h2 : i < zs.length
    · simp [h2]
    · simp [h2]
  · simp [h]
theorem lget_set {zss : List (List Int)} {i j : Nat} {z : List Int} : lget (zss.set i z) j = if i = j ∧ i < zss.length then z else lget zss j := by
  simp only [lget, List.getD_eq_getElem?_getD, List.getElem?_set]
  by_cases h : i = j
  · subst h
    by_cases h2 : i < zss.length
    · simp [h2]
    · simp [h2]
  · simp [h]
theorem rset_len (im : List (List Int)) (c g : Nat) (z : Int) : (rset im c g z).length = im.length := by simp [rset]
theorem rset_row (im : List (List Int)) (c g : Nat) (z : Int) (k : Nat) : (lget (rset im c g z) k).length = (lget im k).length := by
  unfold rset
  rw [lget_set]
  split
  · rename_i h; rw [← h.1]; simp
  · rfl
theorem ent_rset {im : List (List Int)} {c g k j : Nat} {z : Int} (hc : c < im.length) (hg : g < (lget im c).length) : ent (rset im c g z) k j = if c = k ∧ g = j then z else ent im k j := by
  unfold ent rset
  rw [lget_set]
  by_cases h : c = k
  · subst h
    rw [if_pos ⟨rfl, hc⟩, iget_set]
    by_cases h2 : g = j
    · subst h2; rw [if_pos ⟨rfl, hg⟩, if_pos ⟨rfl, rfl⟩]
    · rw [if_neg (fun e => h2 e.1), if_neg (fun e => h2 e.2)]
  · rw [if_neg (fun e => h e.1), if_neg (fun e => h e.1)]

structure WF (ng : Nat) (im : List (List Int)) (less : List Int) : Prop where
  len : im.length = less.length
  row : ∀ c, c < im.length → (lget im c).length = ng
  down : Down less
  ent : ∀ c g, c < im.length → g < ng → ent im c g < less.length
theorem WF.set_im {ng : Nat} {im : List (List Int)} {less : List Int} (h : WF ng im less) {c g : Nat} {z : Int} (hc : c < im.length) (hg : g < ng) (hz : z < less.length) : WF ng (rset im c g z) less :=
  { len := by rw [rset_len]; exact h.len
    row := fun k hk => by rw [rset_row]; exact h.row k (by rwa [rset_len] at hk)
    down := h.down
    ent := fun k j hk hj => by
      rw [ent_rset hc (by rw [h.row c hc]; exact hg)]
      split
      · exact hz
      · exact h.ent k j (by rwa [rset_len] at hk) hj }
def alive (less : List Int) : Nat := ((List.range less.length).filter fun c => iget less c == (c : Int)).length
def fuel (ng : Nat) (less : List Int) (q : List (Int × Int)) : Nat := alive less * (ng + 1) + q.length
end Go.Proofs.Ytpognnifgcacnaa

/- Coset enumeration: new cosets and words that are closed, on lists. No program in sight. -/
namespace Go.Proofs.Ytpognnifgcacnaa

/-- a new coset, the image of c under g -/
def addC (ng : Nat) (im : List (List Int)) (n c g : Nat) : List (List Int) := rset (rset (im ++ [List.replicate ng (-1)]) c g n) n g c
/-- the image of c under g, which is defined if there is none; whether it fails -/
def nextC (ng : Nat) (im : List (List Int)) (less : List Int) (c g : Nat) : List (List Int) × List Int × Bool × Nat :=
  if 0 ≤ ent im c g then (im, less, false, root less (ent im c g).toNat)
  else if less.length = 2000 then (im, less, true, 0)
  else (addC ng im less.length c g, less ++ [(less.length : Int)], false, less.length)

theorem WF.app {ng : Nat} {im : List (List Int)} {less : List Int} (h : WF ng im less) : WF ng (im ++ [List.replicate ng (-1)]) (less ++ [(less.length : Int)]) :=
  { len := by simp [h.len]
    row := fun c hc => by
      by_cases e : c < im.length
      · rw [lget_app_lt e]; exact h.row c e
      · obtain rfl : c = im.length := by simp at hc; omega
        rw [lget_app_eq]; simp
    down := fun c hc => by
      by_cases e : c < less.length
      · rw [iget_app_lt e]; exact h.down c e
      · obtain rfl : c = less.length := by simp at hc; omega
        rw [iget_app_eq]; omega
    ent := fun c g hc hg => by
      unfold Proofs.Ytpognnifgcacnaa.ent
      by_cases e : c < im.length
      · rw [lget_app_lt e]
        have := h.ent c g e hg
        unfold Proofs.Ytpognnifgcacnaa.ent at this
        simp; omega
      · obtain rfl : c = im.length := by simp at hc; omega
        rw [lget_app_eq, iget_rep hg]; omega }
theorem WF.addC {ng : Nat} {im : List (List Int)} {less : List Int} {c g : Nat} (h : WF ng im less) (hc : c < less.length) (hg : g < ng) : WF ng (addC ng im less.length c g) (less ++ [(less.length : Int)]) := by
  have h1 := h.app
  have hl := h.len
  unfold Proofs.Ytpognnifgcacnaa.addC
  refine (h1.set_im (c := c) (g := g) (z := (less.length : Int)) (by simp; omega) hg (by simp; omega)).set_im (c := less.length) (g := g) (z := (c : Int)) ?_ hg ?_
  · rw [rset_len]; simp; omega
  · simp; omega
structure GoOK (ng n0 : Nat) (s : List (List Int) × List Int × Bool × Nat) : Prop where
  wf : WF ng s.1 s.2.1
  lo : n0 ≤ s.2.1.length
  hi : s.2.1.length ≤ 2000
  d : s.2.2.2 < s.2.1.length
structure CloseOK (ng n0 : Nat) (s : List (List Int) × List Int × Bool) : Prop where
  wf : WF ng s.1 s.2.1
  lo : n0 ≤ s.2.1.length
  hi : s.2.1.length ≤ 2000
end Go.Proofs.Ytpognnifgcacnaa

/- Coset enumeration: the whole procedure, on lists. No program in sight. -/
namespace Go.Proofs.Ytpognnifgcacnaa

/-- images, the smaller cosets, whether it has failed -/
abbrev CSt := List (List Int) × List Int × Bool
theorem CloseOK.refl {ng : Nat} {s : CSt} (h : WF ng s.1 s.2.1) (hi : s.2.1.length ≤ 2000) : CloseOK ng s.2.1.length s := ⟨h, Nat.le_refl _, hi⟩
theorem CloseOK.le {ng n m : Nat} {s : CSt} (h : CloseOK ng n s) (hm : m ≤ n) : CloseOK ng m s := ⟨h.wf, Nat.le_trans hm h.lo, h.hi⟩
end Go.Proofs.Ytpognnifgcacnaa

/- Coset enumeration: images are never lost; the table is complete at the end. No program in sight. -/
namespace Go.Proofs.Ytpognnifgcacnaa

structure Grow (ng : Nat) (im : List (List Int)) (less : List Int) (im' : List (List Int)) (less' : List Int) : Prop where
  len : less.length ≤ less'.length
  ent : ∀ c g, c < less.length → g < ng → 0 ≤ ent im c g → 0 ≤ ent im' c g
  dead : ∀ c, c < less.length → iget less c ≠ c → iget less' c ≠ c
theorem Grow.refl (ng : Nat) (im : List (List Int)) (less : List Int) : Grow ng im less im less := ⟨Nat.le_refl _, fun _ _ _ _ h => h, fun _ _ h => h⟩
theorem Grow.trans {ng : Nat} {a b c : List (List Int)} {x y z : List Int} (h : Grow ng a x b y) (k : Grow ng b y c z) : Grow ng a x c z :=
  ⟨Nat.le_trans h.len k.len, fun i g hi hg h1 => k.ent i g (Nat.lt_of_lt_of_le hi h.len) hg (h.ent i g hi hg h1), fun i hi h1 => k.dead i (Nat.lt_of_lt_of_le hi h.len) (h.dead i hi h1)⟩
end Go.Proofs.Ytpognnifgcacnaa

/- Coset enumeration: cosets numbered anew, and the table. No program in sight. -/
namespace Go.Proofs.Ytpognnifgcacnaa

/-- the order in which cosets are met, and the number of each (-1: not met) -/
abbrev NSt := List Int × List Int
def visit (s : NSt) (d : Nat) : NSt := if iget s.2 d < 0 then (s.1 ++ [(d : Int)], s.2.set d (s.1.length : Int)) else s
def visitG (im : List (List Int)) (less : List Int) (i : Nat) (s : NSt) (g : Nat) : NSt := visit s (image im less (iget s.1 i).toNat g).toNat
def tabRow (ng : Nat) (im : List (List Int)) (less : List Int) (i : Nat) (s : NSt) : NSt := (List.range ng).foldl (visitG im less i) s
def tabLoop (ng : Nat) (im : List (List Int)) (less : List Int) : Nat → Nat → NSt → NSt
  | 0, _, s => s
  | f + 1, i, s => if i < s.1.length then tabLoop ng im less f (i + 1) (tabRow ng im less i s) else s
def tabStart (n : Nat) : NSt := ([0], (List.replicate n (-1)).set 0 0)
def numbered (ng : Nat) (im : List (List Int)) (less : List Int) : NSt := tabLoop ng im less (less.length + 1) 0 (tabStart less.length)
/-- how many have a number -/
def cnt (l : List Int) : Nat := (l.filter fun z => decide (0 ≤ z)).length
theorem cnt_le (l : List Int) : cnt l ≤ l.length := List.length_filter_le _ _
theorem cnt_set : ∀ (l : List Int) (d : Nat) (z : Int), d < l.length → iget l d < 0 → 0 ≤ z → cnt (l.set d z) = cnt l + 1
  | [], d, z, h, _, _ => by simp at h
  | x :: r, 0, z, _, h, hz => by
    have h : x < 0 := by simpa [iget] using h
    simp [cnt, show ¬ 0 ≤ x by omega, hz]
  | x :: r, d + 1, z, hd, h, hz => by
    have ih := cnt_set r d z (by simpa using hd) (by simpa [iget] using h) hz
    unfold cnt at ih ⊢
    simp only [List.set_cons_succ, List.filter_cons]
    split
    · simp only [List.length_cons]; omega
    · exact ih

/-- complete: live cosets have all images -/
structure Full (ng : Nat) (im : List (List Int)) (less : List Int) : Prop where
  wf : WF ng im less
  pos : 0 < less.length
  full : ∀ c, c < less.length → iget less c = (c : Int) → ∀ g, g < ng → 0 ≤ ent im c g
theorem Full.zero {ng : Nat} {im : List (List Int)} {less : List Int} (h : Full ng im less) : iget less 0 = ((0 : Nat) : Int) := by
  have := h.wf.down 0 h.pos; omega
theorem Full.image {ng : Nat} {im : List (List Int)} {less : List Int} (h : Full ng im less) {c g : Nat} (hc : c < less.length) (hl : iget less c = (c : Int)) (hg : g < ng) :
    ∃ d : Nat, image im less c g = (d : Int) ∧ d < less.length ∧ iget less d = (d : Int) := by
  have h1 := h.full c hc hl g hg
  have h2 := h.wf.ent c g (by rw [h.wf.len]; exact hc) hg
  refine ⟨root less (ent im c g).toNat, by unfold Proofs.Ytpognnifgcacnaa.image; rw [if_neg (by omega)], root_lt h.wf.down (by omega), ?_⟩
  exact (root_fix h.wf.down _ (by omega)).1

structure TOK (n : Nat) (less : List Int) (s : NSt) : Prop where
  len : s.2.length = n
  cnt : cnt s.2 = s.1.length
  live : ∀ k, k < s.1.length → ∃ d : Nat, iget s.1 k = (d : Int) ∧ d < n ∧ iget less d = (d : Int) ∧ iget s.2 d = (k : Int)
  num : ∀ d, d < n → 0 ≤ iget s.2 d → iget s.2 d < s.1.length
theorem TOK.le {n : Nat} {less : List Int} {s : NSt} (h : TOK n less s) : s.1.length ≤ n := by
  have := cnt_le s.2; rw [h.cnt, h.len] at this; exact this
theorem visit_ok {n : Nat} {less : List Int} {s : NSt} {d : Nat} (h : TOK n less s) (hd : d < n) (hl : iget less d = (d : Int)) : TOK n less (visit s d) := by
  unfold visit
  split
  · rename_i hn
    refine ⟨by rw [List.length_set]; exact h.len, ?_, fun k hk => ?_, fun e he h0 => ?_⟩
    · dsimp only; rw [cnt_set _ _ _ (by rw [h.len]; exact hd) hn (by omega), h.cnt]; simp
    · dsimp only at hk ⊢
      by_cases e : k < s.1.length
      · obtain ⟨d', h1, h2, h3, h4⟩ := h.live k e
        refine ⟨d', by rw [iget_app_lt e]; exact h1, h2, h3, ?_⟩
        rw [iget_set]
        split
        · rename_i e2; rw [e2.1] at hn; omega
        · exact h4
      · obtain rfl : k = s.1.length := by simp at hk; omega
        exact ⟨d, iget_app_eq, hd, hl, by rw [iget_set, if_pos ⟨rfl, by rw [h.len]; exact hd⟩]⟩
    · dsimp only at h0 ⊢
      rw [iget_set] at h0 ⊢
      rw [List.length_append]
      split
      · simp; omega
      · rename_i hne
        rw [if_neg hne] at h0
        have := h.num e he h0
        simp; omega
  · exact h
/-- numbers are kept -/
structure NGrow (s s' : NSt) : Prop where
  pre : ∀ k, k < s.1.length → iget s'.1 k = iget s.1 k
  len : s.1.length ≤ s'.1.length
  num : ∀ d, 0 ≤ iget s.2 d → iget s'.2 d = iget s.2 d
theorem NGrow.refl (s : NSt) : NGrow s s := ⟨fun _ _ => rfl, Nat.le_refl _, fun _ _ => rfl⟩
theorem NGrow.trans {a b c : NSt} (h : NGrow a b) (k : NGrow b c) : NGrow a c :=
  ⟨fun i hi => (k.pre i (Nat.lt_of_lt_of_le hi h.len)).trans (h.pre i hi), Nat.le_trans h.len k.len, fun d hd => (k.num d (by rw [h.num d hd]; exact hd)).trans (h.num d hd)⟩
theorem visit_grow (s : NSt) (d : Nat) : NGrow s (visit s d) := by
  unfold visit
  split
  · rename_i hn
    refine ⟨fun k hk => iget_app_lt hk, by simp, fun e he => ?_⟩
    dsimp only
    rw [iget_set, if_neg]
    rintro ⟨rfl, _⟩
    omega
  · exact NGrow.refl s
theorem visit_num {n : Nat} {less : List Int} {s : NSt} {d : Nat} (h : TOK n less s) (hd : d < n) : 0 ≤ iget (visit s d).2 d := by
  unfold visit
  split
  · dsimp only; rw [iget_set, if_pos ⟨rfl, by rw [h.len]; exact hd⟩]; omega
  · rename_i hn; omega
theorem visitG_ok {ng : Nat} {im : List (List Int)} {less : List Int} (hF : Full ng im less) {i g : Nat} {s : NSt} (h : TOK less.length less s) (hi : i < s.1.length) (hg : g < ng) :
    TOK less.length less (visitG im less i s g) ∧ NGrow s (visitG im less i s g) ∧ 0 ≤ iget (visitG im less i s g).2 (image im less (iget s.1 i).toNat g).toNat := by
  obtain ⟨d, h1, h2, h3, _⟩ := h.live i hi
  obtain ⟨e, e1, e2, e3⟩ := hF.image h2 h3 hg
  unfold visitG
  rw [h1, Int.toNat_natCast, e1, Int.toNat_natCast]
  exact ⟨visit_ok h e2 e3, visit_grow s e, visit_num h e2⟩
theorem tabRow_ok {ng : Nat} {im : List (List Int)} {less : List Int} (hF : Full ng im less) {i : Nat} {s : NSt} (h : TOK less.length less s) (hi : i < s.1.length) : ∀ m, m ≤ ng →
    TOK less.length less ((List.range m).foldl (visitG im less i) s) ∧ NGrow s ((List.range m).foldl (visitG im less i) s) ∧ ∀ g, g < m → 0 ≤ iget ((List.range m).foldl (visitG im less i) s).2 (image im less (iget s.1 i).toNat g).toNat
  | 0, _ => ⟨h, NGrow.refl s, fun g hg => by omega⟩
  | m + 1, hm => by
    obtain ⟨h1, h2, h3⟩ := tabRow_ok hF h hi m (by omega)
    rw [List.range_succ, List.foldl_append]
    generalize (List.range m).foldl (visitG im less i) s = t at *
    obtain ⟨k1, k2, k3⟩ := visitG_ok hF (i := i) (g := m) h1 (Nat.lt_of_lt_of_le hi h2.len) (by omega)
    rw [h2.pre i hi] at k3
    refine ⟨k1, h2.trans k2, fun g hg => ?_⟩
    by_cases e : g = m
    · subst e; exact k3
    · have := h3 g (by omega)
      show 0 ≤ iget (visitG im less i t m).2 _
      rw [k2.num _ this]; exact this
/-- all images of the first i cosets have numbers -/
def Seen (ng : Nat) (im : List (List Int)) (less : List Int) (i : Nat) (s : NSt) : Prop := ∀ k, k < i → ∀ g, g < ng → 0 ≤ iget s.2 (image im less (iget s.1 k).toNat g).toNat
theorem Seen.row {ng : Nat} {im : List (List Int)} {less : List Int} (hF : Full ng im less) {i : Nat} {s : NSt} (h : TOK less.length less s) (hi : i < s.1.length) (hs : Seen ng im less i s) : Seen ng im less (i + 1) (tabRow ng im less i s) := by
  obtain ⟨_, h2, h3⟩ := tabRow_ok hF h hi ng (Nat.le_refl _)
  intro k hk g hg
  show 0 ≤ iget (tabRow ng im less i s).2 _
  have e : iget (tabRow ng im less i s).1 k = iget s.1 k := h2.pre k (by omega)
  rw [e]
  by_cases e2 : k = i
  · subst e2; exact h3 g hg
  · have := hs k (by omega) g hg
    have e3 := h2.num _ this
    unfold tabRow
    rw [e3]; exact this
end Go.Proofs.Ytpognnifgcacnaa

/- Coset enumeration: each generator leads back; words lead back after some times. No program in sight. -/
namespace Go.Proofs.Ytpognnifgcacnaa

theorem root_root {less : List Int} (h : Down less) {c : Nat} (hc : c < less.length) : root less (root less c) = root less c := root_of (root_fix h c hc).1
theorem root_app {less : List Int} (h : Down less) : ∀ c, c < less.length → root (less ++ [(less.length : Int)]) c = root less c := by
  have hd : Down (less ++ [(less.length : Int)]) := fun c hc => by
    by_cases e : c < less.length
    · rw [iget_app_lt e]; exact h c e
    · obtain rfl : c = less.length := by simp at hc; omega
      rw [iget_app_eq]; omega
  intro c
  induction c using Nat.strongRecOn with
  | _ c ih =>
    intro hc
    have h1 : iget (less ++ [(less.length : Int)]) c = iget less c := iget_app_lt hc
    by_cases e : iget less c = (c : Int)
    · rw [root_of e, root_of (h1.trans e)]
    · have hb := h c hc
      rw [root_step hd (by simp; omega) (by rw [h1]; exact e), h1, root_step h hc e]
      exact ih _ (by omega) (by omega)

/-- equal, as far as the identifications and the queue say -/
inductive Eqv (less : List Int) (q : List (Int × Int)) : Nat → Nat → Prop where
  | refl (a : Nat) : Eqv less q a a
  | symm {a b : Nat} (h : Eqv less q a b) : Eqv less q b a
  | trans {a b c : Nat} (h : Eqv less q a b) (k : Eqv less q b c) : Eqv less q a c
  | root (a : Nat) (h : a < less.length) : Eqv less q a (root less a)
  | pair (p : Int × Int) (h : p ∈ q) : Eqv less q p.1.toNat p.2.toNat
theorem Eqv.mono {less less' : List Int} {q q' : List (Int × Int)} (h1 : ∀ a, a < less.length → Eqv less' q' a (Proofs.Ytpognnifgcacnaa.root less a)) (h2 : ∀ p ∈ q, Eqv less' q' p.1.toNat p.2.toNat) {a b : Nat} (h : Eqv less q a b) : Eqv less' q' a b := by
  induction h with
  | refl a => exact .refl a
  | symm _ ih => exact .symm ih
  | trans _ _ ih1 ih2 => exact .trans ih1 ih2
  | root a h => exact h1 a h
  | pair p h => exact h2 p h
theorem Eqv.root_eq {less : List Int} (hd : Down less) {a b : Nat} (h : Eqv less [] a b) : Proofs.Ytpognnifgcacnaa.root less a = Proofs.Ytpognnifgcacnaa.root less b := by
  induction h with
  | refl a => rfl
  | symm _ ih => exact ih.symm
  | trans _ _ ih1 ih2 => exact ih1.trans ih2
  | root a h => exact (root_root hd h).symm
  | pair p h => simp at h
/-- where a live coset leads, there its generator leads back -/
def Back (ng : Nat) (im : List (List Int)) (less : List Int) (q : List (Int × Int)) : Prop :=
  ∀ c g, c < less.length → iget less c = (c : Int) → g < ng → 0 ≤ ent im c g → 0 ≤ ent im (root less (ent im c g).toNat) g ∧ Eqv less q (ent im (root less (ent im c g).toNat) g).toNat c
section
variable {ng : Nat} {im : List (List Int)} {less : List Int}
theorem Back.fix (hB : Back ng im less []) (h : WF ng im less) {c g : Nat} (hc : c < less.length) (hl : iget less c = (c : Int)) (hg : g < ng) (h0 : 0 ≤ ent im c g) : 0 ≤ ent im (root less (ent im c g).toNat) g ∧ root less (ent im (root less (ent im c g).toNat) g).toNat = c := by
  obtain ⟨k1, k2⟩ := hB c g hc hl hg h0
  exact ⟨k1, (k2.root_eq h.down).trans (root_of hl)⟩
theorem Back.of (h : ∀ c g, c < less.length → iget less c = (c : Int) → g < ng → 0 ≤ ent im c g → 0 ≤ ent im (root less (ent im c g).toNat) g ∧ root less (ent im (root less (ent im c g).toNat) g).toNat = c) (hw : WF ng im less) : Back ng im less [] := fun c g hc hl hg h0 => by
  obtain ⟨k1, k2⟩ := h c g hc hl hg h0
  refine ⟨k1, ?_⟩
  have he := hw.ent c g (by rw [hw.len]; exact hc) hg
  have hrl := root_lt hw.down (c := (ent im c g).toNat) (by omega)
  have he2 := hw.ent (root less (ent im c g).toNat) g (by rw [hw.len]; exact hrl) hg
  have := Eqv.root (less := less) (q := []) (ent im (root less (ent im c g).toNat) g).toNat (by omega)
  rwa [k2] at this
/-- two cosets become images of each other -/
theorem Back.link (hB : Back ng im less []) (hw : WF ng im less) {c d g : Nat} (hc : c < less.length) (hd : d < less.length) (hlc : iget less c = (c : Int)) (hld : iget less d = (d : Int)) (hg : g < ng) (h1 : ent im c g < 0) (h2 : ent im d g < 0) : Back ng (rset (rset im d g (c : Int)) c g (d : Int)) less [] := by
  have hl := hw.len
  have w1 := hw.set_im (c := d) (g := g) (z := (c : Int)) (by omega) hg (by omega)
  have w2 := w1.set_im (c := c) (g := g) (z := (d : Int)) (by rw [rset_len]; omega) hg (by omega)
  have ee : ∀ a k, ent (rset (rset im d g (c : Int)) c g (d : Int)) a k = if c = a ∧ g = k then (d : Int) else if d = a ∧ g = k then (c : Int) else ent im a k := fun a k => by
    rw [ent_rset (by rw [rset_len]; omega) (by rw [rset_row, hw.row c (by omega)]; exact hg), ent_rset (by omega) (by rw [hw.row d (by omega)]; exact hg)]
  refine Back.of (fun a k ha hla hk h0 => ?_) w2
  have e0 := ee a k
  by_cases e1 : c = a ∧ g = k
  · obtain ⟨rfl, rfl⟩ := e1
    rw [if_pos ⟨rfl, rfl⟩] at e0
    rw [e0, Int.toNat_natCast, root_of hld]
    have e3 := ee d g
    by_cases e2 : c = d
    · subst e2; rw [if_pos ⟨rfl, rfl⟩] at e3; rw [e3, Int.toNat_natCast]; exact ⟨by omega, root_of hlc⟩
    · rw [if_neg (fun h => e2 h.1), if_pos ⟨rfl, rfl⟩] at e3; rw [e3, Int.toNat_natCast]; exact ⟨by omega, root_of hlc⟩
  · rw [if_neg e1] at e0
    by_cases e2 : d = a ∧ g = k
    · obtain ⟨rfl, rfl⟩ := e2
      rw [if_pos ⟨rfl, rfl⟩] at e0
      rw [e0, Int.toNat_natCast, root_of hlc]
      have e3 := ee c g
      rw [if_pos ⟨rfl, rfl⟩] at e3
      rw [e3, Int.toNat_natCast]; exact ⟨by omega, root_of hld⟩
    · rw [if_neg e2] at e0
      rw [e0] at h0 ⊢
      obtain ⟨k1, k2⟩ := hB.fix hw ha hla hk h0
      have n1 : ¬ (c = root less (ent im a k).toNat ∧ g = k) := fun h => by rw [← h.1, ← h.2] at k1; omega
      have n2 : ¬ (d = root less (ent im a k).toNat ∧ g = k) := fun h => by rw [← h.1, ← h.2] at k1; omega
      have e3 := ee (root less (ent im a k).toNat) k
      rw [if_neg n1, if_neg n2] at e3
      rw [e3]
      exact ⟨k1, k2⟩
theorem Back.app (hB : Back ng im less []) (hw : WF ng im less) : Back ng (im ++ [List.replicate ng (-1)]) (less ++ [(less.length : Int)]) [] := by
  have hl := hw.len
  have hra := root_app hw.down
  refine Back.of (fun a k ha hla hk h0 => ?_) hw.app
  by_cases e : a < less.length
  · have e1 : ∀ b, b < less.length → ent (im ++ [List.replicate ng (-1)]) b k = ent im b k := fun b hb => by unfold ent; rw [lget_app_lt (by omega)]
    rw [e1 a e] at h0 ⊢
    rw [iget_app_lt e] at hla
    obtain ⟨k1, k2⟩ := hB.fix hw e hla hk h0
    have he := hw.ent a k (by omega) hk
    have hrl := root_lt hw.down (c := (ent im a k).toNat) (by omega)
    have he2 := hw.ent (root less (ent im a k).toNat) k (by omega) hk
    rw [hra _ (by omega), e1 _ hrl, hra _ (by omega)]
    exact ⟨k1, k2⟩
  · obtain rfl : a = less.length := by simp at ha; omega
    exfalso
    unfold ent at h0
    rw [← hl, lget_app_eq, iget_rep hk] at h0
    omega
theorem Back.next (hB : Back ng im less []) (hw : WF ng im less) {c g : Nat} (hc : c < less.length) (hlc : iget less c = (c : Int)) (hg : g < ng) (hn : less.length ≤ 2000) :
    Back ng (nextC ng im less c g).1 (nextC ng im less c g).2.1 [] ∧ ((nextC ng im less c g).2.2.1 = false → iget (nextC ng im less c g).2.1 (nextC ng im less c g).2.2.2 = ((nextC ng im less c g).2.2.2 : Int)) ∧ (∀ a, a < less.length → iget (nextC ng im less c g).2.1 a = iget less a) := by
  unfold nextC
  split
  · rename_i h0
    have he := hw.ent c g (by rw [hw.len]; exact hc) hg
    exact ⟨hB, fun _ => (root_fix hw.down _ (by omega)).1, fun _ _ => rfl⟩
  · rename_i h0
    split
    · exact ⟨hB, (fun h => nomatch h), fun _ _ => rfl⟩
    · have hl := hw.len
      have b1 := hB.app hw
      have w1 := hw.app
      refine ⟨?_, fun _ => iget_app_eq, fun a ha => iget_app_lt ha⟩
      have hcc : c < (less ++ [(less.length : Int)]).length := by simp; omega
      have := b1.link w1 (c := less.length) (d := c) (g := g) (by simp) hcc iget_app_eq (by rw [iget_app_lt hc]; exact hlc) hg (by unfold ent; rw [← hl, lget_app_eq, iget_rep hg]; omega) (by unfold ent at h0 ⊢; rw [lget_app_lt (by omega)]; omega)
      exact this
end
end Go.Proofs.Ytpognnifgcacnaa

/- The numbers of orbits, the reference's: l01Orbits; sizes of orbits, the program's: orbitSizes; the greatest number. -/
namespace Go.Proofs.Ytpognnifgcacnaa
open Go.RowKit

section
variable {T : List (List Int)} {n : Nat}
end
end Go.Proofs.Ytpognnifgcacnaa

/- Sizes of orbits, the program's: orbitSizes; the greatest number, the reference's: l02Greatest. -/
namespace Go.Proofs.Ytpognnifgcacnaa
open Go.RowKit

end Go.Proofs.Ytpognnifgcacnaa

/- Sizes of faces of a map: sizesOf, l14Sizes, FaceSizes. -/
namespace Go.Proofs.Ytpognnifgcacnaa
open Go.RowKit

section
variable {T : List (List Int)} {n : Nat}
/-- all points have labels below the number of labels; the last one stands somewhere -/
theorem labs_all (hT : Leads T n) (hB : Back2 T n) : (labs T n).1.length = n ∧ (labs T n).2 ≤ n ∧ (∀ p, p < n → ∃ d : Nat, iget (labs T n).1 p = (d : Int) ∧ d < (labs T n).2) := by
  have h := labTo_ok hT hB n (Nat.le_refl _)
  have hk : ∀ j, (labTo T n j).2 ≤ j := fun j => by
    induction j with
    | zero => exact Nat.le_refl _
    | succ j ih => rw [labTo_succ]; unfold labStep; split; omega; show (labTo T n j).2 + 1 ≤ j + 1; omega
  refine ⟨h.len, hk n, fun p hp => ?_⟩
  have h0 := (h.met p hp).2 ⟨p, hp, rch_refl hT hp⟩
  have h1 := h.low p hp
  exact ⟨(iget (labTo T n n).1 p).toNat, by unfold labs; omega, by unfold labs; omega⟩
end
theorem erase_ok {d : List (List Int)} (h : Man d) {r : Nat} (hr : r < d.length) : Leads (d.eraseIdx r) (lget d 0).length ∧ Back2 (d.eraseIdx r) (lget d 0).length := by
  have hl : (d.eraseIdx r).length = d.length - 1 := by rw [List.length_eraseIdx, if_pos hr]
  have hT := rows_leads h.rows
  have hB := rows_back h.rows
  have key : ∀ k, k < (d.eraseIdx r).length → ∃ k', k' < d.length ∧ lget (d.eraseIdx r) k = lget d k' := fun k hk => by
    rw [lget_erase]
    split
    · exact ⟨k, by omega, rfl⟩
    · exact ⟨k + 1, by omega, rfl⟩
  refine ⟨⟨fun k hk => ?_, fun k hk x hx => ?_⟩, fun g hg c hc => ?_⟩
  · obtain ⟨k', h1, h2⟩ := key k hk
    rw [h2]; exact hT.len k' h1
  · obtain ⟨k', h1, h2⟩ := key k hk
    rw [h2]; exact hT.within k' h1 x hx
  · obtain ⟨k', h1, h2⟩ := key g hg
    have := hB k' h1 c hc
    unfold bTo at this ⊢
    rw [h2]; exact this
end Go.Proofs.Ytpognnifgcacnaa
