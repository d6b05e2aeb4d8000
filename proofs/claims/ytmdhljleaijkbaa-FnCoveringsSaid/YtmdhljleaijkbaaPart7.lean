/- Draws of maniplexes: l02Spoil. guards: -/
import Derived.Test.YtmdhljleaijkbaaPart6
import Derived.Test.YtmdhljleaijkbaaPart1
import Derived.Test.YtmdhljleaijkbaaPart5
import Derived.Deep.RegionHeld3
import Derived.Deep.CutBlock
import Derived.Deep.QuietTactic
namespace Go.Proofs.Ytmdhljleaijkbaa
open Go.RowKit

theorem row_step {P : Program} {S E : TypeId} {z : Value} {bytes : Nat} (et : ET P S E z bytes) {ops : Array Oper} {o : Oper} {a : Act} {Q : Exit → Act → World → Prop} {w0 : World} {K : Act → World → Prop} {X : Prop} (hg : o.guard = none) (s x : Operand) (ho : o.op = .call { callee := .builtin .append, args := #[s, x], argTypes := #[S, S] })
    (lo : Nat) (ao : Option Addr) (n c : Nat) (us : List Value) (hs : a.eval s = .slice ao n c) (hown : Own w0 lo E ao n c us) (u : Value) (hx : a.eval x = .slice (some ⟨w0.heap.size, 0, none⟩) 1 1) (hu : u.oneCell' = true) (hn : n + 1 ≤ 4398046511104) (hlo : lo ≤ w0.heap.size)
    (h : ∀ ao' c' w', Own w' lo E ao' (n + 1) c' (us ++ [u]) → (w0.alloc (.cells #[u] E)).grownBy w' (bk ao) → (bk ao' = bk ao ∨ ∃ g, bk ao' = some g ∧ w0.heap.size ≤ g) → K (a.put o.dst (.slice ao' (n + 1) c')) w') : if Region.wanted o (yielded ops a.tmps) = true then Oper.wp P o a (w0.alloc (.cells #[u] E)) K Q else X := by
  refine step_ap1 et hg s x ho lo ao n c us hs (hown.alloc (.cells #[u] E)) u w0.heap.size 1 hx ?_ hu hn ?_ ?_
  · exact (blk_at (w := w0) (t := E) (cs := #[u]) (k := w0.heap.size) rfl).cell 0
  · have : (w0.alloc (.cells #[u] E)).heap.size = w0.heap.size + 1 := by simp
    omega
  · intro ao' c' w' o' g' hat
    have e1 : (w0.alloc (.cells #[u] E)).heap.size = w0.heap.size + 1 := by simp
    exact h ao' c' w' o' g' (hat.imp id fun e => ⟨_, e, by omega⟩)
theorem ownB_lit (g k c : Nat) : (Value.slice (some ⟨g, 0, none⟩) k c).ownBlock = some g := by rw [ownBlock_slice]; rfl
/-- behind the draws that spoil a maniplex: its box at mb -/
structure SpS (w wx : World) (sb mb : Nat) (a : Option Addr) (n c : Nat) (d : List (List Int)) : Prop where
  box : Blk wx mb 28 #[.slice a n c]
  rd : RdLo wx (w.heap.size + 1) (.slice a n c) d
  few : FewSS d
  n6 : n ≤ 6
  res : Blk wx w.heap.size 28 #[.slice none 0 0]
  src : Src wx sb
  only : Only sb (sb + 1) w wx
/-- before them -/
structure Sp0 (w wx : World) (sb mb ga n c hi N : Nat) (us : List Value) (d : List (List Int)) : Prop where
  row : OwR (OwS 2) wx (w.heap.size + 1) hi 32 (some ⟨ga, 0, none⟩) n c us d
  box : Blk wx mb 28 #[.slice (some ⟨ga, 0, none⟩) n c]
  res : Blk wx w.heap.size 28 #[.slice none 0 0]
  src : Src wx sb
  only : Only sb (sb + 1) w wx
  sq : Sq d N
  n5 : 1 ≤ n ∧ n ≤ 5
  N4 : 1 ≤ N ∧ N ≤ 400
  at_ : w.heap.size + 1 ≤ hi ∧ hi ≤ mb ∧ mb < wx.heap.size
section
variable {w wx wy : World} {sb mb ga n c hi N : Nat} {us : List Value} {d : List (List Int)}
theorem Sp0.next (h : Sp0 w wx sb mb ga n c hi N us d) (hs : sb < w.heap.size) (s : Src wy sb) (o : Only sb (sb + 1) wx wy) : Sp0 w wy sb mb ga n c hi N us d := by
  have ha := h.at_
  exact ⟨h.row.same (innerS _) fun g h1 _ h3 => o.block g h3 (.inr (by omega)), h.box.only o (.inr (by omega)), h.res.only o (.inr (by omega)), s, h.only.trans o, h.sq, h.n5, h.N4, by have := o.size; omega⟩
theorem Sp0.below (h : Sp0 w wx sb mb ga n c hi N us d) (hs : sb < w.heap.size) (b : Below wx.heap.size wx wy) : Sp0 w wy sb mb ga n c hi N us d :=
  h.next hs (src_belowL h.src (by have := h.at_; omega) b) (only_of_below b)
theorem Sp0.same (h : Sp0 w wx sb mb ga n c hi N us d) (hs : sb < w.heap.size) : SpS w wx sb mb (some ⟨ga, 0, none⟩) n c d := by
  have hn := h.n5
  have hN := h.N4
  have hl := h.row.len
  exact ⟨h.box, h.row.rdlo, sq_few h.sq (by omega) (by omega), by omega, h.res, h.src, h.only⟩
/-- the first row -/
theorem Sp0.head (h : Sp0 w wx sb mb ga n c hi N us d) : ∃ (g0 c0 : Nat) (z0 : List Int), us[0]? = some (.slice (some ⟨g0, 0, none⟩) N c0) ∧ d[0]? = some z0 ∧ z0.length = N ∧ w.heap.size + 1 ≤ g0 ∧ g0 < hi ∧ g0 ≠ ga := by
  have hn := h.n5
  have hN := h.N4
  obtain ⟨u, z, hu, hz, ⟨a0, n0, c0, rfl, ow⟩, hin⟩ := h.row.get (j := 0) (by omega)
  have hzl : z.length = N := by
    have := (h.sq (lget d 0) (by rw [lget_lt (by have := h.row.len; omega)]; exact List.getElem_mem _)).1
    have e : lget d 0 = z := by rw [lget_lt (by have := h.row.len; omega)]; rw [List.getElem?_eq_getElem (by have := h.row.len; omega)] at hz; exact Option.some.inj hz
    rw [e] at this; exact this
  have hn0 : n0 = N := by have := ow.len; rw [List.length_map] at this; omega
  subst hn0
  obtain ⟨g0, e0, -, -, -, -, -⟩ := ow.form (by omega)
  subst e0
  have := hin g0 (ownB_lit _ _ _)
  exact ⟨g0, c0, z, hu, hz, hzl, this.1, this.2, fun e => h.row.out 0 _ g0 hu (ownB_lit _ _ _) (by rw [e]; rfl)⟩
theorem Sp0.own0 (h : Sp0 w wx sb mb ga n c hi N us d) {g0 c0 : Nat} {z0 : List Int} (hu : us[0]? = some (.slice (some ⟨g0, 0, none⟩) N c0)) (hz : d[0]? = some z0) : Own wx 0 2 (some ⟨g0, 0, none⟩) N c0 (z0.map (Value.int .i64)) ∧ wx.cell? ⟨ga, 0, none⟩ = some (.slice (some ⟨g0, 0, none⟩) N c0) := by
  obtain ⟨a', n', c', e, ow⟩ := h.row.el 0 _ _ hu hz
  injection e with e1 e2 e3
  subst e1 e2 e3
  exact ⟨ow, h.row.cell hu⟩
theorem OwR.sameC {D : Type} {Ow1 : World → Value → D → Prop} {w w' : World} {lo hi E n c : Nat} {ao : Option Addr} {us : List Value} {ds : List D} (I : Inner Ow1) (h : OwR Ow1 w lo hi E ao n c us ds) (h1 : ∀ g, bk ao = some g → w'.heap[g]? = w.heap[g]?) (h2 : ∀ (j : Nat) (u : Value) (g : Nat), us[j]? = some u → u.ownBlock = some g → w'.heap[g]? = w.heap[g]?) : OwR Ow1 w' lo hi E ao n c us ds :=
  { own := h.own.same h1, top := h.top, len := h.len, rng := h.rng, out := h.out, apart := h.apart
    el := fun j u d hu hd => I.loc (h.el j u d hu hd) fun g hg => h2 j u g hu hg }
/-- another row, drawn since -/
theorem Sp0.push (h : Sp0 w wx sb mb ga n c hi N us d) (hs : sb < w.heap.size) {am ao7 : Option Addr} {cm c7 lm : Nat} {zs : List Int} {w7 : World} (hzl : zs.length ≤ 1000) (om : Own wx lm 2 am N cm (zs.map (Value.int .i64))) (hlm : mb < lm)
    (o7 : Own w7 (w.heap.size + 1) 32 ao7 (n + 1) c7 (us ++ [.slice am N cm])) (g7 : (wx.alloc (.cells #[.slice am N cm] 32)).grownBy w7 (some ga)) (hat7 : bk ao7 = some ga ∨ ∃ g, bk ao7 = some g ∧ wx.heap.size ≤ g) :
    SpS w (w7.setCell ⟨mb, 0, none⟩ (.slice ao7 (n + 1) c7)) sb mb ao7 (n + 1) c7 (d ++ [zs]) := by
  have ha := h.at_
  have hn := h.n5
  have hN := h.N4
  have hl := h.row.len
  have hga : ga < hi := h.row.top ga rfl
  have hgl : w.heap.size + 1 ≤ ga := (h.row.own.lt ga rfl).1
  have g0 : wx.grownBy w7 (some ga) := grown_tr (World.grownBy_alloc wx (.cells #[.slice am N cm] 32) (some ga)) g7
  have hz7 := g0.size
  have hus : ∀ (j : Nat) (u : Value) (g : Nat), us[j]? = some u → u.ownBlock = some g → w.heap.size + 1 ≤ g ∧ g < hi := fun j u g hu hg => h.row.rng j u hu g hg
  have hm7 : OwS 2 w7 (.slice am N cm) zs := ⟨_, _, _, rfl, (om.same (w' := w7) fun g e => g0.block g (om.lt g e).2 (fun q => by injection q with q; have := (om.lt g e).1; omega)).mono (Nat.zero_le _)⟩
  have hR := h.row.push (innerS _) (hi' := w7.heap.size) o7 g0 hm7 (in_slice fun g e => by have := om.lt g e; omega) (fun g e => (o7.lt g e).2) (by omega) (fun g e => by
      rcases hat7 with q | ⟨g', q, hg'⟩
      · rw [q] at e; exact .inl e
      · rw [q] at e; injection e with e; exact .inr fun j u hu hg => by have := hus j u g hu hg; omega) (fun g e => by
      rw [ownBlock_slice] at e
      have hg := om.lt g e
      refine ⟨fun q => ?_, fun j u hu hq => by have := hus j u g hu hq; omega⟩
      rcases hat7 with q' | ⟨g', q', hg'⟩
      · rw [q'] at q; injection q with q; omega
      · rw [q'] at q; injection q with q; omega)
  have hR2 : OwR (OwS 2) (w7.setCell ⟨mb, 0, none⟩ (.slice ao7 (n + 1) c7)) (w.heap.size + 1) w7.heap.size 32 ao7 (n + 1) c7 (us ++ [.slice am N cm]) (d ++ [zs]) := hR.sameC (innerS _) (fun g e => Below.heap_setCell _ _ _ g (by
      show g ≠ mb
      rcases hat7 with q | ⟨g', q, hg'⟩
      · rw [q] at e; injection e with e; omega
      · rw [q] at e; injection e with e; omega)) (fun j u g hu hg => Below.heap_setCell _ _ _ g (by
      show g ≠ mb
      rw [List.getElem?_append] at hu
      split at hu
      · have := hus j u g hu hg; omega
      · rename_i hj
        have : u = .slice am N cm := by
          cases hk : j - us.length with
          | zero => rw [hk] at hu; simpa using hu.symm
          | succ k => rw [hk] at hu; simp at hu
        subst this
        rw [ownBlock_slice] at hg
        have := (om.lt g hg).1
        omega))
  have hf := (sq_few h.sq (by omega) (by omega)).2
  have kb : Blk w7 mb 28 #[.slice (some ⟨ga, 0, none⟩) n c] := (g0.block mb (by omega) (fun e => by injection e with e; omega)).trans h.box
  have kr : Blk w7 w.heap.size 28 #[.slice none 0 0] := (g0.block _ (by omega) (fun e => by injection e with e; omega)).trans h.res
  have oc := only_set w7 mb 0 (.slice ao7 (n + 1) c7)
  refine ⟨by simpa using kb.set_ 0 (.slice ao7 (n + 1) c7), hR2.rdlo, ⟨by rw [List.length_append, List.length_singleton]; omega, fun i hi => ?_⟩, by omega, kr.only oc (.inl (by omega)), src_farL (h.src.grown g0 (fun g e => by injection e with e; omega)) fun g hg => Below.heap_setCell _ _ _ g (by show g ≠ mb; omega), only_cell (only_grown h.only g0 (fun g e => by injection e with e; omega)) (by show w.heap.size ≤ mb; omega) _⟩
  rw [List.length_append, List.length_singleton] at hi
  by_cases e : i < d.length
  · have : lget (d ++ [zs]) i = lget d i := by rw [lget_lt (by simp; omega), lget_lt e, List.getElem_append_left e]
    rw [this]; exact hf i e
  · have : lget (d ++ [zs]) i = zs := by rw [lget_lt (by simp; omega), List.getElem_append_right (by omega)]; simp
    rw [this]; omega
theorem Sp0.blk7 (h : Sp0 w wx sb mb ga n c hi N us d) {o : Obj} {w7 : World} (g7 : (wx.alloc o).grownBy w7 (bk (some ⟨ga, 0, none⟩))) : Blk w7 mb 28 #[.slice (some ⟨ga, 0, none⟩) n c] := by
  have ha := h.at_
  have hga : ga < hi := h.row.top ga rfl
  have g0 : wx.grownBy w7 (some ga) := grown_tr (World.grownBy_alloc wx o (some ga)) g7
  exact (g0.block mb (by omega) (fun e => by injection e with e; omega)).trans h.box
theorem rdlo_nil {w : World} {lo c : Nat} {a : Option Addr} : RdLo w lo (.slice a 0 c) [] := fun _ _ _ => ⟨a, c, rfl, by simp, fun h => absurd h (by simp)⟩
theorem SpS.below {a : Option Addr} (h : SpS w wx sb mb a n c d) (hs : sb < wx.heap.size) (b : Below wx.heap.size wx wy) : SpS w wy sb mb a n c d :=
  ⟨h.box.belowS b, h.rd.below b, h.few, h.n6, h.res.belowS b, src_belowL h.src hs b, only_below h.only b⟩
/-- the first row has grown by one number -/
theorem Sp0.stretch (h : Sp0 w wx sb mb ga n c hi N us d) (hs : sb < w.heap.size) {g0 c0 c7 : Nat} {z0 : List Int} (hu : us[0]? = some (.slice (some ⟨g0, 0, none⟩) N c0)) (hz : d[0]? = some z0) (h1 : w.heap.size + 1 ≤ g0) (h2 : g0 < hi) {ao7 : Option Addr} {w7 : World} {x : Int}
    (o7 : Own w7 0 2 ao7 (N + 1) c7 (z0.map (Value.int .i64) ++ [.int .i64 x])) (g7 : wx.grownBy w7 (some g0)) (hat7 : bk ao7 = some g0 ∨ ∃ g, bk ao7 = some g ∧ wx.heap.size ≤ g) :
    SpS w (w7.setCell ⟨ga, 0, none⟩ (.slice ao7 (N + 1) c7)) sb mb (some ⟨ga, 0, none⟩) n c (d.set 0 (z0 ++ [x])) := by
  have ha := h.at_
  have hn := h.n5
  have hN := h.N4
  have hl := h.row.len
  have hga : ga < hi := h.row.top ga rfl
  have hgl : w.heap.size + 1 ≤ ga := (h.row.own.lt ga rfl).1
  obtain ⟨ow, -⟩ := h.own0 hu hz
  have hzl : z0.length = N := by have := ow.len; rw [List.length_map] at this; omega
  have hr := h.row.put (innerS _) hu (by rw [ownB_lit]; exact g7) (⟨_, _, _, rfl, by rw [List.map_append]; exact o7⟩ : OwS 2 w7 (.slice ao7 (N + 1) c7) (z0 ++ [x])) (.inr (by rw [ownBlock_slice, ownB_lit]; exact hat7)) (by omega) (by omega)
  have oc := only_set w7 ga 0 (.slice ao7 (N + 1) c7)
  have kb : Blk w7 mb 28 #[.slice (some ⟨ga, 0, none⟩) n c] := (g7.block mb (by omega) (fun e => by injection e with e; omega)).trans h.box
  have kr : Blk w7 w.heap.size 28 #[.slice none 0 0] := (g7.block _ (by omega) (fun e => by injection e with e; omega)).trans h.res
  refine ⟨kb.only oc (.inr (by omega)), hr.rdlo, ⟨by rw [List.length_set]; omega, fun i hi => ?_⟩, by omega, kr.only oc (.inl (by omega)), src_farL (h.src.grown g7 (fun g e => by injection e with e; omega)) fun g hg => Below.heap_setCell _ _ _ g (by show g ≠ ga; omega), only_cell (only_grown h.only g7 (fun g e => by injection e with e; omega)) (by show w.heap.size ≤ ga; omega) _⟩
  have hf := (sq_few h.sq (by omega) (by omega)).2
  rw [List.length_set] at hi
  by_cases e : i = 0
  · subst e
    rw [lget_lt (by rw [List.length_set]; exact hi)]; simp; omega
  · have : lget (d.set 0 (z0 ++ [x])) i = lget d i := by
      rw [lget_lt (by rw [List.length_set]; exact hi), lget_lt hi, List.getElem_set_ne (fun h => e h.symm)]
    rw [this]; exact hf i hi
/-- all rows but the first one -/
theorem RdSSc.tail1 {wz : World} {g n c : Nat} {d : List (List Int)} (h : RdSSc wz (.slice (some ⟨g, 0, none⟩) n c) d) (hn : 1 < n) : RdSSc wz (.slice (some ⟨g, 1, none⟩) (n - 1) (c - 1)) (d.drop 1) := by
  have hdl := h.intss.1
  obtain ⟨a, c', e, h1, h2⟩ := h
  injection e with e1 e2 e3
  subst e3
  obtain ⟨h3, b, off, e4, hb, h5⟩ := h2 (by omega)
  rw [← e1] at e4
  injection e4 with e4
  injection e4 with e5 e6
  subst e5 e6
  have hl : (d.drop 1).length = n - 1 := by simp; omega
  refine ⟨some ⟨g, 1, none⟩, c - 1, by rw [hl], by omega, fun _ => ⟨by omega, g, 1, rfl, hb, fun j hj => ?_⟩⟩
  obtain ⟨a', k, h6, h7, h8⟩ := h5 (j + 1) (by omega)
  have e : lget (d.drop 1) j = lget d (j + 1) := by rw [lget_lt hj, lget_lt (by omega)]; simp [Nat.add_comm]
  rw [e, show 1 + j = 0 + (j + 1) by omega]
  exact ⟨a', k, h6, h7, h8⟩
theorem few_drop {d : List (List Int)} (h : FewSS d) : FewSS (d.drop 1) := ⟨by simp; have := h.1; omega, fun i hi => by
  have hi2 : i + 1 < d.length := by simp at hi; omega
  have e : lget (d.drop 1) i = lget d (i + 1) := by rw [lget_lt hi, lget_lt hi2]; simp [Nat.add_comm]
  rw [e]; exact h.2 _ hi2⟩
theorem row_stepD {P : Program} {S E : TypeId} {z : Value} {bytes : Nat} (et : ET P S E z bytes) {ops : Array Oper} {o : Oper} {a : Act} {Q : Exit → Act → World → Prop} {w0 : World} {K : Act → World → Prop} {X : Prop} (hg : o.guard = none) (s x : Operand) (ho : o.op = .call { callee := .builtin .append, args := #[s, x], argTypes := #[S, S] })
    (lo : Nat) (ao : Option Addr) (n c : Nat) (us : List Value) (hs : a.eval s = .slice ao n c) (hown : Own w0 lo E ao n c us) (u : Value) (hx : a.eval x = .slice (some ⟨w0.heap.size, 0, none⟩) 1 1) (hu : u.oneCell' = true) (hn : n + 1 ≤ 4398046511104) (hlo : lo ≤ w0.heap.size)
    (h : ∀ ao' c' w', Own w' lo E ao' (n + 1) c' (us ++ [u]) → w0.grownBy w' (bk ao) → (bk ao' = bk ao ∨ ∃ g, bk ao' = some g ∧ w0.heap.size ≤ g) → K (a.put o.dst (.slice ao' (n + 1) c')) w') : if Region.wanted o (yielded ops a.tmps) = true then Oper.wp P o a (w0.alloc (.cells #[u] E)).drew K Q else X := by
  have ho' : Own (w0.alloc (.cells #[u] E)).drew lo E ao n c us := hown.alloc (.cells #[u] E)
  have e1 : (w0.alloc (.cells #[u] E)).drew.heap.size = w0.heap.size + 1 := by simp
  refine step_ap1 et hg s x ho lo ao n c us hs ho' u w0.heap.size 1 hx ?_ hu hn (by omega) ?_
  · exact (blk_at (w := w0) (t := E) (cs := #[u]) (k := w0.heap.size) rfl).cell 0
  · intro ao' c' w' o' g' hat
    have g1 : w0.grownBy (w0.alloc (.cells #[u] E)).drew (bk ao) := by
      have := World.grownBy_alloc w0 (.cells #[u] E) (bk ao)
      exact ⟨this.os, this.tape, this.output, this.size, this.block⟩
    exact h ao' c' w' o' (grown_tr g1 g') (hat.imp id fun e => ⟨_, e, by omega⟩)
theorem Sp0.gr7 (_ : Sp0 w wx sb mb ga n c hi N us d) {o : Obj} {w7 : World} {r : Option Nat} (g7 : (wx.drew.alloc o).grownBy w7 r) : wx.grownBy w7 r := by
  refine grown_tr ?_ g7
  have := World.grownBy_alloc wx.drew o r
  exact ⟨this.os, this.tape, this.output, this.size, this.block⟩
theorem Sp0.cel7 (h : Sp0 w wx sb mb ga n c hi N us d) {g0 : Nat} (hne : g0 ≠ ga) {w7 : World} (g7 : wx.grownBy w7 (some g0)) : w7.cell? ⟨ga, 0, none⟩ = wx.cell? ⟨ga, 0, none⟩ ∧ w7.frozen? ⟨ga, 0, none⟩ = false := by
  have hn := h.n5
  have hb : w7.heap[ga]? = wx.heap[ga]? := g7.block ga ((h.row.own.lt ga rfl).2) (fun e => by injection e with e; omega)
  have ow : Own w7 (w.heap.size + 1) 32 (some ⟨ga, 0, none⟩) n c us := h.row.own.same fun g e => by
    have e : ga = g := by simpa [bk] using e
    subst e; exact hb
  obtain ⟨g', e, -, -, -, -, hf⟩ := ow.form (by omega)
  injection e with e; injection e with e; subst e
  exact ⟨World.cell?_of_block hb, hf 0⟩
theorem Sp0.bl7 (h : Sp0 w wx sb mb ga n c hi N us d) {g0 : Nat} (hg : g0 < hi) {w7 : World} (g7 : wx.grownBy w7 (some g0)) : Blk w7 mb 28 #[.slice (some ⟨ga, 0, none⟩) n c] := by
  have ha := h.at_
  exact (g7.block mb (by omega) (fun e => by injection e with e; omega)).trans h.box
theorem OwR.cap_le {w : World} {lo hi g n c : Nat} {us : List Value} {ds : List (List Int)} (h : OwR (OwS 2) w lo hi 32 (some ⟨g, 0, none⟩) n c us ds) : n ≤ c := by
  rcases Nat.eq_zero_or_pos n with q | q
  · omega
  · obtain ⟨g', e, -, -, hc, -, -⟩ := h.own.form q
    omega
theorem Sp0.tailBox (h : Sp0 w wx sb mb ga n c hi N us d) {u : Value} (hn : 1 < n) : RdLo (wx.setCell ⟨mb, 0, none⟩ u) (w.heap.size + 1) (.slice (some ⟨ga, 1, none⟩) (n - 1) (c - 1)) (d.drop 1) := by
  have ha := h.at_
  have hga : ga < hi := h.row.top ga rfl
  have hR2 : OwR (OwS 2) (wx.setCell ⟨mb, 0, none⟩ u) (w.heap.size + 1) hi 32 (some ⟨ga, 0, none⟩) n c us d := h.row.same (innerS _) fun g h1 h2 _ => Below.heap_setCell _ _ _ g (by show g ≠ mb; omega)
  exact hR2.rdlo.map fun wz hz => hz.tail1 hn
/-- a number of the first row is turned -/
theorem Sp0.poke (h : Sp0 w wx sb mb ga n c hi N us d) (hs : sb < w.heap.size) {g0 c0 : Nat} {z0 : List Int} (hu : us[0]? = some (.slice (some ⟨g0, 0, none⟩) N c0)) (hz : d[0]? = some z0) (h1 : w.heap.size + 1 ≤ g0) (h2 : g0 < hi) (q : Nat) (x : Int) :
    SpS w (wx.setCell ⟨g0, q, none⟩ (.int .i64 x)) sb mb (some ⟨ga, 0, none⟩) n c (d.set 0 (z0.set q x)) := by
  have ha := h.at_
  have hn := h.n5
  have hN := h.N4
  have hl := h.row.len
  obtain ⟨ow, -⟩ := h.own0 hu hz
  obtain ⟨s1, s2⟩ := ow.stored q (.int .i64 x)
  rw [← List.map_set] at s1
  have hr := h.row.upd (innerS _) hu (by rw [ownB_lit]; exact s2) (⟨_, _, _, rfl, s1⟩ : OwS 2 _ (.slice (some ⟨g0, 0, none⟩) N c0) (z0.set q x))
  have hzl : z0.length ≤ 400 := by have := ow.len; rw [List.length_map] at this; omega
  refine ⟨(s2.block mb (by omega) (fun e => by injection e with e; omega)).trans h.box, hr.rdlo, ⟨by rw [List.length_set]; omega, fun i hi => ?_⟩, by omega, (s2.block _ (by omega) (fun e => by injection e with e; omega)).trans h.res, h.src.grown s2 (fun g e => by injection e with e; omega), only_grown h.only s2 (fun g e => by injection e with e; omega)⟩
  have hf := (sq_few h.sq (by omega) (by omega)).2
  rw [List.length_set] at hi
  by_cases e : i = 0
  · subst e
    rw [lget_lt (by rw [List.length_set]; exact hi)]; simp; omega
  · have : lget (d.set 0 (z0.set q x)) i = lget d i := by
      rw [lget_lt (by rw [List.length_set]; exact hi), lget_lt hi, List.getElem_set_ne (fun h => e h.symm)]
    rw [this]; exact hf i hi
theorem SpS.fin {a : Option Addr} (h : SpS w wx sb mb a n c d) (hs : sb < w.heap.size) : MxR w (wx.setCell ⟨w.heap.size, 0, none⟩ (.slice a n c)) sb a n c d :=
  ⟨(h.rd.setBox (.inl (Nat.lt_succ_self _)) _).mono (Nat.le_succ _), h.few, src_farL h.src fun g hg => Below.heap_setCell _ _ _ g (by show g ≠ w.heap.size; omega), only_cell h.only (Nat.le_refl _) _⟩
/-- the box holds other rows now -/
theorem Sp0.box_ (h : Sp0 w wx sb mb ga n c hi N us d) (hs : sb < w.heap.size) {a' : Option Addr} {n' c' : Nat} {d' : List (List Int)} (hf : FewSS d') (hn : n' ≤ 6) (hrb : RdLo (wx.setCell ⟨mb, 0, none⟩ (.slice a' n' c')) (w.heap.size + 1) (.slice a' n' c') d') :
    SpS w (wx.setCell ⟨mb, 0, none⟩ (.slice a' n' c')) sb mb a' n' c' d' := by
  have ha := h.at_
  have oc := only_set wx mb 0 (.slice a' n' c')
  exact ⟨by simpa using h.box.set_ 0 (.slice a' n' c'), hrb, hf, hn, h.res.only oc (.inl (by omega)), src_farL h.src fun g hg => Below.heap_setCell _ _ _ g (by show g ≠ mb; omega), only_cell h.only (by show w.heap.size ≤ mb; omega) _⟩
end
set_option maxRecDepth 100000 in
set_option maxHeartbeats 6400000 in
theorem spoil_any (sb most : Nat) (w : World) (h : Src w sb) (hsb : sb < w.heap.size) (hm8 : 8 ≤ most) (hm4 : most ≤ 400) :
    Calls Try.prog 119 #[.pointer (some ⟨sb, 0, none⟩), .int .i64 most] w fun e w' => ∃ a n c d, e = .returned (.agg #[.slice a n c]) ∧ MxR w w' sb a n c d ∧ n ≤ 6 := by
  have b1 := below_alloc1 w (.cells #[.slice none 0 0] 28)
  have k1 : Blk (w.alloc (.cells #[.slice none 0 0] 28)) w.heap.size 28 #[.slice none 0 0] := blk_at rfl
  have hz1 : w.heap.size + 1 = (w.alloc (.cells #[.slice none 0 0] 28)).heap.size := by simp
  have S1 := Lib.hid (src_belowL h hsb b1)
  have O1 := Lib.hid (only_of_below (sb := sb) b1)
  have K1 := Lib.hid k1
  clear b1 k1 h
  go_enter Try.func119, Try.ntmps119
  go_upto_region 1 with fail
  generalize w.alloc (.cells #[.slice none 0 0] 28) = w1 at *
  go_wp2_with fail
  refine (drawS_any sb most w1 S1.out (by omega) hm8 hm4).mono ?_
  rintro e w2 ⟨a2, n, c2, d, N, rfl, m2, hn1, hn5, hNm⟩
  obtain ⟨a', n', c', us, e, hor⟩ := id m2.ow
  have e2 : (.slice a2 n c2 : Value) = .slice a' n' c' := by
    injection e with e
    have := congrArg (fun x : Array Value => x[0]?) e
    simpa using this
  injection e2 with e3 e4 e5
  subst e3 e4 e5
  obtain ⟨ga, rfl, -, -, -, -, -⟩ := hor.own.form (by omega)
  have kA := below_alloc1 w2 (.cells #[.slice (some ⟨ga, 0, none⟩) n c2] 28)
  have z12 := m2.only.size
  have H3 := Lib.hid (show Sp0 w (w2.alloc (.cells #[.slice (some ⟨ga, 0, none⟩) n c2] 28)) sb w2.heap.size ga n c2 w2.heap.size N us d from
    ⟨(hor.below (innerS _) kA).mono (by omega) (Nat.le_refl _), blk_at rfl, (K1.out.only m2.only (.inr (by omega))).alloc _, src_belowL m2.src (by omega) kA, (O1.out.trans m2.only).trans (only_of_below kA), m2.sq, by omega, by have := m2.pos; omega, by simp; omega⟩)
  clear m2 kA K1 S1 O1 hor e
  go_upto_region 2 with fail
  generalize w2.alloc (.cells #[.slice (some ⟨ga, 0, none⟩) n c2] 28) = w3 at *
  have y3 := H3.out.box.cell 0
  simp at y3
  have hl0 : (lget d 0).length = N := H3.out.sq.leads.len 0 (by have := H3.out.row.len; omega)
  have hN14 := H3.out.N4
  go_wp2_with fail
  refine (flagsS_any (some ⟨ga, 0, none⟩) n c2 N d w3 (OwSS.rdc ⟨_, _, _, _, rfl, H3.out.row⟩).rd (by omega) hl0 (by omega)).mono ?_
  rintro e w4 ⟨rfl, b4⟩
  have H4 := Lib.hid (H3.out.below hsb b4)
  clear y3 b4 H3
  go_wp2_with fail
  refine (next_any sb _ _ H4.out.src (by omega)).mono ?_
  rintro e w5 ⟨r, rfl, -, -, s5, o5⟩
  have H5 := Lib.hid (H4.out.next hsb s5 o5)
  clear s5 o5 H4
  go_upto_block 0 with (fail)
  go_cut [] (fun wx => ∃ a n c d, SpS w wx sb w2.heap.size a n c d)
  case first =>
    obtain ⟨g0, c0, z0, hu, hz, hzl, hg1, hg2, hga⟩ := H5.out.head
    have HU := Lib.hid hu
    have HZ := Lib.hid hz
    have hat := H5.out.at_
    clear hu hz
    by_cases hr0 : r = 0
    · subst hr0
      have y5 := H5.out.box.cell 0
      have x5 := (H5.out.own0 HU.out HZ.out).2
      simp at y5
      have hn0i : 0 < n := by omega
      have H5A := H5.out.below hsb (below_alloc1 w5 (.cells #[.int .i64 (-1), .int .i64 (N : Int), .int .i64 0] 2))
      have y5A : (w5.alloc (.cells #[.int .i64 (-1), .int .i64 (N : Int), .int .i64 0] 2)).cell? ⟨w2.heap.size, 0, none⟩ = some (.slice (some ⟨ga, 0, none⟩) n c2) := H5A.box.cell 0
      have x5A := (H5A.own0 HU.out HZ.out).2
      clear H5A
      go_upto_region 5 with fail
      go_region_law (first
        | (go_simp; go_at_call 34; refine (pick_any sb _ 3 3 [-1, (N : Int), 0] _ H7.out.src IL.out (by omega) (by omega) (fun e => by simp [bk] at e; omega)).mono ?_; rintro e w8 ⟨u, -, rfl, s8, o8⟩; have H8 := Lib.hid (H7.out.next hsb s8 o8); have y8 := H8.out.box.cell 0; have x8 := (H8.out.own0 HU.out HZ.out).2; have v8 := own_int (H8.out.own0 HU.out HZ.out).1 hqN; obtain ⟨g', eg, -, -, -, -, hf8⟩ := (H8.out.own0 HU.out HZ.out).1.form (by omega); injection eg with eg; injection eg with eg; subst eg; have f8 := hf8 q; simp at y8; generalize iget [-1, (N : Int), 0] u = X at *; clear hf8 s8 o8)
        | (go_simp; go_at_call 34; refine (pick_any sb _ 3 3 [-1, (N : Int), 0] w6 H6.out.src IL6.out (by omega) (by omega) (fun e => by simp [bk] at e; omega)).mono ?_; rintro e w8 ⟨u, -, rfl, s8, o8⟩; have H8 := Lib.hid (H6.out.next hsb s8 o8); have y8 := H8.out.box.cell 0; have x8 := (H8.out.own0 HU.out HZ.out).2; have v8 := own_int (H8.out.own0 HU.out HZ.out).1 hqN; obtain ⟨g', eg, -, -, -, -, hf8⟩ := (H8.out.own0 HU.out HZ.out).1.form (by omega); injection eg with eg; injection eg with eg; subst eg; have f8 := hf8 q; simp at y8; generalize iget [-1, (N : Int), 0] u = X at *; clear hf8 s8 o8)
        | (go_simp; go_at_call 33; refine (next_any sb (N : Int) (w5.alloc (.cells #[.int .i64 (-1), .int .i64 (N : Int), .int .i64 0] 2)).drew (src_belowL H5.out.src (by omega) (below_alloc1 w5 _).drew) (by omega)).mono ?_; rintro e w6 ⟨q, rfl, -, q3, s6, o6⟩; have hqN : q < N := (by have := q3 (by omega); omega); have H6 := Lib.hid (H5.out.next hsb s6 ((only_of_below (below_alloc1 w5 _).drew).trans o6)); have y6 := H6.out.box.cell 0; have x6 := (H6.out.own0 HU.out HZ.out).2; simp at y6; have IL6 := Lib.hid (((own_rowL (w := w5) (zs := [-1, (N : Int), 0]) (us := [.int .i64 (-1), .int .i64 (N : Int), .int .i64 0]) (k := 3) rfl rfl rfl (by simp)).drewN 1).same (fun g e => o6.block g (by simp [bk] at e; subst e; simp) (.inr (by simp [bk] at e; omega)))).ints; have hqi : (q : Int) < (N : Int) := (by omega); clear q3 s6 o6)
        | (go_simp; go_at_call 33; refine (next_any sb (N : Int) w5.drew (src_belowL H5.out.src (by omega) (below_drew1 w5)) (by omega)).mono ?_; rintro e w6 ⟨q, rfl, -, q3, s6, o6⟩; have hqN : q < N := (by have := q3 (by omega); omega); have H6 := Lib.hid (H5.out.next hsb s6 ((only_of_below (below_drew1 w5)).trans o6)); have y6 := H6.out.box.cell 0; have x6 := (H6.out.own0 HU.out HZ.out).2; simp at y6; have hz6 := H6.out.at_; have kA := below_alloc1 w6 (.cells #[.int .i64 (-1), .int .i64 (N : Int), .int .i64 0] 2); have H7 := Lib.hid (H6.out.below hsb kA); have IL := Lib.hid (own_rowL (w := w6) (zs := [-1, (N : Int), 0]) (us := [.int .i64 (-1), .int .i64 (N : Int), .int .i64 0]) (k := 3) rfl rfl rfl (by simp)).ints; have y7 := H7.out.box.cell 0; have x7 := (H7.out.own0 HU.out HZ.out).2; simp at y7; have hqi : (q : Int) < (N : Int) := (by omega); clear kA q3 s6 o6))
      all_goals
        have HP := Lib.hid (H8.out.poke hsb HU.out HZ.out hg1 hg2 q X)
        go_wp2_with fail
        go_meet
      all_goals exact ⟨_, _, _, _, HP.out⟩
    · by_cases hr1 : r = 1
      · subst hr1
        have y5 := H5.out.box.cell 0
        simp at y5
        obtain ⟨A2, hA⟩ : ∃ A2 : Option Addr, some ⟨ga, 0, none⟩ = A2 := ⟨_, rfl⟩
        rw [hA] at y5
        rw [hA]
        have HAA := Lib.hid hA
        clear hA
        go_upto_region 7 with fail
        go_region_law (first
          | (go_simp; go_at_call 116; refine (matching_any sb N w5.drew (src_belowL H5.out.src (by omega) (below_drew1 w5)) (show sb < w5.heap.size by omega) (by omega) (by omega)).mono ?_; rintro e w6 ⟨am, cm, rfl, gs⟩; have H6 := Lib.hid (H5.out.next hsb gs.src ((only_of_below (below_drew1 w5)).trans gs.only)); have y6 := H6.out.box.cell 0; simp at y6; rw [HAA.out] at y6; have hz6 := H6.out.at_; have hz56 : w5.heap.size ≤ w6.heap.size := gs.only.size; obtain ⟨zs, zl, -, om⟩ := gs.gl; have OM := Lib.hid om; clear gs om)
          | (refine row_step (o := ⟨some 36, _, _, _, _, _⟩) etSS rfl (.tmp 31) (.tmp 35) rfl (w.heap.size + 1) A2 n c2 us rfl (by rw [← HAA.out]; exact H6.out.row.own) (.slice am N cm) rfl rfl (by omega) (by have := H6.out.at_; omega) ?_; intro ao7 c7 w7 o7 g7 hat7; rw [← HAA.out] at g7 hat7; have k7 := H6.out.blk7 g7; have y7 := k7.cell 0; have f7 := k7.frozen 0; simp at y7))
        all_goals
          have HP := Lib.hid (H6.out.push hsb (show zs.length ≤ 1000 by omega) OM.out (show w2.heap.size < w5.drew.heap.size from hat.2.2) o7 g7 hat7)
          clear o7 g7 hat7
          go_wp2_with fail
          go_meet
        all_goals exact ⟨_, _, _, _, HP.out⟩
      · by_cases hr2 : r = 2
        · subst hr2
          have y5 := H5.out.box.cell 0
          have f5 := H5.out.box.frozen 0
          simp at y5
          have hmb := hat.2.2
          have kA := below_alloc1 w5 (.cells #[] 32)
          have HP1 := Lib.hid ((H5.out.below hsb kA).box_ hsb (a' := some ⟨w5.heap.size, 0, none⟩) (n' := 0) (c' := 0) (d' := []) ⟨by simp, fun i hi => by simp at hi⟩ (by omega) rdlo_nil)
          have HP2 := Lib.hid ((H5.out.box_ hsb (a' := some ⟨w5.heap.size, 0, none⟩) (n' := 0) (c' := 0) (d' := []) ⟨by simp, fun i hi => by simp at hi⟩ (by omega) rdlo_nil).below (by simp [World.setCell]; omega) (below_alloc1 _ (.cells #[] 32)))
          clear kA
          go_wp2_with fail
          go_meet
          case rel => first | exact ⟨_, _, _, _, HP1.out⟩ | exact ⟨_, _, _, _, HP2.out⟩
        · by_cases hr3 : r = 3
          · subst hr3
            have y5 := H5.out.box.cell 0
            have x5 := (H5.out.own0 HU.out HZ.out).2
            simp at y5
            have hn0i : 0 < n := by omega
            have H5A := H5.out.below hsb (below_alloc1 w5 (.cells #[.int .i64 (N : Int)] 2))
            have y5A : (w5.alloc (.cells #[.int .i64 (N : Int)] 2)).cell? ⟨w2.heap.size, 0, none⟩ = some (.slice (some ⟨ga, 0, none⟩) n c2) := H5A.box.cell 0
            have x5A := (H5A.own0 HU.out HZ.out).2
            clear H5A
            have K0 := Lib.hid (show w5.drew.cell? ⟨w2.heap.size, 0, none⟩ = some (.slice (some ⟨ga, 0, none⟩) n c2) ∧ w5.drew.cell? ⟨ga, 0, none⟩ = some (.slice (some ⟨g0, 0, none⟩) N c0) from ⟨y5, x5⟩)
            have KA := Lib.hid (show (w5.drew.alloc (.cells #[.int .i64 (N : Int)] 2)).cell? ⟨w2.heap.size, 0, none⟩ = some (.slice (some ⟨ga, 0, none⟩) n c2) ∧ (w5.drew.alloc (.cells #[.int .i64 (N : Int)] 2)).cell? ⟨ga, 0, none⟩ = some (.slice (some ⟨g0, 0, none⟩) N c0) from ⟨y5A, x5A⟩)
            go_upto_region 11 with fail
            go_region_law (first
              | (refine row_step (w0 := w5.drew) (o := ⟨some 52, _, _, _, _, _⟩) etI rfl (.tmp 49) (.tmp 51) rfl 0 (some ⟨g0, 0, none⟩) N c0 (z0.map (Value.int .i64)) rfl (H5.out.own0 HU.out HZ.out).1 (.int .i64 (N : Int)) rfl rfl (by omega) (Nat.zero_le _) ?_; intro ao7 c7 w7 o7 g7 hat7; have g7 := H5.out.gr7 g7; have hat7 := hat7; have x7 := (H5.out.cel7 hga g7).1.trans x5; have f7 := (H5.out.cel7 hga g7).2; have y7 := (H5.out.bl7 hg2 g7).cell 0; simp at y7; have K7 := Lib.hid (show w7.cell? ⟨w2.heap.size, 0, none⟩ = some (.slice (some ⟨ga, 0, none⟩) n c2) ∧ w7.cell? ⟨ga, 0, none⟩ = some (.slice (some ⟨g0, 0, none⟩) N c0) from ⟨y7, x7⟩))
              | (refine row_stepD (w0 := w5) (o := ⟨some 52, _, _, _, _, _⟩) etI rfl (.tmp 49) (.tmp 51) rfl 0 (some ⟨g0, 0, none⟩) N c0 (z0.map (Value.int .i64)) rfl (H5.out.own0 HU.out HZ.out).1 (.int .i64 (N : Int)) rfl rfl (by omega) (Nat.zero_le _) ?_; intro ao7 c7 w7 o7 g7 hat7; have x7 := (H5.out.cel7 hga g7).1.trans x5; have f7 := (H5.out.cel7 hga g7).2; have y7 := (H5.out.bl7 hg2 g7).cell 0; simp at y7; have K7 := Lib.hid (show w7.cell? ⟨w2.heap.size, 0, none⟩ = some (.slice (some ⟨ga, 0, none⟩) n c2) ∧ w7.cell? ⟨ga, 0, none⟩ = some (.slice (some ⟨g0, 0, none⟩) N c0) from ⟨y7, x7⟩)))
            all_goals
              have HP := Lib.hid (H5.out.stretch hsb HU.out HZ.out hg1 hg2 o7 g7 hat7)
              clear o7 g7 hat7
              go_wp2_with fail
              go_meet
            all_goals exact ⟨_, _, _, _, HP.out⟩
          · by_cases hr4 : r = 4
            · subst hr4
              have y5 := H5.out.box.cell 0
              have f5 := H5.out.box.frozen 0
              simp at y5
              have hmb := hat.2.2
              have hnc := H5.out.row.cap_le
              have h1c : (1 : Int) ≤ (n : Int) := by omega
              have h1n : 1 ≤ n := by omega
              by_cases hn1' : n = 1
              · subst hn1'
                have HP := Lib.hid (fun a' c' => H5.out.box_ hsb (a' := a') (n' := 0) (c' := c') (d' := []) ⟨by simp, fun i hi => by simp at hi⟩ (by omega) rdlo_nil)
                by_cases hc1 : c2 = 1
                · subst hc1
                  go_wp2_with fail
                  go_meet
                  case rel => exact ⟨_, _, _, _, HP.out _ _⟩
                · have hcn : ¬ 1 = c2 := by omega
                  go_wp2_with fail
                  go_meet
                  case rel => exact ⟨_, _, _, _, HP.out _ _⟩
              · have hc1 : ¬ c2 = 1 := by omega
                have hcn : ¬ 1 = c2 := by omega
                have HP := Lib.hid (H5.out.box_ hsb (a' := some ⟨ga, 1, none⟩) (n' := n - 1) (c' := c2 - 1) (d' := d.drop 1) (few_drop (sq_few H5.out.sq (by omega) (by have := H5.out.row.len; omega))) (by omega) (H5.out.tailBox (by omega)))
                go_wp2_with fail
                go_meet
                case rel => exact ⟨_, _, _, _, HP.out⟩
            · have hr0' : ((r : Int) == 0) = false := by simp; omega
              have hr1' : ((r : Int) == 1) = false := by simp; omega
              have hr2' : ((r : Int) == 2) = false := by simp; omega
              have hr3' : ((r : Int) == 3) = false := by simp; omega
              have hr4' : ((r : Int) == 4) = false := by simp; omega
              have HP := Lib.hid (H5.out.same hsb)
              go_wp2_with fail
              go_meet
              case rel => exact ⟨_, _, _, _, HP.out⟩
  case rest =>
    obtain ⟨a, n, c, d, sp⟩ := hcut
    have SP := Lib.hid sp
    have y5 := sp.box.cell 0
    have z5 := sp.res.cell 0
    have f5 := sp.res.frozen 0
    have hn6 := sp.n6
    simp at y5 z5
    clear sp
    go_wp2_with fail
    exact bodyPost_ret (v := .agg #[.slice a n c]) (by simp [results, Try.f119, go_sem, z5]) rfl ⟨_, _, _, _, rfl, SP.out.fin hsb, hn6⟩
end Go.Proofs.Ytmdhljleaijkbaa

/- Draws of maniplexes: l06Even. guards: -/
namespace Go.Proofs.Ytmdhljleaijkbaa
open Go.RowKit

/-- before the maniplex is drawn -/
structure Ev0 (w wx : World) (sb : Nat) : Prop where
  res : Blk wx w.heap.size 28 #[.slice none 0 0]
  mb : Blk wx (w.heap.size + 1) 28 #[.slice none 0 0]
  src : Src wx sb
  only : Only sb (sb + 1) w wx
  sz : w.heap.size + 2 ≤ wx.heap.size
/-- behind -/
structure Ev1 (w wx : World) (sb : Nat) (a : Option Addr) (n c : Nat) (d : List (List Int)) (N : Nat) : Prop where
  res : Blk wx w.heap.size 28 #[.slice none 0 0]
  mb : Blk wx (w.heap.size + 1) 28 #[.slice a n c]
  rd : RdLo wx (w.heap.size + 2) (.slice a n c) d
  len : d.length = n
  sq : Sq d N
  n6 : 1 ≤ n ∧ n ≤ 6
  N4 : 1 ≤ N ∧ N ≤ 400
  src : Src wx sb
  only : Only sb (sb + 1) w wx
  sz : w.heap.size + 2 ≤ wx.heap.size
section
variable {w wx wy : World} {sb n c N : Nat} {a : Option Addr} {d : List (List Int)}
theorem Ev0.next (h : Ev0 w wx sb) (hs : sb < w.heap.size) (s : Src wy sb) (o : Only sb (sb + 1) wx wy) : Ev0 w wy sb :=
  have hz := h.sz
  ⟨h.res.only o (.inr (by omega)), h.mb.only o (.inr (by omega)), s, h.only.trans o, Nat.le_trans hz o.size⟩
theorem Ev0.below (h : Ev0 w wx sb) (hs : sb < w.heap.size) (b : Below wx.heap.size wx wy) : Ev0 w wy sb :=
  h.next hs (src_belowL h.src (by have := h.sz; omega) b) (only_of_below b)
theorem Ev0.put (h : Ev0 w wx sb) (hs : sb < w.heap.size) (hr : RdLo wx (w.heap.size + 2) (.slice a n c) d) (hl : d.length = n) (sq : Sq d N) (hn : 1 ≤ n ∧ n ≤ 6) (hN : 1 ≤ N ∧ N ≤ 400) : Ev1 w (wx.setCell ⟨w.heap.size + 1, 0, none⟩ (.slice a n c)) sb a n c d N := by
  have hz := h.sz
  have oc := only_set wx (w.heap.size + 1) 0 (.slice a n c)
  exact ⟨h.res.only oc (.inl (by omega)), by simpa using h.mb.set_ 0 (.slice a n c), hr.setBox (.inl (by omega)) _, hl, sq, hn, hN, src_farL h.src fun g hg => Below.heap_setCell _ _ _ g (by show g ≠ w.heap.size + 1; omega), only_cell h.only (by show w.heap.size ≤ w.heap.size + 1; omega) _, by simp [World.setCell]; omega⟩
theorem ev0_start {w : World} {sb : Nat} (h : Src w sb) (hs : sb < w.heap.size) : Ev0 w ((w.alloc (.cells #[.slice none 0 0] 28)).alloc (.cells #[.slice none 0 0] 28)) sb := by
  have b := below_alloc2 w (.cells #[.slice none 0 0] 28) (.cells #[.slice none 0 0] 28)
  exact ⟨(blk_at rfl).alloc _, blk_at (by simp), src_belowL h hs b, only_of_below b, by simp⟩
end
theorem edge_lit (w : World) {g : Nat} (hg : w.heap.size = g) : OwR (OwS 2) ((w.alloc (.cells #[.int .i64 1, .int .i64 0] 2)).alloc (.cells #[.slice (some ⟨g, 0, none⟩) 2 2] 32)) g (g + 2) 32 (some ⟨g + 1, 0, none⟩) 1 1 [.slice (some ⟨g, 0, none⟩) 2 2] [[1, 0]] := by
  have hL : Own (w.alloc (.cells #[.int .i64 1, .int .i64 0] 2)) g 2 (some ⟨g, 0, none⟩) 2 2 (([1, 0] : List Int).map (Value.int .i64)) := by
    have := own_rowL (w := w) (us := [.int .i64 1, .int .i64 0]) (zs := [1, 0]) (k := 2) (g := g) hg rfl rfl (by omega)
    rwa [hg] at this
  have e2 : (w.alloc (.cells #[.int .i64 1, .int .i64 0] 2)).heap.size = g + 1 := by simp [hg]
  have := OwR.lit (E := 32) (us := [.slice (some ⟨g, 0, none⟩) 2 2]) (ds := [[1, 0]]) (n := 1) (lo := g) (hi := g + 1) (w := w.alloc (.cells #[.int .i64 1, .int .i64 0] 2)) (innerS 2) (by omega) (by omega) rfl rfl (by omega) (fun j u d hu hd => by
        match j, hu, hd with
        | 0, hu, hd => simp at hu hd; subst hu hd; exact ⟨_, _, _, rfl, hL.mono (Nat.zero_le _)⟩
        | j + 1, hu, _ => simp at hu) (fun j u hu => by
        match j, hu with
        | 0, hu => simp at hu; subst hu; exact in_slice fun g hg => by simp [bk] at hg; omega
        | j + 1, hu => simp at hu) (fun i j u u' g hij hu hu' _ => by
        match i, j, hu, hu' with
        | 0, 0, _, _ => exact absurd rfl hij
        | 0, j + 1, _, hu' => simp at hu'
        | i + 1, _, hu, _ => simp at hu)
  rw [e2] at this; exact this
theorem gridZ_any {a b : Nat} (z y : Int) (hz : z = (a : Int)) (hy : y = (b : Int)) (w : World) (ha : 1 ≤ a) (ha4 : a ≤ 4) (hb : 1 ≤ b) (hb2 : b ≤ 2) :
    Calls Try.prog 85 #[.int .i64 z, .int .i64 y] w fun e w' => ∃ ao c r N, e = .returned (.agg #[.slice ao 3 c]) ∧ OwM 2 32 w' w.heap.size w'.heap.size (.agg #[.slice ao 3 c]) r ∧ Sq r N ∧ (1 ≤ N ∧ N ≤ 64) ∧ Below w.heap.size w w' := by
  subst hz hy
  refine (grid_any a b w ha ha4 hb hb2).mono ?_
  rintro e w' ⟨v, d, rfl, ho, hl, hs, hb'⟩
  obtain ⟨ao, n, c, rfl⟩ := ho.form
  have hn : n = 3 := by have := ho.rdcM.2; omega
  subst hn
  have h1 : 1 ≤ a * b := Nat.mul_pos ha hb
  have h2 : a * b ≤ 8 := Nat.mul_le_mul ha4 hb2
  have h3 : 8 * a * b = 8 * (a * b) := Nat.mul_assoc 8 a b
  exact ⟨ao, c, d, 8 * a * b, rfl, ho, hs, by omega, hb'⟩
theorem dualZ_any (ao : Option Addr) (n c N : Nat) (d : List (List Int)) (w : World) (hd : RdSSc w (.slice ao n c) d) (hT : Sq d N) (hn : 0 < n) (hn9 : n ≤ 100) (hN : 1 ≤ N) (hN9 : N ≤ 1000) :
    Calls Try.prog 120 #[.agg #[.slice ao n c]] w fun e w' => ∃ a' c' r L, e = .returned (.agg #[.slice a' n c']) ∧ OwM 2 32 w' w.heap.size w'.heap.size (.agg #[.slice a' n c']) r ∧ Sq r L ∧ (1 ≤ L ∧ L ≤ N) ∧ Below w.heap.size w w' := by
  refine (dualS_any ao n c N d w hd hT.leads hn hn9 hN hN9).mono ?_
  rintro e w' ⟨v, r, L, rfl, ho, hr, hs, h1, h2, hb⟩
  obtain ⟨a', n', c', rfl⟩ := ho.form
  have hn : n' = n := by have := ho.rdcM.2; omega
  subst hn
  exact ⟨a', c', r, L, rfl, ho, hs, ⟨h1, h2⟩, hb⟩
set_option maxRecDepth 100000 in
set_option maxHeartbeats 6400000 in
theorem even_any (sb : Nat) (w : World) (h : Src w sb) (hsb : sb < w.heap.size) :
    Calls Try.prog 91 #[.pointer (some ⟨sb, 0, none⟩)] w fun e w' => ∃ a n c d, e = .returned (.agg #[.slice a n c]) ∧ MxR w w' sb a n c d ∧ n ≤ 6 := by
  have HA := Lib.hid (ev0_start h hsb)
  clear h
  go_enter Try.func91, Try.ntmps91
  go_upto_region 2 with fail
  generalize (w.alloc (.cells #[.slice none 0 0] 28)).alloc (.cells #[.slice none 0 0] 28) = w1 at *
  go_wp2_with fail
  refine (next_any sb _ _ HA.out.src (by omega)).mono ?_
  rintro e w2 ⟨r, rfl, -, r2, s2, o2⟩
  have hr := r2 (by omega)
  have HA2 := Lib.hid (HA.out.next hsb s2 o2)
  clear HA r2 s2 o2
  have hz2 := HA2.out.sz
  go_upto_block 0 with (fail)
  go_cut [] (fun wx => ∃ a n c d N, Ev1 w wx sb a n c d N)
  case first =>
    by_cases hr0 : r = 0
    · subst hr0
      go_wp2_with fail
      refine (next_any sb _ _ HA2.out.src (by omega)).mono ?_
      rintro e w3 ⟨p, rfl, -, p3, s3, o3⟩
      have hp := p3 (by omega)
      have HA3 := Lib.hid (HA2.out.next hsb s3 o3)
      have hpw : IntKind.i64.wrap (1 + (p : Int)) = 1 + (p : Int) := IntWalk.i64_in _ (by omega)
      clear p3 s3 o3 HA2
      go_wp2_with fail
      refine (next_any sb _ _ HA3.out.src (by omega)).mono ?_
      rintro e w4 ⟨q, rfl, -, q3, s4, o4⟩
      have hq := q3 (by omega)
      have HA4 := Lib.hid (HA3.out.next hsb s4 o4)
      have hqw : IntKind.i64.wrap (1 + (q : Int)) = 1 + (q : Int) := IntWalk.i64_in _ (by omega)
      clear q3 s4 o4 HA3
      go_wp2_with fail
      refine (gridZ_any (a := 1 + p) (b := 1 + q) _ _ (by omega) (by omega) w4 (by omega) (by omega) (by omega) (by omega)).mono ?_
      rintro e w5 ⟨a5, c5, r5, N, rfl, o5, sq5, hN5, b5⟩
      have HA5 := Lib.hid (HA4.out.below hsb b5)
      have f5 := HA5.out.mb.frozen 0
      have y5 := HA5.out.mb.cell 0
      simp at y5
      have HP := Lib.hid (HA5.out.put hsb (o5.rdlo.mono HA4.out.sz) o5.rdcM.2 sq5 (by omega) (by omega))
      clear o5 b5 HA4
      go_wp2_with fail
      go_meet
      case rel => exact ⟨_, _, _, _, _, HP.out⟩
    · by_cases hr1 : r = 1
      · subst hr1
        go_wp2_with fail
        refine (next_any sb _ _ HA2.out.src (by omega)).mono ?_
        rintro e w3 ⟨p, rfl, -, p3, s3, o3⟩
        have hp := p3 (by omega)
        have HA3 := Lib.hid (HA2.out.next hsb s3 o3)
        have hpw : IntKind.i64.wrap (1 + (p : Int)) = 1 + (p : Int) := IntWalk.i64_in _ (by omega)
        clear p3 s3 o3 HA2
        go_wp2_with fail
        refine (polyZ_any (m := 1 + p) _ (by omega) w3 (by omega) (by omega)).mono ?_
        rintro e w4 ⟨a4, c4, r4, rfl, o4, sq4, b4⟩
        have HA4 := Lib.hid (HA3.out.below hsb b4)
        have O4 := Lib.hid o4
        clear o4 b4
        go_wp2_with fail
        refine (next_any sb _ _ HA4.out.src (by omega)).mono ?_
        rintro e w5 ⟨q, rfl, -, q3, s5, o5⟩
        have hq := q3 (by omega)
        have HA5 := Lib.hid (HA4.out.next hsb s5 o5)
        have hqw : IntKind.i64.wrap (1 + (q : Int)) = 1 + (q : Int) := IntWalk.i64_in _ (by omega)
        have O5 := Lib.hid (O4.out.only o5 (.inr (by have := HA3.out.sz; omega)))
        clear q3 s5 o5 HA3 O4 HA4
        go_wp2_with fail
        refine (polyZ_any (m := 1 + q) _ (by omega) w5 (by omega) (by omega)).mono ?_
        rintro e w6 ⟨a6, c6, r6, rfl, o6, sq6, b6⟩
        have HA6 := Lib.hid (HA5.out.below hsb b6)
        have O6 := Lib.hid o6
        have O56 := Lib.hid (O5.out.below b6)
        clear o6 b6 O5 HA5
        go_wp2_with fail
        refine (besZ_any a4 a6 2 c4 2 c6 (2 * (1 + p)) (2 * (1 + q)) r4 r6 w6 O56.out.rdcM.1 O6.out.rdcM.1 sq4 sq6 (by omega) (by omega) (by omega) (by omega) (by omega) (by omega) (by omega) (by omega)).mono ?_
        rintro e w7 ⟨a7, c7, r7, rfl, o7, sq7, b7⟩
        have HA7 := Lib.hid (HA6.out.below hsb b7)
        have f7 := HA7.out.mb.frozen 0
        have y7 := HA7.out.mb.cell 0
        simp at y7
        have hNN : 1 ≤ 2 * (1 + p) * (2 * (1 + q)) ∧ 2 * (1 + p) * (2 * (1 + q)) ≤ 400 := ⟨Nat.mul_pos (by omega) (by omega), Nat.le_trans (Nat.mul_le_mul (show 2 * (1 + p) ≤ 20 by omega) (show 2 * (1 + q) ≤ 20 by omega)) (by omega)⟩
        have HP := Lib.hid (HA7.out.put hsb (o7.rdlo.mono HA6.out.sz) o7.rdcM.2 sq7 (by omega) hNN)
        clear o7 b7 HA6
        go_wp2_with fail
        go_meet
        case rel => exact ⟨_, _, _, _, _, HP.out⟩
      · by_cases hr2 : r = 2
        · subst hr2
          go_wp2_with fail
          refine (next_any sb _ _ HA2.out.src (by omega)).mono ?_
          rintro e w3 ⟨p, rfl, -, p3, s3, o3⟩
          have hp := p3 (by omega)
          have HA3 := Lib.hid (HA2.out.next hsb s3 o3)
          have hpw : IntKind.i64.wrap (1 + (p : Int)) = 1 + (p : Int) := IntWalk.i64_in _ (by omega)
          clear p3 s3 o3 HA2
          go_wp2_with fail
          refine (polyZ_any (m := 1 + p) _ (by omega) w3 (by omega) (by omega)).mono ?_
          rintro e w4 ⟨a4, c4, r4, rfl, o4, sq4, b4⟩
          have HA4 := Lib.hid (HA3.out.below hsb b4)
          have f4 := HA4.out.mb.frozen 0
          have y4 := HA4.out.mb.cell 0
          simp at y4
          have HP := Lib.hid (HA4.out.put hsb (o4.rdlo.mono HA3.out.sz) o4.rdcM.2 sq4 (by omega) (by omega))
          clear o4 b4 HA3
          go_wp2_with fail
          go_meet
          case rel => exact ⟨_, _, _, _, _, HP.out⟩
        · by_cases hr3 : r = 3
          · subst hr3
            go_wp2_with fail
            refine (spoil_any sb 40 _ HA2.out.src (by omega) (by omega) (by omega)).mono ?_
            rintro e w3 ⟨a3, n3, c3, d3, rfl, m3, hn6⟩
            have HA3 := Lib.hid (HA2.out.next hsb m3.src m3.only)
            have f3 := HA3.out.res.frozen 0
            have z3 := HA3.out.res.cell 0
            simp at z3
            have hF : MxR w (w3.setCell ⟨w.heap.size, 0, none⟩ (.slice a3 n3 c3)) sb a3 n3 c3 d3 := ⟨(m3.rd.mono (show w.heap.size + 1 ≤ w2.heap.size by omega)).setBox (.inl (by omega)) _ |>.mono (by omega), m3.few, src_farL m3.src fun g hg => Below.heap_setCell _ _ _ g (by show g ≠ w.heap.size; omega), only_cell HA3.out.only (Nat.le_refl _) _⟩
            have HF := Lib.hid hF
            clear hF m3
            go_wp2_with fail
            exact bodyPost_ret (v := .agg #[.slice a3 n3 c3]) (by simp [results, Try.f91, go_sem, z3]) rfl ⟨_, _, _, _, rfl, HF.out, hn6⟩
          · have hr0' : ((r : Int) == 0) = false := by simp; omega
            have hr1' : ((r : Int) == 1) = false := by simp; omega
            have hr2' : ((r : Int) == 2) = false := by simp; omega
            have hr3' : ((r : Int) == 3) = false := by simp; omega
            go_wp2_with fail
            refine (next_any sb _ _ HA2.out.src (by omega)).mono ?_
            rintro e w3 ⟨p, rfl, -, p3, s3, o3⟩
            have hp := p3 (by omega)
            have HA3 := Lib.hid (HA2.out.next hsb s3 o3)
            have hpw : IntKind.i64.wrap (1 + (p : Int)) = 1 + (p : Int) := IntWalk.i64_in _ (by omega)
            clear p3 s3 o3 HA2
            go_wp2_with fail
            refine (polyZ_any (m := 1 + p) _ (by omega) w3 (by omega) (by omega)).mono ?_
            rintro e w4 ⟨a4, c4, r4, rfl, o4, sq4, b4⟩
            have HA4 := Lib.hid (HA3.out.below hsb b4)
            have kA := below_alloc2 w4 (.cells #[.int .i64 1, .int .i64 0] 2) (.cells #[.slice (some ⟨w4.heap.size, 0, none⟩) 2 2] 32)
            have O5 := Lib.hid (o4.below kA)
            have E5 := Lib.hid (edge_lit w4 rfl)
            have HA5 := Lib.hid (HA4.out.below hsb kA)
            clear kA o4 b4
            go_wp2_with fail
            generalize (w4.alloc (.cells #[.int .i64 1, .int .i64 0] 2)).alloc (.cells #[.slice (some ⟨w4.heap.size, 0, none⟩) 2 2] 32) = w5 at *
            refine (besZ_any a4 (some ⟨w4.heap.size + 1, 0, none⟩) 2 c4 1 1 (2 * (1 + p)) 2 r4 [[1, 0]] w5 O5.out.rdcM.1 E5.out.rdlo.rd sq4 edge_sq (by omega) (by omega) (by omega) (by omega) (by omega) (by omega) (by omega) (by omega)).mono ?_
            rintro e w6 ⟨a6, c6, r6, rfl, o6, sq6, b6⟩
            have HA6 := Lib.hid (HA5.out.below hsb b6)
            have O6 := Lib.hid o6
            clear o6 b6
            go_wp2_with fail
            refine (dualZ_any a6 3 c6 (2 * (1 + p) * 2) r6 w6 O6.out.rdcM.1 sq6 (by omega) (by omega) (by omega) (by omega)).mono ?_
            rintro e w7 ⟨a7, c7, r7, L, rfl, o7, sq7, hL, b7⟩
            have HA7 := Lib.hid (HA6.out.below hsb b7)
            have f7 := HA7.out.mb.frozen 0
            have y7 := HA7.out.mb.cell 0
            simp at y7
            have HP := Lib.hid (HA7.out.put hsb (o7.rdlo.mono HA6.out.sz) o7.rdcM.2 sq7 (by omega) (by omega))
            clear o7 b7 HA6
            go_wp2_with fail
            go_meet
            case rel => exact ⟨_, _, _, _, _, HP.out⟩
  case rest =>
    obtain ⟨a2, n, c2, d, N, hv⟩ := hcut
    have HV := Lib.hid hv
    have hN4 := hv.N4
    have hn6 := hv.n6
    have hl := hv.len
    have hz4 := hv.sz
    have hl0 : (lget d 0).length = N := hv.sq.leads.len 0 (by omega)
    have SQ := Lib.hid hv.sq
    have y4 := hv.mb.cell 0
    simp at y4
    have hrd := hv.rd
    have HRD := Lib.hid hrd.rd
    have RL4 := Lib.hid hrd
    have S4 := Lib.hid hv.src
    have O4 := Lib.hid hv.only
    have KR4 := Lib.hid hv.res
    have KM4 := Lib.hid hv.mb
    clear HA2 hv hrd
    go_upto_region 12 with fail
    go_region_law (first
      | (go_simp; go_at_call 87; refine (ren_any a2 pa n c2 N pc d zs w6 (HRD6.out) zo SQ.out.leads zl zw (by omega) (by omega) (by omega)).mono ?_; rintro e w7 ⟨v7, r7, rfl, o7, hr7, sq7, b7⟩; obtain ⟨a7, n7, c7, rfl⟩ := o7.form; have S7 := Lib.hid (src_belowL G6.out.src (by have := G6.out.only.size; omega) b7); have O7 := Lib.hid (only_below O6.out b7); have KR7 := Lib.hid (KR6.out.belowS b7); have y7 := KR7.out.cell 0; have f7 := KR7.out.frozen 0; simp at y7)
      | (go_simp; go_at_call 88; refine (draw_any sb N w5 S5.out (by omega) (by omega)).mono ?_; rintro e w6 ⟨pa, pc, rfl, g6⟩; have G6 := Lib.hid g6; have O6 := Lib.hid (O5.out.trans g6.only); have KR6 := Lib.hid (KR5.out.only g6.only (.inr (by omega))); have HRD6 := Lib.hid ((RL5.out.only g6.only (by omega)).rd); obtain ⟨zs, zl, zw, zo⟩ := g6.gl.ows; have hz56 := g6.only.size; have KM6 := Lib.hid (KM5.out.only g6.only (.inr (by omega))); have x6 := KM6.out.cell 0; simp at x6; clear g6)
      | (go_simp; go_at_call 95; refine (flagsS_any a2 n c2 N d wc.drew ((HRD.out.below (below_drew1 wc)).rd) (by omega) hl0 (by omega)).mono ?_; rintro e w5 ⟨rfl, b5⟩; have b5' : Below wc.heap.size wc w5 := below_tr b5 (below_drew1 wc); have S5 := Lib.hid (src_belowL S4.out (by omega) b5'); have O5 := Lib.hid (only_below O4.out b5'); have KR5 := Lib.hid (KR4.out.belowS b5'); have RL5 := Lib.hid (RL4.out.below b5'); have hz45 := b5'.size; have KM5 := Lib.hid (KM4.out.belowS b5'); have x5 := KM5.out.cell 0; simp at x5))
    all_goals
      have hn7 : n7 = n := by have := o7.rdcM.2; omega
      subst hn7
      have oc := only_set w7 w.heap.size 0 (.slice a7 n7 c7)
      have hF : MxR w (w7.setCell ⟨w.heap.size, 0, none⟩ (.slice a7 n7 c7)) sb a7 n7 c7 r7 := ⟨(o7.rdlo.mono (show w.heap.size + 1 ≤ w6.heap.size by omega)).setBox (.inl (by omega)) _ |>.mono (by omega), sq_few sq7 (by omega) (by omega), src_farL S7.out fun g hg => Below.heap_setCell _ _ _ g (by show g ≠ w.heap.size; omega), only_cell O7.out (Nat.le_refl _) _⟩
      have HF := Lib.hid hF
      clear hF o7 b7
      go_wp2_with fail
      exact bodyPost_ret (v := .agg #[.slice a7 n7 c7]) (by simp [results, Try.f91, go_sem, y7]) rfl ⟨_, _, _, _, rfl, HF.out, by omega⟩
end Go.Proofs.Ytmdhljleaijkbaa

/- Counting: pigeonholes; onto and one to one. No program in sight. -/
namespace Go.Proofs.Ytmdhljleaijkbaa

theorem holes : ∀ (m n : Nat) (f : Nat → Nat), (∀ i, i < n → f i < m) → (∀ i j, i < n → j < n → f i = f j → i = j) → n ≤ m
  | 0, n, f, h, _ => by
    rcases Nat.eq_zero_or_pos n with e | e
    · omega
    · have := h 0 e; omega
  | m + 1, 0, f, _, _ => Nat.zero_le _
  | m + 1, n + 1, f, h, hi => by
    have := holes m n (fun i => if f i = m then f n else f i) (fun i hin => by
      have h1 := h i (by omega)
      have h2 := h n (by omega)
      have h3 := hi i n (by omega) (by omega)
      split <;> omega) (fun i j hin hjn e => by
      have h3 := hi i n (by omega) (by omega)
      have h4 := hi j n (by omega) (by omega)
      have h5 := hi i j (by omega) (by omega)
      split at e <;> split at e
      · omega
      · exact absurd (h4 e.symm) (by omega)
      · exact absurd (h3 e) (by omega)
      · exact h5 e)
    omega
/-- what is one to one from n points to n points meets all -/
theorem inj_onto {n : Nat} {f : Nat → Nat} (h : ∀ i, i < n → f i < n) (hi : ∀ i j, i < n → j < n → f i = f j → i = j) {y : Nat} (hy : y < n) : ∃ i, i < n ∧ f i = y := by
  apply Classical.byContradiction
  intro hno
  have hn : ∀ i, i < n → f i ≠ y := fun i hi e => hno ⟨i, hi, e⟩
  have := holes (n - 1) n (fun i => if f i = n - 1 then y else f i) (fun i hi' => by
    have h1 := h i hi'
    have h2 := hn i hi'
    split
    · have : y ≠ n - 1 := fun e => h2 (by omega)
      omega
    · omega) (fun i j hi' hj' e => by
    have h1 := hn i hi'
    have h2 := hn j hj'
    have h3 := hi i j hi' hj'
    split at e <;> split at e
    · omega
    · exact absurd e.symm h2
    · exact absurd e h1
    · exact h3 e)
  omega
/-- what meets all of n points from n points is one to one -/
theorem onto_inj {n : Nat} {f : Nat → Nat} (_h : ∀ i, i < n → f i < n) (hs : ∀ y, y < n → ∃ i, i < n ∧ f i = y) {a b : Nat} (ha : a < n) (hb : b < n) (e : f a = f b) : a = b := by
  apply Classical.byContradiction
  intro hne
  have hg : ∃ g : Nat → Nat, ∀ y, y < n → g y < n ∧ f (g y) = y ∧ g y ≠ b := by
    refine Classical.axiomOfChoice (r := fun y i => y < n → i < n ∧ f i = y ∧ i ≠ b) fun y => ?_
    by_cases hy : y < n
    · by_cases hya : y = f b
      · exact ⟨a, fun _ => ⟨ha, by rw [hya]; exact e, hne⟩⟩
      · obtain ⟨i, h1, h2⟩ := hs y hy
        exact ⟨i, fun _ => ⟨h1, h2, fun e2 => hya (by rw [← h2, e2])⟩⟩
    · exact ⟨0, fun q => absurd q hy⟩
  obtain ⟨g, hg⟩ := hg
  have := holes (n - 1) n (fun i => if g i = n - 1 then b else g i) (fun i hi' => by
    obtain ⟨h1, h2, h3⟩ := hg i hi'
    split
    · omega
    · omega) (fun i j hi' hj' q => by
    obtain ⟨h1, h2, h3⟩ := hg i hi'
    obtain ⟨k1, k2, k3⟩ := hg j hj'
    have q2 : g i = g j := by
      split at q <;> split at q
      · omega
      · exact absurd q.symm k3
      · exact absurd q h3
      · exact q
    rw [← h2, ← k2, q2])
  omega
end Go.Proofs.Ytmdhljleaijkbaa

/- Automorphisms of maniplexes, plain. No program in sight. -/
namespace Go.Proofs.Ytmdhljleaijkbaa

section
variable {d e k : List (List Int)}
/-- the flag that a flag gets -/
def at_ (p : List Int) (i : Nat) : Nat := (iget p i).toNat
theorem Cov.at_lt {p : List Int} (h : Cov d e p) {i : Nat} (hi : i < flg d) : at_ p i < flg e ∧ iget p i = (at_ p i : Int) := by
  obtain ⟨x, h1, h2⟩ := h.val i hi
  unfold at_; rw [h1]; exact ⟨by omega, by omega⟩
theorem Cov.on {p : List Int} (h : Cov d e p) {g i : Nat} (hg : g < d.length) (hi : i < flg d) : at_ p (bTo d i g) = bTo e (at_ p i) g := by
  unfold at_ bTo
  rw [← h.mov g i hg hi]; rfl
theorem cov_mk (f : Nat → Nat) (hv : ∀ i, i < flg d → f i < flg e) (hd : Man d) (he : Man e) (hl : d.length = e.length) (hm : ∀ g i, g < d.length → i < flg d → f (bTo d i g) = bTo e (f i) g) : Cov d e ((List.range (flg d)).map fun i => (f i : Int)) ∧ ∀ i, i < flg d → at_ ((List.range (flg d)).map fun i => (f i : Int)) i = f i := by
  have hg : ∀ i, i < flg d → iget ((List.range (flg d)).map fun i => (f i : Int)) i = (f i : Int) := fun i hi => by simp [iget, hi]
  refine ⟨⟨by simp, fun i hi => ⟨f i, hg i hi, hv i hi⟩, fun g i hgl hi => ?_⟩, fun i hi => by unfold at_; rw [hg i hi]; omega⟩
  have h1 := bTo_lt (man_leads hd) hi hgl
  rw [hg i hi, hg _ h1.1, hm g i hgl hi, Int.toNat_natCast]
  exact (bTo_lt (man_leads he) (hv i hi) (by omega)).2.symm
/-- coverings meet all flags -/
theorem Cov.onto {p : List Int} (h : Cov d e p) (hd : Man d) (he : Man e) (hl : d.length = e.length) : ∀ y, y < flg e → ∃ i, i < flg d ∧ at_ p i = y := by
  have h2 : 0 < flg d := by have := hd.f2; unfold flg; omega
  have key : ∀ j, j < flg e → ∀ i0, i0 < flg d → (rch e (flg e) (at_ p i0) j = true → ∃ i, i < flg d ∧ at_ p i = j) := fun j hj i0 hi0 hr =>
    rch_in (man_leads he) (h.at_lt hi0).1 (p := fun j => ∃ i, i < flg d ∧ at_ p i = j) ⟨i0, hi0, rfl⟩ (fun x hx ⟨i, hi, hix⟩ g hg => ⟨bTo d i g, (bTo_lt (man_leads hd) hi (by omega)).1, by rw [h.on (by omega) hi, hix]⟩) j hj hr
  intro y hy
  refine key y hy 0 h2 ?_
  have h0 := (h.at_lt h2).1
  have := man_rch he _ h0
  exact rch_trans (man_leads he) h0 (by have := he.f2; unfold flg; omega) hy (rch_symm (man_leads he) (man_back he) (by have := he.f2; unfold flg; omega) h0 this) (man_rch he y hy)
theorem Cov.comp {p q : List Int} (hp : Cov d e p) (hq : Cov e k q) (hd : Man d) (hk : Man k) (hl : d.length = e.length) (hl2 : e.length = k.length) : ∃ r, Cov d k r ∧ ∀ i, i < flg d → at_ r i = at_ q (at_ p i) := by
  obtain ⟨h1, h2⟩ := cov_mk (d := d) (e := k) (fun i => at_ q (at_ p i)) (fun i hi => (hq.at_lt (hp.at_lt hi).1).1) hd hk (hl.trans hl2) (fun g i hg hi => by rw [hp.on hg hi, hq.on (by omega) (hp.at_lt hi).1])
  exact ⟨_, h1, h2⟩
/-- an isomorphism turned round -/
theorem Cov.back {p : List Int} (hp : Cov d e p) (hd : Man d) (he : Man e) (hl : d.length = e.length) (hn : flg d = flg e) : ∃ q, Cov e d q ∧ (∀ i, i < flg d → at_ q (at_ p i) = i) ∧ ∀ i, i < flg e → at_ p (at_ q i) = i := by
  have honto := hp.onto hd he hl
  have hv : ∀ i, i < flg d → at_ p i < flg d := fun i hi => by rw [hn]; exact (hp.at_lt hi).1
  have hs : ∀ y, y < flg d → ∃ i, i < flg d ∧ at_ p i = y := fun y hy => honto y (by omega)
  have hinj : ∀ a b, a < flg d → b < flg d → at_ p a = at_ p b → a = b := fun a b ha hb q => onto_inj hv hs ha hb q
  obtain ⟨f, hf⟩ : ∃ f : Nat → Nat, ∀ y, y < flg d → f y < flg d ∧ at_ p (f y) = y := by
    refine Classical.axiomOfChoice (r := fun y i => y < flg d → i < flg d ∧ at_ p i = y) fun y => ?_
    by_cases hy : y < flg d
    · obtain ⟨i, h1, h2⟩ := hs y hy; exact ⟨i, fun _ => ⟨h1, h2⟩⟩
    · exact ⟨0, fun q => absurd q hy⟩
  obtain ⟨h1, h2⟩ := cov_mk (d := e) (e := d) f (fun i hi => (hf i (by omega)).1) he hd hl.symm (fun g i hg hi => by
    have h3 := hf i (by omega)
    have h4 := (bTo_lt (man_leads he) hi hg).1
    have h5 := hf (bTo e i g) (by omega)
    refine hinj _ _ h5.1 (bTo_lt (man_leads hd) h3.1 (by omega)).1 ?_
    rw [h5.2, hp.on (by omega) h3.1, h3.2])
  refine ⟨_, h1, fun i hi => ?_, fun i hi => ?_⟩
  · have h3 := hv i hi
    rw [h2 _ (by omega)]
    exact hinj _ _ (hf _ h3).1 hi (hf _ h3).2
  · rw [h2 i hi]; exact (hf i (by omega)).2
theorem cov_id (hd : Man d) : ∃ p, Cov d d p ∧ ∀ i, i < flg d → at_ p i = i := by
  obtain ⟨h1, h2⟩ := cov_mk (d := d) (e := d) (fun i => i) (fun i hi => hi) hd hd rfl (fun g i hg hi => rfl)
  exact ⟨_, h1, h2⟩
/-- who is among all coverings -/
theorem mem_cvL {n : Nat} {p : List Int} : p ∈ cvL d e n ↔ ∃ f, f < n ∧ covO d e f = some p := by
  unfold cvL; rw [List.mem_filterMap]
  constructor
  · rintro ⟨f, h1, h2⟩; exact ⟨f, List.mem_range.1 h1, h2⟩
  · rintro ⟨f, h1, h2⟩; exact ⟨f, List.mem_range.2 h1, h2⟩
theorem mem_cvs (hd : Man d) (hl : d.length = e.length) {p : List Int} : p ∈ cvL d e (flg e) ↔ Cov d e p := by
  rw [mem_cvL]
  constructor
  · rintro ⟨f, _, h⟩; exact (covO_some h).2.1
  · intro h
    have h0 := h.at_lt (show 0 < flg d by have := hd.f2; unfold flg; omega)
    exact ⟨at_ p 0, h0.1, covO_eq hd hl h h0.2⟩
/-- the automorphisms -/
noncomputable def autL (d : List (List Int)) : List (List Int) := cvL d d (flg d)
theorem autL_get (hd : Man d) {g : Nat} (hg : g < (autL d).length) : Cov d d (lget (autL d) g) := (mem_cvs hd rfl).1 (lget_mem hg)
end
end Go.Proofs.Ytmdhljleaijkbaa

/- Labels of orbits: alike in an orbit; orbits of one size; the edges of a map. No program in sight. -/
namespace Go.Proofs.Ytmdhljleaijkbaa
open Go.RowKit

theorem filter_none_ {p : Nat → Bool} : ∀ n, (∀ h, h < n → p h = false) → (List.range n).filter p = []
  | 0, _ => rfl
  | n + 1, H => by
    rw [List.range_succ, List.filter_append, filter_none_ n fun h hh => H h (by omega)]
    simp [H n (by omega)]
theorem filter_one_ {p : Nat → Bool} {g : Nat} (hp : p g = true) : ∀ n, g < n → (∀ h, h < n → p h = true → h = g) → (List.range n).filter p = [g]
  | 0, h, _ => by omega
  | n + 1, hg, H => by
    rw [List.range_succ, List.filter_append]
    by_cases e : g = n
    · subst e
      rw [filter_none_ g fun h hh => by
        cases hc : p h with
        | false => rfl
        | true => have := H h (by omega) hc; omega]
      simp [hp]
    · rw [filter_one_ hp n (by omega) fun h hh => H h (by omega)]
      have : p n = false := by
        cases hc : p n with
        | false => rfl
        | true => have := H n (by omega) hc; omega
      simp [this]
section
variable {T : List (List Int)} {n : Nat}
/-- labels are alike exactly where one leads to the other -/
theorem labTo_alikeS (hT : Leads T n) (hb : SymR T n) : ∀ i, i ≤ n → ∀ c d, c < n → d < n → 0 ≤ iget (labTo T n i).1 c → iget (labTo T n i).1 c = iget (labTo T n i).1 d → rch T n c d = true
  | 0, _, c, d, hc, hd, h, _ => by simp [labTo, labStart, iget, hc] at h
  | i + 1, hi, c, d, hc, hd, h, e => by
    have ih := labTo_alikeS hT hb i (by omega) c d hc hd
    have ok := labTo_okS hT hb i (by omega)
    rw [labTo_succ] at h e
    generalize labTo T n i = s at *
    unfold labStep at h e
    split at h
    · rename_i hl; rw [if_pos hl] at e; exact ih h e
    · rename_i hl
      rw [if_neg hl, labSet_get hc, labSet_get hd] at e
      rw [labSet_get hc] at h
      have h1 := ok.low c hc
      have h2 := ok.low d hd
      split at e
      · rename_i r1
        split at e
        · rename_i r2
          exact rch_trans hT hc hi hd (hb i c hi hc r1) r2
        · omega
      · rename_i r1
        rw [if_neg r1] at h
        split at e
        · omega
        · exact ih h e
theorem labs_alikeS (hT : Leads T n) (hb : SymR T n) {c d : Nat} (hc : c < n) (hd : d < n) (e : iget (labs T n).1 c = iget (labs T n).1 d) : rch T n c d = true := by
  obtain ⟨-, -, h⟩ := labs_allS hT hb
  obtain ⟨x, hx, _⟩ := h c hc
  exact labTo_alikeS hT hb n (Nat.le_refl _) c d hc hd (by show 0 ≤ iget (labs T n).1 c; omega) e
theorem filter_or_len {p q r : Nat → Bool} : ∀ l : List Nat, (∀ x, x ∈ l → r x = (p x || q x)) → (∀ x, x ∈ l → p x = true → q x = false) → (l.filter r).length = (l.filter p).length + (l.filter q).length
  | [], _, _ => rfl
  | a :: l, h1, h2 => by
    have ih := filter_or_len l (fun x hx => h1 x (by simp [hx])) (fun x hx => h2 x (by simp [hx]))
    have ha := h1 a (by simp)
    have hb := h2 a (by simp)
    rw [List.filter_cons, List.filter_cons, List.filter_cons]
    cases hp : p a with
    | true =>
      rw [hb hp] 
      rw [hp] at ha
      simp at ha
      simp [ha, ih]; omega
    | false =>
      rw [hp] at ha
      simp at ha
      rw [ha]
      cases hq : q a with
      | true => simp [ih]; omega
      | false => simp [ih]
theorem filter_alike {p q : Nat → Bool} : ∀ l : List Nat, (∀ x, x ∈ l → p x = q x) → l.filter p = l.filter q
  | [], _ => rfl
  | a :: l, h => by
    rw [List.filter_cons, List.filter_cons, filter_alike l (fun x hx => h x (by simp [hx])), h a (by simp)]
/-- orbits that all have k points: k times their number is that of the points -/
theorem labs_evenS (hT : Leads T n) (hb : SymR T n) (k : Nat) (hk : ∀ i, i < n → ((List.range n).filter fun d => rch T n i d).length = k) : k * (labs T n).2 = n := by
  have key : ∀ i, i ≤ n → ((List.range n).filter fun d => decide (0 ≤ iget (labTo T n i).1 d)).length = k * (labTo T n i).2 := by
    intro i
    induction i with
    | zero =>
      intro _
      rw [filter_none_ n fun d hd => by simp [labTo, labStart, iget, hd]]
      simp [labTo, labStart]
    | succ i ih =>
      intro hi
      have ih := ih (by omega)
      have ok := labTo_okS hT hb i (by omega)
      rw [labTo_succ]
      generalize labTo T n i = s at *
      unfold labStep
      split
      · exact ih
      · rename_i hl
        rw [filter_or_len (p := fun d => rch T n i d) (q := fun d => decide (0 ≤ iget s.1 d)) (List.range n) (fun d hd => by
            rw [labSet_get (List.mem_range.1 hd)]
            cases hr : rch T n i d with
            | true => simp
            | false => simp) (fun d hd hr => by
            have := lab_newS hT hb (i := i) hi ok (by omega) (List.mem_range.1 hd) hr
            rw [this]; rfl), hk i (by omega), ih]
        show k + k * s.2 = k * (s.2 + 1)
        rw [Nat.mul_succ]; omega
  have := key n (Nat.le_refl _)
  obtain ⟨-, -, h3⟩ := labs_allS hT hb
  rw [filter_alike (q := fun _ => true) _ (fun d hd => by
    obtain ⟨x, hx, _⟩ := h3 d (List.mem_range.1 hd)
    have hx : iget (labTo T n n).1 d = (x : Int) := hx
    rw [hx]; simp), List.filter_eq_self.2 (fun _ _ => rfl), List.length_range] at this
  exact this.symm
end
end Go.Proofs.Ytmdhljleaijkbaa

/- Orbits of one size: labels occur, as often as the orbits have points; orbits of two moves that run round in eight steps. No program in sight. -/
namespace Go.Proofs.Ytmdhljleaijkbaa
open Go.RowKit

theorem filt_in {n : Nat} : ∀ {Q : List Nat}, Q.Nodup → (∀ d ∈ Q, d < n) → ((List.range n).filter fun d => decide (d ∈ Q)).length = Q.length
  | [], _, _ => by rw [filter_none_ n fun d hd => by simp]
  | a :: Q, hn, hQ => by
    obtain ⟨h1, h2⟩ := List.nodup_cons.1 hn
    rw [filter_or_len (p := fun d => decide (d = a)) (q := fun d => decide (d ∈ Q)) (List.range n) (fun d hd => by simp) (fun d hd e => by
        have e : d = a := by simpa using e
        subst e; simp [h1]), filter_one_ (p := fun d => decide (d = a)) (g := a) (by simp) n (hQ a (by simp)) (fun x _ e => by simpa using e), filt_in h2 fun d hd => hQ d (by simp [hd])]
    simp [Nat.add_comm]
section
variable {T : List (List Int)} {n : Nat}
/-- each label occurs -/
theorem labTo_att (hT : Leads T n) (hb : SymR T n) : ∀ i, i ≤ n → ∀ j : Nat, j < (labTo T n i).2 → ∃ p, p < n ∧ iget (labTo T n i).1 p = (j : Int)
  | 0, _, j, h => by simp [labTo, labStart] at h
  | i + 1, hi, j, h => by
    have ih := labTo_att hT hb i (by omega)
    have ok := labTo_okS hT hb i (by omega)
    rw [labTo_succ] at h ⊢
    generalize labTo T n i = s at *
    unfold labStep at h ⊢
    split
    · rename_i hl
      rw [if_pos hl] at h
      exact ih j h
    · rename_i hl
      rw [if_neg hl] at h
      have h : j < s.2 + 1 := h
      by_cases e : j = s.2
      · subst e
        exact ⟨i, hi, by rw [labSet_get hi, if_pos (rch_refl hT hi)]⟩
      · obtain ⟨p, h1, h2⟩ := ih j (by omega)
        refine ⟨p, h1, ?_⟩
        rw [labSet_get h1, if_neg, h2]
        intro hr
        have := lab_newS hT hb (i := i) hi ok (by omega) h1 hr
        omega
/-- whom lists lead to has the same label -/
theorem labTo_rch (hT : Leads T n) (hb : SymR T n) {c d : Nat} (hc : c < n) (hd : d < n) (h : rch T n c d = true) : ∀ i, i ≤ n → iget (labTo T n i).1 c = iget (labTo T n i).1 d
  | 0, _ => by simp [labTo, labStart, iget, hc, hd]
  | i + 1, hi => by
    have ih := labTo_rch hT hb hc hd h i (by omega)
    rw [labTo_succ]
    generalize labTo T n i = s at *
    unfold labStep
    split
    · exact ih
    · rw [labSet_get hc, labSet_get hd]
      by_cases e : rch T n i c = true
      · rw [if_pos e, if_pos (rch_trans hT (by omega) hc hd e h)]
      · rw [if_neg e, if_neg fun q => e (rch_trans hT (by omega) hd hc q (hb c d hc hd h)), ih]
theorem labs_rch (hT : Leads T n) (hb : SymR T n) {c d : Nat} (hc : c < n) (hd : d < n) : rch T n c d = true ↔ iget (labs T n).1 c = iget (labs T n).1 d :=
  ⟨fun h => labTo_rch hT hb hc hd h n (Nat.le_refl _), labs_alikeS hT hb hc hd⟩
theorem count_filter : ∀ (L : List Int) (j : Int), L.count j = ((List.range L.length).filter fun d => decide (iget L d = j)).length
  | L, j => by
    have e : L = (List.range L.length).map fun d => iget L d := List.ext_getElem (by simp) fun i h1 h2 => by rw [← iget_lt h1]; simp
    conv => lhs; rw [e]
    rw [List.count, List.countP_map, List.countP_eq_length_filter]
    congr 1
end
end Go.Proofs.Ytmdhljleaijkbaa

/- Draws of two maniplexes: what l07Two asks. guards: -/
namespace Go.Proofs.Ytmdhljleaijkbaa
open Go.RowKit

/-- one list that is a permutation: reaching turns round -/
theorem sym_inj {T : List (List Int)} {n : Nat} (hT : Leads T n) (hl : T.length = 1) (hi : ∀ a b, a < n → b < n → bTo T a 0 = bTo T b 0 → a = b) : SymR T n := by
  have hb : ∀ c, c < n → rch T n (bTo T c 0) c = true := fun c hc => by
    have h1 := (bTo_lt hT hc (show 0 < T.length by omega)).1
    let f : Nat → Nat := fun x => if rch T n (bTo T c 0) x = true then bTo T x 0 else x
    have fp : ∀ x, rch T n (bTo T c 0) x = true → f x = bTo T x 0 := fun x h => by show (if _ then _ else _) = _; rw [if_pos h]
    have fn : ∀ x, ¬ rch T n (bTo T c 0) x = true → f x = x := fun x h => by show (if _ then _ else _) = _; rw [if_neg h]
    have hlt : ∀ i, i < n → f i < n := fun i hi' => by
      by_cases q : rch T n (bTo T c 0) i = true
      · rw [fp i q]; exact (bTo_lt hT hi' (by omega)).1
      · rw [fn i q]; exact hi'
    have hinj : ∀ i j, i < n → j < n → f i = f j → i = j := fun i j hi' hj e => by
      by_cases qi : rch T n (bTo T c 0) i = true
      · by_cases qj : rch T n (bTo T c 0) j = true
        · rw [fp i qi, fp j qj] at e; exact hi i j hi' hj e
        · rw [fp i qi, fn j qj] at e
          exact absurd (by rw [← e]; exact rch_on hT h1 hi' qi (by omega)) qj
      · by_cases qj : rch T n (bTo T c 0) j = true
        · rw [fn i qi, fp j qj] at e
          exact absurd (by rw [e]; exact rch_on hT h1 hj qj (by omega)) qi
        · rw [fn i qi, fn j qj] at e; exact e
    obtain ⟨x, hx, hfx⟩ := inj_onto hlt hinj h1
    by_cases q : rch T n (bTo T c 0) x = true
    · rw [fp x q] at hfx
      have e := hi x c hx hc hfx
      subst e; exact q
    · rw [fn x q] at hfx
      subst hfx
      exact absurd (rch_refl hT h1) q
  intro c d hc hd h
  refine rch_in (p := fun d => rch T n d c = true) hT hc (rch_refl hT hc) (fun e he h g hg => ?_) d hd h
  have hg0 : g = 0 := by omega
  subst hg0
  exact rch_trans hT (bTo_lt hT he hg).1 he hc (hb e he) h
section
variable {d : List (List Int)}
theorem aut_pos (hd : Man d) : 1 ≤ (autL d).length := by
  obtain ⟨p, h1, _⟩ := cov_id hd
  exact List.length_pos_of_mem ((mem_cvs hd rfl).2 h1)
theorem aut_one (hd : Man d) {g : Nat} (hg : g < (autL d).length) : Leads [lget (autL d) g] (flg d) ∧ SymR [lget (autL d) g] (flg d) := by
  have hc := autL_get hd hg
  have hT : Leads [lget (autL d) g] (flg d) := by
    refine ⟨fun k hk => ?_, fun k hk x hx => ?_⟩
    · obtain rfl : k = 0 := Nat.lt_one_iff.1 hk
      exact hc.len
    · obtain rfl : k = 0 := Nat.lt_one_iff.1 hk
      obtain ⟨y, h1, h2⟩ := hc.val x hx
      rw [show iget (lget [lget (autL d) g] 0) x = iget (lget (autL d) g) x from rfl, h1]; omega
  refine ⟨hT, sym_inj hT rfl fun a b ha hb e => ?_⟩
  exact onto_inj (f := at_ (lget (autL d) g)) (fun i hi => (hc.at_lt hi).1) (hc.onto hd hd rfl) ha hb e
end
theorem RdSSc.one_ {w : World} {b off n c : Nat} {d : List (List Int)} (h : RdSSc w (.slice (some ⟨b, off, none⟩) n c) d) {i : Nat} (hi : i < n) : n = d.length ∧ n ≤ c ∧ RdSSc w (.slice (some ⟨b, off + i, none⟩) 1 (c - i)) [lget d i] := by
  obtain ⟨ao, c', e, hn, hc⟩ := h
  injection e with e1 e2 e3
  subst e2 e3
  obtain ⟨h1, b', off', e4, hlt, h2⟩ := hc (by omega)
  rw [← e1] at e4
  injection e4 with e4
  injection e4 with e41 e42
  subst e41 e42
  refine ⟨rfl, h1, some ⟨b, off + i, none⟩, c - i, rfl, by simp, fun _ => ⟨by simp; omega, b, off + i, rfl, hlt, fun j hj => ?_⟩⟩
  obtain rfl : j = 0 := by have hj : j < 1 := hj; omega
  obtain ⟨a', k, h3, h4, h5⟩ := h2 (i + 0) (by omega)
  rw [Nat.add_assoc]
  exact ⟨a', k, h3, h4, h5⟩
/-- labels of the orbits of one automorphism, and the quotient -/
theorem orbs1_any {p : List Int} {N : Nat} {v : Value} (z : Int) (hz : z = (N : Int)) (w : World) (h : RdSSc w v [p]) (hT : Leads [p] N) (hS : SymR [p] N) (hN : N ≤ 1000) :
    Calls Try.prog 94 #[.int .i64 z, v] w fun e w' => ∃ a c, e = .returned (.slice a N c) ∧ OwS 2 w' (.slice a N c) (labs [p] N).1 ∧ Below w.heap.size w w' := by
  subst hz
  refine (orbsS_anyS w h hT hS hN (by simp) (by simp)).mono ?_
  rintro e w' ⟨v', rfl, ho, hb⟩
  obtain ⟨ao, n, c, rfl, ow⟩ := ho.1
  have hn : n = N := by
    have h1 := ow.len
    have h2 := (labs_allS hT hS).1
    simp at h1; omega
  subst hn
  exact ⟨ao, c, rfl, ho.1, hb⟩
theorem quotZ_any (ao lo : Option Addr) (n c lc N : Nat) (d : List (List Int)) (p : List Int) (w : World) (hd : RdSSc w (.slice ao n c) d) (hT : Leads d N) (hn : 1 ≤ n) (hn9 : n ≤ 100) (hN : 1 ≤ N) (hN9 : N ≤ 1000) (hz : OwS 2 w (.slice lo N lc) (labs [p] N).1) (hp : Leads [p] N) (hS : SymR [p] N) :
    Calls Try.prog 93 #[.agg #[.slice ao n c], .slice lo N lc] w fun e w' => ∃ a c' r K, e = .returned (.agg #[.slice a n c']) ∧ OwM 2 32 w' w.heap.size w'.heap.size (.agg #[.slice a n c']) r ∧ r.length = n ∧ Sq r K ∧ K ≤ N ∧ Below w.heap.size w w' := by
  obtain ⟨h1, h2, h3⟩ := labs_allS hp hS
  refine (quot_any ao lo n c lc N (labs [p] N).2 d (labs [p] N).1 w hd hT hn hn9 hN hN9 hz h3 (fun j hj => labTo_att hp hS N (Nat.le_refl _) j hj) (grt_labsS hp hS (by omega) hN9) h2).mono ?_
  rintro e w' ⟨a, c', r, rfl, q1, q2, q3, q4⟩
  exact ⟨a, c', r, _, rfl, q1, q2, q3, h2, q4⟩
/-- a box that holds a maniplex, beside the result's boxes -/
structure Tw (w wx : World) (sb tb : Nat) (a : Option Addr) (n c : Nat) (d : List (List Int)) : Prop where
  ev : Ev0 w wx sb
  box : Blk wx tb 28 #[.slice a n c]
  rd : RdLo wx (w.heap.size + 2) (.slice a n c) d
  few : FewSS d
  n6 : n ≤ 6
  lt : w.heap.size + 2 ≤ tb
section
variable {w wx wy : World} {sb tb n c n' c' : Nat} {a a' : Option Addr} {d d' : List (List Int)}
theorem Tw.next (h : Tw w wx sb tb a n c d) (hs : sb < w.heap.size) (s : Src wy sb) (o : Only sb (sb + 1) wx wy) : Tw w wy sb tb a n c d :=
  have hl := h.lt
  ⟨h.ev.next hs s o, h.box.only o (.inr (by omega)), h.rd.only o (by omega), h.few, h.n6, h.lt⟩
theorem Tw.below (h : Tw w wx sb tb a n c d) (hs : sb < w.heap.size) (b : Below wx.heap.size wx wy) : Tw w wy sb tb a n c d :=
  h.next hs (src_belowL h.ev.src (by have := h.ev.sz; omega) b) (only_of_below b)
theorem Ev0.tw (h : Ev0 w wx sb) (hs : sb < w.heap.size) (hr : RdLo wx (w.heap.size + 2) (.slice a n c) d) (hf : FewSS d) (hn : n ≤ 6) : Tw w (wx.alloc (.cells #[.slice a n c] 28)) sb wx.heap.size a n c d := by
  have kA := below_alloc1 wx (.cells #[.slice a n c] 28)
  exact ⟨h.below hs kA, blk_at rfl, hr.below kA, hf, hn, h.sz⟩
theorem Ev0.fin2 (h : Ev0 w wx sb) (hs : sb < w.heap.size) (r1 : RdLo wx (w.heap.size + 2) (.slice a n c) d) (f1 : FewSS d) (r2 : RdLo wx (w.heap.size + 2) (.slice a' n' c') d') (f2 : FewSS d') :
    MxR w ((wx.setCell ⟨w.heap.size, 0, none⟩ (.slice a n c)).setCell ⟨w.heap.size + 1, 0, none⟩ (.slice a' n' c')) sb a n c d ∧ MxR w ((wx.setCell ⟨w.heap.size, 0, none⟩ (.slice a n c)).setCell ⟨w.heap.size + 1, 0, none⟩ (.slice a' n' c')) sb a' n' c' d' := by
  have s1 : Src (wx.setCell ⟨w.heap.size, 0, none⟩ (.slice a n c)) sb := src_farL h.src fun g hg => Below.heap_setCell _ _ _ g (by show g ≠ w.heap.size; omega)
  have s2 : Src ((wx.setCell ⟨w.heap.size, 0, none⟩ (.slice a n c)).setCell ⟨w.heap.size + 1, 0, none⟩ (.slice a' n' c')) sb := src_farL s1 fun g hg => Below.heap_setCell _ _ _ g (by show g ≠ w.heap.size + 1; omega)
  have o2 : Only sb (sb + 1) w ((wx.setCell ⟨w.heap.size, 0, none⟩ (.slice a n c)).setCell ⟨w.heap.size + 1, 0, none⟩ (.slice a' n' c')) := only_cell (only_cell h.only (Nat.le_refl _) _) (by show w.heap.size ≤ w.heap.size + 1; omega) _
  exact ⟨⟨((r1.setBox (.inl (by omega)) _).setBox (.inl (by omega)) _).mono (by omega), f1, s2, o2⟩, ⟨((r2.setBox (.inl (by omega)) _).setBox (.inl (by omega)) _).mono (by omega), f2, s2, o2⟩⟩
/-- one result is stored, the box's is loaded behind -/
theorem Ev0.far (h : Ev0 w wx sb) (v : Value) : (wx.setCell ⟨w.heap.size, 0, none⟩ v).cell? ⟨w.heap.size + 1, 0, none⟩ = some (.slice none 0 0) ∧ (wx.setCell ⟨w.heap.size, 0, none⟩ v).frozen? ⟨w.heap.size + 1, 0, none⟩ = false := by
  have k := h.mb.far (p := ⟨w.heap.size, 0, none⟩) (show w.heap.size + 1 ≠ w.heap.size by omega) v
  exact ⟨by simpa using k.cell 0, k.frozen 0⟩
theorem Tw.far (h : Tw w wx sb tb a n c d) (v : Value) : (wx.setCell ⟨w.heap.size, 0, none⟩ v).cell? ⟨tb, 0, none⟩ = some (.slice a n c) := by
  have hl := h.lt
  have k := h.box.far (p := ⟨w.heap.size, 0, none⟩) (show tb ≠ w.heap.size by omega) v
  simpa using k.cell 0
theorem Tw.far2 (h : Tw w wx sb tb a n c d) (v v' : Value) : ((wx.setCell ⟨w.heap.size, 0, none⟩ v).setCell ⟨w.heap.size + 1, 0, none⟩ v').cell? ⟨tb, 0, none⟩ = some (.slice a n c) := by
  have hl := h.lt
  have k := (h.box.far (p := ⟨w.heap.size, 0, none⟩) (show tb ≠ w.heap.size by omega) v).far (p := ⟨w.heap.size + 1, 0, none⟩) (show tb ≠ w.heap.size + 1 by omega) v'
  simpa using k.cell 0
theorem Tw.fin (h : Tw w wx sb tb a n c d) (hs : sb < w.heap.size) (r1 : RdLo wx (w.heap.size + 2) (.slice a' n' c') d') (f1 : FewSS d') :
    MxR w ((wx.setCell ⟨w.heap.size, 0, none⟩ (.slice a' n' c')).setCell ⟨w.heap.size + 1, 0, none⟩ (.slice a n c)) sb a' n' c' d' ∧ MxR w ((wx.setCell ⟨w.heap.size, 0, none⟩ (.slice a' n' c')).setCell ⟨w.heap.size + 1, 0, none⟩ (.slice a n c)) sb a n c d := h.ev.fin2 hs r1 f1 h.rd h.few
/-- the quotient stands in a box of its own -/
theorem Tw.quo (h : Tw w wx sb tb a n c d) (hs : sb < w.heap.size) (b : Below wx.heap.size wx wy) {g lo : Nat} (k : Blk wy g 28 #[.slice none 0 0]) (hg : wx.heap.size ≤ g ∧ g < lo) (r : RdLo wy lo (.slice a' n' c') d') (hf : FewSS d') (hn : n' ≤ 6) :
    Below wx.heap.size wx (wy.setCell ⟨g, 0, none⟩ (.slice a' n' c')) ∧ Tw w (wy.setCell ⟨g, 0, none⟩ (.slice a' n' c')) sb g a' n' c' d' := by
  have b2 : Below wx.heap.size wx (wy.setCell ⟨g, 0, none⟩ (.slice a' n' c')) := b.setCell hg.1 _
  have hz := h.ev.sz
  exact ⟨b2, h.ev.below hs b2, by simpa using k.set_ 0 (.slice a' n' c'), (r.setBox (.inl hg.2) _).mono (by omega), hf, hn, by omega⟩
theorem Tw.quoN (h : Tw w wx sb tb a n c d) (hs : sb < w.heap.size) (b : Below wx.heap.size wx wy) {lo : Nat} (hg : wx.heap.size ≤ lo) (r : RdLo wy lo (.slice a' n' c') d') (hf : FewSS d') (hn : n' ≤ 6) :
    Below wx.heap.size wx (wy.alloc (.cells #[.slice a' n' c'] 28)) ∧ Tw w (wy.alloc (.cells #[.slice a' n' c'] 28)) sb wy.heap.size a' n' c' d' := by
  have hz := h.ev.sz
  exact ⟨below_tr (below_alloc1 wy _) b, (h.ev.below hs b).tw hs (r.mono (by omega)) hf hn⟩
end
end Go.Proofs.Ytmdhljleaijkbaa

/- Draws of two maniplexes: l07Two. guards: -/
namespace Go.Proofs.Ytmdhljleaijkbaa
open Go.RowKit

/-- what l07Two answers -/
def TwoAns (w : World) (sb : Nat) (e : Ending) (w' : World) : Prop :=
  ∃ a n c d a' n' c' d', e = .returned (.tuple #[.agg #[.slice a n c], .agg #[.slice a' n' c']]) ∧ (MxR w w' sb a n c d ∧ MxR w w' sb a' n' c' d') ∧ n ≤ 6 ∧ n' ≤ 6
set_option maxRecDepth 100000 in
set_option maxHeartbeats 6400000 in
theorem two_any (sb : Nat) (w : World) (h : Src w sb) (hsb : sb < w.heap.size) :
    Calls Try.prog 49 #[.pointer (some ⟨sb, 0, none⟩)] w (TwoAns w sb) := by
  have HA := Lib.hid (ev0_start h hsb)
  clear h
  go_enter Try.func49, Try.ntmps49
  go_upto_region 1 with fail
  generalize (w.alloc (.cells #[.slice none 0 0] 28)).alloc (.cells #[.slice none 0 0] 28) = w1 at *
  go_wp2_with fail
  refine (next_any sb _ _ HA.out.src (by omega)).mono ?_
  rintro e w2 ⟨r, rfl, -, r2, s2, o2⟩
  have hr := r2 (by omega)
  have HA2 := Lib.hid (HA.out.next hsb s2 o2)
  clear HA r2 s2 o2
  have hz2 := HA2.out.sz
  by_cases hr0 : r = 0
  · subst hr0
    go_wp2_with fail
    refine (next_any sb _ _ HA2.out.src (by omega)).mono ?_
    rintro e w3 ⟨p, rfl, -, p3, s3, o3⟩
    have hp := p3 (by omega)
    have HA3 := Lib.hid (HA2.out.next hsb s3 o3)
    obtain ⟨P, hP⟩ : ∃ P, 1 + p = P := ⟨_, rfl⟩
    have hpw : IntKind.i64.wrap (1 + (p : Int)) = (P : Int) := by rw [show 1 + (p : Int) = (P : Int) by omega]; exact IntWalk.i64_in _ (by omega)
    clear p3 s3 o3 HA2
    go_wp2_with fail
    refine (next_any sb _ _ HA3.out.src (by omega)).mono ?_
    rintro e w4 ⟨q, rfl, -, q3, s4, o4⟩
    have hq := q3 (by omega)
    have HA4 := Lib.hid (HA3.out.next hsb s4 o4)
    obtain ⟨U, hU⟩ : ∃ U, 1 + q = U := ⟨_, rfl⟩
    have hqw : IntKind.i64.wrap (1 + (q : Int)) = (U : Int) := by rw [show 1 + (q : Int) = (U : Int) by omega]; exact IntWalk.i64_in _ (by omega)
    clear q3 s4 o4 HA3
    go_wp2_with fail
    refine (next_any sb _ _ HA4.out.src (by omega)).mono ?_
    rintro e w5 ⟨t, rfl, -, t3, s5, o5⟩
    have ht := t3 (by omega)
    have HA5 := Lib.hid (HA4.out.next hsb s5 o5)
    obtain ⟨V, hV⟩ : ∃ V, 1 + t = V := ⟨_, rfl⟩
    have htw : IntKind.i64.wrap (1 + (t : Int)) = (V : Int) := by rw [show 1 + (t : Int) = (V : Int) by omega]; exact IntWalk.i64_in _ (by omega)
    obtain ⟨M, hM⟩ : ∃ M, P * V = M := ⟨_, rfl⟩
    have hM1 : 1 ≤ M ∧ M ≤ 4 := by
      rw [← hM]
      exact ⟨Nat.mul_pos (by omega) (by omega), Nat.mul_le_mul (show P ≤ 2 by omega) (show V ≤ 2 by omega)⟩
    have hMw : IntKind.i64.wrap ((P : Int) * (V : Int)) = (M : Int) := by rw [show (P : Int) * (V : Int) = (M : Int) by rw [← hM]; exact (Int.natCast_mul P V).symm]; exact IntWalk.i64_in _ (by omega)
    clear t3 s5 o5 HA4
    go_wp2_with fail
    refine (gridZ_any (a := M) (b := U) _ _ rfl rfl w5 (by omega) (by omega) (by omega) (by omega)).mono ?_
    rintro e w6 ⟨a6, c6, r6, N6, rfl, o6, sq6, hN6, b6⟩
    have HA6 := Lib.hid (HA5.out.below hsb b6)
    have R6 := Lib.hid (o6.rdlo.mono HA5.out.sz)
    have F6 := Lib.hid (sq_few sq6 (by omega) (by have := o6.rdcM.2; omega))
    clear o6 b6 HA5
    go_wp2_with fail
    refine (gridZ_any (a := P) (b := U) _ _ rfl rfl w6 (by omega) (by omega) (by omega) (by omega)).mono ?_
    rintro e w7 ⟨a7, c7, r7, N7, rfl, o7, sq7, hN7, b7⟩
    have HA7 := Lib.hid (HA6.out.below hsb b7)
    have R67 := Lib.hid (R6.out.below b7)
    have R7 := Lib.hid (o7.rdlo.mono HA6.out.sz)
    have F7 := Lib.hid (sq_few sq7 (by omega) (by have := o7.rdcM.2; omega))
    clear o7 b7 HA6
    have y1 := HA7.out.res.cell 0
    have f1 := HA7.out.res.frozen 0
    have y2 := HA7.out.mb.cell 0
    have f2 := HA7.out.mb.frozen 0
    simp at y1 y2
    have HF := Lib.hid (HA7.out.fin2 hsb R67.out F6.out R7.out F7.out)
    go_wp2_with fail
    exact bodyPost_ret (v := .tuple #[.agg #[.slice a6 3 c6], .agg #[.slice a7 3 c7]]) (by simp [results, Try.f49, go_sem, y1, y2]) rfl ⟨_, _, _, _, _, _, _, _, rfl, HF.out, by omega, by omega⟩
  · by_cases hr1 : r = 1
    · subst hr1
      go_wp2_with fail
      refine (next_any sb _ _ HA2.out.src (by omega)).mono ?_
      rintro e w3 ⟨p, rfl, -, p3, s3, o3⟩
      have hp := p3 (by omega)
      have HA3 := Lib.hid (HA2.out.next hsb s3 o3)
      obtain ⟨P, hP⟩ : ∃ P, 1 + p = P := ⟨_, rfl⟩
      have hpw : IntKind.i64.wrap (1 + (p : Int)) = (P : Int) := by rw [show 1 + (p : Int) = (P : Int) by omega]; exact IntWalk.i64_in _ (by omega)
      have hp2 : IntKind.i64.wrap (2 * (P : Int)) = ((2 * P : Nat) : Int) := by rw [show 2 * (P : Int) = ((2 * P : Nat) : Int) by omega]; exact IntWalk.i64_in _ (by omega)
      clear p3 s3 o3 HA2
      go_wp2_with fail
      refine (next_any sb _ _ HA3.out.src (by omega)).mono ?_
      rintro e w5 ⟨t, rfl, -, t3, s5, o5⟩
      have ht := t3 (by omega)
      have HA5 := Lib.hid (HA3.out.next hsb s5 o5)
      obtain ⟨V, hV⟩ : ∃ V, 1 + t = V := ⟨_, rfl⟩
      have htw : IntKind.i64.wrap (1 + (t : Int)) = (V : Int) := by rw [show 1 + (t : Int) = (V : Int) by omega]; exact IntWalk.i64_in _ (by omega)
      obtain ⟨M, hM⟩ : ∃ M, P * V = M := ⟨_, rfl⟩
      have hM1 : 1 ≤ M ∧ M ≤ 15 := by
        rw [← hM]
        exact ⟨Nat.mul_pos (by omega) (by omega), Nat.mul_le_mul (show P ≤ 5 by omega) (show V ≤ 3 by omega)⟩
      have hMw : IntKind.i64.wrap ((P : Int) * (V : Int)) = (M : Int) := by rw [show (P : Int) * (V : Int) = (M : Int) by rw [← hM]; exact (Int.natCast_mul P V).symm]; exact IntWalk.i64_in _ (by omega)
      clear t3 s5 o5 HA3
      go_wp2_with fail
      refine (polyZ_any (m := M) _ rfl w5 (by omega) (by omega)).mono ?_
      rintro e w6 ⟨a6, c6, r6, rfl, o6, sq6, b6⟩
      have HA6 := Lib.hid (HA5.out.below hsb b6)
      have R6 := Lib.hid (o6.rdlo.mono HA5.out.sz)
      have F6 := Lib.hid (sq_few sq6 (by omega) (by have := o6.rdcM.2; omega))
      clear o6 b6 HA5
      go_wp2_with fail
      refine (polyZ_any (m := P) _ rfl w6 (by omega) (by omega)).mono ?_
      rintro e w7 ⟨a7, c7, r7, rfl, o7, sq7, b7⟩
      have HA7 := Lib.hid (HA6.out.below hsb b7)
      have R67 := Lib.hid (R6.out.below b7)
      have R7 := Lib.hid (o7.rdlo.mono HA6.out.sz)
      have SQ7 := Lib.hid sq7
      clear o7 b7 HA6
      have hz7 := HA7.out.sz
      go_wp2_with fail
      refine (draw_any sb (2 * P) w7 HA7.out.src (by omega) (by omega)).mono ?_
      rintro e w8 ⟨pa, pc, rfl, g8⟩
      have HA8 := Lib.hid (HA7.out.next hsb g8.src g8.only)
      have R68 := Lib.hid (R67.out.only g8.only (by omega))
      have R78 := Lib.hid (R7.out.only g8.only (by omega))
      obtain ⟨zs, zl, zw, zo⟩ := g8.gl.ows
      clear g8 R67 R7
      go_wp2_with fail
      refine (ren_any a7 pa 2 c7 (2 * P) pc r7 zs w8 R78.out.rd zo SQ7.out.leads zl zw (by omega) (by omega) (by omega)).mono ?_
      rintro e w9 ⟨v9, r9, rfl, o9, hr9, sq9, b9⟩
      obtain ⟨a9, n9, c9, rfl⟩ := o9.form
      have hn9 : n9 = 2 := by
        have h1 := o9.rdcM.2
        have h2 := R78.out.rd.intss.1
        omega
      subst hn9
      have HA9 := Lib.hid (HA8.out.below hsb b9)
      have R69 := Lib.hid (R68.out.below b9)
      have R9 := Lib.hid (o9.rdlo.mono HA8.out.sz)
      have F9 := Lib.hid (sq_few sq9 (by omega) (by omega))
      clear o9 b9 HA8
      have y1 := HA9.out.res.cell 0
      have f1 := HA9.out.res.frozen 0
      have y2 := HA9.out.mb.cell 0
      have f2 := HA9.out.mb.frozen 0
      simp at y1 y2
      have HF := Lib.hid (HA9.out.fin2 hsb R69.out F6.out R9.out F9.out)
      go_wp2_with fail
      exact bodyPost_ret (v := .tuple #[.agg #[.slice a6 2 c6], .agg #[.slice a9 2 c9]]) (by simp [results, Try.f49, go_sem, y1, y2]) rfl ⟨_, _, _, _, _, _, _, _, rfl, HF.out, by omega, by omega⟩
    · by_cases hr2 : r = 2
      · subst hr2
        go_wp2_with fail
        refine (next_any sb _ _ HA2.out.src (by omega)).mono ?_
        rintro e w3 ⟨p, rfl, -, p3, s3, o3⟩
        have hp := p3 (by omega)
        have HA3 := Lib.hid (HA2.out.next hsb s3 o3)
        have hpw : IntKind.i64.wrap (1 + (p : Int)) = 1 + (p : Int) := IntWalk.i64_in _ (by omega)
        clear p3 s3 o3 HA2
        have hz3 := HA3.out.sz
        go_wp2_with fail
        refine (mapZ_any (E := 1 + p) _ (by omega) w3 HA3.out.src (by omega) (by omega) (by omega)).mono ?_
        rintro e w4 ⟨a4, c4, r4, L, rfl, m4, hL⟩
        have HA4 := Lib.hid (HA3.out.next hsb m4.src m4.only)
        have m5 := m4.r (by omega) (by omega)
        have T5 := Lib.hid (HA4.out.tw hsb (m5.rd.mono hz3) m5.few (by omega))
        clear m4 m5 HA3 HA4
        go_upto_region 10 with fail
        generalize w4.alloc (.cells #[.slice a4 3 c4] 28) = w5 at *
        have y5 := T5.out.box.cell 0
        simp at y5
        go_wp2_with fail
        refine (double_any a4 3 c4 r4 w5 T5.out.rd.rd T5.out.few).mono ?_
        rintro e w6 ⟨a6, n6, c6, k, rfl, ho, b6⟩
        have T6 := Lib.hid (T5.out.below hsb b6)
        have OO := Lib.hid ho
        have hz5 := T5.out.ev.sz
        have kA := below_alloc1 w6 (.cells #[.slice a6 n6 c6] 28)
        have T7 := Lib.hid (T6.out.below hsb kA)
        have kb : Blk (w6.alloc (.cells #[.slice a6 n6 c6] 28)) w6.heap.size 28 #[.slice a6 n6 c6] := blk_at rfl
        have KB := Lib.hid kb
        have KA := Lib.hid kA
        clear T5 ho b6 y5 kb kA
        go_upto_region 11 with fail
        generalize w6.alloc (.cells #[.slice a6 n6 c6] 28) = w7 at *
        have y6 := KB.out.cell 0
        have y7 := T7.out.box.cell 0
        simp at y6 y7
        have T8 := Lib.hid (T7.out.below hsb (below_drew1 w7))
        have y1 := T7.out.ev.res.cell 0
        have f1 := T7.out.ev.res.frozen 0
        have y2 := T7.out.ev.mb.cell 0
        have f2 := T7.out.ev.mb.frozen 0
        simp at y1 y2
        by_cases hk : k = 0
        · subst hk
          obtain ⟨r8, N8, o8, sq8, h85, hN8⟩ := OO.out rfl
          have hn6 : n6 ≤ 5 := by have := o8.rdcM.2; omega
          have HF := Lib.hid (T8.out.fin hsb (((o8.rdlo.mono hz5).below KA.out).below (below_drew1 w7)) (sq_few sq8 (by omega) (by omega)))
          obtain ⟨x1, x2⟩ := T7.out.ev.far (.slice a6 n6 c6)
          have x3 := T7.out.far (.slice a6 n6 c6)
          clear o8
          go_upto_region 12 with fail
          go_region_law (fail)
          all_goals
            go_wp2_with fail
            exact bodyPost_ret (v := .tuple #[.agg #[.slice a6 n6 c6], .agg #[.slice a4 3 c4]]) (by simp [results, Try.f49, go_sem, y1, y2, x1, x2]) rfl ⟨_, _, _, _, _, _, _, _, rfl, HF.out, by omega, by omega⟩
        · have HF := Lib.hid (T8.out.fin hsb T8.out.rd T8.out.few)
          obtain ⟨x1, x2⟩ := T7.out.ev.far (.slice a4 3 c4)
          have x3 := T7.out.far (.slice a4 3 c4)
          have hkb : (k == 0) = false := by simp [hk]
          go_upto_region 13 with fail
          go_region_law (fail)
          all_goals
            go_wp2_with fail
            exact bodyPost_ret (v := .tuple #[.agg #[.slice a4 3 c4], .agg #[.slice a4 3 c4]]) (by simp [results, Try.f49, go_sem, y1, y2, x1, x2]) rfl ⟨_, _, _, _, _, _, _, _, rfl, HF.out, by omega, by omega⟩
      · by_cases hr3 : r = 3
        · subst hr3
          go_wp2_with fail
          refine (even_any sb w2 HA2.out.src (by omega)).mono ?_
          rintro e w3 ⟨a, n, c, d, rfl, m3, hn6⟩
          have HA3 := Lib.hid (HA2.out.next hsb m3.src m3.only)
          have T5 := Lib.hid (HA3.out.tw hsb (m3.rd.mono hz2) m3.few hn6)
          clear m3 HA2
          go_upto_region 16 with fail
          generalize w3.alloc (.cells #[.slice a n c] 28) = w5 at *
          have T5d := Lib.hid (T5.out.below hsb (below_drew1 w5))
          have y5 := T5.out.box.cell 0
          have hz5 := T5.out.ev.sz
          have hz5d : w.heap.size + 2 ≤ w5.drew.heap.size := T5d.out.ev.sz
          simp at y5
          go_region_law (first
            | (go_simp; go_at_call 91; refine (even_any sb w5.drew T5d.out.ev.src (by omega)).mono ?_; rintro e w6 ⟨a6, n6, c6, d6, rfl, m6, hn66⟩; have T6 := Lib.hid (T5d.out.next hsb m6.src m6.only); have M6 := Lib.hid m6; have y6 := T6.out.box.cell 0; have y1 := T6.out.ev.res.cell 0; have f1 := T6.out.ev.res.frozen 0; have y2 := T6.out.ev.mb.cell 0; have f2 := T6.out.ev.mb.frozen 0; simp at y6 y1 y2; obtain ⟨x1, x2⟩ := T6.out.ev.far (.slice a n c); clear m6))
          all_goals
            have HF := Lib.hid (T6.out.ev.fin2 hsb T6.out.rd T6.out.few (M6.out.rd.mono hz5d) M6.out.few)
            go_wp2_with fail
            exact bodyPost_ret (v := .tuple #[.agg #[.slice a n c], .agg #[.slice a6 n6 c6]]) (by simp [results, Try.f49, go_sem, y1, y2, x1, x2]) rfl ⟨_, _, _, _, _, _, _, _, rfl, HF.out, by omega, by omega⟩
        · have hr0' : ((r : Int) == 0) = false := by simp; omega
          have hr1' : ((r : Int) == 1) = false := by simp; omega
          have hr2' : ((r : Int) == 2) = false := by simp; omega
          have hr3' : ((r : Int) == 3) = false := by simp; omega
          go_wp2_with fail
          refine (even_any sb w2 HA2.out.src (by omega)).mono ?_
          rintro e w3 ⟨a, n, c, d, rfl, m3, hn6⟩
          have HA3 := Lib.hid (HA2.out.next hsb m3.src m3.only)
          have T5 := Lib.hid (HA3.out.tw hsb (m3.rd.mono hz2) m3.few hn6)
          clear m3 HA2
          go_upto_region 18 with fail
          generalize w3.alloc (.cells #[.slice a n c] 28) = w5 at *
          obtain ⟨tb, htb⟩ : ∃ tb, w3.heap.size = tb := ⟨_, rfl⟩
          rw [htb] at T5 ⊢
          clear htb HA3
          have y5 := T5.out.box.cell 0
          simp at y5
          go_wp2_with fail
          refine (specManC T5.out.rd.rd T5.out.few).mono ?_
          rintro e w6 ⟨rfl, b6⟩
          have T6 := Lib.hid (T5.out.below hsb b6)
          clear b6 T5 y5
          cases hman : manB d with
          | false =>
            have T8 := Lib.hid (T6.out.below hsb (below_drew1 w6))
            have y6 := T6.out.box.cell 0
            have y1 := T6.out.ev.res.cell 0
            have f1 := T6.out.ev.res.frozen 0
            have y2 := T6.out.ev.mb.cell 0
            have f2 := T6.out.ev.mb.frozen 0
            simp at y6 y1 y2
            have HF := Lib.hid (T8.out.fin hsb T8.out.rd T8.out.few)
            obtain ⟨x1, x2⟩ := T6.out.ev.far (.slice a n c)
            have x3 := T6.out.far (.slice a n c)
            go_upto_region 19 with fail
            go_region_law (fail)
            all_goals
              go_wp2_with fail
              exact bodyPost_ret (v := .tuple #[.agg #[.slice a n c], .agg #[.slice a n c]]) (by simp [results, Try.f49, go_sem, y1, y2, x1, x2]) rfl ⟨_, _, _, _, _, _, _, _, rfl, HF.out, by omega, by omega⟩
          | true =>
            have hM := manB_iff.1 hman
            have hn1 := hM.n1
            have hn5 := hM.n5
            have hN2 := hM.f2
            have hN4 := hM.f4
            obtain ⟨N, hN⟩ : ∃ N, flg d = N := ⟨_, rfl⟩
            have hl0 : (lget d 0).length = N := hN
            have hN2 : 2 ≤ N := by rw [← hl0]; exact hN2
            have hN4 := hM.f4
            have hN4 : N ≤ 400 := by rw [← hl0]; exact hN4
            have hdl := T6.out.rd.rd.intss.1
            have HM := Lib.hid hM
            have HN := Lib.hid hN
            have y6 := T6.out.box.cell 0
            simp at y6
            have hz6 := T6.out.ev.sz
            clear hM hN hman
            go_wp2_with fail
            refine (allS_any a n c N d w6 T6.out.rd.rd.intss HM.out HN.out).mono ?_
            rintro e w7 ⟨aA, kA, cA, us, rfl, hor, b7⟩
            have hcv : cvL d d N = autL d := by rw [← HN.out]; rfl
            rw [hcv] at hor
            have hkA : (autL d).length = kA := hor.len
            have hk1 : 1 ≤ kA := by rw [← hkA]; exact aut_pos HM.out
            have hk4 : kA ≤ N := by rw [← hkA, ← hcv]; exact cvL_len d d N
            have T7 := Lib.hid (T6.out.below hsb b7)
            have RA := Lib.hid (hor.rdlo.mono hz6)
            obtain ⟨hkc, ab, aof, rfl⟩ := RA.out.rd.form_ hk1
            clear hor b7 T6 y6 hcv
            go_wp2_with fail
            go_loopw [13] (fun iv wr => ∃ i : Nat, iv = .int .i64 i ∧ i ≤ 6 ∧ Tw w wr sb tb a n c d ∧ RdLo wr (w.heap.size + 2) (.slice (some ⟨ab, aof, none⟩) kA cA) (autL d)) (fun iv _ => 6 - (intOf iv).toNat)
            case atStart => exact ⟨0, rfl, by omega, T7.out, RA.out⟩
            case round =>
              clear T7 RA
              obtain ⟨i, rfl, hi, ht, hra⟩ := hrel
              have T7 := Lib.hid ht
              have RA := Lib.hid hra
              clear ht hra
              by_cases hi6 : i < 6
              · have hii : (i : Int) < 6 := by omega
                go_wp2_with fail
                refine (next_any sb _ _ T7.out.ev.src (by omega)).mono ?_
                rintro e w8 ⟨q, rfl, -, q3, s8, o8⟩
                have hq := q3 (by omega)
                have T8 := Lib.hid (T7.out.next hsb s8 o8)
                have R8 := Lib.hid (RA.out.only o8 (by omega))
                clear q3 s8 o8 T7 RA
                have hqk : q < kA := by omega
                obtain ⟨-, -, hone⟩ := R8.out.rd.one_ hqk
                obtain ⟨hpT, hpS⟩ := aut_one HM.out (g := q) (by omega)
                rw [HN.out] at hpT hpS
                have HPT := Lib.hid hpT
                have HPS := Lib.hid hpS
                have HONE := Lib.hid hone
                clear hone hpT hpS
                obtain ⟨pq, hpq⟩ : ∃ pq, lget (autL d) q = pq := ⟨_, rfl⟩
                rw [hpq] at HPT HPS HONE
                clear hpq
                have hkc1 : q + 1 ≤ cA := by omega
                have hw2' : IntKind.i64.wrap ((q : Int) + 1) = (q : Int) + 1 := IntWalk.i64_in _ (by omega)
                have hb0 : (0 : Int) ≤ (q : Int) := by omega
                have hb1' : (q : Int) ≤ (q : Int) + 1 := by omega
                have hb2' : (q : Int) + 1 ≤ (cA : Int) := by omega
                have ht2' : ((q : Int) + 1).toNat = q + 1 := by omega
                have hw2 : IntKind.i64.wrap ((q : Int) + 1) = ((q + 1 : Nat) : Int) := by rw [IntWalk.i64_in _ (by omega)]; omega
                have hb1 : (q : Int) ≤ ((q + 1 : Nat) : Int) := by omega
                have hb2 : ((q + 1 : Nat) : Int) ≤ (cA : Int) := by omega
                have hck : ¬ cA = q := by omega
                have hck2 : ¬ q = cA := by omega
                have hsub : q + 1 - q = 1 := by omega
                have hT : Leads d N := by have := man_leads HM.out; rw [HN.out] at this; exact this
                have HT := Lib.hid hT
                have T8d := Lib.hid (T8.out.below hsb (below_drew1 w8))
                have y8 := T8.out.box.cell 0
                simp at y8
                have y8A : (w8.alloc (.cells #[.slice none 0 0] 28)).cell? ⟨tb, 0, none⟩ = some (.slice a n c) := (T8.out.below hsb (below_alloc1 w8 (.cells #[.slice none 0 0] 28))).box.cell 0
                clear hT
                go_upto_region 25 with fail
                go_cut [15] (fun s15 wx => ∃ (qb : Nat) (a' : Option Addr) (c' : Nat) (r : List (List Int)), s15 = .pointer (some ⟨qb, 0, none⟩) ∧ Tw w wx sb tb a n c d ∧ RdLo wx (w.heap.size + 2) (.slice (some ⟨ab, aof, none⟩) kA cA) (autL d) ∧ Tw w wx sb qb a' n c' r)
                case first =>
                  go_region_law (first
                    | (go_simp; go_at_call 93; refine (quotZ_any a la n c lc N d pq (w10.alloc (.cells #[.slice none 0 0] 28)) (T8.out.below hsb (below_tr (below_alloc1 w10 (.cells #[.slice none 0 0] 28)) B10.out)).rd.rd HT.out (by omega) (by omega) (by omega) (by omega) ((innerS _).loc LB.out fun g hg => (below_alloc1 w10 (.cells #[.slice none 0 0] 28)).block g ((innerS _).lt LB.out g hg)) HPT.out HPS.out).mono ?_; rintro e w11 ⟨a11, c11, r11, K, rfl, o11, hr11, sq11, hK, b11⟩; have BQ := Lib.hid (below_tr b11 (below_tr (below_alloc1 w10 (.cells #[.slice none 0 0] 28)) B10.out)); have KQ := Lib.hid (Blk.belowS (blk_at (w := w10) (k := w10.heap.size) rfl) b11); have RQ := Lib.hid (o11.rdlo); have HQ := Lib.hid (show w8.heap.size ≤ w10.heap.size ∧ w10.heap.size < (w10.alloc (.cells #[.slice none 0 0] 28)).heap.size from ⟨B10.out.size, (by simp)⟩); have yq := KQ.out.cell 0; have fq := KQ.out.frozen 0; simp at yq)
                    | (go_simp; go_at_call 93; refine (quotZ_any a la n c lc N d pq w10 (T8.out.below hsb B10.out).rd.rd HT.out (by omega) (by omega) (by omega) (by omega) LB.out HPT.out HPS.out).mono ?_; rintro e w11 ⟨a11, c11, r11, K, rfl, o11, hr11, sq11, hK, b11⟩; have BQ := Lib.hid (below_tr b11 B10.out); have RQ := Lib.hid (o11.rdlo); have KQ := Lib.hid (K10.out.belowS b11); have HQ := Lib.hid (And.intro HG.out K10.out.lt); have yq := KQ.out.cell 0; have fq := KQ.out.frozen 0; simp at yq)
                    | (go_simp; go_at_call 93; refine (quotZ_any a la n c lc N d pq w10 (T8.out.below hsb B10.out).rd.rd HT.out (by omega) (by omega) (by omega) (by omega) LB.out HPT.out HPS.out).mono ?_; rintro e w11 ⟨a11, c11, r11, K, rfl, o11, hr11, sq11, hK, b11⟩; have BQ := Lib.hid (below_tr b11 B10.out); have RQ := Lib.hid (o11.rdlo); have HQ := Lib.hid B10.out.size)
                    | (go_simp; go_at_call 94; refine (orbs1_any _ rfl (w9.alloc (.cells #[.slice none 0 0] 28)) (HONE.out.below (below_tr (below_alloc1 w9 (.cells #[.slice none 0 0] 28)) B9.out)) HPT.out HPS.out (by omega)).mono ?_; rintro e w10 ⟨la, lc, rfl, lb, b10⟩; have LB := Lib.hid lb; have B10 := Lib.hid (below_tr b10 (below_tr (below_alloc1 w9 (.cells #[.slice none 0 0] 28)) B9.out)); have K10 := Lib.hid (Blk.belowS (blk_at (w := w9) (k := w9.heap.size) rfl) b10); have HG := Lib.hid B9.out.size; have y10 := (T8.out.below hsb B10.out).box.cell 0; simp at y10; have y10A : (w10.alloc (.cells #[.slice none 0 0] 28)).cell? ⟨tb, 0, none⟩ = some (.slice a n c) := (T8.out.below hsb (below_tr (below_alloc1 w10 (.cells #[.slice none 0 0] 28)) B10.out)).box.cell 0; clear lb)
                    | (go_simp; go_at_call 94; refine (orbs1_any _ rfl w9 (HONE.out.below B9.out) HPT.out HPS.out (by omega)).mono ?_; rintro e w10 ⟨la, lc, rfl, lb, b10⟩; have LB := Lib.hid lb; have B10 := Lib.hid (below_tr b10 B9.out); have K10 := Lib.hid (K9.out.belowS b10); have y10 := (T8.out.below hsb B10.out).box.cell 0; simp at y10; have y10A : (w10.alloc (.cells #[.slice none 0 0] 28)).cell? ⟨tb, 0, none⟩ = some (.slice a n c) := (T8.out.below hsb (below_tr (below_alloc1 w10 (.cells #[.slice none 0 0] 28)) B10.out)).box.cell 0; clear lb)
                    | (go_simp; go_at_call 94; refine (orbs1_any _ rfl w9 (HONE.out.below B9.out) HPT.out HPS.out (by omega)).mono ?_; rintro e w10 ⟨la, lc, rfl, lb, b10⟩; have LB := Lib.hid lb; have B10 := Lib.hid (below_tr b10 B9.out); have y10 := (T8.out.below hsb B10.out).box.cell 0; simp at y10; have y10A : (w10.alloc (.cells #[.slice none 0 0] 28)).cell? ⟨tb, 0, none⟩ = some (.slice a n c) := (T8.out.below hsb (below_tr (below_alloc1 w10 (.cells #[.slice none 0 0] 28)) B10.out)).box.cell 0; clear lb)
                    | (go_simp; go_at_call 95; refine (flagsS_any a n c N d (w8.drew.alloc (.cells #[.slice none 0 0] 28)) (T8d.out.below hsb (below_alloc1 w8.drew (.cells #[.slice none 0 0] 28))).rd.rd.rd (by omega) hl0 (by omega)).mono ?_; rintro e w9 ⟨rfl, b9⟩; have B9 := Lib.hid (below_tr (below_tr b9 (below_alloc1 w8.drew (.cells #[.slice none 0 0] 28))) (below_drew1 w8)); have K9 := Lib.hid (Blk.belowS (blk_at (w := w8.drew) (k := w8.heap.size) rfl) b9); have HG := Lib.hid (Nat.le_refl w8.heap.size); have y9 := (T8.out.below hsb B9.out).box.cell 0; simp at y9; have y9A : (w9.alloc (.cells #[.slice none 0 0] 28)).cell? ⟨tb, 0, none⟩ = some (.slice a n c) := (T8.out.below hsb (below_tr (below_alloc1 w9 (.cells #[.slice none 0 0] 28)) B9.out)).box.cell 0)
                    | (go_simp; go_at_call 95; refine (flagsS_any a n c N d w8.drew T8d.out.rd.rd.rd (by omega) hl0 (by omega)).mono ?_; rintro e w9 ⟨rfl, b9⟩; have B9 := Lib.hid (below_tr b9 (below_drew1 w8)); have y9 := (T8.out.below hsb B9.out).box.cell 0; simp at y9; have y9A : (w9.alloc (.cells #[.slice none 0 0] 28)).cell? ⟨tb, 0, none⟩ = some (.slice a n c) := (T8.out.below hsb (below_tr (below_alloc1 w9 (.cells #[.slice none 0 0] 28)) B9.out)).box.cell 0))
                  all_goals
                    have hf11 := sq_few sq11 (by omega) (by omega)
                    clear o11 b11
                    go_wp2_with fail
                    go_meet
                  all_goals first
                    | (obtain ⟨bq, tq⟩ := T8.out.quo hsb BQ.out KQ.out HQ.out RQ.out hf11 (by omega)
                       exact ⟨_, _, _, _, rfl, T8.out.below hsb bq, R8.out.below bq, tq⟩)
                    | (obtain ⟨bq, tq⟩ := T8.out.quoN hsb BQ.out HQ.out RQ.out hf11 (by omega)
                       exact ⟨_, _, _, _, rfl, T8.out.below hsb bq, R8.out.below bq, tq⟩)
                case rest =>
                  obtain ⟨qb, a', c', rr, hs15, ht, hra, hq'⟩ := hcut
                  subst hs15
                  have TA := Lib.hid ht
                  have RA := Lib.hid hra
                  have TQ := Lib.hid hq'
                  have y8 := hq'.box.cell 0
                  simp at y8
                  clear T8 R8 HPT HPS HONE ht hra hq' T8d
                  go_wp2_with fail
                  refine (specManC TQ.out.rd.rd TQ.out.few).mono ?_
                  rintro e w9 ⟨rfl, b9⟩
                  have TA9 := Lib.hid (TA.out.below hsb b9)
                  have RA9 := Lib.hid (RA.out.below b9)
                  have TQ9 := Lib.hid (TQ.out.below hsb b9)
                  clear b9 TA RA TQ y8
                  cases hmq : manB rr with
                  | false =>
                    go_wp2_with fail
                    go_roundw
                    case rel => exact ⟨i + 1, by go_num, by omega, TA9.out, RA9.out⟩
                    case measure => simp [intOf]; omega
                  | true =>
                    have hQM := manB_iff.1 hmq
                    have hq1 := hQM.n1
                    have hq5 := hQM.n5
                    have hqf2 := hQM.f2
                    have hqf4 := hQM.f4
                    have hlt : Leads rr (flg rr) := man_leads hQM
                    obtain ⟨K, hKK⟩ : ∃ K, flg rr = K := ⟨_, rfl⟩
                    have hlk : (lget rr 0).length = K := hKK
                    rw [hlk] at hqf2 hqf4
                    rw [hKK] at hlt
                    have HLT := Lib.hid hlt
                    have hql := TQ9.out.rd.rd.intss.1
                    have u9 := TA9.out.box.cell 0
                    have v9 := TQ9.out.box.cell 0
                    simp at u9 v9
                    clear hQM hKK hlt hmq
                    have K0 := Lib.hid (show w9.drew.cell? ⟨tb, 0, none⟩ = some (.slice a n c) ∧ w9.drew.cell? ⟨qb, 0, none⟩ = some (.slice a' n c') from ⟨u9, v9⟩)
                    go_upto_region 27 with fail
                    go_region_held3 (fun w' => w'.cell? ⟨tb, 0, none⟩ = some (.slice a n c) ∧ w'.cell? ⟨qb, 0, none⟩ = some (.slice a' n c')) (first | exact K0.out | exact K10.out | exact K11.out | exact K12.out | exact K13.out | exact K14.out) (first
                      | (go_at_call 87; refine (ren_any a' pa n c' K pc rr zs w11 TQ11.out.rd.rd zo HLT.out zl zw (by omega) (by omega) (by omega)).mono ?_; rintro e w12 ⟨v12, r12, rfl, o12, hr12, sq12, b12⟩; obtain ⟨a12, n12, c12, rfl⟩ := o12.form; have hn12 : n12 = n := (by have := o12.rdcM.2; omega); subst n12; have TA12 := Lib.hid (TA11.out.below hsb b12); have TQ12 := Lib.hid (TQ11.out.below hsb b12); have R12 := Lib.hid (o12.rdlo.mono TA11.out.ev.sz); have u12 := TA12.out.box.cell 0; have v12 := TQ12.out.box.cell 0; simp at u12 v12; have K12 := Lib.hid (And.intro u12 v12); have K13 := Lib.hid (And.intro (TA12.out.far (.slice a n c)) (TQ12.out.far (.slice a n c))); have K14 := Lib.hid (And.intro (TA12.out.far2 (.slice a n c) (.slice a12 n c12)) (TQ12.out.far2 (.slice a n c) (.slice a12 n c12))); have y1 := TA12.out.ev.res.cell 0; have f1 := TA12.out.ev.res.frozen 0; have y2 := TA12.out.ev.mb.cell 0; have f2 := TA12.out.ev.mb.frozen 0; simp at y1 y2; obtain ⟨x1, x2⟩ := TA12.out.ev.far (.slice a n c))
                      | (go_at_call 88; refine (draw_any sb K w10 TA10.out.ev.src (by have := TA10.out.ev.sz; omega) (by omega)).mono ?_; rintro e w11 ⟨pa, pc, rfl, g11⟩; have TA11 := Lib.hid (TA10.out.next hsb g11.src g11.only); have TQ11 := Lib.hid (TQ10.out.next hsb g11.src g11.only); obtain ⟨zs, zl, zw, zo⟩ := g11.gl.ows; have u11 := TA11.out.box.cell 0; have v11 := TQ11.out.box.cell 0; simp at u11 v11; have K11 := Lib.hid (And.intro u11 v11); clear g11)
                      | (go_at_call 95; refine (flagsS_any a' n c' K rr w9.drew (TQ9.out.below hsb (below_drew1 w9)).rd.rd.rd (by omega) hlk (by omega)).mono ?_; rintro e w10 ⟨rfl, b10⟩; have b10' := below_tr b10 (below_drew1 w9); have TA10 := Lib.hid (TA9.out.below hsb b10'); have TQ10 := Lib.hid (TQ9.out.below hsb b10'); have u10 := TA10.out.box.cell 0; have v10 := TQ10.out.box.cell 0; simp at u10 v10; have K10 := Lib.hid (And.intro u10 v10); clear b10 b10'))
                    all_goals
                      have HF := Lib.hid (TA12.out.ev.fin2 hsb TA12.out.rd TA12.out.few R12.out (sq_few sq12 (by omega) (by omega)))
                      clear o12 b12
                      go_wp2_with fail
                      exact bodyPost_ret (v := .tuple #[.agg #[.slice a n c], .agg #[.slice a12 n c12]]) (by simp [results, Try.f49, go_sem, y1, y2, x1, x2]) rfl ⟨_, _, _, _, _, _, _, _, rfl, HF.out, by omega, by omega⟩
              · have T8 := Lib.hid (T7.out.below hsb (below_drew1 wr))
                have hii : ¬ (i : Int) < 6 := by omega
                have y6 := T7.out.box.cell 0
                have y1 := T7.out.ev.res.cell 0
                have f1 := T7.out.ev.res.frozen 0
                have y2 := T7.out.ev.mb.cell 0
                have f2 := T7.out.ev.mb.frozen 0
                simp at y6 y1 y2
                have HF := Lib.hid (T8.out.fin hsb T8.out.rd T8.out.few)
                obtain ⟨x1, x2⟩ := T7.out.ev.far (.slice a n c)
                have x3 := T7.out.far (.slice a n c)
                go_upto_region 28 with fail
                go_region_law (fail)
                all_goals
                  go_wp2_with fail
                  exact bodyPost_ret (v := .tuple #[.agg #[.slice a n c], .agg #[.slice a n c]]) (by simp [results, Try.f49, go_sem, y1, y2, x1, x2]) rfl ⟨_, _, _, _, _, _, _, _, rfl, HF.out, by omega, by omega⟩
end Go.Proofs.Ytmdhljleaijkbaa

/- Draws of two maniplexes: DrawCoveringOf. guards: -/
namespace Go.Proofs.Ytmdhljleaijkbaa
open Go.RowKit

theorem Bts.up_ {w w' : World} {ao : Option Addr} {n : Nat} (h : Bts w ao n w.heap.size) (hb : Below w.heap.size w w') : Bts w' ao n w'.heap.size := by
  obtain ⟨h1, h2⟩ := h.below hb
  refine ⟨h1, fun hn => ?_⟩
  obtain ⟨b, off, e, hlt, hx⟩ := h2 hn
  exact ⟨b, off, e, Nat.lt_of_lt_of_le hlt hb.size, hx⟩
set_option maxRecDepth 100000 in
set_option maxHeartbeats 3200000 in
theorem drawCv_any (ao : Option Addr) (n c : Nat) (w : World) (h : Bts w ao n w.heap.size) :
    Calls Try.prog 20 #[.slice ao n c] w fun e w' => ∃ a n c d a' n' c' d', e = .returned (.tuple #[.agg #[.slice a n c], .agg #[.slice a' n' c']]) ∧ RdSSc w' (.slice a n c) d ∧ RdSSc w' (.slice a' n' c') d' ∧ FewSS d ∧ FewSS d' ∧ Below w.heap.size w w' := by
  have b1 := below_alloc2 w (.cells #[.slice none 0 0] 28) (.cells #[.slice none 0 0] 28)
  have k1 : Blk ((w.alloc (.cells #[.slice none 0 0] 28)).alloc (.cells #[.slice none 0 0] 28)) w.heap.size 28 #[.slice none 0 0] := (blk_at rfl).alloc _
  have k2 : Blk ((w.alloc (.cells #[.slice none 0 0] 28)).alloc (.cells #[.slice none 0 0] 28)) (w.heap.size + 1) 28 #[.slice none 0 0] := blk_at (by simp)
  have hz1 : ((w.alloc (.cells #[.slice none 0 0] 28)).alloc (.cells #[.slice none 0 0] 28)).heap.size = w.heap.size + 2 := by simp
  have HT := Lib.hid (h.up_ b1)
  go_enter Try.func20, Try.ntmps20
  go_upto_region 1 with fail
  generalize (w.alloc (.cells #[.slice none 0 0] 28)).alloc (.cells #[.slice none 0 0] 28) = w1 at *
  have K1 := Lib.hid k1
  have K2 := Lib.hid k2
  have B1 := Lib.hid b1
  clear k1 k2 b1 h
  go_wp2_with fail
  refine (from_any ao n c w1 HT.out).mono ?_
  rintro e w2 ⟨rfl, s2, z2, b2⟩
  rw [hz1] at s2 z2
  go_wp2_with fail
  refine (two_any (w.heap.size + 2) w2 s2 z2).mono ?_
  rintro e w3 ⟨a, n3, c3, d, a', n', c', d', rfl, ⟨m, m'⟩, hn6, hn6'⟩
  have b3 : Below w1.heap.size w1 w3 := b2.trans (m.only.below (by omega) (by omega))
  have z3 := m.only.size
  have M := Lib.hid m.rd
  have M' := Lib.hid m'.rd
  have F := Lib.hid m.few
  have F' := Lib.hid m'.few
  have kA := below_alloc2 w3 (.cells #[.slice a n3 c3] 28) (.cells #[.slice a' n' c'] 28)
  have k4 : Blk ((w3.alloc (.cells #[.slice a n3 c3] 28)).alloc (.cells #[.slice a' n' c'] 28)) w3.heap.size 28 #[.slice a n3 c3] := (blk_at rfl).alloc _
  have k5 : Blk ((w3.alloc (.cells #[.slice a n3 c3] 28)).alloc (.cells #[.slice a' n' c'] 28)) (w3.heap.size + 1) 28 #[.slice a' n' c'] := blk_at (by simp)
  have B5 := Lib.hid (below_tr kA b3)
  have M5 := Lib.hid (M.out.below kA)
  have M5' := Lib.hid (M'.out.below kA)
  clear m m' b3 kA s2 b2
  go_upto_region 2 with fail
  generalize (w3.alloc (.cells #[.slice a n3 c3] 28)).alloc (.cells #[.slice a' n' c'] 28) = w5 at *
  have q1 := K1.out.belowS B5.out
  have q2 := K2.out.belowS B5.out
  have y1 := q1.cell 0
  have f1 := q1.frozen 0
  have y2 := q2.cell 0
  have f2 := q2.frozen 0
  have y4 := k4.cell 0
  have y5 := k5.cell 0
  simp at y1 y2 y4 y5
  have x5 : (w5.setCell ⟨w.heap.size, 0, none⟩ (.slice a n3 c3)).cell? ⟨w3.heap.size + 1, 0, none⟩ = some (.slice a' n' c') := by
    have := (k5.far (p := ⟨w.heap.size, 0, none⟩) (show w3.heap.size + 1 ≠ w.heap.size by omega) (.slice a n3 c3)).cell 0
    simpa using this
  have x2 : (w5.setCell ⟨w.heap.size, 0, none⟩ (.slice a n3 c3)).cell? ⟨w.heap.size + 1, 0, none⟩ = some (.slice none 0 0) := by
    have := (q2.far (p := ⟨w.heap.size, 0, none⟩) (show w.heap.size + 1 ≠ w.heap.size by omega) (.slice a n3 c3)).cell 0
    simpa using this
  have x2' : (w5.setCell ⟨w.heap.size, 0, none⟩ (.slice a n3 c3)).frozen? ⟨w.heap.size + 1, 0, none⟩ = false :=
    (q2.far (p := ⟨w.heap.size, 0, none⟩) (show w.heap.size + 1 ≠ w.heap.size by omega) (.slice a n3 c3)).frozen 0
  have R := Lib.hid (((M5.out.below (below_drew1 w5)).setBox (b := w.heap.size) (.inl (by omega)) (.slice a n3 c3)).setBox (b := w.heap.size + 1) (.inl (by omega)) (.slice a' n' c')).rd
  have R' := Lib.hid (((M5'.out.below (below_drew1 w5)).setBox (b := w.heap.size) (.inl (by omega)) (.slice a n3 c3)).setBox (b := w.heap.size + 1) (.inl (by omega)) (.slice a' n' c')).rd
  have BF := Lib.hid ((((B1.out.trans (B5.out.mono (by omega))).drew).setCell (p := ⟨w.heap.size, 0, none⟩) (Nat.le_refl _) (.slice a n3 c3)).setCell (p := ⟨w.heap.size + 1, 0, none⟩) (by simp) (.slice a' n' c'))
  clear q1 q2 k4 k5
  go_region_law (fail)
  all_goals
    go_wp2_with fail
    exact bodyPost_ret (v := .tuple #[.agg #[.slice a n3 c3], .agg #[.slice a' n' c']]) (by simp [results, Try.f20, go_sem, y1, y2, x2]) rfl ⟨_, _, _, _, _, _, _, _, rfl, R.out, R'.out, F.out, F'.out, BF.out⟩
end Go.Proofs.Ytmdhljleaijkbaa

/- CoveringOf, both sides; CountCoverings, AreCovered. guards: -/
namespace Go.Proofs.Ytmdhljleaijkbaa
open Go.RowKit

theorem ownS_nilC {w : World} {lo hi : Nat} : OwnS 2 w lo hi (.slice none 0 0) [] := ⟨⟨none, 0, 0, rfl, Own.nil_ _ _ _⟩, in_nil _ _ _ _⟩
noncomputable def cvC (d e : List (List Int)) : Int := if manB d = true then (if manB e = true then (if (cvL d e (flg e)).length = 0 then 4 else 0) else 1) else 1
noncomputable def cvR (d e : List (List Int)) : List Int := if cvC d e = 0 then lget (cvL d e (flg e)) 0 else []
noncomputable def ccC (d e : List (List Int)) : Int := if manB d = true then (if manB e = true then 0 else 1) else 1
noncomputable def ccR (d e : List (List Int)) : Int := if ccC d e = 0 then (cvL d e (flg e)).length else 0
noncomputable def acR (d e : List (List Int)) : Bool := if ccC d e = 0 then decide (0 < (cvL d e (flg e)).length) else false
section
variable {d e : List (List Int)}
theorem cv_bad (h : manB d = false ∨ manB e = false) : cvC d e = 1 ∧ cvR d e = [] := by
  have : cvC d e = 1 := by unfold cvC; rcases h with h | h <;> rw [h] <;> simp
  exact ⟨this, by unfold cvR; rw [this]; rfl⟩
theorem cv_none (h1 : manB d = true) (h2 : manB e = true) (h : (cvL d e (flg e)).length = 0) : cvC d e = 4 ∧ cvR d e = [] := by
  have : cvC d e = 4 := by unfold cvC; rw [h1, h2]; simp [h]
  exact ⟨this, by unfold cvR; rw [this]; rfl⟩
theorem cv_some (h1 : manB d = true) (h2 : manB e = true) (h : (cvL d e (flg e)).length ≠ 0) : cvC d e = 0 ∧ cvR d e = lget (cvL d e (flg e)) 0 := by
  have : cvC d e = 0 := by unfold cvC; rw [h1, h2]; simp [h]
  exact ⟨this, by unfold cvR; rw [this]; rfl⟩
theorem cc_bad (h : manB d = false ∨ manB e = false) : ccC d e = 1 ∧ ccR d e = 0 ∧ acR d e = false := by
  have : ccC d e = 1 := by unfold ccC; rcases h with h | h <;> rw [h] <;> simp
  exact ⟨this, by unfold ccR; rw [this]; rfl, by unfold acR; rw [this]; rfl⟩
theorem cc_ok (h1 : manB d = true) (h2 : manB e = true) : ccC d e = 0 ∧ ccR d e = (cvL d e (flg e)).length ∧ acR d e = decide (0 < (cvL d e (flg e)).length) := by
  have : ccC d e = 0 := by unfold ccC; rw [h1, h2]; rfl
  exact ⟨this, by unfold ccR; rw [this]; rfl, by unfold acR; rw [this]; rfl⟩
end
set_option maxRecDepth 100000 in
set_option maxHeartbeats 3200000 in
theorem api_implCv (ao bo : Option Addr) (n c m c' : Nat) (d e : List (List Int)) (w : World) (hd : RdSSc w (.slice ao n c) d) (he : RdSSc w (.slice bo m c') e) (fd : FewSS d) (fe : FewSS e) :
    Calls Try.prog 21 #[.agg #[.slice ao n c], .agg #[.slice bo m c']] w fun r w' => ∃ v, r = .returned (.tuple #[v, .int .i64 (cvC d e)]) ∧ OwnS 2 w' w.heap.size w'.heap.size v (cvR d e) ∧ Below w.heap.size w w' := by
  have b0 := below_alloc2 w (.cells #[.slice ao n c] 28) (.cells #[.slice bo m c'] 28)
  have km : Blk ((w.alloc (.cells #[.slice ao n c] 28)).alloc (.cells #[.slice bo m c'] 28)) w.heap.size 28 #[.slice ao n c] := (blk_at rfl).alloc _
  have kk : Blk ((w.alloc (.cells #[.slice ao n c] 28)).alloc (.cells #[.slice bo m c'] 28)) (w.heap.size + 1) 28 #[.slice bo m c'] := blk_at (by simp)
  have hd1 := Lib.hid (hd.below b0)
  have he1 := Lib.hid (he.below b0)
  have hz1 := b0.size
  obtain ⟨C, hC⟩ : ∃ C, cvC d e = C := ⟨_, rfl⟩
  obtain ⟨R, hR⟩ : ∃ R, cvR d e = R := ⟨_, rfl⟩
  rw [hC, hR]
  have HC := Lib.hid hC
  have HR := Lib.hid hR
  clear hC hR hd he
  have x0 := km.cell 0
  simp at x0
  go_enter Try.func21, Try.ntmps21
  go_wp2_with fail
  generalize (w.alloc (.cells #[.slice ao n c] 28)).alloc (.cells #[.slice bo m c'] 28) = w1 at *
  have KM := Lib.hid km
  have KK := Lib.hid kk
  have HB0 := Lib.hid b0
  clear km kk b0 x0
  refine (implManC hd1.out fd).mono ?_
  rintro r w2 ⟨rfl, b2⟩
  have x1 := (KK.out.belowS b2).cell 0
  simp at x1
  have HB2 := Lib.hid (HB0.out.trans (b2.mono hz1))
  have hz2 := b2.size
  have he2 := Lib.hid (he1.out.below b2)
  have hd2 := Lib.hid (hd1.out.below b2)
  have KM2 := Lib.hid (KM.out.belowS b2)
  have KK2 := Lib.hid (KK.out.belowS b2)
  clear b2 KM KK HB0 hd1 he1
  cases h1 : manB d with
  | false =>
    have hb := cv_bad (e := e) (.inl h1)
    obtain rfl := hb.1.symm.trans HC.out
    obtain rfl := hb.2.symm.trans HR.out
    clear hb HC HR h1
    go_wp2_with fail
    exact bodyPost_ret (v := .tuple #[.slice none 0 0, .int .i64 1]) (by simp [results, Try.f21, go_sem]) rfl ⟨_, rfl, ownS_nilC, HB2.out⟩
  | true =>
    have H1 := Lib.hid h1
    clear h1
    go_wp2_with fail
    refine (implManC he2.out fe).mono ?_
    rintro r w3 ⟨rfl, b3⟩
    have hzw2 := HB2.out.size
    have HB3 := Lib.hid (HB2.out.trans (b3.mono hzw2))
    have he3 := Lib.hid (he2.out.below b3)
    have hd3 := Lib.hid (hd2.out.below b3)
    have KM3 := Lib.hid (KM2.out.belowS b3)
    have KK3 := Lib.hid (KK2.out.belowS b3)
    clear b3 KM2 KK2 HB2 hd2 he2
    cases h2 : manB e with
    | false =>
      have hb := cv_bad (d := d) (.inr h2)
      obtain rfl := hb.1.symm.trans HC.out
      obtain rfl := hb.2.symm.trans HR.out
      clear hb HC HR h2
      go_wp2_with fail
      exact bodyPost_ret (v := .tuple #[.slice none 0 0, .int .i64 1]) (by simp [results, Try.f21, go_sem]) rfl ⟨_, rfl, ownS_nilC, HB3.out⟩
    | true =>
      have H2 := Lib.hid h2
      have y0 := KM3.out.cell 0
      have y1 := KK3.out.cell 0
      simp at y0 y1
      have hz3 := HB3.out.size
      clear h2
      go_wp2_with fail
      refine (coveringsOf_any ao bo n c m c' _ _ d e w3 hd3.out.intss he3.out.intss (manB_iff.1 H1.out) (manB_iff.1 H2.out) rfl rfl).mono ?_
      rintro r w4 ⟨a, k, cc, us, rfl, or4, b4⟩
      have HB4 := Lib.hid (HB3.out.trans (b4.mono hz3))
      have hl := or4.len
      have OR4 := Lib.hid or4
      clear or4 b4
      by_cases hk : k = 0
      · have hb := cv_none H1.out H2.out (by rw [hl]; exact hk)
        obtain rfl := hb.1.symm.trans HC.out
        obtain rfl := hb.2.symm.trans HR.out
        subst hk
        clear hb HC HR
        go_wp2_with fail
        exact bodyPost_ret (v := .tuple #[.slice none 0 0, .int .i64 4]) (by simp [results, Try.f21, go_sem]) rfl ⟨_, rfl, ownS_nilC, HB4.out⟩
      · have hb := cv_some H1.out H2.out (by rw [hl]; exact hk)
        obtain rfl := hb.1.symm.trans HC.out
        have hR0 := hb.2.symm.trans HR.out
        subst hR0
        have hbeq : ((k : Int) == 0) = false := by simp; omega
        obtain ⟨u, x, hu, hx, ⟨a5, n5, c5, rfl, o5⟩, hr5⟩ := OR4.out.get (by omega : 0 < k)
        have hx2 : x = lget (cvL d e (flg e)) 0 := (lget_get? hx).symm
        subst hx2
        obtain ⟨g, rfl, -, hgl, -, hcell, -⟩ := OR4.out.own.form (by omega : 0 < k)
        have hc0 : w4.cell? ⟨g, 0, none⟩ = some (.slice a5 n5 c5) := by rw [hcell 0 (by omega), hu]
        have hk0 : (0 : Int) < (k : Int) := by omega
        have O5 := Lib.hid o5
        have R5 := Lib.hid hr5
        clear hb HC HR hu hx hcell o5 hr5
        go_wp2_with fail
        exact bodyPost_ret (v := .tuple #[.slice a5 n5 c5, .int .i64 0]) (by simp [results, Try.f21, go_sem]) rfl ⟨_, rfl, ⟨⟨a5, n5, c5, rfl, O5.out⟩, R5.out.mono hz3 (Nat.le_refl _)⟩, HB4.out⟩
set_option maxRecDepth 100000 in
set_option maxHeartbeats 3200000 in
theorem api_specCv (ao bo : Option Addr) (n c m c' : Nat) (d e : List (List Int)) (w : World) (hd : RdSSc w (.slice ao n c) d) (he : RdSSc w (.slice bo m c') e) (fd : FewSS d) (fe : FewSS e) :
    Calls Try.prog 22 #[.agg #[.slice ao n c], .agg #[.slice bo m c']] w fun r w' => ∃ v, r = .returned (.tuple #[v, .int .i64 (cvC d e)]) ∧ OwnS 2 w' w.heap.size w'.heap.size v (cvR d e) ∧ Below w.heap.size w w' := by
  have b0 := below_alloc2 w (.cells #[.slice ao n c] 28) (.cells #[.slice bo m c'] 28)
  have km : Blk ((w.alloc (.cells #[.slice ao n c] 28)).alloc (.cells #[.slice bo m c'] 28)) w.heap.size 28 #[.slice ao n c] := (blk_at rfl).alloc _
  have kk : Blk ((w.alloc (.cells #[.slice ao n c] 28)).alloc (.cells #[.slice bo m c'] 28)) (w.heap.size + 1) 28 #[.slice bo m c'] := blk_at (by simp)
  have hd1 := Lib.hid (hd.below b0)
  have he1 := Lib.hid (he.below b0)
  have hz1 := b0.size
  obtain ⟨C, hC⟩ : ∃ C, cvC d e = C := ⟨_, rfl⟩
  obtain ⟨R, hR⟩ : ∃ R, cvR d e = R := ⟨_, rfl⟩
  rw [hC, hR]
  have HC := Lib.hid hC
  have HR := Lib.hid hR
  clear hC hR hd he
  have x0 := km.cell 0
  simp at x0
  go_enter Try.func22, Try.ntmps22
  go_wp2_with fail
  generalize (w.alloc (.cells #[.slice ao n c] 28)).alloc (.cells #[.slice bo m c'] 28) = w1 at *
  have KM := Lib.hid km
  have KK := Lib.hid kk
  have HB0 := Lib.hid b0
  clear km kk b0 x0
  refine (specManC hd1.out fd).mono ?_
  rintro r w2 ⟨rfl, b2⟩
  have x1 := (KK.out.belowS b2).cell 0
  simp at x1
  have HB2 := Lib.hid (HB0.out.trans (b2.mono hz1))
  have hz2 := b2.size
  have he2 := Lib.hid (he1.out.below b2)
  have hd2 := Lib.hid (hd1.out.below b2)
  have KM2 := Lib.hid (KM.out.belowS b2)
  have KK2 := Lib.hid (KK.out.belowS b2)
  clear b2 KM KK HB0 hd1 he1
  cases h1 : manB d with
  | false =>
    have hb := cv_bad (e := e) (.inl h1)
    obtain rfl := hb.1.symm.trans HC.out
    obtain rfl := hb.2.symm.trans HR.out
    clear hb HC HR h1
    go_wp2_with fail
    exact bodyPost_ret (v := .tuple #[.slice none 0 0, .int .i64 1]) (by simp [results, Try.f22, go_sem]) rfl ⟨_, rfl, ownS_nilC, HB2.out⟩
  | true =>
    have H1 := Lib.hid h1
    clear h1
    go_wp2_with fail
    refine (specManC he2.out fe).mono ?_
    rintro r w3 ⟨rfl, b3⟩
    have hzw2 := HB2.out.size
    have HB3 := Lib.hid (HB2.out.trans (b3.mono hzw2))
    have he3 := Lib.hid (he2.out.below b3)
    have hd3 := Lib.hid (hd2.out.below b3)
    have KM3 := Lib.hid (KM2.out.belowS b3)
    have KK3 := Lib.hid (KK2.out.belowS b3)
    clear b3 KM2 KK2 HB2 hd2 he2
    cases h2 : manB e with
    | false =>
      have hb := cv_bad (d := d) (.inr h2)
      obtain rfl := hb.1.symm.trans HC.out
      obtain rfl := hb.2.symm.trans HR.out
      clear hb HC HR h2
      go_wp2_with fail
      exact bodyPost_ret (v := .tuple #[.slice none 0 0, .int .i64 1]) (by simp [results, Try.f22, go_sem]) rfl ⟨_, rfl, ownS_nilC, HB3.out⟩
    | true =>
      have H2 := Lib.hid h2
      have y0 := KM3.out.cell 0
      have y1 := KK3.out.cell 0
      simp at y0 y1
      have hz3 := HB3.out.size
      clear h2
      go_wp2_with fail
      refine (coversS_any ao bo n c m c' _ _ d e w3 hd3.out.intss he3.out.intss (manB_iff.1 H1.out) (manB_iff.1 H2.out) rfl rfl).mono ?_
      rintro r w4 ⟨a, k, cc, us, rfl, or4, b4⟩
      have HB4 := Lib.hid (HB3.out.trans (b4.mono hz3))
      have hl := or4.len
      have OR4 := Lib.hid or4
      clear or4 b4
      by_cases hk : k = 0
      · have hb := cv_none H1.out H2.out (by rw [hl]; exact hk)
        obtain rfl := hb.1.symm.trans HC.out
        obtain rfl := hb.2.symm.trans HR.out
        subst hk
        clear hb HC HR
        go_wp2_with fail
        exact bodyPost_ret (v := .tuple #[.slice none 0 0, .int .i64 4]) (by simp [results, Try.f22, go_sem]) rfl ⟨_, rfl, ownS_nilC, HB4.out⟩
      · have hb := cv_some H1.out H2.out (by rw [hl]; exact hk)
        obtain rfl := hb.1.symm.trans HC.out
        have hR0 := hb.2.symm.trans HR.out
        subst hR0
        have hbeq : ((k : Int) == 0) = false := by simp; omega
        obtain ⟨u, x, hu, hx, ⟨a5, n5, c5, rfl, o5⟩, hr5⟩ := OR4.out.get (by omega : 0 < k)
        have hx2 : x = lget (cvL d e (flg e)) 0 := (lget_get? hx).symm
        subst hx2
        obtain ⟨g, rfl, -, hgl, -, hcell, -⟩ := OR4.out.own.form (by omega : 0 < k)
        have hc0 : w4.cell? ⟨g, 0, none⟩ = some (.slice a5 n5 c5) := by rw [hcell 0 (by omega), hu]
        have hk0 : (0 : Int) < (k : Int) := by omega
        have O5 := Lib.hid o5
        have R5 := Lib.hid hr5
        clear hb HC HR hu hx hcell o5 hr5
        go_wp2_with fail
        exact bodyPost_ret (v := .tuple #[.slice a5 n5 c5, .int .i64 0]) (by simp [results, Try.f22, go_sem]) rfl ⟨_, rfl, ⟨⟨a5, n5, c5, rfl, O5.out⟩, R5.out.mono hz3 (Nat.le_refl _)⟩, HB4.out⟩
set_option maxRecDepth 100000 in
set_option maxHeartbeats 3200000 in
theorem api_implCc (ao bo : Option Addr) (n c m c' : Nat) (d e : List (List Int)) (w : World) (hd : RdSSc w (.slice ao n c) d) (he : RdSSc w (.slice bo m c') e) (fd : FewSS d) (fe : FewSS e) :
    Calls Try.prog 23 #[.agg #[.slice ao n c], .agg #[.slice bo m c']] w fun r w' => r = .returned (.tuple #[.int .i64 (ccR d e), .int .i64 (ccC d e)]) ∧ Below w.heap.size w w' := by
  have b0 := below_alloc2 w (.cells #[.slice ao n c] 28) (.cells #[.slice bo m c'] 28)
  have km : Blk ((w.alloc (.cells #[.slice ao n c] 28)).alloc (.cells #[.slice bo m c'] 28)) w.heap.size 28 #[.slice ao n c] := (blk_at rfl).alloc _
  have kk : Blk ((w.alloc (.cells #[.slice ao n c] 28)).alloc (.cells #[.slice bo m c'] 28)) (w.heap.size + 1) 28 #[.slice bo m c'] := blk_at (by simp)
  have hd1 := Lib.hid (hd.below b0)
  have he1 := Lib.hid (he.below b0)
  have hz1 := b0.size
  obtain ⟨C, hC⟩ : ∃ C, ccC d e = C := ⟨_, rfl⟩
  obtain ⟨R, hR⟩ : ∃ R, ccR d e = R := ⟨_, rfl⟩
  rw [hC, hR]
  have HC := Lib.hid hC
  have HR := Lib.hid hR
  clear hC hR hd he
  have x0 := km.cell 0
  simp at x0
  go_enter Try.func23, Try.ntmps23
  go_wp2_with fail
  generalize (w.alloc (.cells #[.slice ao n c] 28)).alloc (.cells #[.slice bo m c'] 28) = w1 at *
  have KM := Lib.hid km
  have KK := Lib.hid kk
  have HB0 := Lib.hid b0
  clear km kk b0 x0
  refine (implManC hd1.out fd).mono ?_
  rintro r w2 ⟨rfl, b2⟩
  have x1 := (KK.out.belowS b2).cell 0
  simp at x1
  have HB2 := Lib.hid (HB0.out.trans (b2.mono hz1))
  have hz2 := b2.size
  have he2 := Lib.hid (he1.out.below b2)
  have hd2 := Lib.hid (hd1.out.below b2)
  have KM2 := Lib.hid (KM.out.belowS b2)
  have KK2 := Lib.hid (KK.out.belowS b2)
  clear b2 KM KK HB0 hd1 he1
  cases h1 : manB d with
  | false =>
    have hb := cc_bad (e := e) (.inl h1)
    obtain rfl := hb.1.symm.trans HC.out
    obtain rfl := hb.2.1.symm.trans HR.out
    clear hb HC HR h1
    go_wp2_with fail
    exact bodyPost_ret (v := .tuple #[.int .i64 0, .int .i64 1]) (by simp [results, Try.f23, go_sem]) rfl ⟨rfl, HB2.out⟩
  | true =>
    have H1 := Lib.hid h1
    clear h1
    go_wp2_with fail
    refine (implManC he2.out fe).mono ?_
    rintro r w3 ⟨rfl, b3⟩
    have hzw2 := HB2.out.size
    have HB3 := Lib.hid (HB2.out.trans (b3.mono hzw2))
    have he3 := Lib.hid (he2.out.below b3)
    have hd3 := Lib.hid (hd2.out.below b3)
    have KM3 := Lib.hid (KM2.out.belowS b3)
    have KK3 := Lib.hid (KK2.out.belowS b3)
    clear b3 KM2 KK2 HB2 hd2 he2
    cases h2 : manB e with
    | false =>
      have hb := cc_bad (d := d) (.inr h2)
      obtain rfl := hb.1.symm.trans HC.out
      obtain rfl := hb.2.1.symm.trans HR.out
      clear hb HC HR h2
      go_wp2_with fail
      exact bodyPost_ret (v := .tuple #[.int .i64 0, .int .i64 1]) (by simp [results, Try.f23, go_sem]) rfl ⟨rfl, HB3.out⟩
    | true =>
      have H2 := Lib.hid h2
      have y0 := KM3.out.cell 0
      have y1 := KK3.out.cell 0
      simp at y0 y1
      have hz3 := HB3.out.size
      clear h2
      go_wp2_with fail
      refine (coveringsOf_any ao bo n c m c' _ _ d e w3 hd3.out.intss he3.out.intss (manB_iff.1 H1.out) (manB_iff.1 H2.out) rfl rfl).mono ?_
      rintro r w4 ⟨a, k, cc, us, rfl, or4, b4⟩
      have HB4 := Lib.hid (HB3.out.trans (b4.mono hz3))
      have hl := or4.len
      have hb := cc_ok H1.out H2.out
      obtain rfl := hb.1.symm.trans HC.out
      have hR := hb.2.1.symm.trans HR.out
      rw [hl] at hR
      subst hR
      clear hb HC HR or4 b4
      go_wp2_with (go_at_call 53; refine (sizeRM_any _ _ _ _).mono ?_; rintro e' w' ⟨rfl, hw⟩; subst hw)
      exact bodyPost_ret (v := .tuple #[.int .i64 k, .int .i64 0]) (by simp [results, Try.f23, go_sem]) rfl ⟨rfl, HB4.out⟩
set_option maxRecDepth 100000 in
set_option maxHeartbeats 3200000 in
theorem api_implAc (ao bo : Option Addr) (n c m c' : Nat) (d e : List (List Int)) (w : World) (hd : RdSSc w (.slice ao n c) d) (he : RdSSc w (.slice bo m c') e) (fd : FewSS d) (fe : FewSS e) :
    Calls Try.prog 24 #[.agg #[.slice ao n c], .agg #[.slice bo m c']] w fun r w' => r = .returned (.tuple #[.bool (acR d e), .int .i64 (ccC d e)]) ∧ Below w.heap.size w w' := by
  have b0 := below_alloc2 w (.cells #[.slice ao n c] 28) (.cells #[.slice bo m c'] 28)
  have km : Blk ((w.alloc (.cells #[.slice ao n c] 28)).alloc (.cells #[.slice bo m c'] 28)) w.heap.size 28 #[.slice ao n c] := (blk_at rfl).alloc _
  have kk : Blk ((w.alloc (.cells #[.slice ao n c] 28)).alloc (.cells #[.slice bo m c'] 28)) (w.heap.size + 1) 28 #[.slice bo m c'] := blk_at (by simp)
  have hd1 := Lib.hid (hd.below b0)
  have he1 := Lib.hid (he.below b0)
  have hz1 := b0.size
  obtain ⟨C, hC⟩ : ∃ C, ccC d e = C := ⟨_, rfl⟩
  obtain ⟨R, hR⟩ : ∃ R, acR d e = R := ⟨_, rfl⟩
  rw [hC, hR]
  have HC := Lib.hid hC
  have HR := Lib.hid hR
  clear hC hR hd he
  have x0 := km.cell 0
  simp at x0
  go_enter Try.func24, Try.ntmps24
  go_wp2_with fail
  generalize (w.alloc (.cells #[.slice ao n c] 28)).alloc (.cells #[.slice bo m c'] 28) = w1 at *
  have KM := Lib.hid km
  have KK := Lib.hid kk
  have HB0 := Lib.hid b0
  clear km kk b0 x0
  refine (implManC hd1.out fd).mono ?_
  rintro r w2 ⟨rfl, b2⟩
  have x1 := (KK.out.belowS b2).cell 0
  simp at x1
  have HB2 := Lib.hid (HB0.out.trans (b2.mono hz1))
  have hz2 := b2.size
  have he2 := Lib.hid (he1.out.below b2)
  have hd2 := Lib.hid (hd1.out.below b2)
  have KM2 := Lib.hid (KM.out.belowS b2)
  have KK2 := Lib.hid (KK.out.belowS b2)
  clear b2 KM KK HB0 hd1 he1
  cases h1 : manB d with
  | false =>
    have hb := cc_bad (e := e) (.inl h1)
    obtain rfl := hb.1.symm.trans HC.out
    obtain rfl := hb.2.2.symm.trans HR.out
    clear hb HC HR h1
    go_wp2_with fail
    exact bodyPost_ret (v := .tuple #[.bool false, .int .i64 1]) (by simp [results, Try.f24, go_sem]) rfl ⟨rfl, HB2.out⟩
  | true =>
    have H1 := Lib.hid h1
    clear h1
    go_wp2_with fail
    refine (implManC he2.out fe).mono ?_
    rintro r w3 ⟨rfl, b3⟩
    have hzw2 := HB2.out.size
    have HB3 := Lib.hid (HB2.out.trans (b3.mono hzw2))
    have he3 := Lib.hid (he2.out.below b3)
    have hd3 := Lib.hid (hd2.out.below b3)
    have KM3 := Lib.hid (KM2.out.belowS b3)
    have KK3 := Lib.hid (KK2.out.belowS b3)
    clear b3 KM2 KK2 HB2 hd2 he2
    cases h2 : manB e with
    | false =>
      have hb := cc_bad (d := d) (.inr h2)
      obtain rfl := hb.1.symm.trans HC.out
      obtain rfl := hb.2.2.symm.trans HR.out
      clear hb HC HR h2
      go_wp2_with fail
      exact bodyPost_ret (v := .tuple #[.bool false, .int .i64 1]) (by simp [results, Try.f24, go_sem]) rfl ⟨rfl, HB3.out⟩
    | true =>
      have H2 := Lib.hid h2
      have y0 := KM3.out.cell 0
      have y1 := KK3.out.cell 0
      simp at y0 y1
      have hz3 := HB3.out.size
      clear h2
      go_wp2_with fail
      refine (coveringsOf_any ao bo n c m c' _ _ d e w3 hd3.out.intss he3.out.intss (manB_iff.1 H1.out) (manB_iff.1 H2.out) rfl rfl).mono ?_
      rintro r w4 ⟨a, k, cc, us, rfl, or4, b4⟩
      have HB4 := Lib.hid (HB3.out.trans (b4.mono hz3))
      have hl := or4.len
      have hb := cc_ok H1.out H2.out
      obtain rfl := hb.1.symm.trans HC.out
      have hR := hb.2.2.symm.trans HR.out
      rw [hl] at hR
      subst hR
      clear hb HC HR or4 b4
      have hdd : decide ((0 : Int) < (k : Int)) = decide (0 < k) := by simp
      go_wp2_with fail
      exact bodyPost_ret (v := .tuple #[.bool (decide (0 < k)), .int .i64 0]) (by simp [results, Try.f24, go_sem, hdd]) rfl ⟨rfl, HB4.out⟩
end Go.Proofs.Ytmdhljleaijkbaa

/- Coverings, the program's: isCovering, coveringCode, at coverings. guards: -/
namespace Go.Proofs.Ytmdhljleaijkbaa
open Go.RowKit

set_option maxHeartbeats 1600000 in
theorem hasFlag_any (mb : Nat) (ao : Option Addr) (n c N x : Nat) (d : List (List Int)) (z : Int) (hz : z = (x : Int)) (w : World) (hm : Blk w mb 28 #[.slice ao n c]) (h : RdSS w (.slice ao n c) d) (hn : 0 < n) (hl : (lget d 0).length = N) (hN : 1 ≤ N) (hN4 : N ≤ 1000000) (hx : x < N) :
    Calls Try.prog 55 #[.pointer (some ⟨mb, 0, none⟩), .int .i64 z] w fun e w' => e = .returned (.bool true) ∧ w = w' := by
  subst hz
  have HM := Lib.hid hm
  have HR := Lib.hid h
  have hw1 : IntKind.i64.wrap ((N : Int) - 1) = (N : Int) - 1 := IntWalk.i64_in _ (by omega)
  have hB : inB (x : Int) 0 ((N : Int) - 1) = true := by unfold inB; simp; omega
  clear hm h
  go_enter Try.func55, Try.ntmps55
  go_wp2_with (first | (go_at_call 58; refine (flagsI_any mb ao n c N d _ HM.out HR.out hn hl hN4).mono ?_; rintro e w' ⟨rfl, hw⟩; subst hw) | (go_at_call 35; refine (within_any _ _ _ _).mono ?_; rintro e w' ⟨rfl, hw⟩; rw [hw, hB]; clear hw w'))
  go_ret
  exact ⟨rfl, rfl⟩
set_option maxHeartbeats 6400000 in
theorem isCov_any (ao bo lo : Option Addr) (n c m c' lc N K : Nat) (d e : List (List Int)) (p : List Int) (w : World) (hd : RdSSc w (.slice ao n c) d) (he : RdSSc w (.slice bo m c') e) (hM : Man d) (hE : Man e) (hl : d.length = e.length) (hN : flg d = N) (hK : flg e = K) (hp : Cov d e p) (hI : Ints w lo N p) :
    Calls Try.prog 101 #[.agg #[.slice ao n c], .agg #[.slice bo m c'], .slice lo N lc] w fun r w' => r = .returned (.bool true) ∧ Below w.heap.size w w' := by
  have b0 := below_alloc2 w (.cells #[.slice ao n c] 28) (.cells #[.slice bo m c'] 28)
  have km : Blk ((w.alloc (.cells #[.slice ao n c] 28)).alloc (.cells #[.slice bo m c'] 28)) w.heap.size 28 #[.slice ao n c] := (blk_at rfl).alloc _
  have kk : Blk ((w.alloc (.cells #[.slice ao n c] 28)).alloc (.cells #[.slice bo m c'] 28)) (w.heap.size + 1) 28 #[.slice bo m c'] := blk_at (by simp)
  have hN2 : 2 ≤ N := by rw [← hN]; exact hM.f2
  have hN4 : N ≤ 400 := by rw [← hN]; exact hM.f4
  have hK2 : 2 ≤ K := by rw [← hK]; exact hE.f2
  have hK4 : K ≤ 400 := by rw [← hK]; exact hE.f4
  have hd1 := hM.n1
  have he1 := hE.n1
  have hdl := hd.intss.1
  have hel := he.intss.1
  obtain ⟨x, hx, hxK⟩ := hp.val 0 (by omega)
  rw [hK] at hxK
  have hcv : covO d e x = some p := covO_eq hM hl hp hx
  obtain ⟨lb, lf, rfl, hc0⟩ := (hI.below b0).at_ (k := 0) (by omega)
  rw [hx] at hc0
  have HI := Lib.hid (hI.below b0)
  have HD := Lib.hid (hd.below b0)
  have HE := Lib.hid (he.below b0)
  have HM := Lib.hid hM
  have HEM := Lib.hid hE
  have HN := Lib.hid hN
  have HK := Lib.hid hK
  have HCV := Lib.hid hcv
  clear hd he hM hE hN hK hp hI hx hcv hl
  go_enter Try.func101, Try.ntmps101
  go_upto_region 1 with fail
  generalize (w.alloc (.cells #[.slice ao n c] 28)).alloc (.cells #[.slice bo m c'] 28) = w1 at *
  have KM := Lib.hid km
  have KK := Lib.hid kk
  have HB0 := Lib.hid b0
  have HC0 := Lib.hid (show w1.cell? ⟨lb, lf, none⟩ = some (.int .i64 x) from hc0)
  have S0 := Lib.hid (show ∀ w', Below w1.heap.size w1 w' → (Below w1.heap.size w1 w' ∧ w'.cell? ⟨w.heap.size, 0, none⟩ = some (.slice ao n c) ∧ w'.cell? ⟨w.heap.size + 1, 0, none⟩ = some (.slice bo m c') ∧ w'.cell? ⟨lb, lf, none⟩ = some (.int .i64 x)) from fun w' hb => ⟨hb, by have := (KM.out.belowS hb).cell 0; simpa using this, by have := (KK.out.belowS hb).cell 0; simpa using this, (hb.cell (World.block_lt_of_cell? w1 _ HC0.out)).trans HC0.out⟩)
  have K0 := Lib.hid (S0.out w1.drew (below_drew1 w1))
  clear km kk b0 hc0
  have hNe : ((N : Int) == (N : Int)) = true := by simp
  have hN0 : 0 < N := by omega
  have hN0i : (0 : Int) < (N : Int) := by omega
  go_region_held3 (fun w' => Below w1.heap.size w1 w' ∧ w'.cell? ⟨w.heap.size, 0, none⟩ = some (.slice ao n c) ∧ w'.cell? ⟨w.heap.size + 1, 0, none⟩ = some (.slice bo m c') ∧ w'.cell? ⟨lb, lf, none⟩ = some (.int .i64 x)) (first | exact K0.out | exact K5.out | exact K6.out) (first
    | (go_at_call 71; refine (size1_any (some ⟨lb, lf, none⟩) N lc w1.drew).mono ?_; rintro e w5 ⟨rfl, hw⟩; subst hw)
    | (go_at_call 58; refine (flagsI_any _ ao n c N d w1.drew (KM.out.drewN 1) (HD.out.below (below_drew1 w1)).rd (by omega) HN.out (by omega)).mono ?_; rintro e w5 ⟨rfl, hw⟩; subst hw)
    | (go_at_call 55; refine (hasFlag_any _ bo m c' K x e _ rfl w1.drew (KK.out.drewN 1) (HE.out.below (below_drew1 w1)).rd (by omega) HK.out (by omega) (by omega) hxK).mono ?_; rintro e w5 ⟨rfl, hw⟩; subst hw)
    | (go_at_call 96; refine (coveringTo_any ao bo n c m c' x N K d e w1.drew (HD.out.below (below_drew1 w1)).intss (HE.out.below (below_drew1 w1)).intss HM.out HEM.out HN.out HK.out hxK).mono ?_; rintro e w5 ⟨a5, n5, c5, rfl, -, h5, b5⟩; obtain ⟨hn5, -, o5⟩ := h5 p HCV.out; subst n5; have B5 : Below w1.heap.size w1 w5 := below_tr b5 (below_drew1 w1); have K5 := Lib.hid (S0.out w5 B5); have O5 := Lib.hid o5.ints)
    | (go_at_call 77; refine (equal_any a5 (some ⟨lb, lf, none⟩) N N c5 lc p p w5 O5.out (HI.out.below B5)).mono ?_; rintro e w6 ⟨rfl, nq, rfl⟩; rw [decide_eq_true rfl]; have B6 : Below w1.heap.size w1 (w5.drewN nq) := below_drewN B5 nq; have K6 := Lib.hid (S0.out (w5.drewN nq) B6)))
  all_goals
    have BF := Lib.hid (below_tr B6 HB0.out)
    go_wp2_with fail
    exact bodyPost_ret (v := .bool true) (by simp [results, Try.f101, go_sem]) rfl ⟨rfl, BF.out⟩
end Go.Proofs.Ytmdhljleaijkbaa

/- Coverings, the program's: coveringCode, placesOf, FibreOf, at coverings. guards: -/
namespace Go.Proofs.Ytmdhljleaijkbaa
open Go.RowKit

set_option maxHeartbeats 3200000 in
theorem cvCode_any (ao bo lo : Option Addr) (n c m c' lc N K : Nat) (d e : List (List Int)) (p : List Int) (w : World) (hd : RdSSc w (.slice ao n c) d) (he : RdSSc w (.slice bo m c') e) (hM : Man d) (hE : Man e) (hl : d.length = e.length) (hN : flg d = N) (hK : flg e = K) (hp : Cov d e p) (hI : Ints w lo N p) :
    Calls Try.prog 54 #[.agg #[.slice ao n c], .agg #[.slice bo m c'], .slice lo N lc] w fun r w' => r = .returned (.int .i64 0) ∧ Below w.heap.size w w' := by
  have b0 := below_alloc2 w (.cells #[.slice ao n c] 28) (.cells #[.slice bo m c'] 28)
  have km : Blk ((w.alloc (.cells #[.slice ao n c] 28)).alloc (.cells #[.slice bo m c'] 28)) w.heap.size 28 #[.slice ao n c] := (blk_at rfl).alloc _
  have kk : Blk ((w.alloc (.cells #[.slice ao n c] 28)).alloc (.cells #[.slice bo m c'] 28)) (w.heap.size + 1) 28 #[.slice bo m c'] := blk_at (by simp)
  have H0 := Lib.hid (fun (w' : World) (h1 : RdSSc w' (.slice ao n c) d) (h2 : RdSSc w' (.slice bo m c') e) (h3 : Ints w' lo N p) => isCov_any ao bo lo n c m c' lc N K d e p w' h1 h2 hM hE hl hN hK hp h3)
  have H1 := Lib.hid (manB_iff.2 hM)
  have H2 := Lib.hid (manB_iff.2 hE)
  have F1 := Lib.hid (man_few hM)
  have F2 := Lib.hid (man_few hE)
  have HD := Lib.hid (hd.below b0)
  have HE := Lib.hid (he.below b0)
  have HI := Lib.hid (hI.below b0)
  clear hM hE hl hN hK hp hI hd he
  go_enter Try.func54, Try.ntmps54
  go_upto_block 0 with (fail)
  generalize (w.alloc (.cells #[.slice ao n c] 28)).alloc (.cells #[.slice bo m c'] 28) = w1 at *
  have KM := Lib.hid km
  have KK := Lib.hid kk
  have B0 := Lib.hid b0
  have x1 := km.cell 0
  simp at x1
  clear km kk b0
  go_wp2_with fail
  refine (implManC HD.out F1.out).mono ?_
  rintro r w2 ⟨rfl, b2⟩
  rw [H1.out]
  have HD2 := Lib.hid (HD.out.below b2)
  have HE2 := Lib.hid (HE.out.below b2)
  have HI2 := Lib.hid (HI.out.below b2)
  have B2 := Lib.hid (below_tr b2 B0.out)
  have KM2 := Lib.hid (KM.out.belowS b2)
  have KK2 := Lib.hid (KK.out.belowS b2)
  have x2 := KK2.out.cell 0
  simp at x2
  clear b2 HD HE HI B0 KM KK x1
  go_wp2_with fail
  refine (implManC HE2.out F2.out).mono ?_
  rintro r w3 ⟨rfl, b3⟩
  rw [H2.out]
  have HD3 := Lib.hid (HD2.out.below b3)
  have HE3 := Lib.hid (HE2.out.below b3)
  have HI3 := Lib.hid (HI2.out.below b3)
  have B3 := Lib.hid (below_tr b3 B2.out)
  have x3 := (KM2.out.belowS b3).cell 0
  have y3 := (KK2.out.belowS b3).cell 0
  simp at x3 y3
  clear b3 HD2 HE2 HI2 B2 KM2 KK2 x2
  go_wp2_with fail
  refine (H0.out w3 HD3.out HE3.out HI3.out).mono ?_
  rintro r w4 ⟨rfl, b4⟩
  have B4 := Lib.hid (below_tr b4 B3.out)
  clear b4
  go_wp2_with fail
  exact bodyPost_ret (v := .int .i64 0) (by simp [results, Try.f54, go_sem]) rfl ⟨rfl, B4.out⟩
set_option maxHeartbeats 3200000 in
theorem places_any (lo : Option Addr) (lc N : Nat) (p : List Int) (x : Int) (w : World) (hI : Ints w lo N p) (hN : N ≤ 1000) :
    Calls Try.prog 56 #[.slice lo N lc, .int .i64 x] w fun r w' => ∃ a cc, r = .returned (.slice a (p.count x) cc) ∧ Below w.heap.size w w' := by
  have HI := Lib.hid hI
  have hpl := hI.1
  obtain ⟨M, hM⟩ : ∃ M, p.count x = M := ⟨_, rfl⟩
  rw [hM]
  have HMM := Lib.hid hM
  clear hI hM
  go_enter Try.func56, Try.ntmps56
  go_wp2_with fail
  go_loopw [5, 10] (fun sv iv wr => ∃ (i k : Nat) (a : Option Addr) (cc : Nat), sv = .slice a k cc ∧ iv = .int .i64 i ∧ i ≤ N ∧ k ≤ i ∧ k = (p.take i).count x ∧ Gl wr w.heap.size a k cc N ∧ Below w.heap.size w wr) (fun _ iv _ => N - (intOf iv).toNat)
  case atStart => exact ⟨0, 0, none, 0, rfl, rfl, Nat.zero_le _, Nat.le_refl _, by simp, ⟨[], rfl, (fun z hz => by simp at hz), Own.nil_ _ _ _⟩, Below.refl _ _⟩
  case round =>
    obtain ⟨i, k, a, cc, rfl, rfl, hi, hki, hk, hg, hb⟩ := hrel
    have HK := Lib.hid hk
    have HB := Lib.hid hb
    have hz := hb.size
    obtain ⟨zs, z1, z2, z3⟩ := id hg
    have HG := Lib.hid hg
    have Q3 := Lib.hid z3
    clear hk hb hg z3
    by_cases hlt : i < N
    · have hii : (i : Int) < (N : Int) := by omega
      obtain ⟨b, off, rfl, hc⟩ := (HI.out.below HB.out).at_ hlt
      have HT := Lib.hid (take_iget (zs := p) (k := i) (by omega))
      obtain ⟨y, hy⟩ : ∃ y, iget p i = y := ⟨_, rfl⟩
      rw [hy] at hc HT
      clear hy
      by_cases hyx : x = y
      · subst hyx
        have e1 : (x == x) = true := by simp
        go_wp2_with (at_builtin; refine wpList_ap1 etI _ rfl _ _ rfl w.heap.size a k cc _ rfl Q3.out (.int .i64 i) rfl rfl (by omega) hz ?_; intro a7 c7 w7 q7 g7 hat7)
        have Q7 := Lib.hid (Gl.app z1 z2 q7 (show 0 ≤ (i : Int) ∧ (i : Int) < (N : Nat) by omega))
        have B7 := Lib.hid (HB.out.grown g7 hz (fun g e => (Q3.out.lt g e).1))
        clear q7 g7 hat7
        go_roundw
        case rel => exact ⟨i + 1, k + 1, a7, c7, rfl, by go_num, by omega, by omega, by rw [HT.out, List.count_append, ← HK.out]; simp, Q7.out, B7.out⟩
        case measure => simp [intOf]; omega
      · have e1 : (x == y) = false := by simp [hyx]
        go_wp2_with fail
        go_roundw
        case rel => exact ⟨i + 1, k, a, cc, rfl, by go_num, by omega, by omega, by rw [HT.out, List.count_append, ← HK.out, List.count_singleton, if_neg (by simp; exact fun h => hyx h.symm)]; rfl, HG.out, HB.out⟩
        case measure => simp [intOf]; omega
    · obtain rfl : i = N := by omega
      obtain rfl : M = k := by rw [← HMM.out, HK.out, List.take_of_length_le (by omega)]
      go_wp2_with fail
      exact bodyPost_ret (v := .slice a M cc) (by simp [results, Try.f56, go_sem]) rfl ⟨a, cc, rfl, HB.out⟩
end Go.Proofs.Ytmdhljleaijkbaa

/- Orbits of flags, IsRegular, IsChiral, the program's. -/
namespace Go.Proofs.Ytmdhljleaijkbaa
open Go.RowKit

theorem OwR.rdc {w : World} {lo hi n c : Nat} {ao : Option Addr} {us : List Value} {ds : List (List Int)} (h : OwR (OwS 2) w lo hi 32 ao n c us ds) : RdSSc w (.slice ao n c) ds := OwSS.rdc ⟨_, _, _, _, rfl, h⟩
noncomputable def irC (d : List (List Int)) : Int := if manB d = true then 0 else 1
end Go.Proofs.Ytmdhljleaijkbaa

/- Colourings of maniplexes that have one, the program's. guards: -/
namespace Go.Proofs.Ytmdhljleaijkbaa
open Go.RowKit

/-- the colours are those of a colouring -/
structure Colr (d : List (List Int)) (cl : Nat → Int) : Prop where
  zero : cl 0 = 0
  two : ∀ x, x < flg d → cl x = 0 ∨ cl x = 1
  mov : ∀ g x, g < d.length → x < flg d → cl (bTo d x g) = 1 - cl x
structure ColS (d : List (List Int)) (cl : Nat → Int) (L O : List Int) : Prop where
  len : L.length = flg d
  val : ∀ i, i < flg d → iget L i = -1 ∨ iget L i = cl i
  que : ∀ z ∈ O, ∃ x : Nat, z = (x : Int) ∧ x < flg d ∧ iget L x = cl x
end Go.Proofs.Ytmdhljleaijkbaa
