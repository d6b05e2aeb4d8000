/- WithRelators, the reference's. -/
import Derived.Test.YtnfkhgamnapgmaaPart1
import Derived.Deep.RegionHeld3
namespace Go.Proofs.Ytnfkhgamnapgmaa
open Go.RowKit

/-- the presentation with the words that are not empty laid behind its relators -/
def wrR (d : PresD) (ws : List (List Int)) : PresD := if withOk d ws = true then wrV d.1 (d.2 ++ ws) else (0, [])
def wrC (d : PresD) (ws : List (List Int)) : Int := if withOk d ws = true then wrK (d.2 ++ ws) else 1

theorem withOk_pres {d : PresD} {ws : List (List Int)} (h : withOk d ws = true) : isPres d = true ∧ wordsTo d.1 0 ws = true := by
  unfold withOk at h; simpa using h
theorem isPres_few {d : PresD} (h : isPres d = true) : d.2.length ≤ 24 ∧ neL d.2 = d.2 ∧ ∀ z ∈ d.2, z.length ≤ 64 := by
  unfold isPres at h
  simp only [Bool.and_eq_true, decide_eq_true_eq, List.all_eq_true] at h
  refine ⟨h.1.2, List.filter_eq_self.2 fun z hz => by have := h.2 z hz; simp; omega, fun z hz => ?_⟩
  have := (h.2 z hz).1
  unfold isWordTo at this
  simp only [Bool.and_eq_true, decide_eq_true_eq] at this
  exact this.1
theorem wordsTo_few {g : Int} {k : Nat} {ws : List (List Int)} (h : wordsTo g k ws = true) : ws.length ≤ 24 ∧ ∀ z ∈ ws, z.length ≤ 64 := by
  unfold wordsTo at h
  simp only [Bool.and_eq_true, decide_eq_true_eq, List.all_eq_true] at h
  refine ⟨h.1, fun z hz => ?_⟩
  have := (h.2 z hz).1
  unfold isWordTo at this
  simp only [Bool.and_eq_true, decide_eq_true_eq] at this
  exact this.1
theorem neL_app (R W : List (List Int)) : neL (R ++ W) = neL R ++ neL W := List.filter_append ..

theorem lenSS_upto {zss : List (List Int)} {k : Nat} (h : ∀ zs ∈ zss, zs.length ≤ k) : lenSS zss ≤ zss.length * k := by
  induction zss with
  | nil => simp [lenSS]
  | cons z t ih =>
    have h1 := h z (by simp)
    have h2 := ih fun x hx => h x (by simp [hx])
    simp [lenSS, Nat.add_mul] at *
    omega
section
variable {D : Type} {Ow1 : World → Value → D → Prop} {w w' : World} {lo hi E : Nat} {ao : Option Addr} {n c : Nat} {us : List Value} {ds : List D}
/-- the row's own blocks have not turned -/
theorem OwR.same2 (I : Inner Ow1) (h : OwR Ow1 w lo hi E ao n c us ds) (hs : ∀ g, (bk ao = some g ∨ ∃ (j : Nat) (u : Value), us[j]? = some u ∧ u.ownBlock = some g) → w'.heap[g]? = w.heap[g]?) : OwR Ow1 w' lo hi E ao n c us ds :=
  { own := h.own.same fun g hg => hs g (.inl hg)
    top := h.top, len := h.len, rng := h.rng, out := h.out, apart := h.apart
    el := fun j u d hu hd => I.loc (h.el j u d hu hd) fun g hg => hs g (.inr ⟨j, u, hu, hg⟩) }
end

/-- the box of the result (rb), the box of the presentation that grows (bx), its relators -/
structure WsSt (w wr : World) (rb bx lo : Nat) (N : Int) (ao : Option Addr) (m c : Nat) (us : List Value) (ds : List (List Int)) : Prop where
  res : Blk wr rb 75 #[.int .i64 0, .slice none 0 0]
  box : Blk wr bx 75 #[.int .i64 N, .slice ao m c]
  row : OwR (OwS 2) wr lo wr.heap.size 22 ao m c us ds
  far : bk ao ≠ some bx ∧ ∀ (j : Nat) (u : Value), us[j]? = some u → u.ownBlock ≠ some bx
  at_ : w.heap.size ≤ rb ∧ rb < lo ∧ w.heap.size ≤ bx ∧ rb ≠ bx ∧ lo ≤ wr.heap.size
  below : Below w.heap.size w wr
  few : m ≤ 1000

theorem WsSt.push {w wr w2 w3 w4 : World} {rb bx lo m c' n1 c1 c2 : Nat} {N : Int} {ao' a1 ao2 : Option Addr} {us : List Value} {ds : List (List Int)} {zs : List Int} (st : WsSt w wr rb bx lo N ao' m c' us ds) (hm : m + 1 ≤ 1000)
    (b2 : Below wr.heap.size wr w2) (o1 : Own w2 wr.heap.size 2 a1 n1 c1 (zs.map (Value.int .i64))) (b3 : Below w2.heap.size w2 w3) (o4 : Own w4 lo 22 ao2 (m + 1) c2 (us ++ [.slice a1 n1 c1]))
    (g4 : w3.grownBy w4 (bk ao')) (hat : bk ao2 = bk ao' ∨ bk ao2 = some w3.heap.size) :
    WsSt w (w4.setCell ⟨bx, 1, none⟩ (.slice ao2 (m + 1) c2)) rb bx lo N ao2 (m + 1) c2 (us ++ [.slice a1 n1 c1]) (ds ++ [zs]) := by
  obtain ⟨h1, h2, h3, h4, h5⟩ := st.at_
  have hR := rows_push st.row h5 b2 o1 b3 o4 g4 hat
  have s2 := b2.size
  have s3 := b3.size
  have s4 := g4.size
  have hbx := st.box.lt
  have B4 : Below w.heap.size w w4 := (st.below.trans ((b2.trans (b3.mono s2)).mono (by omega))).grown g4 (by omega) (fun g hg => by have := (st.row.own.lt g hg).1; omega)
  have hh : (w4.setCell ⟨bx, 1, none⟩ (.slice ao2 (m + 1) c2)).heap.size = w4.heap.size := by simp [World.setCell]
  have k : ∀ g, g < wr.heap.size → bk ao' ≠ some g → w4.heap[g]? = wr.heap[g]? := fun g hg hne => by
    rw [g4.block g (by omega) (fun e => hne e.symm), b3.block g (by omega), b2.block g hg]
  have hf : bk ao2 ≠ some bx ∧ ∀ (j : Nat) (u : Value), (us ++ [.slice a1 n1 c1])[j]? = some u → u.ownBlock ≠ some bx := by
    refine ⟨?_, fun j u hj => ?_⟩
    · rcases hat with e | e
      · rw [e]; exact st.far.1
      · rw [e]; intro e2; have := Option.some.inj e2; omega
    · rw [List.getElem?_append] at hj
      split at hj
      · exact st.far.2 j u hj
      · have hj0 : j - us.length = 0 := by
          rcases Nat.eq_zero_or_pos (j - us.length) with h | h
          · exact h
          · rw [List.getElem?_eq_none (by simp; omega)] at hj; cases hj
        rw [hj0] at hj
        obtain rfl : Value.slice a1 n1 c1 = u := by simpa using hj
        rw [ownBlock_slice]
        intro e; have := (o1.lt _ e).1; omega
  refine ⟨?_, ?_, ?_, hf, ⟨h1, h2, h3, h4, by rw [hh]; omega⟩, B4.setCell (by simp; omega) _, hm⟩
  · refine Blk.far ?_ (by simp; omega) _
    unfold Blk
    rw [k rb (by omega) (fun e => by have := (st.row.own.lt _ e).1; omega)]
    exact st.res
  · have : Blk w4 bx 75 #[.int .i64 N, .slice ao' m c'] := by unfold Blk; rw [k bx hbx st.far.1]; exact st.box
    simpa using this.set_ 1 (.slice ao2 (m + 1) c2)
  · rw [hh]
    refine hR.same2 (innerS _) fun g hg => Below.heap_setCell _ _ _ _ ?_
    rcases hg with hg | ⟨j, u, hj, hg⟩
    · intro e; exact hf.1 (by simp at e; rw [← e]; exact hg)
    · intro e; exact hf.2 j u hj (by simp at e; rw [← e]; exact hg)

theorem WsSt.done {w wr : World} {rb bx lo m c' : Nat} {N : Int} {ao' : Option Addr} {us : List Value} {ds : List (List Int)} (st : WsSt w wr rb bx lo N ao' m c' us ds) (x : Int) (y : Value) :
    Blk ((wr.setCell ⟨rb, 0, none⟩ (.int .i64 x)).setCell ⟨rb, 1, none⟩ y) rb 75 #[.int .i64 x, y] ∧
    OwR (OwS 2) ((wr.setCell ⟨rb, 0, none⟩ (.int .i64 x)).setCell ⟨rb, 1, none⟩ y) lo ((wr.setCell ⟨rb, 0, none⟩ (.int .i64 x)).setCell ⟨rb, 1, none⟩ y).heap.size 22 ao' m c' us ds ∧
    Below w.heap.size w ((wr.setCell ⟨rb, 0, none⟩ (.int .i64 x)).setCell ⟨rb, 1, none⟩ y) := by
  obtain ⟨h1, h2, h3, h4, h5⟩ := st.at_
  have hh : ((wr.setCell ⟨rb, 0, none⟩ (.int .i64 x)).setCell ⟨rb, 1, none⟩ y).heap.size = wr.heap.size := by simp [World.setCell]
  refine ⟨?_, ?_, (st.below.setCell (by simp; omega) _).setCell (by simp; omega) _⟩
  · have := (st.res.set_ 0 (.int .i64 x)).set_ 1 y
    simpa using this
  · rw [hh]
    exact st.row.same (innerS _) fun g h1 _ _ => by rw [Below.heap_setCell _ _ _ _ (by simp; omega), Below.heap_setCell _ _ _ _ (by simp; omega)]

theorem WsSt.start1 {w w1 w2 : World} {rb n2 c2 : Nat} {N : Int} {a2 : Option Addr} {us : List Value} {ds : List (List Int)} (k1 : Blk w1 rb 75 #[.int .i64 0, .slice none 0 0]) (hb : Below w.heap.size w w1) (h1 : w.heap.size ≤ rb)
    (b2 : Below w1.heap.size w1 w2) (o2 : OwR (OwS 2) w2 w1.heap.size w2.heap.size 22 a2 n2 c2 us ds) (hf : n2 ≤ 1000) : WsSt w (w2.alloc (.cells #[.int .i64 N, .slice a2 n2 c2] 75)) rb w2.heap.size w1.heap.size N a2 n2 c2 us ds := by
  have hs := b2.size
  have hl := k1.lt
  refine ⟨(k1.belowS b2).alloc _, blk_at rfl, (o2.below (innerS _) (below_alloc1 _ _)).mono (Nat.le_refl _) (by simp), ⟨fun e => by have := o2.top _ e; omega, fun j u hj e => by have := (o2.rng j u hj _ e).2; omega⟩, ⟨h1, hl, by have := hb.size; omega, by omega, by simp; omega⟩, (hb.trans (b2.mono hb.size)).alloc (by have := hb.size; omega) _, hf⟩
theorem WsSt.start2 {w w1 w2 : World} {rb lo n2 c2 : Nat} {N : Int} {a2 : Option Addr} {us : List Value} {ds : List (List Int)} (k1 : Blk w1 rb 75 #[.int .i64 0, .slice none 0 0]) (hb : Below w.heap.size w w1) (h1 : w.heap.size ≤ rb)
    (b2 : Below (w1.alloc (.cells #[.int .i64 0, .slice none 0 0] 75)).heap.size (w1.alloc (.cells #[.int .i64 0, .slice none 0 0] 75)) w2) (hlo : lo = w1.heap.size + 1) (o2 : OwR (OwS 2) w2 lo w2.heap.size 22 a2 n2 c2 us ds) (hf : n2 ≤ 1000) :
    WsSt w ((w2.setCell ⟨w1.heap.size, 0, none⟩ (.int .i64 N)).setCell ⟨w1.heap.size, 1, none⟩ (.slice a2 n2 c2)) rb w1.heap.size (w1.heap.size + 1) N a2 n2 c2 us ds := by
  subst hlo
  simp only [World.alloc, Array.size_push] at b2
  have b2 : Below (w1.heap.size + 1) (w1.alloc (.cells #[.int .i64 0, .slice none 0 0] 75)) w2 := b2
  have hs := b2.size
  simp at hs
  have hl := k1.lt
  have hbs := hb.size
  have hh : ((w2.setCell ⟨w1.heap.size, 0, none⟩ (.int .i64 N)).setCell ⟨w1.heap.size, 1, none⟩ (.slice a2 n2 c2)).heap.size = w2.heap.size := by simp [World.setCell]
  have kx : Blk w2 w1.heap.size 75 #[.int .i64 0, .slice none 0 0] := (blk_at (w := w1) rfl).below b2 (by omega)
  refine ⟨(((k1.alloc _).below b2 (by omega)).far (by simp; omega) _).far (by simp; omega) _, by simpa using (kx.set_ 0 (.int .i64 N)).set_ 1 (.slice a2 n2 c2), ?_, ⟨fun e => by have := (o2.own.lt _ e).1; omega, fun j u hj e => by have := (o2.rng j u hj _ e).1; omega⟩, ⟨h1, by omega, by omega, by omega, by rw [hh]; omega⟩, ((((hb.trans ((below_alloc1 w1 _).mono hbs)).trans (b2.mono (by omega))).setCell (by simp; omega) _).setCell (by simp; omega) _), hf⟩
  rw [hh]
  exact o2.same (innerS _) fun g h1 _ _ => by rw [Below.heap_setCell _ _ _ _ (by simp; omega), Below.heap_setCell _ _ _ _ (by simp; omega)]

set_option maxRecDepth 100000 in
set_option maxHeartbeats 3200000 in
theorem withS_any {v : Value} {d : PresD} (ao : Option Addr) (n c : Nat) (ws : List (List Int)) (w : World) (h : RdP w v d) (h' : Intss w ao n ws) :
    Calls Try.prog 59 #[v, .slice ao n c] w fun e w' => ∃ v, e = .returned (.tuple #[v, .int .i64 (wrC d ws)]) ∧ OwP 2 22 w' w.heap.size w'.heap.size v (wrR d ws) ∧ Below w.heap.size w w' := by
  cases hp : withOk d ws with
  | false =>
    have hC : wrC d ws = 1 := by unfold wrC; rw [hp]; rfl
    have hR : wrR d ws = (0, []) := by unfold wrR; rw [hp]; rfl
    have hW : withC d ws = 1 := by unfold withC; rw [hp]; rfl
    obtain ⟨ro, rn, rc, rfl, hr⟩ := h
    go_enter Try.func59, Try.ntmps59
    have hb := below_alloc2 w (.cells #[.int .i64 d.1, .slice ro rn rc] 75) (.cells #[.int .i64 0, .slice none 0 0] 75)
    have kb : Blk ((w.alloc (.cells #[.int .i64 d.1, .slice ro rn rc] 75)).alloc (.cells #[.int .i64 0, .slice none 0 0] 75)) (w.heap.size + 1) 75 #[.int .i64 0, .slice none 0 0] := blk_at (by simp)
    have h1 : RdP ((w.alloc (.cells #[.int .i64 d.1, .slice ro rn rc] 75)).alloc (.cells #[.int .i64 0, .slice none 0 0] 75)) (.agg #[.int .i64 d.1, .slice ro rn rc]) d := ⟨ro, rn, rc, rfl, hr.below hb⟩
    have h2 := h'.below hb
    have HP := Lib.hid (And.intro hC (And.intro hR hW))
    clear hC hR hW hr h'
    go_wp2_with fail
    refine (specCode_any ao n c ws _ h1 h2).mono ?_
    rintro e w1 ⟨rfl, b1⟩
    rw [HP.out.2.2]
    have k1 := kb.belowS b1
    have y0 := k1.cell 0
    have y1 := k1.cell 1
    have f0 := k1.frozen 0
    have f1 := k1.frozen 1
    simp at y0 y1
    have B1 := below_tr b1 hb
    clear h1 h2 hb kb b1
    go_wp2_with fail
    have st2 := ((k1.set_ 0 (.int .i64 0)).set_ 1 (.slice none 0 0))
    have hbf := (B1.setCell (p := ⟨w.heap.size + 1, 0, none⟩) (by simp) (.int .i64 0)).setCell (p := ⟨w.heap.size + 1, 1, none⟩) (by simp) (.slice none 0 0)
    generalize (w1.setCell ⟨w.heap.size + 1, 0, none⟩ (.int .i64 0)).setCell ⟨w.heap.size + 1, 1, none⟩ (.slice none 0 0) = wf at *
    have e0 := st2.cell 0
    have e1 := st2.cell 1
    simp at e0 e1
    refine bodyPost_ret (v := .tuple #[.agg #[.int .i64 0, .slice none 0 0], .int .i64 1]) (by simp [results, Try.f59, go_sem, e0, e1]) rfl ⟨_, by rw [HP.out.1], ?_, hbf⟩
    rw [HP.out.2.1]
    exact ⟨none, 0, 0, [], rfl, OwR.empty_ (Own.nil_ _ _ _) (fun g hg => by cases hg)⟩
  | true =>
    have hC : wrC d ws = wrK (d.2 ++ ws) := by unfold wrC; rw [hp]; rfl
    have hR : wrR d ws = wrV d.1 (d.2 ++ ws) := by unfold wrR; rw [hp]; rfl
    have hW : withC d ws = 0 := by unfold withC; rw [hp]; rfl
    obtain ⟨hp1, hp2⟩ := withOk_pres hp
    obtain ⟨q1, q2, q3⟩ := isPres_few hp1
    obtain ⟨q4, q5⟩ := wordsTo_few hp2
    have hll : d.2.length + lenSS d.2 ≤ 1048576 := by have := lenSS_upto q3; omega
    obtain ⟨ro, rn, rc, rfl, hr⟩ := h
    go_enter Try.func59, Try.ntmps59
    have HLL := Lib.hid hll
    have hb := below_alloc2 w (.cells #[.int .i64 d.1, .slice ro rn rc] 75) (.cells #[.int .i64 0, .slice none 0 0] 75)
    have kp : Blk ((w.alloc (.cells #[.int .i64 d.1, .slice ro rn rc] 75)).alloc (.cells #[.int .i64 0, .slice none 0 0] 75)) w.heap.size 75 #[.int .i64 d.1, .slice ro rn rc] := (blk_at rfl).alloc _
    have kb : Blk ((w.alloc (.cells #[.int .i64 d.1, .slice ro rn rc] 75)).alloc (.cells #[.int .i64 0, .slice none 0 0] 75)) (w.heap.size + 1) 75 #[.int .i64 0, .slice none 0 0] := blk_at (by simp)
    have h1 : RdP ((w.alloc (.cells #[.int .i64 d.1, .slice ro rn rc] 75)).alloc (.cells #[.int .i64 0, .slice none 0 0] 75)) (.agg #[.int .i64 d.1, .slice ro rn rc]) d := ⟨ro, rn, rc, rfl, hr.below hb⟩
    have h2 := h'.below hb
    have HP := Lib.hid (And.intro hC (And.intro hR hW))
    have HR := Lib.hid hr
    have HI := Lib.hid h'
    have hn := h'.1
    have hrn := hr.1
    clear hC hR hW hr h'
    go_wp2_with fail
    refine (specCode_any ao n c ws _ h1 h2).mono ?_
    rintro e w1 ⟨rfl, b1⟩
    rw [HP.out.2.2]
    have k0 := kp.belowS b1
    have k1 := kb.belowS b1
    have z0 := k0.cell 0
    have z1 := k0.cell 1
    simp at z0 z1
    have B1 := below_tr b1 hb
    have s1 : w.heap.size + 2 ≤ w1.heap.size := by have := b1.size; simp at this; omega
    have K0 := Lib.hid k0
    have K1 := Lib.hid k1
    clear h1 h2 hb kb b1 kp k0 k1
    go_wp2_with fail
    rename_i K hK
    have tail : ∀ (bx lo : Nat) (wf : World) (a2 : Option Addr) (n2 c2 : Nat) (us2 : List Value), WsSt w wf (w.heap.size + 1) bx lo d.1 a2 n2 c2 us2 d.2 → K { tmps := #[.agg #[.int .i64 d.1, .slice ro rn rc], .slice ao n c, .pointer (some ⟨w.heap.size, 0, none⟩), undef, .pointer (some ⟨w.heap.size + 1, 0, none⟩), .int .i64 0, .int .i64 0, .pointer (some ⟨bx, 0, none⟩), undef, .agg #[.int .i64 d.1, .slice ro rn rc], .slice ao n c, .int .i64 0, .int .i64 0, .bool false, undef, undef, .pointer (some ⟨w.heap.size, 0, none⟩), .int .i64 d.1, .pointer (some ⟨w.heap.size, 1, none⟩), .slice ro rn rc, .slice a2 n2 c2, .agg #[.int .i64 d.1, .slice a2 n2 c2], undef, undef, undef, undef, undef, undef, undef, undef, undef, undef, undef, undef, undef, undef, undef, undef, undef, undef, undef, undef, undef, undef, undef, undef, undef, undef, undef, undef], defers := [] } wf := by
      intro bx lo wf a2 n2 c2 us2 st0
      refine hK _ _ ?_
      clear hK z0 z1 B1 s1 K0 K1
      go_wp2_with fail
      go_loopw [8] (fun i wr => ∃ (k m : Nat) (ao' : Option Addr) (c' : Nat) (us : List Value), i = .int .i64 k ∧ k ≤ n ∧ WsSt w wr (w.heap.size + 1) bx lo d.1 ao' m c' us (d.2 ++ neL (ws.take k))) (fun i _ => n - (intOf i).toNat)
      case atStart => exact ⟨0, n2, a2, c2, us2, rfl, Nat.zero_le _, by rw [show neL (ws.take 0) = [] from rfl, List.append_nil]; exact st0⟩
      case round =>
        obtain ⟨k, m, ao', c', us, rfl, hk, st⟩ := hrel
        clear st0
        by_cases hlt : k < n
        · obtain ⟨b, off, a1, n1, c1, rfl, hc, hi⟩ := (HI.out.below st.below).at_ hlt
          have x0 := st.box.cell 0
          have x1 := st.box.cell 1
          have f1 := st.box.frozen 1
          simp at x0 x1
          have ST := Lib.hid st
          have HT := Lib.hid (neL_succ (zss := ws) (k := k) (by omega))
          have hil := hi.1
          have hmem : lget ws k ∈ ws := by rw [lget_lt (by omega)]; exact List.getElem_mem _
          have hn1 : n1 ≤ 64 := by have := q5 _ hmem; omega
          have hm : m + 1 ≤ 1000 := by have h1 := st.row.len; have h2 := neL_len (ws.take k); rw [List.length_take] at h2; rw [List.length_append] at h1; omega
          have HM := Lib.hid hm
          have hI : Ints wr.drew a1 n1 (lget ws k) := hi.below (below_drew1 _)
          have HII := Lib.hid hI
          have hpos := st.at_
          have hbx := st.box.lt
          clear st hi hmem hm hI
          by_cases h0 : 0 < n1
          · have HO : Hid ((if 0 < (lget ws k).length then [lget ws k] else []) = [lget ws k]) := Lib.hid (if_pos (by omega))
            clear hil
            go_wp2_with fail
            go_region_law (first | (refine step_ap1 (o := ⟨some 42, _, _, _, _, _⟩) etSS rfl (.tmp 35) (.tmp 41) rfl lo ao' m c' us rfl (ST.out.row.own.below B3) (.slice a2' n1 c2') w2.heap.size 1 rfl ((blk_at rfl).cell 0) rfl (by have := HM.out; omega) (by have := B3.size; simp at *; omega) ?_; intro ao2 c3 w4 o4 g4 hat; have B4 : Below lo wr w4 := ((B3.mono hpos.2.2.2.2).grown g4 (by have := B3.size; omega) (fun g hg => (ST.out.row.own.lt g hg).1)); have k4 : Blk w4 bx 75 #[.int .i64 d.1, .slice ao' m c'] := (g4.block bx (by have := B3.size; omega) (fun e => ST.out.far.1 e.symm)).trans (ST.out.box.belowS B3); have x4 : w4.cell? ⟨bx, 1, none⟩ = some (.slice ao' m c') := k4.cell 1; have f4 : w4.frozen? ⟨bx, 1, none⟩ = false := k4.frozen 1) | (go_simp; go_at_call 123; refine (own_any a1 n1 c1 (lget ws k) _ HII.out (by omega)).mono ?_; rintro e w2 ⟨a2', c2', rfl, o1, b1⟩; have B2 : Below wr.heap.size wr w2 := below_tr b1 (below_drew1 _); have B3 : Below wr.heap.size wr (w2.alloc (.cells #[.slice a2' n1 c2'] 22)) := B2.alloc B2.size _; have x2 : w2.cell? ⟨bx, 1, none⟩ = some (.slice ao' m c') := (ST.out.box.belowS B2).cell 1; have x3 : (w2.alloc (.cells #[.slice a2' n1 c2'] 22)).cell? ⟨bx, 1, none⟩ = some (.slice ao' m c') := (ST.out.box.belowS B3).cell 1))
            all_goals
              have st2 := ST.out.push HM.out B2 (o1.mono (Nat.le_of_eq (by rfl))) (below_alloc1 _ _) o4 g4 hat
              have hs4 := B4.size
              generalize w4.setCell ⟨bx, 1, none⟩ (.slice ao2 (m + 1) c3) = wf2 at *
              clear B2 B3 B4 x0 x1 x2 x3 x4 k4 f1 f4 o1 b1 o4 g4 hat ST
              go_wp2_with fail
              go_roundw
              case rel => exact ⟨k + 1, m + 1, ao2, c3, _, by go_num, by omega, by rw [HT.out, HO.out, ← List.append_assoc]; exact st2⟩
              case measure => simp [intOf]; omega
          · have HO : Hid ((if 0 < (lget ws k).length then [lget ws k] else []) = []) := Lib.hid (if_neg (by omega))
            obtain rfl : n1 = 0 := by omega
            clear hil
            go_wp2_with fail
            go_roundw
            case rel => exact ⟨k + 1, m, ao', c', us, by go_num, by omega, by rw [HT.out, HO.out, List.append_nil]; exact ST.out⟩
            case measure => simp [intOf]; omega
        · obtain rfl : k = n := by omega
          have x0 := st.box.cell 0
          have x1 := st.box.cell 1
          have y0 := st.res.cell 0
          have y1 := st.res.cell 1
          have f0 := st.res.frozen 0
          have f1 := st.res.frozen 1
          simp at x0 x1 y0 y1
          have hlen := st.row.len
          have hTZ : ws.take k = ws := List.take_of_length_le (by omega)
          rw [hTZ] at st hlen
          have hNE : d.2 ++ neL ws = neL (d.2 ++ ws) := by rw [neL_app, q2]
          rw [hNE] at st hlen
          have ST := Lib.hid st
          have HLEN := Lib.hid hlen
          clear st hlen hNE
          by_cases h24 : m ≤ 24
          · have c24 : decide ((m : Int) > 24) = false := by simp; omega
            have h24z : (neL (d.2 ++ ws)).length ≤ 24 := by rw [HLEN.out]; exact h24
            have hK : wrC d ws = 0 := by rw [HP.out.1]; unfold wrK; rw [if_pos h24z]
            have hV : wrR d ws = (d.1, neL (d.2 ++ ws)) := by rw [HP.out.2.1]; unfold wrV; rw [if_pos h24z]
            have HK := Lib.hid (And.intro hK hV)
            clear hK hV h24z
            go_wp2_with fail
            have st2 := ST.out.done d.1 (.slice ao' m c')
            have hpos := ST.out.at_
            generalize (wr.setCell ⟨w.heap.size + 1, 0, none⟩ (.int .i64 d.1)).setCell ⟨w.heap.size + 1, 1, none⟩ (.slice ao' m c') = wf2 at *
            have e0 := st2.1.cell 0
            have e1 := st2.1.cell 1
            simp at e0 e1
            refine bodyPost_ret (v := .tuple #[.agg #[.int .i64 d.1, .slice ao' m c'], .int .i64 0]) (by simp [results, Try.f59, go_sem, e0, e1]) rfl ⟨_, by rw [HK.out.1], ?_, st2.2.2⟩
            rw [HK.out.2]
            exact ⟨ao', m, c', us, rfl, st2.2.1.mono (by omega) (Nat.le_refl _)⟩
          · have c24 : decide ((m : Int) > 24) = true := by simp; omega
            have h24z : ¬ (neL (d.2 ++ ws)).length ≤ 24 := by rw [HLEN.out]; exact h24
            have hK : wrC d ws = 3 := by rw [HP.out.1]; unfold wrK; rw [if_neg h24z]
            have hV : wrR d ws = (0, []) := by rw [HP.out.2.1]; unfold wrV; rw [if_neg h24z]
            have HK := Lib.hid (And.intro hK hV)
            clear hK hV h24z
            go_wp2_with fail
            have st2 := ST.out.done 0 (.slice none 0 0)
            generalize (wr.setCell ⟨w.heap.size + 1, 0, none⟩ (.int .i64 0)).setCell ⟨w.heap.size + 1, 1, none⟩ (.slice none 0 0) = wf2 at *
            have e0 := st2.1.cell 0
            have e1 := st2.1.cell 1
            simp at e0 e1
            refine bodyPost_ret (v := .tuple #[.agg #[.int .i64 0, .slice none 0 0], .int .i64 3]) (by simp [results, Try.f59, go_sem, e0, e1]) rfl ⟨_, by rw [HK.out.1], ?_, st2.2.2⟩
            rw [HK.out.2]
            exact ⟨none, 0, 0, [], rfl, OwR.empty_ (Own.nil_ _ _ _) (fun g hg => by cases hg)⟩
    have za0 : (w1.alloc (.cells #[.int .i64 0, .slice none 0 0] 75)).cell? ⟨w.heap.size, 0, none⟩ = some (.int .i64 d.1) := (K0.out.alloc _).cell 0
    have za1 : (w1.alloc (.cells #[.int .i64 0, .slice none 0 0] 75)).cell? ⟨w.heap.size, 1, none⟩ = some (.slice ro rn rc) := (K0.out.alloc _).cell 1
    go_region_law (go_simp; go_at_call 122; refine (own2_any ro rn rc d.2 _ (HR.out.below (below_tr (by first | exact below_drew1 _ | exact (below_drew1 _).alloc (by simp) _) B1)) HLL.out).mono ?_; rintro e w2 ⟨v2, rfl, ⟨a2, n2, c2, us2, rfl, o2⟩, b2⟩; (try have kx : Blk w2 w1.heap.size 75 #[.int .i64 0, .slice none 0 0] := Blk.belowS (w := (w1.alloc (.cells #[.int .i64 0, .slice none 0 0] 75)).drew) (blk_at (w := w1) rfl :) b2); (try have kx0 := kx.cell 0); (try have kx1 := kx.cell 1); (try have kf0 := kx.frozen 0); (try have kf1 := kx.frozen 1); (try simp at kx0 kx1); have kz := K0.out.belowS (below_tr b2 (by first | exact below_drew1 _ | exact (below_drew1 _).alloc (by simp) _)); have z0' : w2.cell? ⟨w.heap.size, 0, none⟩ = some (.int .i64 d.1) := kz.cell 0; have z0'' : (w2.alloc (.cells #[.int .i64 0, .slice none 0 0] 75)).cell? ⟨w.heap.size, 0, none⟩ = some (.int .i64 d.1) := (kz.alloc _).cell 0)
    all_goals first
      | exact tail _ _ _ _ _ _ _ (WsSt.start1 K1.out B1 (by omega) (below_tr b2 (below_drew1 _)) o2 (by have := o2.len; omega))
      | exact tail _ _ _ _ _ _ _ (WsSt.start2 K1.out B1 (by omega) (below_tr b2 (below_drew1 _)) (by first | simp | (show (w1.alloc _).heap.size = _; simp)) o2 (by have := o2.len; omega))
end Go.Proofs.Ytnfkhgamnapgmaa

/- WithRelators, the program's. -/
namespace Go.Proofs.Ytnfkhgamnapgmaa
open Go.RowKit

set_option maxRecDepth 100000 in
set_option maxHeartbeats 3200000 in
theorem withW_any {v : Value} {d : PresD} (ao : Option Addr) (n c : Nat) (ws : List (List Int)) (w : World) (h : RdP w v d) (h' : Intss w ao n ws) :
    Calls Try.prog 61 #[v, .slice ao n c] w fun e w' => ∃ v, e = .returned (.tuple #[v, .int .i64 (wrC d ws)]) ∧ OwP 2 22 w' w.heap.size w'.heap.size v (wrR d ws) ∧ Below w.heap.size w w' := by
  obtain ⟨ro, rn, rc, rfl, hr⟩ := h
  have hb := below_alloc2 w (.cells #[.int .i64 d.1, .slice ro rn rc] 75) (.cells #[.int .i64 0, .slice none 0 0] 75)
  have kp : Blk ((w.alloc (.cells #[.int .i64 d.1, .slice ro rn rc] 75)).alloc (.cells #[.int .i64 0, .slice none 0 0] 75)) w.heap.size 75 #[.int .i64 d.1, .slice ro rn rc] := (blk_at rfl).alloc _
  have kb : Blk ((w.alloc (.cells #[.int .i64 d.1, .slice ro rn rc] 75)).alloc (.cells #[.int .i64 0, .slice none 0 0] 75)) (w.heap.size + 1) 75 #[.int .i64 0, .slice none 0 0] := blk_at (by simp)
  have h1 : RdP ((w.alloc (.cells #[.int .i64 d.1, .slice ro rn rc] 75)).alloc (.cells #[.int .i64 0, .slice none 0 0] 75)) (.agg #[.int .i64 d.1, .slice ro rn rc]) d := ⟨ro, rn, rc, rfl, hr.below hb⟩
  have h2 := h'.below hb
  have HR := Lib.hid hr
  have HI := Lib.hid h'
  cases hp : withOk d ws with
  | false =>
    have hC : wrC d ws = 1 := by unfold wrC; rw [hp]; rfl
    have hR : wrR d ws = (0, []) := by unfold wrR; rw [hp]; rfl
    have hW : withC d ws = 1 := by unfold withC; rw [hp]; rfl
    have HP := Lib.hid (And.intro hC (And.intro hR hW))
    clear hC hR hW hr h'
    go_enter Try.func61, Try.ntmps61
    go_wp2_with fail
    refine (implCode_any ao n c ws _ h1 h2).mono ?_
    rintro e w1 ⟨rfl, b1⟩
    rw [HP.out.2.2]
    have k1 := kb.belowS b1
    have y0 := k1.cell 0
    have y1 := k1.cell 1
    have f0 := k1.frozen 0
    have f1 := k1.frozen 1
    simp at y0 y1
    have B1 := below_tr b1 hb
    clear h1 h2 hb kb b1 kp
    go_wp2_with fail
    have st2 := ((k1.set_ 0 (.int .i64 0)).set_ 1 (.slice none 0 0))
    have hbf := (B1.setCell (p := ⟨w.heap.size + 1, 0, none⟩) (by simp) (.int .i64 0)).setCell (p := ⟨w.heap.size + 1, 1, none⟩) (by simp) (.slice none 0 0)
    generalize (w1.setCell ⟨w.heap.size + 1, 0, none⟩ (.int .i64 0)).setCell ⟨w.heap.size + 1, 1, none⟩ (.slice none 0 0) = wf at *
    have e0 := st2.cell 0
    have e1 := st2.cell 1
    simp at e0 e1
    refine bodyPost_ret (v := .tuple #[.agg #[.int .i64 0, .slice none 0 0], .int .i64 1]) (by simp [results, Try.f61, go_sem, e0, e1]) rfl ⟨_, by rw [HP.out.1], ?_, hbf⟩
    rw [HP.out.2.1]
    exact ⟨none, 0, 0, [], rfl, OwR.empty_ (Own.nil_ _ _ _) (fun g hg => by cases hg)⟩
  | true =>
    have hC : wrC d ws = wrK (d.2 ++ ws) := by unfold wrC; rw [hp]; rfl
    have hR : wrR d ws = wrV d.1 (d.2 ++ ws) := by unfold wrR; rw [hp]; rfl
    have hW : withC d ws = 0 := by unfold withC; rw [hp]; rfl
    obtain ⟨hp1, hp2⟩ := withOk_pres hp
    obtain ⟨q1, q2, q3⟩ := isPres_few hp1
    obtain ⟨q4, q5⟩ := wordsTo_few hp2
    have hg := isPres_gens hp1
    have HG := Lib.hid hg
    clear hg
    have HP := Lib.hid (And.intro hC (And.intro hR hW))
    have hn := h'.1
    have hrn := hr.1
    clear hC hR hW hr h'
    go_enter Try.func61, Try.ntmps61
    go_wp2_with fail
    refine (implCode_any ao n c ws _ h1 h2).mono ?_
    rintro e w1 ⟨rfl, b1⟩
    rw [HP.out.2.2]
    have k0 := kp.belowS b1
    have k1 := kb.belowS b1
    have z0 := k0.cell 0
    have z1 := k0.cell 1
    simp at z0 z1
    have B1 := below_tr b1 hb
    have s1 : w.heap.size + 2 ≤ w1.heap.size := by have := b1.size; simp at this; omega
    have K1 := Lib.hid k1
    clear h1 h2 hb kb b1 kp k0 k1
    go_wp2_with fail
    have hg := HG.out
    obtain ⟨N, hN⟩ : ∃ N : Nat, d.1 = (N : Int) := ⟨d.1.toNat, by omega⟩
    rw [hN]
    refine (withI_any N (by omega) ro ao rn rc n c d.2 ws _ (HR.out.below B1) (HI.out.below B1) (by omega) (by omega) (fun z hz => ?_)).mono ?_
    · rcases List.mem_append.1 hz with h | h
      · have := q3 z h; omega
      · have := q5 z h; omega
    rintro e w2 ⟨v2, rfl, ⟨a2, n2, c2, us2, rfl, o2⟩, b2⟩
    have k1 := K1.out.belowS b2
    have y0 := k1.cell 0
    have y1 := k1.cell 1
    have f0 := k1.frozen 0
    have f1 := k1.frozen 1
    simp at y0 y1
    have B2 := below_tr b2 B1
    have s2 := b2.size
    clear z0 z1
    go_wp2_with fail
    obtain ⟨D, hD⟩ : ∃ D, D = wrV N (d.2 ++ ws) := ⟨_, rfl⟩
    rw [← hD] at o2 ⊢
    have hDR : wrR d ws = D := by rw [HP.out.2.1, hD, hN]
    have hDC := HP.out.1
    rw [hDC, hDR]
    have st2 := (k1.set_ 0 (.int .i64 D.1)).set_ 1 (.slice a2 n2 c2)
    have hbf := (B2.setCell (p := ⟨w.heap.size + 1, 0, none⟩) (by simp) (.int .i64 D.1)).setCell (p := ⟨w.heap.size + 1, 1, none⟩) (by simp) (.slice a2 n2 c2)
    have hrow := o2.same (w' := (w2.setCell ⟨w.heap.size + 1, 0, none⟩ (.int .i64 D.1)).setCell ⟨w.heap.size + 1, 1, none⟩ (.slice a2 n2 c2)) (innerS _) fun g h1 _ _ => by rw [Below.heap_setCell _ _ _ _ (by simp; omega), Below.heap_setCell _ _ _ _ (by simp; omega)]
    have hh : ((w2.setCell ⟨w.heap.size + 1, 0, none⟩ (.int .i64 D.1)).setCell ⟨w.heap.size + 1, 1, none⟩ (.slice a2 n2 c2)).heap.size = w2.heap.size := by simp [World.setCell]
    generalize (w2.setCell ⟨w.heap.size + 1, 0, none⟩ (.int .i64 D.1)).setCell ⟨w.heap.size + 1, 1, none⟩ (.slice a2 n2 c2) = wf at *
    have e0 := st2.cell 0
    have e1 := st2.cell 1
    simp at e0 e1
    refine bodyPost_ret (v := .tuple #[.agg #[.int .i64 D.1, .slice a2 n2 c2], .int .i64 (wrK (d.2 ++ ws))]) (by simp [results, Try.f61, go_sem, e0, e1]) rfl ⟨_, rfl, ?_, hbf⟩
    exact ⟨a2, n2, c2, us2, rfl, hrow.mono (by omega) (by omega)⟩
end Go.Proofs.Ytnfkhgamnapgmaa

/- WithRelators: the contracts that the law calls. -/
namespace Go.Proofs.Ytnfkhgamnapgmaa
open Go.RowKit

theorem wrR_small (d : PresD) (ws : List (List Int)) : lenSS (wrR d ws).2 ≤ 24 * 64 := by
  unfold wrR
  split
  · rename_i h
    obtain ⟨h1, h2⟩ := withOk_pres h
    obtain ⟨q1, q2, q3⟩ := isPres_few h1
    obtain ⟨q4, q5⟩ := wordsTo_few h2
    unfold wrV
    split
    · rename_i h24
      refine Nat.le_trans (lenSS_upto (k := 64) fun z hz => ?_) (Nat.mul_le_mul_right _ h24)
      rcases List.mem_append.1 (List.mem_filter.1 hz).1 with h | h
      · exact q3 z h
      · exact q5 z h
    · simp [lenSS]
  · simp [lenSS]
theorem api_specWR {v v' : Value} {d : PresD} {qs : List (List Int)} (w : World) (h : RdP w v d) (h' : RdSS w v' qs) :
    Calls Try.prog 59 #[v, v'] w fun e w' => ∃ v, e = .returned (.tuple #[v, .int .i64 (wrC d qs)]) ∧ OwP 2 22 w' w.heap.size w'.heap.size v (wrR d qs) ∧ Below w.heap.size w w' := by
  obtain ⟨ao, n, c, rfl, hi⟩ := h'
  exact withS_any ao n c qs w h hi
theorem api_implWR {v v' : Value} {d : PresD} {qs : List (List Int)} (w : World) (h : RdP w v d) (h' : RdSS w v' qs) :
    Calls Try.prog 61 #[v, v'] w fun e w' => ∃ v, e = .returned (.tuple #[v, .int .i64 (wrC d qs)]) ∧ OwP 2 22 w' w.heap.size w'.heap.size v (wrR d qs) ∧ Below w.heap.size w w' := by
  obtain ⟨ao, n, c, rfl, hi⟩ := h'
  exact withW_any ao n c qs w h hi
end Go.Proofs.Ytnfkhgamnapgmaa

/- The walk of FnExactWithRelators: true, whatever the arguments. Written by genwalk.py. -/
namespace Go.Proofs.Ytnfkhgamnapgmaa
open Go.RowKit

set_option maxHeartbeats 3200000 in
theorem walkWithRelators {v0 : Value} {d : PresD} {v1 : Value} {qs : List (List Int)} (w : World) (h0 : RdP w v0 d) (h1 : RdSS w v1 qs) :
    Calls Try.prog 14 #[v0, v1] w fun e w' => e = .returned (.bool true) ∧ Below w.heap.size w w' := by
  have hsz := wrR_small d qs
  obtain ⟨a0, n0, c0, rfl, hi0⟩ := h0
  have h0 : RdP w (.agg #[.int .i64 d.1, .slice a0 n0 c0]) d := ⟨a0, n0, c0, rfl, hi0⟩
  clear hi0
  have B0 : Below w.heap.size w (w.alloc (.cells #[.int .i64 d.1, .slice a0 n0 c0] 73)) := below_alloc1 w _
  have kb0_0 : Blk (w.alloc (.cells #[.int .i64 d.1, .slice a0 n0 c0] 73)) (w.heap.size) 73 #[.int .i64 d.1, .slice a0 n0 c0] := (blk_at rfl)
  by_cases hx0 : budget1 1048576 (d.2.length + lenSS d.2) < 0
  · go_enter Try.func14, Try.ntmps14
    go_wp2_with fail
    refine (law_usP (1048576) _ (h0.below B0) (by omega) (by omega)).mono ?_
    rintro e w1 ⟨rfl, b1⟩
    have s1 := b1.size
    have B1 : Below w.heap.size w w1 := B0.trans (b1.mono B0.size)
    have kb0_1 : Blk w1 (w.heap.size) 73 #[.int .i64 d.1, .slice a0 n0 c0] := (kb0_0.belowS b1)
    have xkb0_1_0 : w1.cell? ⟨w.heap.size, 0, none⟩ = some (.int .i64 d.1) := kb0_1.cell 0
    have xkb0_1_1 : w1.cell? ⟨w.heap.size, 1, none⟩ = some (.slice a0 n0 c0) := kb0_1.cell 1
    have lkb0_1 : w.heap.size < w1.heap.size := kb0_1.lt
    go_wp2
    go_ret
    exact ⟨rfl, B1⟩
  · obtain ⟨ht0, he0⟩ := budget1_at hx0
    have hn0 : 0 ≤ budget1 1048576 (d.2.length + lenSS d.2) := by omega
    have hm0 : budget1 1048576 (d.2.length + lenSS d.2) ≤ 1048576 := by omega
    have HE0 := Lib.hid he0
    clear he0 hx0
    by_cases hx1 : budget1 (budget1 1048576 (d.2.length + lenSS d.2)) (qs.length + lenSS qs) < 0
    · go_enter Try.func14, Try.ntmps14
      go_wp2_with fail
      refine (law_usP (1048576) _ (h0.below B0) (by omega) (by omega)).mono ?_
      rintro e w1 ⟨rfl, b1⟩
      have s1 := b1.size
      have B1 : Below w.heap.size w w1 := B0.trans (b1.mono B0.size)
      have kb0_1 : Blk w1 (w.heap.size) 73 #[.int .i64 d.1, .slice a0 n0 c0] := (kb0_0.belowS b1)
      have xkb0_1_0 : w1.cell? ⟨w.heap.size, 0, none⟩ = some (.int .i64 d.1) := kb0_1.cell 0
      have xkb0_1_1 : w1.cell? ⟨w.heap.size, 1, none⟩ = some (.slice a0 n0 c0) := kb0_1.cell 1
      have lkb0_1 : w.heap.size < w1.heap.size := kb0_1.lt
      go_wp2_with fail
      refine (law_usSS (budget1 1048576 (d.2.length + lenSS d.2)) _ (h1.below B1) (by omega) (by omega)).mono ?_
      rintro e w2 ⟨rfl, b2⟩
      have s2 := b2.size
      have B2 : Below w.heap.size w w2 := B1.trans (b2.mono B1.size)
      have kb0_2 : Blk w2 (w.heap.size) 73 #[.int .i64 d.1, .slice a0 n0 c0] := (kb0_1.belowS b2)
      have xkb0_2_0 : w2.cell? ⟨w.heap.size, 0, none⟩ = some (.int .i64 d.1) := kb0_2.cell 0
      have xkb0_2_1 : w2.cell? ⟨w.heap.size, 1, none⟩ = some (.slice a0 n0 c0) := kb0_2.cell 1
      have lkb0_2 : w.heap.size < w2.heap.size := kb0_2.lt
      clear xkb0_1_0 xkb0_1_1
      go_wp2
      go_ret
      exact ⟨rfl, B2⟩
    · obtain ⟨ht1, he1⟩ := budget1_at hx1
      have hn1 : 0 ≤ budget1 (budget1 1048576 (d.2.length + lenSS d.2)) (qs.length + lenSS qs) := by omega
      have hm1 : budget1 (budget1 1048576 (d.2.length + lenSS d.2)) (qs.length + lenSS qs) ≤ 1048576 := by omega
      have HE1 := Lib.hid he1
      clear he1 hx1
      go_enter Try.func14, Try.ntmps14
      go_wp2_with fail
      refine (law_usP (1048576) _ (h0.below B0) (by omega) (by omega)).mono ?_
      rintro e w1 ⟨rfl, b1⟩
      have s1 := b1.size
      have B1 : Below w.heap.size w w1 := B0.trans (b1.mono B0.size)
      have kb0_1 : Blk w1 (w.heap.size) 73 #[.int .i64 d.1, .slice a0 n0 c0] := (kb0_0.belowS b1)
      have xkb0_1_0 : w1.cell? ⟨w.heap.size, 0, none⟩ = some (.int .i64 d.1) := kb0_1.cell 0
      have xkb0_1_1 : w1.cell? ⟨w.heap.size, 1, none⟩ = some (.slice a0 n0 c0) := kb0_1.cell 1
      have lkb0_1 : w.heap.size < w1.heap.size := kb0_1.lt
      go_wp2_with fail
      refine (law_usSS (budget1 1048576 (d.2.length + lenSS d.2)) _ (h1.below B1) (by omega) (by omega)).mono ?_
      rintro e w2 ⟨rfl, b2⟩
      have s2 := b2.size
      have B2 : Below w.heap.size w w2 := B1.trans (b2.mono B1.size)
      have kb0_2 : Blk w2 (w.heap.size) 73 #[.int .i64 d.1, .slice a0 n0 c0] := (kb0_1.belowS b2)
      have xkb0_2_0 : w2.cell? ⟨w.heap.size, 0, none⟩ = some (.int .i64 d.1) := kb0_2.cell 0
      have xkb0_2_1 : w2.cell? ⟨w.heap.size, 1, none⟩ = some (.slice a0 n0 c0) := kb0_2.cell 1
      have lkb0_2 : w.heap.size < w2.heap.size := kb0_2.lt
      clear xkb0_1_0 xkb0_1_1
      go_wp2_with fail
      refine (law_toP _ (h0.below B2) (by omega)).mono ?_
      rintro e w3 ⟨u3, rfl, o3, b3⟩
      have s3 := b3.size
      have B3 : Below w.heap.size w w3 := B2.trans (b3.mono B2.size)
      have kb0_3 : Blk w3 (w.heap.size) 73 #[.int .i64 d.1, .slice a0 n0 c0] := (kb0_2.belowS b3)
      have xkb0_3_0 : w3.cell? ⟨w.heap.size, 0, none⟩ = some (.int .i64 d.1) := kb0_3.cell 0
      have xkb0_3_1 : w3.cell? ⟨w.heap.size, 1, none⟩ = some (.slice a0 n0 c0) := kb0_3.cell 1
      have lkb0_3 : w.heap.size < w3.heap.size := kb0_3.lt
      clear xkb0_2_0 xkb0_2_1
      go_wp2_with fail
      refine (law_toSS _ (h1.below B3) (by omega)).mono ?_
      rintro e w4 ⟨u4, rfl, o4, b4⟩
      have s4 := b4.size
      have B4 : Below w.heap.size w w4 := B3.trans (b4.mono B3.size)
      have kb0_4 : Blk w4 (w.heap.size) 73 #[.int .i64 d.1, .slice a0 n0 c0] := (kb0_3.belowS b4)
      have xkb0_4_0 : w4.cell? ⟨w.heap.size, 0, none⟩ = some (.int .i64 d.1) := kb0_4.cell 0
      have xkb0_4_1 : w4.cell? ⟨w.heap.size, 1, none⟩ = some (.slice a0 n0 c0) := kb0_4.cell 1
      have lkb0_4 : w.heap.size < w4.heap.size := kb0_4.lt
      clear xkb0_3_0 xkb0_3_1
      go_wp2_with fail
      refine (api_specWR  _ (o3.below b4).rd o4.rd ).mono ?_
      rintro e w5 ⟨u5_0, rfl, o5_0, b5⟩
      obtain ⟨au5_0, nu5_0, cu5_0, rfl⟩ := o5_0.form
      have s5 := b5.size
      have B5 : Below w.heap.size w w5 := B4.trans (b5.mono B4.size)
      have kb0_5 : Blk w5 (w.heap.size) 73 #[.int .i64 d.1, .slice a0 n0 c0] := (kb0_4.belowS b5)
      have xkb0_5_0 : w5.cell? ⟨w.heap.size, 0, none⟩ = some (.int .i64 d.1) := kb0_5.cell 0
      have xkb0_5_1 : w5.cell? ⟨w.heap.size, 1, none⟩ = some (.slice a0 n0 c0) := kb0_5.cell 1
      have lkb0_5 : w.heap.size < w5.heap.size := kb0_5.lt
      clear xkb0_4_0 xkb0_4_1
      go_wp2_with fail
      have bx6 := below_alloc1 w5 (.cells #[.int .i64 (wrR d qs).1, .slice au5_0 nu5_0 cu5_0] 75)
      have kbw0_6 : Blk (w5.alloc (.cells #[.int .i64 (wrR d qs).1, .slice au5_0 nu5_0 cu5_0] 75)) w5.heap.size 75 #[.int .i64 (wrR d qs).1, .slice au5_0 nu5_0 cu5_0] := blk_at rfl
      generalize w5.alloc (.cells #[.int .i64 (wrR d qs).1, .slice au5_0 nu5_0 cu5_0] 75) = w6 at *
      have s6 := bx6.size
      have B6 : Below w.heap.size w w6 := B5.trans (bx6.mono B5.size)
      have kb0_6 : Blk w6 (w.heap.size) 73 #[.int .i64 d.1, .slice a0 n0 c0] := (kb0_5.belowS bx6)
      have xkb0_6_0 : w6.cell? ⟨w.heap.size, 0, none⟩ = some (.int .i64 d.1) := kb0_6.cell 0
      have xkb0_6_1 : w6.cell? ⟨w.heap.size, 1, none⟩ = some (.slice a0 n0 c0) := kb0_6.cell 1
      have lkb0_6 : w.heap.size < w6.heap.size := kb0_6.lt
      have xkbw0_6_0 : w6.cell? ⟨w5.heap.size, 0, none⟩ = some (.int .i64 (wrR d qs).1) := kbw0_6.cell 0
      have xkbw0_6_1 : w6.cell? ⟨w5.heap.size, 1, none⟩ = some (.slice au5_0 nu5_0 cu5_0) := kbw0_6.cell 1
      have lkbw0_6 : w5.heap.size < w6.heap.size := kbw0_6.lt
      clear xkb0_5_0 xkb0_5_1
      refine (law_toP _ (h0.below B6) (by omega)).mono ?_
      rintro e w7 ⟨u7, rfl, o7, b7⟩
      obtain ⟨au7, nu7, cu7, rfl⟩ := o7.form
      have s7 := b7.size
      have B7 : Below w.heap.size w w7 := B6.trans (b7.mono B6.size)
      have kb0_7 : Blk w7 (w.heap.size) 73 #[.int .i64 d.1, .slice a0 n0 c0] := (kb0_6.belowS b7)
      have xkb0_7_0 : w7.cell? ⟨w.heap.size, 0, none⟩ = some (.int .i64 d.1) := kb0_7.cell 0
      have xkb0_7_1 : w7.cell? ⟨w.heap.size, 1, none⟩ = some (.slice a0 n0 c0) := kb0_7.cell 1
      have lkb0_7 : w.heap.size < w7.heap.size := kb0_7.lt
      have kbw0_7 : Blk w7 (w5.heap.size) 75 #[.int .i64 (wrR d qs).1, .slice au5_0 nu5_0 cu5_0] := (kbw0_6.belowS b7)
      have xkbw0_7_0 : w7.cell? ⟨w5.heap.size, 0, none⟩ = some (.int .i64 (wrR d qs).1) := kbw0_7.cell 0
      have xkbw0_7_1 : w7.cell? ⟨w5.heap.size, 1, none⟩ = some (.slice au5_0 nu5_0 cu5_0) := kbw0_7.cell 1
      have lkbw0_7 : w5.heap.size < w7.heap.size := kbw0_7.lt
      clear xkb0_6_0 xkb0_6_1 xkbw0_6_0 xkbw0_6_1
      go_wp2_with fail
      have bx8 := below_alloc1 w7 (.cells #[.int .i64 d.1, .slice au7 nu7 cu7] 75)
      have kbx0_8 : Blk (w7.alloc (.cells #[.int .i64 d.1, .slice au7 nu7 cu7] 75)) w7.heap.size 75 #[.int .i64 d.1, .slice au7 nu7 cu7] := blk_at rfl
      generalize w7.alloc (.cells #[.int .i64 d.1, .slice au7 nu7 cu7] 75) = w8 at *
      have s8 := bx8.size
      have B8 : Below w.heap.size w w8 := B7.trans (bx8.mono B7.size)
      have kb0_8 : Blk w8 (w.heap.size) 73 #[.int .i64 d.1, .slice a0 n0 c0] := (kb0_7.belowS bx8)
      have xkb0_8_0 : w8.cell? ⟨w.heap.size, 0, none⟩ = some (.int .i64 d.1) := kb0_8.cell 0
      have xkb0_8_1 : w8.cell? ⟨w.heap.size, 1, none⟩ = some (.slice a0 n0 c0) := kb0_8.cell 1
      have lkb0_8 : w.heap.size < w8.heap.size := kb0_8.lt
      have kbw0_8 : Blk w8 (w5.heap.size) 75 #[.int .i64 (wrR d qs).1, .slice au5_0 nu5_0 cu5_0] := (kbw0_7.belowS bx8)
      have xkbw0_8_0 : w8.cell? ⟨w5.heap.size, 0, none⟩ = some (.int .i64 (wrR d qs).1) := kbw0_8.cell 0
      have xkbw0_8_1 : w8.cell? ⟨w5.heap.size, 1, none⟩ = some (.slice au5_0 nu5_0 cu5_0) := kbw0_8.cell 1
      have lkbw0_8 : w5.heap.size < w8.heap.size := kbw0_8.lt
      have xkbx0_8_0 : w8.cell? ⟨w7.heap.size, 0, none⟩ = some (.int .i64 d.1) := kbx0_8.cell 0
      have xkbx0_8_1 : w8.cell? ⟨w7.heap.size, 1, none⟩ = some (.slice au7 nu7 cu7) := kbx0_8.cell 1
      have lkbx0_8 : w7.heap.size < w8.heap.size := kbx0_8.lt
      clear xkb0_7_0 xkb0_7_1 xkbw0_7_0 xkbw0_7_1
      refine (law_toSS _ (h1.below B8) (by omega)).mono ?_
      rintro e w9 ⟨u9, rfl, o9, b9⟩
      have s9 := b9.size
      have B9 : Below w.heap.size w w9 := B8.trans (b9.mono B8.size)
      have kb0_9 : Blk w9 (w.heap.size) 73 #[.int .i64 d.1, .slice a0 n0 c0] := (kb0_8.belowS b9)
      have xkb0_9_0 : w9.cell? ⟨w.heap.size, 0, none⟩ = some (.int .i64 d.1) := kb0_9.cell 0
      have xkb0_9_1 : w9.cell? ⟨w.heap.size, 1, none⟩ = some (.slice a0 n0 c0) := kb0_9.cell 1
      have lkb0_9 : w.heap.size < w9.heap.size := kb0_9.lt
      have kbw0_9 : Blk w9 (w5.heap.size) 75 #[.int .i64 (wrR d qs).1, .slice au5_0 nu5_0 cu5_0] := (kbw0_8.belowS b9)
      have xkbw0_9_0 : w9.cell? ⟨w5.heap.size, 0, none⟩ = some (.int .i64 (wrR d qs).1) := kbw0_9.cell 0
      have xkbw0_9_1 : w9.cell? ⟨w5.heap.size, 1, none⟩ = some (.slice au5_0 nu5_0 cu5_0) := kbw0_9.cell 1
      have lkbw0_9 : w5.heap.size < w9.heap.size := kbw0_9.lt
      have kbx0_9 : Blk w9 (w7.heap.size) 75 #[.int .i64 d.1, .slice au7 nu7 cu7] := (kbx0_8.belowS b9)
      have xkbx0_9_0 : w9.cell? ⟨w7.heap.size, 0, none⟩ = some (.int .i64 d.1) := kbx0_9.cell 0
      have xkbx0_9_1 : w9.cell? ⟨w7.heap.size, 1, none⟩ = some (.slice au7 nu7 cu7) := kbx0_9.cell 1
      have lkbx0_9 : w7.heap.size < w9.heap.size := kbx0_9.lt
      clear xkb0_8_0 xkb0_8_1 xkbw0_8_0 xkbw0_8_1 xkbx0_8_0 xkbx0_8_1
      go_wp2_with fail
      refine (api_implWR  _ ((o7.below bx8).below b9).rd o9.rd ).mono ?_
      rintro e w10 ⟨u10_0, rfl, o10_0, b10⟩
      obtain ⟨au10_0, nu10_0, cu10_0, rfl⟩ := o10_0.form
      have s10 := b10.size
      have B10 : Below w.heap.size w w10 := B9.trans (b10.mono B9.size)
      have kb0_10 : Blk w10 (w.heap.size) 73 #[.int .i64 d.1, .slice a0 n0 c0] := (kb0_9.belowS b10)
      have xkb0_10_0 : w10.cell? ⟨w.heap.size, 0, none⟩ = some (.int .i64 d.1) := kb0_10.cell 0
      have xkb0_10_1 : w10.cell? ⟨w.heap.size, 1, none⟩ = some (.slice a0 n0 c0) := kb0_10.cell 1
      have lkb0_10 : w.heap.size < w10.heap.size := kb0_10.lt
      have kbw0_10 : Blk w10 (w5.heap.size) 75 #[.int .i64 (wrR d qs).1, .slice au5_0 nu5_0 cu5_0] := (kbw0_9.belowS b10)
      have xkbw0_10_0 : w10.cell? ⟨w5.heap.size, 0, none⟩ = some (.int .i64 (wrR d qs).1) := kbw0_10.cell 0
      have xkbw0_10_1 : w10.cell? ⟨w5.heap.size, 1, none⟩ = some (.slice au5_0 nu5_0 cu5_0) := kbw0_10.cell 1
      have lkbw0_10 : w5.heap.size < w10.heap.size := kbw0_10.lt
      have kbx0_10 : Blk w10 (w7.heap.size) 75 #[.int .i64 d.1, .slice au7 nu7 cu7] := (kbx0_9.belowS b10)
      have xkbx0_10_0 : w10.cell? ⟨w7.heap.size, 0, none⟩ = some (.int .i64 d.1) := kbx0_10.cell 0
      have xkbx0_10_1 : w10.cell? ⟨w7.heap.size, 1, none⟩ = some (.slice au7 nu7 cu7) := kbx0_10.cell 1
      have lkbx0_10 : w7.heap.size < w10.heap.size := kbx0_10.lt
      clear xkb0_9_0 xkb0_9_1 xkbw0_9_0 xkbw0_9_1 xkbx0_9_0 xkbx0_9_1
      go_wp2_with fail
      have bx11 := below_alloc1 w10 (.cells #[.int .i64 (wrR d qs).1, .slice au10_0 nu10_0 cu10_0] 75)
      have kbg0_11 : Blk (w10.alloc (.cells #[.int .i64 (wrR d qs).1, .slice au10_0 nu10_0 cu10_0] 75)) w10.heap.size 75 #[.int .i64 (wrR d qs).1, .slice au10_0 nu10_0 cu10_0] := blk_at rfl
      generalize w10.alloc (.cells #[.int .i64 (wrR d qs).1, .slice au10_0 nu10_0 cu10_0] 75) = w11 at *
      have s11 := bx11.size
      have B11 : Below w.heap.size w w11 := B10.trans (bx11.mono B10.size)
      have kb0_11 : Blk w11 (w.heap.size) 73 #[.int .i64 d.1, .slice a0 n0 c0] := (kb0_10.belowS bx11)
      have xkb0_11_0 : w11.cell? ⟨w.heap.size, 0, none⟩ = some (.int .i64 d.1) := kb0_11.cell 0
      have xkb0_11_1 : w11.cell? ⟨w.heap.size, 1, none⟩ = some (.slice a0 n0 c0) := kb0_11.cell 1
      have lkb0_11 : w.heap.size < w11.heap.size := kb0_11.lt
      have kbw0_11 : Blk w11 (w5.heap.size) 75 #[.int .i64 (wrR d qs).1, .slice au5_0 nu5_0 cu5_0] := (kbw0_10.belowS bx11)
      have xkbw0_11_0 : w11.cell? ⟨w5.heap.size, 0, none⟩ = some (.int .i64 (wrR d qs).1) := kbw0_11.cell 0
      have xkbw0_11_1 : w11.cell? ⟨w5.heap.size, 1, none⟩ = some (.slice au5_0 nu5_0 cu5_0) := kbw0_11.cell 1
      have lkbw0_11 : w5.heap.size < w11.heap.size := kbw0_11.lt
      have kbx0_11 : Blk w11 (w7.heap.size) 75 #[.int .i64 d.1, .slice au7 nu7 cu7] := (kbx0_10.belowS bx11)
      have xkbx0_11_0 : w11.cell? ⟨w7.heap.size, 0, none⟩ = some (.int .i64 d.1) := kbx0_11.cell 0
      have xkbx0_11_1 : w11.cell? ⟨w7.heap.size, 1, none⟩ = some (.slice au7 nu7 cu7) := kbx0_11.cell 1
      have lkbx0_11 : w7.heap.size < w11.heap.size := kbx0_11.lt
      have xkbg0_11_0 : w11.cell? ⟨w10.heap.size, 0, none⟩ = some (.int .i64 (wrR d qs).1) := kbg0_11.cell 0
      have xkbg0_11_1 : w11.cell? ⟨w10.heap.size, 1, none⟩ = some (.slice au10_0 nu10_0 cu10_0) := kbg0_11.cell 1
      have lkbg0_11 : w10.heap.size < w11.heap.size := kbg0_11.lt
      clear xkb0_10_0 xkb0_10_1 xkbw0_10_0 xkbw0_10_1 xkbx0_10_0 xkbx0_10_1
      refine (law_eqP _ (o10_0.below bx11).rd ((((((o5_0.below bx6).below b7).below bx8).below b9).below b10).below bx11).rd).mono ?_
      rintro e w12 ⟨rfl, b12⟩
      have s12 := b12.size
      have B12 : Below w.heap.size w w12 := B11.trans (b12.mono B11.size)
      have kb0_12 : Blk w12 (w.heap.size) 73 #[.int .i64 d.1, .slice a0 n0 c0] := (kb0_11.belowS b12)
      have xkb0_12_0 : w12.cell? ⟨w.heap.size, 0, none⟩ = some (.int .i64 d.1) := kb0_12.cell 0
      have xkb0_12_1 : w12.cell? ⟨w.heap.size, 1, none⟩ = some (.slice a0 n0 c0) := kb0_12.cell 1
      have lkb0_12 : w.heap.size < w12.heap.size := kb0_12.lt
      have kbw0_12 : Blk w12 (w5.heap.size) 75 #[.int .i64 (wrR d qs).1, .slice au5_0 nu5_0 cu5_0] := (kbw0_11.belowS b12)
      have xkbw0_12_0 : w12.cell? ⟨w5.heap.size, 0, none⟩ = some (.int .i64 (wrR d qs).1) := kbw0_12.cell 0
      have xkbw0_12_1 : w12.cell? ⟨w5.heap.size, 1, none⟩ = some (.slice au5_0 nu5_0 cu5_0) := kbw0_12.cell 1
      have lkbw0_12 : w5.heap.size < w12.heap.size := kbw0_12.lt
      have kbx0_12 : Blk w12 (w7.heap.size) 75 #[.int .i64 d.1, .slice au7 nu7 cu7] := (kbx0_11.belowS b12)
      have xkbx0_12_0 : w12.cell? ⟨w7.heap.size, 0, none⟩ = some (.int .i64 d.1) := kbx0_12.cell 0
      have xkbx0_12_1 : w12.cell? ⟨w7.heap.size, 1, none⟩ = some (.slice au7 nu7 cu7) := kbx0_12.cell 1
      have lkbx0_12 : w7.heap.size < w12.heap.size := kbx0_12.lt
      have kbg0_12 : Blk w12 (w10.heap.size) 75 #[.int .i64 (wrR d qs).1, .slice au10_0 nu10_0 cu10_0] := (kbg0_11.belowS b12)
      have xkbg0_12_0 : w12.cell? ⟨w10.heap.size, 0, none⟩ = some (.int .i64 (wrR d qs).1) := kbg0_12.cell 0
      have xkbg0_12_1 : w12.cell? ⟨w10.heap.size, 1, none⟩ = some (.slice au10_0 nu10_0 cu10_0) := kbg0_12.cell 1
      have lkbg0_12 : w10.heap.size < w12.heap.size := kbg0_12.lt
      clear xkb0_11_0 xkb0_11_1 xkbw0_11_0 xkbw0_11_1 xkbx0_11_0 xkbx0_11_1 xkbg0_11_0 xkbg0_11_1
      go_wp2_with fail
      have hS12 : ∀ w', Below w12.heap.size w12 w' → (Below w12.heap.size w12 w' ∧ w'.cell? ⟨w.heap.size, 0, none⟩ = some (.int .i64 d.1) ∧ w'.cell? ⟨w.heap.size, 1, none⟩ = some (.slice a0 n0 c0) ∧ w'.cell? ⟨w5.heap.size, 0, none⟩ = some (.int .i64 (wrR d qs).1) ∧ w'.cell? ⟨w5.heap.size, 1, none⟩ = some (.slice au5_0 nu5_0 cu5_0) ∧ w'.cell? ⟨w7.heap.size, 0, none⟩ = some (.int .i64 d.1) ∧ w'.cell? ⟨w7.heap.size, 1, none⟩ = some (.slice au7 nu7 cu7) ∧ w'.cell? ⟨w10.heap.size, 0, none⟩ = some (.int .i64 (wrR d qs).1) ∧ w'.cell? ⟨w10.heap.size, 1, none⟩ = some (.slice au10_0 nu10_0 cu10_0)) := fun w' hb => ⟨hb, (kb0_12.belowS hb).cell 0, (kb0_12.belowS hb).cell 1, (kbw0_12.belowS hb).cell 0, (kbw0_12.belowS hb).cell 1, (kbx0_12.belowS hb).cell 0, (kbx0_12.belowS hb).cell 1, (kbg0_12.belowS hb).cell 0, (kbg0_12.belowS hb).cell 1⟩
      have HS12 := Lib.hid hS12
      clear hS12 xkb0_12_0 xkb0_12_1 xkbw0_12_0 xkbw0_12_1 xkbx0_12_0 xkbx0_12_1 xkbg0_12_0 xkbg0_12_1
      go_region_held3 (fun w' => Below w12.heap.size w12 w' ∧ w'.cell? ⟨w.heap.size, 0, none⟩ = some (.int .i64 d.1) ∧ w'.cell? ⟨w.heap.size, 1, none⟩ = some (.slice a0 n0 c0) ∧ w'.cell? ⟨w5.heap.size, 0, none⟩ = some (.int .i64 (wrR d qs).1) ∧ w'.cell? ⟨w5.heap.size, 1, none⟩ = some (.slice au5_0 nu5_0 cu5_0) ∧ w'.cell? ⟨w7.heap.size, 0, none⟩ = some (.int .i64 d.1) ∧ w'.cell? ⟨w7.heap.size, 1, none⟩ = some (.slice au7 nu7 cu7) ∧ w'.cell? ⟨w10.heap.size, 0, none⟩ = some (.int .i64 (wrR d qs).1) ∧ w'.cell? ⟨w10.heap.size, 1, none⟩ = some (.slice au10_0 nu10_0 cu10_0))
        (first | exact HS12.out _ (below_drew1 _) | exact HS12.out _ (below_tr (by assumption) (And.left (by assumption))))
        (first | (go_at_call 60; refine (law_toP _ (h0.below ?_) (by omega)).mono ?_; (exact below_tr (And.left (by assumption)) B12); rintro e w912 ⟨u912, rfl, o912, bt912⟩) | (go_at_call 62; refine (law_eqP _ ((((((o7.below bx8).below b9).below b10).below bx11).below b12).below (And.left (by assumption))).rd (OwP.rd (by assumption))).mono ?_; rintro e w13 ⟨rfl, be13⟩))
      have b13 : Below w12.heap.size w12 w13 := And.left (by assumption)
      have s13 := b13.size
      have B13 : Below w.heap.size w w13 := B12.trans (b13.mono B12.size)
      have kb0_13 : Blk w13 (w.heap.size) 73 #[.int .i64 d.1, .slice a0 n0 c0] := (kb0_12.belowS b13)
      have xkb0_13_0 : w13.cell? ⟨w.heap.size, 0, none⟩ = some (.int .i64 d.1) := kb0_13.cell 0
      have xkb0_13_1 : w13.cell? ⟨w.heap.size, 1, none⟩ = some (.slice a0 n0 c0) := kb0_13.cell 1
      have lkb0_13 : w.heap.size < w13.heap.size := kb0_13.lt
      have kbw0_13 : Blk w13 (w5.heap.size) 75 #[.int .i64 (wrR d qs).1, .slice au5_0 nu5_0 cu5_0] := (kbw0_12.belowS b13)
      have xkbw0_13_0 : w13.cell? ⟨w5.heap.size, 0, none⟩ = some (.int .i64 (wrR d qs).1) := kbw0_13.cell 0
      have xkbw0_13_1 : w13.cell? ⟨w5.heap.size, 1, none⟩ = some (.slice au5_0 nu5_0 cu5_0) := kbw0_13.cell 1
      have lkbw0_13 : w5.heap.size < w13.heap.size := kbw0_13.lt
      have kbx0_13 : Blk w13 (w7.heap.size) 75 #[.int .i64 d.1, .slice au7 nu7 cu7] := (kbx0_12.belowS b13)
      have xkbx0_13_0 : w13.cell? ⟨w7.heap.size, 0, none⟩ = some (.int .i64 d.1) := kbx0_13.cell 0
      have xkbx0_13_1 : w13.cell? ⟨w7.heap.size, 1, none⟩ = some (.slice au7 nu7 cu7) := kbx0_13.cell 1
      have lkbx0_13 : w7.heap.size < w13.heap.size := kbx0_13.lt
      have kbg0_13 : Blk w13 (w10.heap.size) 75 #[.int .i64 (wrR d qs).1, .slice au10_0 nu10_0 cu10_0] := (kbg0_12.belowS b13)
      have xkbg0_13_0 : w13.cell? ⟨w10.heap.size, 0, none⟩ = some (.int .i64 (wrR d qs).1) := kbg0_13.cell 0
      have xkbg0_13_1 : w13.cell? ⟨w10.heap.size, 1, none⟩ = some (.slice au10_0 nu10_0 cu10_0) := kbg0_13.cell 1
      have lkbg0_13 : w10.heap.size < w13.heap.size := kbg0_13.lt
      go_wp2_with fail
      refine (law_toSS _ (h1.below B13) (by omega)).mono ?_
      rintro e w14 ⟨u14, rfl, o14, b14⟩
      have s14 := b14.size
      have B14 : Below w.heap.size w w14 := B13.trans (b14.mono B13.size)
      have kb0_14 : Blk w14 (w.heap.size) 73 #[.int .i64 d.1, .slice a0 n0 c0] := (kb0_13.belowS b14)
      have xkb0_14_0 : w14.cell? ⟨w.heap.size, 0, none⟩ = some (.int .i64 d.1) := kb0_14.cell 0
      have xkb0_14_1 : w14.cell? ⟨w.heap.size, 1, none⟩ = some (.slice a0 n0 c0) := kb0_14.cell 1
      have lkb0_14 : w.heap.size < w14.heap.size := kb0_14.lt
      have kbw0_14 : Blk w14 (w5.heap.size) 75 #[.int .i64 (wrR d qs).1, .slice au5_0 nu5_0 cu5_0] := (kbw0_13.belowS b14)
      have xkbw0_14_0 : w14.cell? ⟨w5.heap.size, 0, none⟩ = some (.int .i64 (wrR d qs).1) := kbw0_14.cell 0
      have xkbw0_14_1 : w14.cell? ⟨w5.heap.size, 1, none⟩ = some (.slice au5_0 nu5_0 cu5_0) := kbw0_14.cell 1
      have lkbw0_14 : w5.heap.size < w14.heap.size := kbw0_14.lt
      have kbx0_14 : Blk w14 (w7.heap.size) 75 #[.int .i64 d.1, .slice au7 nu7 cu7] := (kbx0_13.belowS b14)
      have xkbx0_14_0 : w14.cell? ⟨w7.heap.size, 0, none⟩ = some (.int .i64 d.1) := kbx0_14.cell 0
      have xkbx0_14_1 : w14.cell? ⟨w7.heap.size, 1, none⟩ = some (.slice au7 nu7 cu7) := kbx0_14.cell 1
      have lkbx0_14 : w7.heap.size < w14.heap.size := kbx0_14.lt
      have kbg0_14 : Blk w14 (w10.heap.size) 75 #[.int .i64 (wrR d qs).1, .slice au10_0 nu10_0 cu10_0] := (kbg0_13.belowS b14)
      have xkbg0_14_0 : w14.cell? ⟨w10.heap.size, 0, none⟩ = some (.int .i64 (wrR d qs).1) := kbg0_14.cell 0
      have xkbg0_14_1 : w14.cell? ⟨w10.heap.size, 1, none⟩ = some (.slice au10_0 nu10_0 cu10_0) := kbg0_14.cell 1
      have lkbg0_14 : w10.heap.size < w14.heap.size := kbg0_14.lt
      clear xkb0_13_0 xkb0_13_1 xkbw0_13_0 xkbw0_13_1 xkbx0_13_0 xkbx0_13_1 xkbg0_13_0 xkbg0_13_1
      go_wp2_with fail
      refine (law_eqSS _ (((((o9.below b10).below bx11).below b12).below b13).below b14).rd o14.rd).mono ?_
      rintro e w15 ⟨rfl, b15⟩
      have s15 := b15.size
      have B15 : Below w.heap.size w w15 := B14.trans (b15.mono B14.size)
      have kb0_15 : Blk w15 (w.heap.size) 73 #[.int .i64 d.1, .slice a0 n0 c0] := (kb0_14.belowS b15)
      have xkb0_15_0 : w15.cell? ⟨w.heap.size, 0, none⟩ = some (.int .i64 d.1) := kb0_15.cell 0
      have xkb0_15_1 : w15.cell? ⟨w.heap.size, 1, none⟩ = some (.slice a0 n0 c0) := kb0_15.cell 1
      have lkb0_15 : w.heap.size < w15.heap.size := kb0_15.lt
      have kbw0_15 : Blk w15 (w5.heap.size) 75 #[.int .i64 (wrR d qs).1, .slice au5_0 nu5_0 cu5_0] := (kbw0_14.belowS b15)
      have xkbw0_15_0 : w15.cell? ⟨w5.heap.size, 0, none⟩ = some (.int .i64 (wrR d qs).1) := kbw0_15.cell 0
      have xkbw0_15_1 : w15.cell? ⟨w5.heap.size, 1, none⟩ = some (.slice au5_0 nu5_0 cu5_0) := kbw0_15.cell 1
      have lkbw0_15 : w5.heap.size < w15.heap.size := kbw0_15.lt
      have kbx0_15 : Blk w15 (w7.heap.size) 75 #[.int .i64 d.1, .slice au7 nu7 cu7] := (kbx0_14.belowS b15)
      have xkbx0_15_0 : w15.cell? ⟨w7.heap.size, 0, none⟩ = some (.int .i64 d.1) := kbx0_15.cell 0
      have xkbx0_15_1 : w15.cell? ⟨w7.heap.size, 1, none⟩ = some (.slice au7 nu7 cu7) := kbx0_15.cell 1
      have lkbx0_15 : w7.heap.size < w15.heap.size := kbx0_15.lt
      have kbg0_15 : Blk w15 (w10.heap.size) 75 #[.int .i64 (wrR d qs).1, .slice au10_0 nu10_0 cu10_0] := (kbg0_14.belowS b15)
      have xkbg0_15_0 : w15.cell? ⟨w10.heap.size, 0, none⟩ = some (.int .i64 (wrR d qs).1) := kbg0_15.cell 0
      have xkbg0_15_1 : w15.cell? ⟨w10.heap.size, 1, none⟩ = some (.slice au10_0 nu10_0 cu10_0) := kbg0_15.cell 1
      have lkbg0_15 : w10.heap.size < w15.heap.size := kbg0_15.lt
      clear xkb0_14_0 xkb0_14_1 xkbw0_14_0 xkbw0_14_1 xkbx0_14_0 xkbx0_14_1 xkbg0_14_0 xkbg0_14_1
      go_wp2_with fail
      refine (law_markP (1) _ ((((((((o7.below bx8).below b9).below b10).below bx11).below b12).below b13).below b14).below b15) (by omega) (by omega)).mono ?_
      rintro e w16 ⟨rfl, o16, q16⟩
      have s16 := q16.size
      have B16 : Below w.heap.size w w16 := B15.trans (q16.below (by omega) B15.size)
      have kb0_16 : Blk w16 (w.heap.size) 73 #[.int .i64 d.1, .slice a0 n0 c0] := (kb0_15.only q16 (by omega))
      have xkb0_16_0 : w16.cell? ⟨w.heap.size, 0, none⟩ = some (.int .i64 d.1) := kb0_16.cell 0
      have xkb0_16_1 : w16.cell? ⟨w.heap.size, 1, none⟩ = some (.slice a0 n0 c0) := kb0_16.cell 1
      have lkb0_16 : w.heap.size < w16.heap.size := kb0_16.lt
      have kbw0_16 : Blk w16 (w5.heap.size) 75 #[.int .i64 (wrR d qs).1, .slice au5_0 nu5_0 cu5_0] := (kbw0_15.only q16 (by omega))
      have xkbw0_16_0 : w16.cell? ⟨w5.heap.size, 0, none⟩ = some (.int .i64 (wrR d qs).1) := kbw0_16.cell 0
      have xkbw0_16_1 : w16.cell? ⟨w5.heap.size, 1, none⟩ = some (.slice au5_0 nu5_0 cu5_0) := kbw0_16.cell 1
      have lkbw0_16 : w5.heap.size < w16.heap.size := kbw0_16.lt
      have kbx0_16 : Blk w16 (w7.heap.size) 75 #[.int .i64 d.1, .slice au7 nu7 cu7] := (kbx0_15.only q16 (by omega))
      have xkbx0_16_0 : w16.cell? ⟨w7.heap.size, 0, none⟩ = some (.int .i64 d.1) := kbx0_16.cell 0
      have xkbx0_16_1 : w16.cell? ⟨w7.heap.size, 1, none⟩ = some (.slice au7 nu7 cu7) := kbx0_16.cell 1
      have lkbx0_16 : w7.heap.size < w16.heap.size := kbx0_16.lt
      have kbg0_16 : Blk w16 (w10.heap.size) 75 #[.int .i64 (wrR d qs).1, .slice au10_0 nu10_0 cu10_0] := (kbg0_15.only q16 (by omega))
      have xkbg0_16_0 : w16.cell? ⟨w10.heap.size, 0, none⟩ = some (.int .i64 (wrR d qs).1) := kbg0_16.cell 0
      have xkbg0_16_1 : w16.cell? ⟨w10.heap.size, 1, none⟩ = some (.slice au10_0 nu10_0 cu10_0) := kbg0_16.cell 1
      have lkbg0_16 : w10.heap.size < w16.heap.size := kbg0_16.lt
      clear xkb0_15_0 xkb0_15_1 xkbw0_15_0 xkbw0_15_1 xkbx0_15_0 xkbx0_15_1 xkbg0_15_0 xkbg0_15_1
      go_wp2_with fail
      refine (law_markSS (1 + (lenSS d.2 : Nat)) _ (((((((o9.below b10).below bx11).below b12).below b13).below b14).below b15).only q16 (by omega)) (by omega) (by omega)).mono ?_
      rintro e w17 ⟨rfl, o17, q17⟩
      have s17 := q17.size
      have B17 : Below w.heap.size w w17 := B16.trans (q17.below (by omega) B16.size)
      have kb0_17 : Blk w17 (w.heap.size) 73 #[.int .i64 d.1, .slice a0 n0 c0] := (kb0_16.only q17 (by omega))
      have xkb0_17_0 : w17.cell? ⟨w.heap.size, 0, none⟩ = some (.int .i64 d.1) := kb0_17.cell 0
      have xkb0_17_1 : w17.cell? ⟨w.heap.size, 1, none⟩ = some (.slice a0 n0 c0) := kb0_17.cell 1
      have lkb0_17 : w.heap.size < w17.heap.size := kb0_17.lt
      have kbw0_17 : Blk w17 (w5.heap.size) 75 #[.int .i64 (wrR d qs).1, .slice au5_0 nu5_0 cu5_0] := (kbw0_16.only q17 (by omega))
      have xkbw0_17_0 : w17.cell? ⟨w5.heap.size, 0, none⟩ = some (.int .i64 (wrR d qs).1) := kbw0_17.cell 0
      have xkbw0_17_1 : w17.cell? ⟨w5.heap.size, 1, none⟩ = some (.slice au5_0 nu5_0 cu5_0) := kbw0_17.cell 1
      have lkbw0_17 : w5.heap.size < w17.heap.size := kbw0_17.lt
      have kbx0_17 : Blk w17 (w7.heap.size) 75 #[.int .i64 d.1, .slice au7 nu7 cu7] := (kbx0_16.only q17 (by omega))
      have xkbx0_17_0 : w17.cell? ⟨w7.heap.size, 0, none⟩ = some (.int .i64 d.1) := kbx0_17.cell 0
      have xkbx0_17_1 : w17.cell? ⟨w7.heap.size, 1, none⟩ = some (.slice au7 nu7 cu7) := kbx0_17.cell 1
      have lkbx0_17 : w7.heap.size < w17.heap.size := kbx0_17.lt
      have kbg0_17 : Blk w17 (w10.heap.size) 75 #[.int .i64 (wrR d qs).1, .slice au10_0 nu10_0 cu10_0] := (kbg0_16.only q17 (by omega))
      have xkbg0_17_0 : w17.cell? ⟨w10.heap.size, 0, none⟩ = some (.int .i64 (wrR d qs).1) := kbg0_17.cell 0
      have xkbg0_17_1 : w17.cell? ⟨w10.heap.size, 1, none⟩ = some (.slice au10_0 nu10_0 cu10_0) := kbg0_17.cell 1
      have lkbg0_17 : w10.heap.size < w17.heap.size := kbg0_17.lt
      clear xkb0_16_0 xkb0_16_1 xkbw0_16_0 xkbw0_16_1 xkbx0_16_0 xkbx0_16_1 xkbg0_16_0 xkbg0_16_1
      go_wp2_with fail
      refine (law_eqP _ (((((((o10_0.below bx11).below b12).below b13).below b14).below b15).only q16 (by omega)).only q17 (by omega)).rd ((((((((((((o5_0.below bx6).below b7).below bx8).below b9).below b10).below bx11).below b12).below b13).below b14).below b15).only q16 (by omega)).only q17 (by omega)).rd).mono ?_
      rintro e w18 ⟨rfl, b18⟩
      have s18 := b18.size
      have B18 : Below w.heap.size w w18 := B17.trans (b18.mono B17.size)
      have kb0_18 : Blk w18 (w.heap.size) 73 #[.int .i64 d.1, .slice a0 n0 c0] := (kb0_17.belowS b18)
      have xkb0_18_0 : w18.cell? ⟨w.heap.size, 0, none⟩ = some (.int .i64 d.1) := kb0_18.cell 0
      have xkb0_18_1 : w18.cell? ⟨w.heap.size, 1, none⟩ = some (.slice a0 n0 c0) := kb0_18.cell 1
      have lkb0_18 : w.heap.size < w18.heap.size := kb0_18.lt
      have kbw0_18 : Blk w18 (w5.heap.size) 75 #[.int .i64 (wrR d qs).1, .slice au5_0 nu5_0 cu5_0] := (kbw0_17.belowS b18)
      have xkbw0_18_0 : w18.cell? ⟨w5.heap.size, 0, none⟩ = some (.int .i64 (wrR d qs).1) := kbw0_18.cell 0
      have xkbw0_18_1 : w18.cell? ⟨w5.heap.size, 1, none⟩ = some (.slice au5_0 nu5_0 cu5_0) := kbw0_18.cell 1
      have lkbw0_18 : w5.heap.size < w18.heap.size := kbw0_18.lt
      have kbx0_18 : Blk w18 (w7.heap.size) 75 #[.int .i64 d.1, .slice au7 nu7 cu7] := (kbx0_17.belowS b18)
      have xkbx0_18_0 : w18.cell? ⟨w7.heap.size, 0, none⟩ = some (.int .i64 d.1) := kbx0_18.cell 0
      have xkbx0_18_1 : w18.cell? ⟨w7.heap.size, 1, none⟩ = some (.slice au7 nu7 cu7) := kbx0_18.cell 1
      have lkbx0_18 : w7.heap.size < w18.heap.size := kbx0_18.lt
      have kbg0_18 : Blk w18 (w10.heap.size) 75 #[.int .i64 (wrR d qs).1, .slice au10_0 nu10_0 cu10_0] := (kbg0_17.belowS b18)
      have xkbg0_18_0 : w18.cell? ⟨w10.heap.size, 0, none⟩ = some (.int .i64 (wrR d qs).1) := kbg0_18.cell 0
      have xkbg0_18_1 : w18.cell? ⟨w10.heap.size, 1, none⟩ = some (.slice au10_0 nu10_0 cu10_0) := kbg0_18.cell 1
      have lkbg0_18 : w10.heap.size < w18.heap.size := kbg0_18.lt
      clear xkb0_17_0 xkb0_17_1 xkbw0_17_0 xkbw0_17_1 xkbx0_17_0 xkbx0_17_1 xkbg0_17_0 xkbg0_17_1
      go_wp2_with fail
      refine (law_markP (1) _ ((((((((o10_0.below bx11).below b12).below b13).below b14).below b15).only q16 (by omega)).only q17 (by omega)).below b18) (by omega) (by omega)).mono ?_
      rintro e w19 ⟨rfl, o19, q19⟩
      have s19 := q19.size
      have B19 : Below w.heap.size w w19 := B18.trans (q19.below (by omega) B18.size)
      have kb0_19 : Blk w19 (w.heap.size) 73 #[.int .i64 d.1, .slice a0 n0 c0] := (kb0_18.only q19 (by omega))
      have xkb0_19_0 : w19.cell? ⟨w.heap.size, 0, none⟩ = some (.int .i64 d.1) := kb0_19.cell 0
      have xkb0_19_1 : w19.cell? ⟨w.heap.size, 1, none⟩ = some (.slice a0 n0 c0) := kb0_19.cell 1
      have lkb0_19 : w.heap.size < w19.heap.size := kb0_19.lt
      have kbw0_19 : Blk w19 (w5.heap.size) 75 #[.int .i64 (wrR d qs).1, .slice au5_0 nu5_0 cu5_0] := (kbw0_18.only q19 (by omega))
      have xkbw0_19_0 : w19.cell? ⟨w5.heap.size, 0, none⟩ = some (.int .i64 (wrR d qs).1) := kbw0_19.cell 0
      have xkbw0_19_1 : w19.cell? ⟨w5.heap.size, 1, none⟩ = some (.slice au5_0 nu5_0 cu5_0) := kbw0_19.cell 1
      have lkbw0_19 : w5.heap.size < w19.heap.size := kbw0_19.lt
      have kbx0_19 : Blk w19 (w7.heap.size) 75 #[.int .i64 d.1, .slice au7 nu7 cu7] := (kbx0_18.only q19 (by omega))
      have xkbx0_19_0 : w19.cell? ⟨w7.heap.size, 0, none⟩ = some (.int .i64 d.1) := kbx0_19.cell 0
      have xkbx0_19_1 : w19.cell? ⟨w7.heap.size, 1, none⟩ = some (.slice au7 nu7 cu7) := kbx0_19.cell 1
      have lkbx0_19 : w7.heap.size < w19.heap.size := kbx0_19.lt
      have kbg0_19 : Blk w19 (w10.heap.size) 75 #[.int .i64 (wrR d qs).1, .slice au10_0 nu10_0 cu10_0] := (kbg0_18.only q19 (by omega))
      have xkbg0_19_0 : w19.cell? ⟨w10.heap.size, 0, none⟩ = some (.int .i64 (wrR d qs).1) := kbg0_19.cell 0
      have xkbg0_19_1 : w19.cell? ⟨w10.heap.size, 1, none⟩ = some (.slice au10_0 nu10_0 cu10_0) := kbg0_19.cell 1
      have lkbg0_19 : w10.heap.size < w19.heap.size := kbg0_19.lt
      clear xkb0_18_0 xkb0_18_1 xkbw0_18_0 xkbw0_18_1 xkbx0_18_0 xkbx0_18_1 xkbg0_18_0 xkbg0_18_1
      go_wp2_with fail
      refine (law_heldP (1) _ o19.rd (by omega) (by omega)).mono ?_
      rintro e w20 ⟨rfl, b20⟩
      have s20 := b20.size
      have B20 : Below w.heap.size w w20 := B19.trans (b20.mono B19.size)
      have kb0_20 : Blk w20 (w.heap.size) 73 #[.int .i64 d.1, .slice a0 n0 c0] := (kb0_19.belowS b20)
      have xkb0_20_0 : w20.cell? ⟨w.heap.size, 0, none⟩ = some (.int .i64 d.1) := kb0_20.cell 0
      have xkb0_20_1 : w20.cell? ⟨w.heap.size, 1, none⟩ = some (.slice a0 n0 c0) := kb0_20.cell 1
      have lkb0_20 : w.heap.size < w20.heap.size := kb0_20.lt
      have kbw0_20 : Blk w20 (w5.heap.size) 75 #[.int .i64 (wrR d qs).1, .slice au5_0 nu5_0 cu5_0] := (kbw0_19.belowS b20)
      have xkbw0_20_0 : w20.cell? ⟨w5.heap.size, 0, none⟩ = some (.int .i64 (wrR d qs).1) := kbw0_20.cell 0
      have xkbw0_20_1 : w20.cell? ⟨w5.heap.size, 1, none⟩ = some (.slice au5_0 nu5_0 cu5_0) := kbw0_20.cell 1
      have lkbw0_20 : w5.heap.size < w20.heap.size := kbw0_20.lt
      have kbx0_20 : Blk w20 (w7.heap.size) 75 #[.int .i64 d.1, .slice au7 nu7 cu7] := (kbx0_19.belowS b20)
      have xkbx0_20_0 : w20.cell? ⟨w7.heap.size, 0, none⟩ = some (.int .i64 d.1) := kbx0_20.cell 0
      have xkbx0_20_1 : w20.cell? ⟨w7.heap.size, 1, none⟩ = some (.slice au7 nu7 cu7) := kbx0_20.cell 1
      have lkbx0_20 : w7.heap.size < w20.heap.size := kbx0_20.lt
      have kbg0_20 : Blk w20 (w10.heap.size) 75 #[.int .i64 (wrR d qs).1, .slice au10_0 nu10_0 cu10_0] := (kbg0_19.belowS b20)
      have xkbg0_20_0 : w20.cell? ⟨w10.heap.size, 0, none⟩ = some (.int .i64 (wrR d qs).1) := kbg0_20.cell 0
      have xkbg0_20_1 : w20.cell? ⟨w10.heap.size, 1, none⟩ = some (.slice au10_0 nu10_0 cu10_0) := kbg0_20.cell 1
      have lkbg0_20 : w10.heap.size < w20.heap.size := kbg0_20.lt
      clear xkb0_19_0 xkb0_19_1 xkbw0_19_0 xkbw0_19_1 xkbx0_19_0 xkbx0_19_1 xkbg0_19_0 xkbg0_19_1
      go_wp2_with fail
      refine (law_toP _ (h0.below B20) (by omega)).mono ?_
      rintro e w21 ⟨u21, rfl, o21, b21⟩
      have s21 := b21.size
      have B21 : Below w.heap.size w w21 := B20.trans (b21.mono B20.size)
      have kb0_21 : Blk w21 (w.heap.size) 73 #[.int .i64 d.1, .slice a0 n0 c0] := (kb0_20.belowS b21)
      have xkb0_21_0 : w21.cell? ⟨w.heap.size, 0, none⟩ = some (.int .i64 d.1) := kb0_21.cell 0
      have xkb0_21_1 : w21.cell? ⟨w.heap.size, 1, none⟩ = some (.slice a0 n0 c0) := kb0_21.cell 1
      have lkb0_21 : w.heap.size < w21.heap.size := kb0_21.lt
      have kbw0_21 : Blk w21 (w5.heap.size) 75 #[.int .i64 (wrR d qs).1, .slice au5_0 nu5_0 cu5_0] := (kbw0_20.belowS b21)
      have xkbw0_21_0 : w21.cell? ⟨w5.heap.size, 0, none⟩ = some (.int .i64 (wrR d qs).1) := kbw0_21.cell 0
      have xkbw0_21_1 : w21.cell? ⟨w5.heap.size, 1, none⟩ = some (.slice au5_0 nu5_0 cu5_0) := kbw0_21.cell 1
      have lkbw0_21 : w5.heap.size < w21.heap.size := kbw0_21.lt
      have kbx0_21 : Blk w21 (w7.heap.size) 75 #[.int .i64 d.1, .slice au7 nu7 cu7] := (kbx0_20.belowS b21)
      have xkbx0_21_0 : w21.cell? ⟨w7.heap.size, 0, none⟩ = some (.int .i64 d.1) := kbx0_21.cell 0
      have xkbx0_21_1 : w21.cell? ⟨w7.heap.size, 1, none⟩ = some (.slice au7 nu7 cu7) := kbx0_21.cell 1
      have lkbx0_21 : w7.heap.size < w21.heap.size := kbx0_21.lt
      have kbg0_21 : Blk w21 (w10.heap.size) 75 #[.int .i64 (wrR d qs).1, .slice au10_0 nu10_0 cu10_0] := (kbg0_20.belowS b21)
      have xkbg0_21_0 : w21.cell? ⟨w10.heap.size, 0, none⟩ = some (.int .i64 (wrR d qs).1) := kbg0_21.cell 0
      have xkbg0_21_1 : w21.cell? ⟨w10.heap.size, 1, none⟩ = some (.slice au10_0 nu10_0 cu10_0) := kbg0_21.cell 1
      have lkbg0_21 : w10.heap.size < w21.heap.size := kbg0_21.lt
      clear xkb0_20_0 xkb0_20_1 xkbw0_20_0 xkbw0_20_1 xkbx0_20_0 xkbx0_20_1 xkbg0_20_0 xkbg0_20_1
      go_wp2_with fail
      refine (law_toSS _ (h1.below B21) (by omega)).mono ?_
      rintro e w22 ⟨u22, rfl, o22, b22⟩
      have s22 := b22.size
      have B22 : Below w.heap.size w w22 := B21.trans (b22.mono B21.size)
      have kb0_22 : Blk w22 (w.heap.size) 73 #[.int .i64 d.1, .slice a0 n0 c0] := (kb0_21.belowS b22)
      have xkb0_22_0 : w22.cell? ⟨w.heap.size, 0, none⟩ = some (.int .i64 d.1) := kb0_22.cell 0
      have xkb0_22_1 : w22.cell? ⟨w.heap.size, 1, none⟩ = some (.slice a0 n0 c0) := kb0_22.cell 1
      have lkb0_22 : w.heap.size < w22.heap.size := kb0_22.lt
      have kbw0_22 : Blk w22 (w5.heap.size) 75 #[.int .i64 (wrR d qs).1, .slice au5_0 nu5_0 cu5_0] := (kbw0_21.belowS b22)
      have xkbw0_22_0 : w22.cell? ⟨w5.heap.size, 0, none⟩ = some (.int .i64 (wrR d qs).1) := kbw0_22.cell 0
      have xkbw0_22_1 : w22.cell? ⟨w5.heap.size, 1, none⟩ = some (.slice au5_0 nu5_0 cu5_0) := kbw0_22.cell 1
      have lkbw0_22 : w5.heap.size < w22.heap.size := kbw0_22.lt
      have kbx0_22 : Blk w22 (w7.heap.size) 75 #[.int .i64 d.1, .slice au7 nu7 cu7] := (kbx0_21.belowS b22)
      have xkbx0_22_0 : w22.cell? ⟨w7.heap.size, 0, none⟩ = some (.int .i64 d.1) := kbx0_22.cell 0
      have xkbx0_22_1 : w22.cell? ⟨w7.heap.size, 1, none⟩ = some (.slice au7 nu7 cu7) := kbx0_22.cell 1
      have lkbx0_22 : w7.heap.size < w22.heap.size := kbx0_22.lt
      have kbg0_22 : Blk w22 (w10.heap.size) 75 #[.int .i64 (wrR d qs).1, .slice au10_0 nu10_0 cu10_0] := (kbg0_21.belowS b22)
      have xkbg0_22_0 : w22.cell? ⟨w10.heap.size, 0, none⟩ = some (.int .i64 (wrR d qs).1) := kbg0_22.cell 0
      have xkbg0_22_1 : w22.cell? ⟨w10.heap.size, 1, none⟩ = some (.slice au10_0 nu10_0 cu10_0) := kbg0_22.cell 1
      have lkbg0_22 : w10.heap.size < w22.heap.size := kbg0_22.lt
      clear xkb0_21_0 xkb0_21_1 xkbw0_21_0 xkbw0_21_1 xkbx0_21_0 xkbx0_21_1 xkbg0_21_0 xkbg0_21_1
      go_wp2_with fail
      refine (api_implWR  _ (o21.below b22).rd o22.rd ).mono ?_
      rintro e w23 ⟨u23_0, rfl, o23_0, b23⟩
      obtain ⟨au23_0, nu23_0, cu23_0, rfl⟩ := o23_0.form
      have s23 := b23.size
      have B23 : Below w.heap.size w w23 := B22.trans (b23.mono B22.size)
      have kb0_23 : Blk w23 (w.heap.size) 73 #[.int .i64 d.1, .slice a0 n0 c0] := (kb0_22.belowS b23)
      have xkb0_23_0 : w23.cell? ⟨w.heap.size, 0, none⟩ = some (.int .i64 d.1) := kb0_23.cell 0
      have xkb0_23_1 : w23.cell? ⟨w.heap.size, 1, none⟩ = some (.slice a0 n0 c0) := kb0_23.cell 1
      have lkb0_23 : w.heap.size < w23.heap.size := kb0_23.lt
      have kbw0_23 : Blk w23 (w5.heap.size) 75 #[.int .i64 (wrR d qs).1, .slice au5_0 nu5_0 cu5_0] := (kbw0_22.belowS b23)
      have xkbw0_23_0 : w23.cell? ⟨w5.heap.size, 0, none⟩ = some (.int .i64 (wrR d qs).1) := kbw0_23.cell 0
      have xkbw0_23_1 : w23.cell? ⟨w5.heap.size, 1, none⟩ = some (.slice au5_0 nu5_0 cu5_0) := kbw0_23.cell 1
      have lkbw0_23 : w5.heap.size < w23.heap.size := kbw0_23.lt
      have kbx0_23 : Blk w23 (w7.heap.size) 75 #[.int .i64 d.1, .slice au7 nu7 cu7] := (kbx0_22.belowS b23)
      have xkbx0_23_0 : w23.cell? ⟨w7.heap.size, 0, none⟩ = some (.int .i64 d.1) := kbx0_23.cell 0
      have xkbx0_23_1 : w23.cell? ⟨w7.heap.size, 1, none⟩ = some (.slice au7 nu7 cu7) := kbx0_23.cell 1
      have lkbx0_23 : w7.heap.size < w23.heap.size := kbx0_23.lt
      have kbg0_23 : Blk w23 (w10.heap.size) 75 #[.int .i64 (wrR d qs).1, .slice au10_0 nu10_0 cu10_0] := (kbg0_22.belowS b23)
      have xkbg0_23_0 : w23.cell? ⟨w10.heap.size, 0, none⟩ = some (.int .i64 (wrR d qs).1) := kbg0_23.cell 0
      have xkbg0_23_1 : w23.cell? ⟨w10.heap.size, 1, none⟩ = some (.slice au10_0 nu10_0 cu10_0) := kbg0_23.cell 1
      have lkbg0_23 : w10.heap.size < w23.heap.size := kbg0_23.lt
      clear xkb0_22_0 xkb0_22_1 xkbw0_22_0 xkbw0_22_1 xkbx0_22_0 xkbx0_22_1 xkbg0_22_0 xkbg0_22_1
      go_wp2_with fail
      have bx24 := below_alloc1 w23 (.cells #[.int .i64 (wrR d qs).1, .slice au23_0 nu23_0 cu23_0] 75)
      have kbh0_24 : Blk (w23.alloc (.cells #[.int .i64 (wrR d qs).1, .slice au23_0 nu23_0 cu23_0] 75)) w23.heap.size 75 #[.int .i64 (wrR d qs).1, .slice au23_0 nu23_0 cu23_0] := blk_at rfl
      generalize w23.alloc (.cells #[.int .i64 (wrR d qs).1, .slice au23_0 nu23_0 cu23_0] 75) = w24 at *
      have s24 := bx24.size
      have B24 : Below w.heap.size w w24 := B23.trans (bx24.mono B23.size)
      have kb0_24 : Blk w24 (w.heap.size) 73 #[.int .i64 d.1, .slice a0 n0 c0] := (kb0_23.belowS bx24)
      have xkb0_24_0 : w24.cell? ⟨w.heap.size, 0, none⟩ = some (.int .i64 d.1) := kb0_24.cell 0
      have xkb0_24_1 : w24.cell? ⟨w.heap.size, 1, none⟩ = some (.slice a0 n0 c0) := kb0_24.cell 1
      have lkb0_24 : w.heap.size < w24.heap.size := kb0_24.lt
      have kbw0_24 : Blk w24 (w5.heap.size) 75 #[.int .i64 (wrR d qs).1, .slice au5_0 nu5_0 cu5_0] := (kbw0_23.belowS bx24)
      have xkbw0_24_0 : w24.cell? ⟨w5.heap.size, 0, none⟩ = some (.int .i64 (wrR d qs).1) := kbw0_24.cell 0
      have xkbw0_24_1 : w24.cell? ⟨w5.heap.size, 1, none⟩ = some (.slice au5_0 nu5_0 cu5_0) := kbw0_24.cell 1
      have lkbw0_24 : w5.heap.size < w24.heap.size := kbw0_24.lt
      have kbx0_24 : Blk w24 (w7.heap.size) 75 #[.int .i64 d.1, .slice au7 nu7 cu7] := (kbx0_23.belowS bx24)
      have xkbx0_24_0 : w24.cell? ⟨w7.heap.size, 0, none⟩ = some (.int .i64 d.1) := kbx0_24.cell 0
      have xkbx0_24_1 : w24.cell? ⟨w7.heap.size, 1, none⟩ = some (.slice au7 nu7 cu7) := kbx0_24.cell 1
      have lkbx0_24 : w7.heap.size < w24.heap.size := kbx0_24.lt
      have kbg0_24 : Blk w24 (w10.heap.size) 75 #[.int .i64 (wrR d qs).1, .slice au10_0 nu10_0 cu10_0] := (kbg0_23.belowS bx24)
      have xkbg0_24_0 : w24.cell? ⟨w10.heap.size, 0, none⟩ = some (.int .i64 (wrR d qs).1) := kbg0_24.cell 0
      have xkbg0_24_1 : w24.cell? ⟨w10.heap.size, 1, none⟩ = some (.slice au10_0 nu10_0 cu10_0) := kbg0_24.cell 1
      have lkbg0_24 : w10.heap.size < w24.heap.size := kbg0_24.lt
      have xkbh0_24_0 : w24.cell? ⟨w23.heap.size, 0, none⟩ = some (.int .i64 (wrR d qs).1) := kbh0_24.cell 0
      have xkbh0_24_1 : w24.cell? ⟨w23.heap.size, 1, none⟩ = some (.slice au23_0 nu23_0 cu23_0) := kbh0_24.cell 1
      have lkbh0_24 : w23.heap.size < w24.heap.size := kbh0_24.lt
      clear xkb0_23_0 xkb0_23_1 xkbw0_23_0 xkbw0_23_1 xkbx0_23_0 xkbx0_23_1 xkbg0_23_0 xkbg0_23_1
      refine (law_eqP _ (o23_0.below bx24).rd (((((((((((((((((((o5_0.below bx6).below b7).below bx8).below b9).below b10).below bx11).below b12).below b13).below b14).below b15).only q16 (by omega)).only q17 (by omega)).below b18).only q19 (by omega)).below b20).below b21).below b22).below b23).below bx24).rd).mono ?_
      rintro e w25 ⟨rfl, b25⟩
      have s25 := b25.size
      have B25 : Below w.heap.size w w25 := B24.trans (b25.mono B24.size)
      have kb0_25 : Blk w25 (w.heap.size) 73 #[.int .i64 d.1, .slice a0 n0 c0] := (kb0_24.belowS b25)
      have xkb0_25_0 : w25.cell? ⟨w.heap.size, 0, none⟩ = some (.int .i64 d.1) := kb0_25.cell 0
      have xkb0_25_1 : w25.cell? ⟨w.heap.size, 1, none⟩ = some (.slice a0 n0 c0) := kb0_25.cell 1
      have lkb0_25 : w.heap.size < w25.heap.size := kb0_25.lt
      have kbw0_25 : Blk w25 (w5.heap.size) 75 #[.int .i64 (wrR d qs).1, .slice au5_0 nu5_0 cu5_0] := (kbw0_24.belowS b25)
      have xkbw0_25_0 : w25.cell? ⟨w5.heap.size, 0, none⟩ = some (.int .i64 (wrR d qs).1) := kbw0_25.cell 0
      have xkbw0_25_1 : w25.cell? ⟨w5.heap.size, 1, none⟩ = some (.slice au5_0 nu5_0 cu5_0) := kbw0_25.cell 1
      have lkbw0_25 : w5.heap.size < w25.heap.size := kbw0_25.lt
      have kbx0_25 : Blk w25 (w7.heap.size) 75 #[.int .i64 d.1, .slice au7 nu7 cu7] := (kbx0_24.belowS b25)
      have xkbx0_25_0 : w25.cell? ⟨w7.heap.size, 0, none⟩ = some (.int .i64 d.1) := kbx0_25.cell 0
      have xkbx0_25_1 : w25.cell? ⟨w7.heap.size, 1, none⟩ = some (.slice au7 nu7 cu7) := kbx0_25.cell 1
      have lkbx0_25 : w7.heap.size < w25.heap.size := kbx0_25.lt
      have kbg0_25 : Blk w25 (w10.heap.size) 75 #[.int .i64 (wrR d qs).1, .slice au10_0 nu10_0 cu10_0] := (kbg0_24.belowS b25)
      have xkbg0_25_0 : w25.cell? ⟨w10.heap.size, 0, none⟩ = some (.int .i64 (wrR d qs).1) := kbg0_25.cell 0
      have xkbg0_25_1 : w25.cell? ⟨w10.heap.size, 1, none⟩ = some (.slice au10_0 nu10_0 cu10_0) := kbg0_25.cell 1
      have lkbg0_25 : w10.heap.size < w25.heap.size := kbg0_25.lt
      have kbh0_25 : Blk w25 (w23.heap.size) 75 #[.int .i64 (wrR d qs).1, .slice au23_0 nu23_0 cu23_0] := (kbh0_24.belowS b25)
      have xkbh0_25_0 : w25.cell? ⟨w23.heap.size, 0, none⟩ = some (.int .i64 (wrR d qs).1) := kbh0_25.cell 0
      have xkbh0_25_1 : w25.cell? ⟨w23.heap.size, 1, none⟩ = some (.slice au23_0 nu23_0 cu23_0) := kbh0_25.cell 1
      have lkbh0_25 : w23.heap.size < w25.heap.size := kbh0_25.lt
      clear xkb0_24_0 xkb0_24_1 xkbw0_24_0 xkbw0_24_1 xkbx0_24_0 xkbx0_24_1 xkbg0_24_0 xkbg0_24_1 xkbh0_24_0 xkbh0_24_1
      go_wp2_with fail
      refine (law_heldP (1) _ ((((((o19.below b20).below b21).below b22).below b23).below bx24).below b25).rd (by omega) (by omega)).mono ?_
      rintro e w26 ⟨rfl, b26⟩
      have s26 := b26.size
      have B26 : Below w.heap.size w w26 := B25.trans (b26.mono B25.size)
      have kb0_26 : Blk w26 (w.heap.size) 73 #[.int .i64 d.1, .slice a0 n0 c0] := (kb0_25.belowS b26)
      have xkb0_26_0 : w26.cell? ⟨w.heap.size, 0, none⟩ = some (.int .i64 d.1) := kb0_26.cell 0
      have xkb0_26_1 : w26.cell? ⟨w.heap.size, 1, none⟩ = some (.slice a0 n0 c0) := kb0_26.cell 1
      have lkb0_26 : w.heap.size < w26.heap.size := kb0_26.lt
      have kbw0_26 : Blk w26 (w5.heap.size) 75 #[.int .i64 (wrR d qs).1, .slice au5_0 nu5_0 cu5_0] := (kbw0_25.belowS b26)
      have xkbw0_26_0 : w26.cell? ⟨w5.heap.size, 0, none⟩ = some (.int .i64 (wrR d qs).1) := kbw0_26.cell 0
      have xkbw0_26_1 : w26.cell? ⟨w5.heap.size, 1, none⟩ = some (.slice au5_0 nu5_0 cu5_0) := kbw0_26.cell 1
      have lkbw0_26 : w5.heap.size < w26.heap.size := kbw0_26.lt
      have kbx0_26 : Blk w26 (w7.heap.size) 75 #[.int .i64 d.1, .slice au7 nu7 cu7] := (kbx0_25.belowS b26)
      have xkbx0_26_0 : w26.cell? ⟨w7.heap.size, 0, none⟩ = some (.int .i64 d.1) := kbx0_26.cell 0
      have xkbx0_26_1 : w26.cell? ⟨w7.heap.size, 1, none⟩ = some (.slice au7 nu7 cu7) := kbx0_26.cell 1
      have lkbx0_26 : w7.heap.size < w26.heap.size := kbx0_26.lt
      have kbg0_26 : Blk w26 (w10.heap.size) 75 #[.int .i64 (wrR d qs).1, .slice au10_0 nu10_0 cu10_0] := (kbg0_25.belowS b26)
      have xkbg0_26_0 : w26.cell? ⟨w10.heap.size, 0, none⟩ = some (.int .i64 (wrR d qs).1) := kbg0_26.cell 0
      have xkbg0_26_1 : w26.cell? ⟨w10.heap.size, 1, none⟩ = some (.slice au10_0 nu10_0 cu10_0) := kbg0_26.cell 1
      have lkbg0_26 : w10.heap.size < w26.heap.size := kbg0_26.lt
      have kbh0_26 : Blk w26 (w23.heap.size) 75 #[.int .i64 (wrR d qs).1, .slice au23_0 nu23_0 cu23_0] := (kbh0_25.belowS b26)
      have xkbh0_26_0 : w26.cell? ⟨w23.heap.size, 0, none⟩ = some (.int .i64 (wrR d qs).1) := kbh0_26.cell 0
      have xkbh0_26_1 : w26.cell? ⟨w23.heap.size, 1, none⟩ = some (.slice au23_0 nu23_0 cu23_0) := kbh0_26.cell 1
      have lkbh0_26 : w23.heap.size < w26.heap.size := kbh0_26.lt
      clear xkb0_25_0 xkb0_25_1 xkbw0_25_0 xkbw0_25_1 xkbx0_25_0 xkbx0_25_1 xkbg0_25_0 xkbg0_25_1 xkbh0_25_0 xkbh0_25_1
      go_wp2
      go_ret
      exact ⟨rfl, B26⟩
end Go.Proofs.Ytnfkhgamnapgmaa
