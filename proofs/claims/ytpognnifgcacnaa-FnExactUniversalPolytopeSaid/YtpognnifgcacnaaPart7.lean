/- withRelators, the program's. -/
import Derived.Test.YtpognnifgcacnaaPart6
import Derived.Deep.AppendLies
import Derived.Test.YtpognnifgcacnaaProg
import Derived.Test.YtpognnifgcacnaaPart1
import Derived.Test.YtpognnifgcacnaaPart3
import Derived.Test.YtpognnifgcacnaaPart5
namespace Go.Proofs.Ytpognnifgcacnaa
open Go.RowKit

def neL (zss : List (List Int)) : List (List Int) := zss.filter fun z => decide (0 < z.length)
theorem neL_succ {zss : List (List Int)} {k : Nat} (h : k < zss.length) : neL (zss.take (k + 1)) = neL (zss.take k) ++ (if 0 < (lget zss k).length then [lget zss k] else []) := by
  unfold neL
  rw [take_lget h, List.filter_append]
  congr 1
  by_cases e : 0 < (lget zss k).length
  · rw [if_pos e, List.filter_cons_of_pos (by simpa using e)]; rfl
  · rw [if_neg e, List.filter_cons_of_neg (by simpa using e)]; rfl
/-- the heads stay, and the row of the result does not lie over them -/
def HeadsA (w0 : World) (lo : Nat) (w : World) (al : Option Addr) (n : Nat) (Z : List (List Int)) (ao : Option Addr) : Prop := 0 < n → ∃ b, al = some ⟨b, 0, none⟩ ∧ lo ≤ b ∧ b < w.heap.size ∧ bk ao ≠ some b ∧ ∀ j, j < n → ∃ u, w.cell? ⟨b, j, none⟩ = some u ∧ RdS w0 u (lget Z j)
theorem HeadsZ.start {w0 w : World} {lo n : Nat} {al : Option Addr} {Z : List (List Int)} (h : HeadsZ w0 lo w al n Z) : HeadsA w0 lo w al n Z none := fun h0 => by
  obtain ⟨b, e, h1, h2, h3⟩ := h h0
  exact ⟨b, e, h1, h2, by simp [bk], h3⟩
theorem HeadsA.push {w0 wr w2 w3 w4 : World} {lo n : Nat} {al ao' ao2 : Option Addr} {Z : List (List Int)} (h : HeadsA w0 lo wr al n Z ao') (b2 : Below wr.heap.size wr w2) (b3 : Below w2.heap.size w2 w3) (g4 : w3.grownBy w4 (bk ao')) (hat : bk ao2 = bk ao' ∨ bk ao2 = some w3.heap.size) {p : Addr} (hp : p.block < lo) (v : Value) :
    HeadsA w0 lo (w4.setCell p v) al n Z ao2 := fun h0 => by
  obtain ⟨b, e, h1, h2, h3, h4⟩ := h h0
  have s2 := b2.size
  have s3 := b3.size
  have s4 := g4.size
  refine ⟨b, e, h1, by simp [World.setCell]; omega, ?_, fun j hj => ?_⟩
  · rcases hat with e1 | e1
    · rw [e1]; exact h3
    · rw [e1]; intro e2; have := Option.some.inj e2; omega
  · obtain ⟨u, h5, h6⟩ := h4 j hj
    refine ⟨u, ?_, h6⟩
    rw [← h5]
    refine World.cell?_of_block ?_
    rw [Below.heap_setCell _ _ _ _ (by simp; omega), g4.block b (by omega) (fun e => h3 e.symm), b3.block b (by omega), b2.block b h2]
theorem HeadsA.at_ {w0 w : World} {lo n : Nat} {al ao : Option Addr} {Z : List (List Int)} (h : HeadsA w0 lo w al n Z ao) (hb : Below w0.heap.size w0 w) {k : Nat} (hk : k < n) : ∃ b a1 n1 c1, al = some ⟨b, 0, none⟩ ∧ w.cell? ⟨b, k, none⟩ = some (.slice a1 n1 c1) ∧ Ints w a1 n1 (lget Z k) := by
  obtain ⟨b, e, _, _, _, h4⟩ := h (by omega)
  obtain ⟨u, h5, a1, n1, c1, rfl, h6⟩ := h4 k hk
  exact ⟨b, a1, n1, c1, e, h5, h6.below hb⟩
theorem neL_len (zss : List (List Int)) : (neL zss).length ≤ zss.length := List.length_filter_le _ _
/-- at most 24 relators: they and code 0; more: nothing and code 3 -/
def wrK (Z : List (List Int)) : Int := if (neL Z).length ≤ 24 then 0 else 3
def wrV (N : Int) (Z : List (List Int)) : PresD := if (neL Z).length ≤ 24 then (N, neL Z) else (0, [])
set_option maxRecDepth 100000 in
set_option maxHeartbeats 3200000 in
theorem withI_any (N : Nat) (hN : N ≤ 5) (ap aw : Option Addr) (np cp nw cw : Nat) (R W : List (List Int)) (w : World) (h1 : Intss w ap np R) (h2 : Intss w aw nw W) (hR : np ≤ 24) (hW : nw ≤ 24) (hl : ∀ z ∈ R ++ W, z.length ≤ 1000) :
    Calls Try.prog 112 #[.agg #[.int .i64 N, .slice ap np cp], .slice aw nw cw] w fun e w' => ∃ v, e = .returned (.tuple #[v, .int .i64 (wrK (R ++ W))]) ∧ OwP 2 49 w' w.heap.size w'.heap.size v (wrV N (R ++ W)) ∧ Below w.heap.size w w' := by
  have hl1 := h1.1
  have hl2 := h2.1
  go_enter Try.func112, Try.ntmps112
  go_wp2_with fail
  obtain ⟨w1, hw1⟩ : ∃ w1, w1 = w.alloc (.cells #[.int .i64 N, .slice ap np cp] 72) := ⟨_, rfl⟩
  have hs1 : w1.heap.size = w.heap.size + 1 := by rw [hw1]; simp
  have hb1 : Below w.heap.size w w1 := by rw [hw1]; exact below_alloc1 _ _
  rw [← hw1]
  have r0 : Blk ((w1.alloc (.cells #[.int .i64 0, .slice none 0 0] 72)).alloc (.cells #[.int .i64 N, .slice none 0 0] 72)) w1.heap.size 72 #[.int .i64 0, .slice none 0 0] := (blk_at rfl).alloc _
  have r1 : Blk ((w1.alloc (.cells #[.int .i64 0, .slice none 0 0] 72)).alloc (.cells #[.int .i64 N, .slice none 0 0] 72)) (w1.heap.size + 1) 72 #[.int .i64 N, .slice none 0 0] := blk_at (by simp)
  rw [← hs1]
  have k0 : (((w1.alloc (.cells #[.int .i64 0, .slice none 0 0] 72)).alloc (.cells #[.int .i64 N, .slice none 0 0] 72)).alloc (.cells #[.slice ap np cp, .slice aw nw cw] 39)).cell? ⟨w1.heap.size + 1 + 1, 0, none⟩ = some (.slice ap np cp) := (blk_at (by simp)).cell 0
  have k1 : (((w1.alloc (.cells #[.int .i64 0, .slice none 0 0] 72)).alloc (.cells #[.int .i64 N, .slice none 0 0] 72)).alloc (.cells #[.slice ap np cp, .slice aw nw cw] 39)).cell? ⟨w1.heap.size + 1 + 1, 1, none⟩ = some (.slice aw nw cw) := (blk_at (by simp)).cell 1
  have hb2 : Below w1.heap.size w1 (((w1.alloc (.cells #[.int .i64 0, .slice none 0 0] 72)).alloc (.cells #[.int .i64 N, .slice none 0 0] 72)).alloc (.cells #[.slice ap np cp, .slice aw nw cw] 39)) := (below_alloc2 _ _ _).alloc (by simp; omega) _
  refine (concat_any w _ 2 ap aw np cp nw cw R W _ k0 k1 (hb1.trans (hb2.mono (by omega))) h1 h2 (by omega) (by omega)).mono ?_
  rintro e wq ⟨al, cl, rfl, hz, bq⟩
  have bq2 := below_tr bq hb2
  have r2 := (r0.alloc (.cells #[.slice ap np cp, .slice aw nw cw] 39)).belowS bq
  have r3 := (r1.alloc (.cells #[.slice ap np cp, .slice aw nw cw] 39)).belowS bq
  have hsq := bq.size
  have hz2 := hz.start
  obtain ⟨Z, hZ⟩ : ∃ Z, Z = R ++ W := ⟨_, rfl⟩
  rw [← hZ] at hz2 hl
  have hlz : Z.length = np + nw := by rw [hZ, List.length_append]; omega
  have HZ := Lib.hid hZ
  have hn48 : np + nw ≤ 48 := by omega
  have hcast : ((np : Int) + (nw : Int)) = ((np + nw : Nat) : Int) := by omega
  clear hz h1 h2 hl1 hl2 k0 k1 r0 r1 hb2 bq hw1 hZ
  generalize np + nw = n at *
  have HW1 := Lib.hid (And.intro hs1 hb1)
  have HL := Lib.hid (And.intro hl hlz)
  clear hl hlz hb1 hs1
  have NS : neL (Z.take 0) = [] := rfl
  go_wp2_with fail
  go_loopw [18] (fun i wr => ∃ (k m : Nat) (ao' : Option Addr) (c' : Nat) (us : List Value), i = .int .i64 k ∧ k ≤ n ∧ CoxSt w1 wr N ao' m c' us (neL (Z.take k)) ∧ HeadsA w (w1.heap.size + 2) wr al n Z ao') (fun i _ => n - (intOf i).toNat)
  case atStart => exact ⟨0, 0, none, 0, [], rfl, Nat.zero_le _, ⟨r2, r3, by rw [NS]; exact OwR.empty_ (Own.nil_ _ _ _) (fun g hg => by cases hg), by simp at hsq ⊢; omega, bq2, by omega⟩, fun h0 => by obtain ⟨b, e, h1, h2⟩ := hz2 h0; exact ⟨b, e, by simp at h1; omega, h2⟩⟩
  case round =>
    obtain ⟨k, m, ao', c', us, rfl, hk, st, hh⟩ := hrel
    clear r2 r3 hz2 bq2 hsq NS
    have hbw : Below w.heap.size w wr := HW1.out.2.trans (st.below.mono (by have := HW1.out.1; omega))
    by_cases hlt : k < n
    · obtain ⟨b, a1, n1, c1, rfl, hc, hi⟩ := hh.at_ hbw hlt
      have x0 := st.box.cell 0
      have x1 := st.box.cell 1
      have f1 := st.box.frozen 1
      simp at x0 x1
      have ST := Lib.hid st
      have HH := Lib.hid hh
      have HT := Lib.hid (neL_succ (zss := Z) (k := k) (by have := HL.out.2; omega))
      have hil := hi.1
      have hmem : lget Z k ∈ Z := by rw [lget_lt (by have := HL.out.2; omega)]; exact List.getElem_mem _
      have hn1 : n1 ≤ 1000 := by have := HL.out.1 _ hmem; omega
      have hm : m + 1 ≤ 1000 := by have h1 := st.row.len; have h2 := neL_len (Z.take k); rw [List.length_take] at h2; omega
      have HM := Lib.hid hm
      have hI : Ints wr.drew a1 n1 (lget Z k) := hi.below (below_drew1 _)
      have HI := Lib.hid hI
      have hsz := st.size
      clear st hh hi hmem hm hbw hI
      by_cases h0 : 0 < n1
      · have HO : Hid ((if 0 < (lget Z k).length then [lget Z k] else []) = [lget Z k]) := Lib.hid (if_pos (by omega))
        clear hil
        go_wp2_with fail
        go_region_law (first | (refine step_ap1 (o := ⟨some 30, _, _, _, _, _⟩) etSS rfl (.tmp 26) (.tmp 29) rfl (w1.heap.size + 2) ao' m c' us rfl (ST.out.row.own.below B3) (.slice a2 n1 c2) w2.heap.size 1 rfl ((blk_at rfl).cell 0) rfl (by have := HM.out; omega) (by have := B3.size; simp at *; omega) ?_; intro ao2 c3 w4 o4 g4 hat; have B4S : Below (w1.heap.size + 2) wr w4 := (B3S.grown g4 (by have := B3.size; omega) (fun g hg => (ST.out.row.own.lt g hg).1)); have x4 : w4.cell? ⟨w1.heap.size + 1, 1, none⟩ = some (.slice ao' m c') := (ST.out.box.below B4S (by omega)).cell 1; have f4 : w4.frozen? ⟨w1.heap.size + 1, 1, none⟩ = false := (ST.out.box.below B4S (by omega)).frozen 1) | (go_simp; go_at_call 184; refine (clone_any a1 n1 c1 (lget Z k) _ HI.out (by omega)).mono ?_; rintro e w2 ⟨a2, c2, rfl, o1, b1⟩; have B2 : Below wr.heap.size wr w2 := below_tr b1 (below_drew1 _); have B2S := B2.mono hsz; have B3 : Below wr.heap.size wr (w2.alloc (.cells #[.slice a2 n1 c2] 49)) := B2.alloc B2.size _; have B3S := B3.mono hsz; have x2 : w2.cell? ⟨w1.heap.size + 1, 1, none⟩ = some (.slice ao' m c') := (ST.out.box.below B2S (by omega)).cell 1; have x3 : (w2.alloc (.cells #[.slice a2 n1 c2] 49)).cell? ⟨w1.heap.size + 1, 1, none⟩ = some (.slice ao' m c') := (ST.out.box.below B3S (by omega)).cell 1))
        all_goals
          have st2 := ST.out.push HM.out B2 (o1.mono (Nat.le_of_eq (by rfl))) (below_alloc1 _ _) o4 g4 hat
          have hh2 := HH.out.push B2 (below_alloc1 _ _) g4 hat (p := ⟨w1.heap.size + 1, 1, none⟩) (by simp) (.slice ao2 (m + 1) c3)
          have hs4 := B4S.size
          generalize w4.setCell ⟨w1.heap.size + 1, 1, none⟩ (.slice ao2 (m + 1) c3) = wf at *
          clear B2 B2S B3 B3S B4S x0 x1 x2 x3 x4 f1 f4 o1 b1 o4 g4 hat ST HH
          go_wp2_with fail
          go_roundw
          case rel => exact ⟨k + 1, m + 1, ao2, c3, _, by go_num, by omega, by rw [HT.out, HO.out]; exact st2, hh2⟩
          case measure => simp [intOf]; omega
      · have HO : Hid ((if 0 < (lget Z k).length then [lget Z k] else []) = []) := Lib.hid (if_neg (by omega))
        obtain rfl : n1 = 0 := by omega
        clear hil
        go_wp2_with fail
        go_roundw
        case rel => exact ⟨k + 1, m, ao', c', us, by go_num, by omega, by rw [HT.out, HO.out, List.append_nil]; exact ST.out, HH.out⟩
        case measure => simp [intOf]; omega
    · obtain rfl : k = n := by omega
      have x0 := st.box.cell 0
      have x1 := st.box.cell 1
      have y0 := st.res.cell 0
      have y1 := st.res.cell 1
      have f0 := st.res.frozen 0
      have f1 := st.res.frozen 1
      simp at x0 x1 y0 y1
      have hlen := st.row.len
      have hTZ : Z.take k = Z := List.take_of_length_le (by have := HL.out.2; omega)
      rw [hTZ] at st hlen
      have ST := Lib.hid st
      have HLEN := Lib.hid hlen
      clear st hh hbw hlen
      by_cases h24 : m ≤ 24
      · have c24 : decide ((m : Int) > 24) = false := by simp; omega
        have h24z : (neL Z).length ≤ 24 := by rw [HLEN.out]; exact h24
        have hK : wrK (R ++ W) = 0 := by rw [← HZ.out]; unfold wrK; rw [if_pos h24z]
        have hV : wrV N (R ++ W) = ((N : Int), neL Z) := by rw [← HZ.out]; unfold wrV; rw [if_pos h24z]
        have HK := Lib.hid (And.intro hK hV)
        clear hK hV h24z
        go_wp2_with fail
        have st2 := ST.out.done
        generalize (wr.setCell ⟨w1.heap.size, 0, none⟩ (.int .i64 N)).setCell ⟨w1.heap.size, 1, none⟩ (.slice ao' m c') = wf at *
        have e0 := st2.1.cell 0
        have e1 := st2.1.cell 1
        simp at e0 e1
        have hs1 := HW1.out.1
        refine bodyPost_ret (v := .tuple #[.agg #[.int .i64 N, .slice ao' m c'], .int .i64 0]) (by simp [results, Try.f112, go_sem, e0, e1]) rfl ⟨_, by rw [HK.out.1], ?_, HW1.out.2.trans (st2.2.2.mono (by omega))⟩
        rw [HK.out.2]
        exact ⟨ao', m, c', us, rfl, st2.2.1.mono (by omega) (Nat.le_refl _)⟩
      · have c24 : decide ((m : Int) > 24) = true := by simp; omega
        have h24z : ¬ (neL Z).length ≤ 24 := by rw [HLEN.out]; exact h24
        have hK : wrK (R ++ W) = 3 := by rw [← HZ.out]; unfold wrK; rw [if_neg h24z]
        have hV : wrV N (R ++ W) = (0, []) := by rw [← HZ.out]; unfold wrV; rw [if_neg h24z]
        have HK := Lib.hid (And.intro hK hV)
        clear hK hV h24z
        go_wp2_with fail
        have st2 := ((ST.out.res.set_ 0 (.int .i64 0)).set_ 1 (.slice none 0 0))
        have hbf := (ST.out.below.setCell (p := ⟨w1.heap.size, 0, none⟩) (by simp) (.int .i64 0)).setCell (p := ⟨w1.heap.size, 1, none⟩) (by simp) (.slice none 0 0)
        have hsf : w1.heap.size + 2 ≤ ((wr.setCell ⟨w1.heap.size, 0, none⟩ (.int .i64 0)).setCell ⟨w1.heap.size, 1, none⟩ (.slice none 0 0)).heap.size := by have := ST.out.size; simp [World.setCell]; omega
        generalize (wr.setCell ⟨w1.heap.size, 0, none⟩ (.int .i64 0)).setCell ⟨w1.heap.size, 1, none⟩ (.slice none 0 0) = wf at *
        have e0 := st2.cell 0
        have e1 := st2.cell 1
        simp at e0 e1
        have hs1 := HW1.out.1
        refine bodyPost_ret (v := .tuple #[.agg #[.int .i64 0, .slice none 0 0], .int .i64 3]) (by simp [results, Try.f112, go_sem, e0, e1]) rfl ⟨_, by rw [HK.out.1], ?_, HW1.out.2.trans (hbf.mono (by omega))⟩
        rw [HK.out.2]
        exact ⟨none, 0, 0, [], rfl, OwR.empty_ (Own.nil_ _ _ _) (fun g hg => by cases hg)⟩
end Go.Proofs.Ytpognnifgcacnaa

/- WithRelators, the reference's. -/
namespace Go.Proofs.Ytpognnifgcacnaa
open Go.RowKit

/-- the presentation with the words that are not empty laid behind its relators -/
def wrR (d : PresD) (ws : List (List Int)) : PresD := if withOk d ws = true then wrV d.1 (d.2 ++ ws) else (0, [])
def wrC (d : PresD) (ws : List (List Int)) : Int := if withOk d ws = true then wrK (d.2 ++ ws) else 1

theorem withOk_pres {d : PresD} {ws : List (List Int)} (h : withOk d ws = true) : isPres d = true ∧ wordsTo d.1 0 ws = true := by
  unfold withOk at h; simpa using h
theorem isPres_few {d : PresD} (h : isPres d = true) : d.2.length ≤ 24 ∧ neL d.2 = d.2 ∧ ∀ z ∈ d.2, z.length ≤ 64 := by
  unfold isPres at h
  simp only [Bool.and_eq_true, decide_eq_true_eq, List.all_eq_true] at h
  refine ⟨h.1.2, List.filter_eq_self.2 fun z hz => by have := h.2 z hz; simp; omega, fun z hz => ?_⟩
  have := (h.2 z hz).1
  unfold isWordTo at this
  simp only [Bool.and_eq_true, decide_eq_true_eq] at this
  exact this.1
theorem wordsTo_few {g : Int} {k : Nat} {ws : List (List Int)} (h : wordsTo g k ws = true) : ws.length ≤ 24 ∧ ∀ z ∈ ws, z.length ≤ 64 := by
  unfold wordsTo at h
  simp only [Bool.and_eq_true, decide_eq_true_eq, List.all_eq_true] at h
  refine ⟨h.1, fun z hz => ?_⟩
  have := (h.2 z hz).1
  unfold isWordTo at this
  simp only [Bool.and_eq_true, decide_eq_true_eq] at this
  exact this.1
theorem neL_app (R W : List (List Int)) : neL (R ++ W) = neL R ++ neL W := List.filter_append ..

theorem lenSS_upto {zss : List (List Int)} {k : Nat} (h : ∀ zs ∈ zss, zs.length ≤ k) : lenSS zss ≤ zss.length * k := by
  induction zss with
  | nil => simp [lenSS]
  | cons z t ih =>
    have h1 := h z (by simp)
    have h2 := ih fun x hx => h x (by simp [hx])
    simp [lenSS, Nat.add_mul] at *
    omega
section
variable {D : Type} {Ow1 : World → Value → D → Prop} {w w' : World} {lo hi E : Nat} {ao : Option Addr} {n c : Nat} {us : List Value} {ds : List D}
/-- the row's own blocks have not turned -/
theorem OwR.same2 (I : Inner Ow1) (h : OwR Ow1 w lo hi E ao n c us ds) (hs : ∀ g, (bk ao = some g ∨ ∃ (j : Nat) (u : Value), us[j]? = some u ∧ u.ownBlock = some g) → w'.heap[g]? = w.heap[g]?) : OwR Ow1 w' lo hi E ao n c us ds :=
  { own := h.own.same fun g hg => hs g (.inl hg)
    top := h.top, len := h.len, rng := h.rng, out := h.out, apart := h.apart
    el := fun j u d hu hd => I.loc (h.el j u d hu hd) fun g hg => hs g (.inr ⟨j, u, hu, hg⟩) }
end

/-- the box of the result (rb), the box of the presentation that grows (bx), its relators -/
structure WsSt (w wr : World) (rb bx lo : Nat) (N : Int) (ao : Option Addr) (m c : Nat) (us : List Value) (ds : List (List Int)) : Prop where
  res : Blk wr rb 72 #[.int .i64 0, .slice none 0 0]
  box : Blk wr bx 72 #[.int .i64 N, .slice ao m c]
  row : OwR (OwS 2) wr lo wr.heap.size 49 ao m c us ds
  far : bk ao ≠ some bx ∧ ∀ (j : Nat) (u : Value), us[j]? = some u → u.ownBlock ≠ some bx
  at_ : w.heap.size ≤ rb ∧ rb < lo ∧ w.heap.size ≤ bx ∧ rb ≠ bx ∧ lo ≤ wr.heap.size
  below : Below w.heap.size w wr
  few : m ≤ 1000

theorem WsSt.push {w wr w2 w3 w4 : World} {rb bx lo m c' n1 c1 c2 : Nat} {N : Int} {ao' a1 ao2 : Option Addr} {us : List Value} {ds : List (List Int)} {zs : List Int} (st : WsSt w wr rb bx lo N ao' m c' us ds) (hm : m + 1 ≤ 1000)
    (b2 : Below wr.heap.size wr w2) (o1 : Own w2 wr.heap.size 2 a1 n1 c1 (zs.map (Value.int .i64))) (b3 : Below w2.heap.size w2 w3) (o4 : Own w4 lo 49 ao2 (m + 1) c2 (us ++ [.slice a1 n1 c1]))
    (g4 : w3.grownBy w4 (bk ao')) (hat : bk ao2 = bk ao' ∨ bk ao2 = some w3.heap.size) :
    WsSt w (w4.setCell ⟨bx, 1, none⟩ (.slice ao2 (m + 1) c2)) rb bx lo N ao2 (m + 1) c2 (us ++ [.slice a1 n1 c1]) (ds ++ [zs]) := by
  obtain ⟨h1, h2, h3, h4, h5⟩ := st.at_
  have hR := rows_push st.row h5 b2 o1 b3 o4 g4 hat
  have s2 := b2.size
  have s3 := b3.size
  have s4 := g4.size
  have hbx := st.box.lt
  have B4 : Below w.heap.size w w4 := (st.below.trans ((b2.trans (b3.mono s2)).mono (by omega))).grown g4 (by omega) (fun g hg => by have := (st.row.own.lt g hg).1; omega)
  have hh : (w4.setCell ⟨bx, 1, none⟩ (.slice ao2 (m + 1) c2)).heap.size = w4.heap.size := by simp [World.setCell]
  have k : ∀ g, g < wr.heap.size → bk ao' ≠ some g → w4.heap[g]? = wr.heap[g]? := fun g hg hne => by
    rw [g4.block g (by omega) (fun e => hne e.symm), b3.block g (by omega), b2.block g hg]
  have hf : bk ao2 ≠ some bx ∧ ∀ (j : Nat) (u : Value), (us ++ [.slice a1 n1 c1])[j]? = some u → u.ownBlock ≠ some bx := by
    refine ⟨?_, fun j u hj => ?_⟩
    · rcases hat with e | e
      · rw [e]; exact st.far.1
      · rw [e]; intro e2; have := Option.some.inj e2; omega
    · rw [List.getElem?_append] at hj
      split at hj
      · exact st.far.2 j u hj
      · have hj0 : j - us.length = 0 := by
          rcases Nat.eq_zero_or_pos (j - us.length) with h | h
          · exact h
          · rw [List.getElem?_eq_none (by simp; omega)] at hj; cases hj
        rw [hj0] at hj
        obtain rfl : Value.slice a1 n1 c1 = u := by simpa using hj
        rw [ownBlock_slice]
        intro e; have := (o1.lt _ e).1; omega
  refine ⟨?_, ?_, ?_, hf, ⟨h1, h2, h3, h4, by rw [hh]; omega⟩, B4.setCell (by simp; omega) _, hm⟩
  · refine Blk.far ?_ (by simp; omega) _
    unfold Blk
    rw [k rb (by omega) (fun e => by have := (st.row.own.lt _ e).1; omega)]
    exact st.res
  · have : Blk w4 bx 72 #[.int .i64 N, .slice ao' m c'] := by unfold Blk; rw [k bx hbx st.far.1]; exact st.box
    simpa using this.set_ 1 (.slice ao2 (m + 1) c2)
  · rw [hh]
    refine hR.same2 (innerS _) fun g hg => Below.heap_setCell _ _ _ _ ?_
    rcases hg with hg | ⟨j, u, hj, hg⟩
    · intro e; exact hf.1 (by simp at e; rw [← e]; exact hg)
    · intro e; exact hf.2 j u hj (by simp at e; rw [← e]; exact hg)

theorem WsSt.done {w wr : World} {rb bx lo m c' : Nat} {N : Int} {ao' : Option Addr} {us : List Value} {ds : List (List Int)} (st : WsSt w wr rb bx lo N ao' m c' us ds) (x : Int) (y : Value) :
    Blk ((wr.setCell ⟨rb, 0, none⟩ (.int .i64 x)).setCell ⟨rb, 1, none⟩ y) rb 72 #[.int .i64 x, y] ∧
    OwR (OwS 2) ((wr.setCell ⟨rb, 0, none⟩ (.int .i64 x)).setCell ⟨rb, 1, none⟩ y) lo ((wr.setCell ⟨rb, 0, none⟩ (.int .i64 x)).setCell ⟨rb, 1, none⟩ y).heap.size 49 ao' m c' us ds ∧
    Below w.heap.size w ((wr.setCell ⟨rb, 0, none⟩ (.int .i64 x)).setCell ⟨rb, 1, none⟩ y) := by
  obtain ⟨h1, h2, h3, h4, h5⟩ := st.at_
  have hh : ((wr.setCell ⟨rb, 0, none⟩ (.int .i64 x)).setCell ⟨rb, 1, none⟩ y).heap.size = wr.heap.size := by simp [World.setCell]
  refine ⟨?_, ?_, (st.below.setCell (by simp; omega) _).setCell (by simp; omega) _⟩
  · have := (st.res.set_ 0 (.int .i64 x)).set_ 1 y
    simpa using this
  · rw [hh]
    exact st.row.same (innerS _) fun g h1 _ _ => by rw [Below.heap_setCell _ _ _ _ (by simp; omega), Below.heap_setCell _ _ _ _ (by simp; omega)]

theorem WsSt.start1 {w w1 w2 : World} {rb n2 c2 : Nat} {N : Int} {a2 : Option Addr} {us : List Value} {ds : List (List Int)} (k1 : Blk w1 rb 72 #[.int .i64 0, .slice none 0 0]) (hb : Below w.heap.size w w1) (h1 : w.heap.size ≤ rb)
    (b2 : Below w1.heap.size w1 w2) (o2 : OwR (OwS 2) w2 w1.heap.size w2.heap.size 49 a2 n2 c2 us ds) (hf : n2 ≤ 1000) : WsSt w (w2.alloc (.cells #[.int .i64 N, .slice a2 n2 c2] 72)) rb w2.heap.size w1.heap.size N a2 n2 c2 us ds := by
  have hs := b2.size
  have hl := k1.lt
  refine ⟨(k1.belowS b2).alloc _, blk_at rfl, (o2.below (innerS _) (below_alloc1 _ _)).mono (Nat.le_refl _) (by simp), ⟨fun e => by have := o2.top _ e; omega, fun j u hj e => by have := (o2.rng j u hj _ e).2; omega⟩, ⟨h1, hl, by have := hb.size; omega, by omega, by simp; omega⟩, (hb.trans (b2.mono hb.size)).alloc (by have := hb.size; omega) _, hf⟩
theorem WsSt.start2 {w w1 w2 : World} {rb lo n2 c2 : Nat} {N : Int} {a2 : Option Addr} {us : List Value} {ds : List (List Int)} (k1 : Blk w1 rb 72 #[.int .i64 0, .slice none 0 0]) (hb : Below w.heap.size w w1) (h1 : w.heap.size ≤ rb)
    (b2 : Below (w1.alloc (.cells #[.int .i64 0, .slice none 0 0] 72)).heap.size (w1.alloc (.cells #[.int .i64 0, .slice none 0 0] 72)) w2) (hlo : lo = w1.heap.size + 1) (o2 : OwR (OwS 2) w2 lo w2.heap.size 49 a2 n2 c2 us ds) (hf : n2 ≤ 1000) :
    WsSt w ((w2.setCell ⟨w1.heap.size, 0, none⟩ (.int .i64 N)).setCell ⟨w1.heap.size, 1, none⟩ (.slice a2 n2 c2)) rb w1.heap.size (w1.heap.size + 1) N a2 n2 c2 us ds := by
  subst hlo
  simp only [World.alloc, Array.size_push] at b2
  have b2 : Below (w1.heap.size + 1) (w1.alloc (.cells #[.int .i64 0, .slice none 0 0] 72)) w2 := b2
  have hs := b2.size
  simp at hs
  have hl := k1.lt
  have hbs := hb.size
  have hh : ((w2.setCell ⟨w1.heap.size, 0, none⟩ (.int .i64 N)).setCell ⟨w1.heap.size, 1, none⟩ (.slice a2 n2 c2)).heap.size = w2.heap.size := by simp [World.setCell]
  have kx : Blk w2 w1.heap.size 72 #[.int .i64 0, .slice none 0 0] := (blk_at (w := w1) rfl).below b2 (by omega)
  refine ⟨(((k1.alloc _).below b2 (by omega)).far (by simp; omega) _).far (by simp; omega) _, by simpa using (kx.set_ 0 (.int .i64 N)).set_ 1 (.slice a2 n2 c2), ?_, ⟨fun e => by have := (o2.own.lt _ e).1; omega, fun j u hj e => by have := (o2.rng j u hj _ e).1; omega⟩, ⟨h1, by omega, by omega, by omega, by rw [hh]; omega⟩, ((((hb.trans ((below_alloc1 w1 _).mono hbs)).trans (b2.mono (by omega))).setCell (by simp; omega) _).setCell (by simp; omega) _), hf⟩
  rw [hh]
  exact o2.same (innerS _) fun g h1 _ _ => by rw [Below.heap_setCell _ _ _ _ (by simp; omega), Below.heap_setCell _ _ _ _ (by simp; omega)]

set_option maxRecDepth 100000 in
set_option maxHeartbeats 3200000 in
theorem withS_any {v : Value} {d : PresD} (ao : Option Addr) (n c : Nat) (ws : List (List Int)) (w : World) (h : RdP w v d) (h' : Intss w ao n ws) :
    Calls Try.prog 80 #[v, .slice ao n c] w fun e w' => ∃ v, e = .returned (.tuple #[v, .int .i64 (wrC d ws)]) ∧ OwP 2 49 w' w.heap.size w'.heap.size v (wrR d ws) ∧ Below w.heap.size w w' := by
  cases hp : withOk d ws with
  | false =>
    have hC : wrC d ws = 1 := by unfold wrC; rw [hp]; rfl
    have hR : wrR d ws = (0, []) := by unfold wrR; rw [hp]; rfl
    have hW : withC d ws = 1 := by unfold withC; rw [hp]; rfl
    obtain ⟨ro, rn, rc, rfl, hr⟩ := h
    go_enter Try.func80, Try.ntmps80
    have hb := below_alloc2 w (.cells #[.int .i64 d.1, .slice ro rn rc] 72) (.cells #[.int .i64 0, .slice none 0 0] 72)
    have kb : Blk ((w.alloc (.cells #[.int .i64 d.1, .slice ro rn rc] 72)).alloc (.cells #[.int .i64 0, .slice none 0 0] 72)) (w.heap.size + 1) 72 #[.int .i64 0, .slice none 0 0] := blk_at (by simp)
    have h1 : RdP ((w.alloc (.cells #[.int .i64 d.1, .slice ro rn rc] 72)).alloc (.cells #[.int .i64 0, .slice none 0 0] 72)) (.agg #[.int .i64 d.1, .slice ro rn rc]) d := ⟨ro, rn, rc, rfl, hr.below hb⟩
    have h2 := h'.below hb
    have HP := Lib.hid (And.intro hC (And.intro hR hW))
    clear hC hR hW hr h'
    go_wp2_with fail
    refine (specCode_any ao n c ws _ h1 h2).mono ?_
    rintro e w1 ⟨rfl, b1⟩
    rw [HP.out.2.2]
    have k1 := kb.belowS b1
    have y0 := k1.cell 0
    have y1 := k1.cell 1
    have f0 := k1.frozen 0
    have f1 := k1.frozen 1
    simp at y0 y1
    have B1 := below_tr b1 hb
    clear h1 h2 hb kb b1
    go_wp2_with fail
    have st2 := ((k1.set_ 0 (.int .i64 0)).set_ 1 (.slice none 0 0))
    have hbf := (B1.setCell (p := ⟨w.heap.size + 1, 0, none⟩) (by simp) (.int .i64 0)).setCell (p := ⟨w.heap.size + 1, 1, none⟩) (by simp) (.slice none 0 0)
    generalize (w1.setCell ⟨w.heap.size + 1, 0, none⟩ (.int .i64 0)).setCell ⟨w.heap.size + 1, 1, none⟩ (.slice none 0 0) = wf at *
    have e0 := st2.cell 0
    have e1 := st2.cell 1
    simp at e0 e1
    refine bodyPost_ret (v := .tuple #[.agg #[.int .i64 0, .slice none 0 0], .int .i64 1]) (by simp [results, Try.f80, go_sem, e0, e1]) rfl ⟨_, by rw [HP.out.1], ?_, hbf⟩
    rw [HP.out.2.1]
    exact ⟨none, 0, 0, [], rfl, OwR.empty_ (Own.nil_ _ _ _) (fun g hg => by cases hg)⟩
  | true =>
    have hC : wrC d ws = wrK (d.2 ++ ws) := by unfold wrC; rw [hp]; rfl
    have hR : wrR d ws = wrV d.1 (d.2 ++ ws) := by unfold wrR; rw [hp]; rfl
    have hW : withC d ws = 0 := by unfold withC; rw [hp]; rfl
    obtain ⟨hp1, hp2⟩ := withOk_pres hp
    obtain ⟨q1, q2, q3⟩ := isPres_few hp1
    obtain ⟨q4, q5⟩ := wordsTo_few hp2
    have hll : d.2.length + lenSS d.2 ≤ 1048576 := by have := lenSS_upto q3; omega
    obtain ⟨ro, rn, rc, rfl, hr⟩ := h
    go_enter Try.func80, Try.ntmps80
    have HLL := Lib.hid hll
    have hb := below_alloc2 w (.cells #[.int .i64 d.1, .slice ro rn rc] 72) (.cells #[.int .i64 0, .slice none 0 0] 72)
    have kp : Blk ((w.alloc (.cells #[.int .i64 d.1, .slice ro rn rc] 72)).alloc (.cells #[.int .i64 0, .slice none 0 0] 72)) w.heap.size 72 #[.int .i64 d.1, .slice ro rn rc] := (blk_at rfl).alloc _
    have kb : Blk ((w.alloc (.cells #[.int .i64 d.1, .slice ro rn rc] 72)).alloc (.cells #[.int .i64 0, .slice none 0 0] 72)) (w.heap.size + 1) 72 #[.int .i64 0, .slice none 0 0] := blk_at (by simp)
    have h1 : RdP ((w.alloc (.cells #[.int .i64 d.1, .slice ro rn rc] 72)).alloc (.cells #[.int .i64 0, .slice none 0 0] 72)) (.agg #[.int .i64 d.1, .slice ro rn rc]) d := ⟨ro, rn, rc, rfl, hr.below hb⟩
    have h2 := h'.below hb
    have HP := Lib.hid (And.intro hC (And.intro hR hW))
    have HR := Lib.hid hr
    have HI := Lib.hid h'
    have hn := h'.1
    have hrn := hr.1
    clear hC hR hW hr h'
    go_wp2_with fail
    refine (specCode_any ao n c ws _ h1 h2).mono ?_
    rintro e w1 ⟨rfl, b1⟩
    rw [HP.out.2.2]
    have k0 := kp.belowS b1
    have k1 := kb.belowS b1
    have z0 := k0.cell 0
    have z1 := k0.cell 1
    simp at z0 z1
    have B1 := below_tr b1 hb
    have s1 : w.heap.size + 2 ≤ w1.heap.size := by have := b1.size; simp at this; omega
    have K0 := Lib.hid k0
    have K1 := Lib.hid k1
    clear h1 h2 hb kb b1 kp k0 k1
    go_wp2_with fail
    rename_i K hK
    have tail : ∀ (bx lo : Nat) (wf : World) (a2 : Option Addr) (n2 c2 : Nat) (us2 : List Value), WsSt w wf (w.heap.size + 1) bx lo d.1 a2 n2 c2 us2 d.2 → K { tmps := #[.agg #[.int .i64 d.1, .slice ro rn rc], .slice ao n c, .pointer (some ⟨w.heap.size, 0, none⟩), undef, .pointer (some ⟨w.heap.size + 1, 0, none⟩), .int .i64 0, .int .i64 0, .pointer (some ⟨bx, 0, none⟩), undef, .agg #[.int .i64 d.1, .slice ro rn rc], .slice ao n c, .int .i64 0, .int .i64 0, .bool false, undef, undef, .pointer (some ⟨w.heap.size, 0, none⟩), .int .i64 d.1, .pointer (some ⟨w.heap.size, 1, none⟩), .slice ro rn rc, .slice a2 n2 c2, .agg #[.int .i64 d.1, .slice a2 n2 c2], undef, undef, undef, undef, undef, undef, undef, undef, undef, undef, undef, undef, undef, undef, undef, undef, undef, undef, undef, undef, undef, undef, undef, undef, undef, undef, undef, undef], defers := [] } wf := by
      intro bx lo wf a2 n2 c2 us2 st0
      refine hK _ _ ?_
      clear hK z0 z1 B1 s1 K0 K1
      go_wp2_with fail
      go_loopw [8] (fun i wr => ∃ (k m : Nat) (ao' : Option Addr) (c' : Nat) (us : List Value), i = .int .i64 k ∧ k ≤ n ∧ WsSt w wr (w.heap.size + 1) bx lo d.1 ao' m c' us (d.2 ++ neL (ws.take k))) (fun i _ => n - (intOf i).toNat)
      case atStart => exact ⟨0, n2, a2, c2, us2, rfl, Nat.zero_le _, by rw [show neL (ws.take 0) = [] from rfl, List.append_nil]; exact st0⟩
      case round =>
        obtain ⟨k, m, ao', c', us, rfl, hk, st⟩ := hrel
        clear st0
        by_cases hlt : k < n
        · obtain ⟨b, off, a1, n1, c1, rfl, hc, hi⟩ := (HI.out.below st.below).at_ hlt
          have x0 := st.box.cell 0
          have x1 := st.box.cell 1
          have f1 := st.box.frozen 1
          simp at x0 x1
          have ST := Lib.hid st
          have HT := Lib.hid (neL_succ (zss := ws) (k := k) (by omega))
          have hil := hi.1
          have hmem : lget ws k ∈ ws := by rw [lget_lt (by omega)]; exact List.getElem_mem _
          have hn1 : n1 ≤ 64 := by have := q5 _ hmem; omega
          have hm : m + 1 ≤ 1000 := by have h1 := st.row.len; have h2 := neL_len (ws.take k); rw [List.length_take] at h2; rw [List.length_append] at h1; omega
          have HM := Lib.hid hm
          have hI : Ints wr.drew a1 n1 (lget ws k) := hi.below (below_drew1 _)
          have HII := Lib.hid hI
          have hpos := st.at_
          have hbx := st.box.lt
          clear st hi hmem hm hI
          by_cases h0 : 0 < n1
          · have HO : Hid ((if 0 < (lget ws k).length then [lget ws k] else []) = [lget ws k]) := Lib.hid (if_pos (by omega))
            clear hil
            go_wp2_with fail
            go_region_law (first | (refine step_ap1 (o := ⟨some 42, _, _, _, _, _⟩) etSS rfl (.tmp 35) (.tmp 41) rfl lo ao' m c' us rfl (ST.out.row.own.below B3) (.slice a2' n1 c2') w2.heap.size 1 rfl ((blk_at rfl).cell 0) rfl (by have := HM.out; omega) (by have := B3.size; simp at *; omega) ?_; intro ao2 c3 w4 o4 g4 hat; have B4 : Below lo wr w4 := ((B3.mono hpos.2.2.2.2).grown g4 (by have := B3.size; omega) (fun g hg => (ST.out.row.own.lt g hg).1)); have k4 : Blk w4 bx 72 #[.int .i64 d.1, .slice ao' m c'] := (g4.block bx (by have := B3.size; omega) (fun e => ST.out.far.1 e.symm)).trans (ST.out.box.belowS B3); have x4 : w4.cell? ⟨bx, 1, none⟩ = some (.slice ao' m c') := k4.cell 1; have f4 : w4.frozen? ⟨bx, 1, none⟩ = false := k4.frozen 1) | (go_simp; go_at_call 121; refine (own_any a1 n1 c1 (lget ws k) _ HII.out (by omega)).mono ?_; rintro e w2 ⟨a2', c2', rfl, o1, b1⟩; have B2 : Below wr.heap.size wr w2 := below_tr b1 (below_drew1 _); have B3 : Below wr.heap.size wr (w2.alloc (.cells #[.slice a2' n1 c2'] 49)) := B2.alloc B2.size _; have x2 : w2.cell? ⟨bx, 1, none⟩ = some (.slice ao' m c') := (ST.out.box.belowS B2).cell 1; have x3 : (w2.alloc (.cells #[.slice a2' n1 c2'] 49)).cell? ⟨bx, 1, none⟩ = some (.slice ao' m c') := (ST.out.box.belowS B3).cell 1))
            all_goals
              have st2 := ST.out.push HM.out B2 (o1.mono (Nat.le_of_eq (by rfl))) (below_alloc1 _ _) o4 g4 hat
              have hs4 := B4.size
              generalize w4.setCell ⟨bx, 1, none⟩ (.slice ao2 (m + 1) c3) = wf2 at *
              clear B2 B3 B4 x0 x1 x2 x3 x4 k4 f1 f4 o1 b1 o4 g4 hat ST
              go_wp2_with fail
              go_roundw
              case rel => exact ⟨k + 1, m + 1, ao2, c3, _, by go_num, by omega, by rw [HT.out, HO.out, ← List.append_assoc]; exact st2⟩
              case measure => simp [intOf]; omega
          · have HO : Hid ((if 0 < (lget ws k).length then [lget ws k] else []) = []) := Lib.hid (if_neg (by omega))
            obtain rfl : n1 = 0 := by omega
            clear hil
            go_wp2_with fail
            go_roundw
            case rel => exact ⟨k + 1, m, ao', c', us, by go_num, by omega, by rw [HT.out, HO.out, List.append_nil]; exact ST.out⟩
            case measure => simp [intOf]; omega
        · obtain rfl : k = n := by omega
          have x0 := st.box.cell 0
          have x1 := st.box.cell 1
          have y0 := st.res.cell 0
          have y1 := st.res.cell 1
          have f0 := st.res.frozen 0
          have f1 := st.res.frozen 1
          simp at x0 x1 y0 y1
          have hlen := st.row.len
          have hTZ : ws.take k = ws := List.take_of_length_le (by omega)
          rw [hTZ] at st hlen
          have hNE : d.2 ++ neL ws = neL (d.2 ++ ws) := by rw [neL_app, q2]
          rw [hNE] at st hlen
          have ST := Lib.hid st
          have HLEN := Lib.hid hlen
          clear st hlen hNE
          by_cases h24 : m ≤ 24
          · have c24 : decide ((m : Int) > 24) = false := by simp; omega
            have h24z : (neL (d.2 ++ ws)).length ≤ 24 := by rw [HLEN.out]; exact h24
            have hK : wrC d ws = 0 := by rw [HP.out.1]; unfold wrK; rw [if_pos h24z]
            have hV : wrR d ws = (d.1, neL (d.2 ++ ws)) := by rw [HP.out.2.1]; unfold wrV; rw [if_pos h24z]
            have HK := Lib.hid (And.intro hK hV)
            clear hK hV h24z
            go_wp2_with fail
            have st2 := ST.out.done d.1 (.slice ao' m c')
            have hpos := ST.out.at_
            generalize (wr.setCell ⟨w.heap.size + 1, 0, none⟩ (.int .i64 d.1)).setCell ⟨w.heap.size + 1, 1, none⟩ (.slice ao' m c') = wf2 at *
            have e0 := st2.1.cell 0
            have e1 := st2.1.cell 1
            simp at e0 e1
            refine bodyPost_ret (v := .tuple #[.agg #[.int .i64 d.1, .slice ao' m c'], .int .i64 0]) (by simp [results, Try.f80, go_sem, e0, e1]) rfl ⟨_, by rw [HK.out.1], ?_, st2.2.2⟩
            rw [HK.out.2]
            exact ⟨ao', m, c', us, rfl, st2.2.1.mono (by omega) (Nat.le_refl _)⟩
          · have c24 : decide ((m : Int) > 24) = true := by simp; omega
            have h24z : ¬ (neL (d.2 ++ ws)).length ≤ 24 := by rw [HLEN.out]; exact h24
            have hK : wrC d ws = 3 := by rw [HP.out.1]; unfold wrK; rw [if_neg h24z]
            have hV : wrR d ws = (0, []) := by rw [HP.out.2.1]; unfold wrV; rw [if_neg h24z]
            have HK := Lib.hid (And.intro hK hV)
            clear hK hV h24z
            go_wp2_with fail
            have st2 := ST.out.done 0 (.slice none 0 0)
            generalize (wr.setCell ⟨w.heap.size + 1, 0, none⟩ (.int .i64 0)).setCell ⟨w.heap.size + 1, 1, none⟩ (.slice none 0 0) = wf2 at *
            have e0 := st2.1.cell 0
            have e1 := st2.1.cell 1
            simp at e0 e1
            refine bodyPost_ret (v := .tuple #[.agg #[.int .i64 0, .slice none 0 0], .int .i64 3]) (by simp [results, Try.f80, go_sem, e0, e1]) rfl ⟨_, by rw [HK.out.1], ?_, st2.2.2⟩
            rw [HK.out.2]
            exact ⟨none, 0, 0, [], rfl, OwR.empty_ (Own.nil_ _ _ _) (fun g hg => by cases hg)⟩
    have za0 : (w1.alloc (.cells #[.int .i64 0, .slice none 0 0] 72)).cell? ⟨w.heap.size, 0, none⟩ = some (.int .i64 d.1) := (K0.out.alloc _).cell 0
    have za1 : (w1.alloc (.cells #[.int .i64 0, .slice none 0 0] 72)).cell? ⟨w.heap.size, 1, none⟩ = some (.slice ro rn rc) := (K0.out.alloc _).cell 1
    go_region_law (go_simp; go_at_call 152; refine (own2_any ro rn rc d.2 _ (HR.out.below (below_tr (by first | exact below_drew1 _ | exact (below_drew1 _).alloc (by simp) _) B1)) HLL.out).mono ?_; rintro e w2 ⟨v2, rfl, ⟨a2, n2, c2, us2, rfl, o2⟩, b2⟩; (try have kx : Blk w2 w1.heap.size 72 #[.int .i64 0, .slice none 0 0] := Blk.belowS (w := (w1.alloc (.cells #[.int .i64 0, .slice none 0 0] 72)).drew) (blk_at (w := w1) rfl :) b2); (try have kx0 := kx.cell 0); (try have kx1 := kx.cell 1); (try have kf0 := kx.frozen 0); (try have kf1 := kx.frozen 1); (try simp at kx0 kx1); have kz := K0.out.belowS (below_tr b2 (by first | exact below_drew1 _ | exact (below_drew1 _).alloc (by simp) _)); have z0' : w2.cell? ⟨w.heap.size, 0, none⟩ = some (.int .i64 d.1) := kz.cell 0; have z0'' : (w2.alloc (.cells #[.int .i64 0, .slice none 0 0] 72)).cell? ⟨w.heap.size, 0, none⟩ = some (.int .i64 d.1) := (kz.alloc _).cell 0)
    all_goals first
      | exact tail _ _ _ _ _ _ _ (WsSt.start1 K1.out B1 (by omega) (below_tr b2 (below_drew1 _)) o2 (by have := o2.len; omega))
      | exact tail _ _ _ _ _ _ _ (WsSt.start2 K1.out B1 (by omega) (below_tr b2 (below_drew1 _)) (by first | simp | (show (w1.alloc _).heap.size = _; simp)) o2 (by have := o2.len; omega))
end Go.Proofs.Ytpognnifgcacnaa

/- WithRelators, the program's. -/
namespace Go.Proofs.Ytpognnifgcacnaa
open Go.RowKit

end Go.Proofs.Ytpognnifgcacnaa

/- WithRelators: the contracts that the law calls. -/
namespace Go.Proofs.Ytpognnifgcacnaa
open Go.RowKit

end Go.Proofs.Ytpognnifgcacnaa

/- Permutations: the program's isPermutation and the reference's l01Perm compute one Bool. -/
namespace Go.Proofs.Ytpognnifgcacnaa
open Go.RowKit

theorem etB : ET Try.prog 70 4 (.bool false) 1 := ⟨Try.underlying70, by kernel_rfl, rfl, by omega⟩

/-- the numbers that are still to come are within 0 to n - 1, and none of them has been seen, nor comes twice -/
def permGo (n : Nat) : List Bool → List Int → Bool
  | _, [] => true
  | seen, z :: r => inB z 0 ((n : Int) - 1) && !(seen.getD z.toNat false) && permGo n (seen.set z.toNat true) r
/-- a permutation of at most 400 points -/
def isPerm (zs : List Int) : Bool := decide (zs.length ≤ 400) && permGo zs.length (List.replicate zs.length false) zs

theorem permGo_step {n : Nat} {seen : List Bool} {zs : List Int} {k : Nat} (hk : k < zs.length) :
    permGo n seen (zs.drop k) = (inB (iget zs k) 0 ((n : Int) - 1) && !(seen.getD (iget zs k).toNat false) && permGo n (seen.set (iget zs k).toNat true) (zs.drop (k + 1))) := by
  rw [List.drop_eq_getElem_cons hk, ← iget_lt hk]; rfl

/-- a slice of bools, k of them looked up -/
def bget (bs : List Bool) (k : Nat) : Bool := bs.getD k false
theorem permGo_out {n : Nat} {seen : List Bool} {zs : List Int} {k : Nat} (hk : k < zs.length) (hx : inB (iget zs k) 0 ((n : Int) - 1) = false) : permGo n seen (zs.drop k) = false := by
  rw [permGo_step hk, hx]; rfl
theorem permGo_met {n : Nat} {seen : List Bool} {zs : List Int} {k m : Nat} (hk : k < zs.length) (hm : iget zs k = m) (hb : bget seen m = true) : permGo n seen (zs.drop k) = false := by
  unfold bget at hb
  rw [permGo_step hk, hm, Int.toNat_natCast, hb]; simp
theorem permGo_on {n : Nat} {seen : List Bool} {zs : List Int} {k m : Nat} (hk : k < zs.length) (hm : iget zs k = m) (hx : inB m 0 ((n : Int) - 1) = true) (hb : bget seen m = false) : permGo n seen (zs.drop k) = permGo n (seen.set m true) (zs.drop (k + 1)) := by
  unfold bget at hb
  rw [permGo_step hk, hm, Int.toNat_natCast, hb, hx]; simp
theorem own_bget {w : World} {base E : Nat} {g n c : Nat} {bs : List Bool} (h : Own w base E (some ⟨g, 0, none⟩) n c (bs.map Value.bool)) {k : Nat} (hk : k < n) : w.cell? ⟨g, k, none⟩ = some (.bool (bget bs k)) := by
  obtain ⟨g', hg, _, _, _, hc, _⟩ := h.form (by omega)
  obtain rfl : g = g' := by injection hg with hg; injection hg
  have hl : bs.length = n := by have := h.len; simpa using this
  rw [hc k hk, List.getElem?_map, List.getElem?_eq_getElem (by omega)]
  simp [bget, List.getD, List.getElem?_eq_getElem (show k < bs.length by omega)]
theorem own_frozen {w : World} {base E : Nat} {g n c : Nat} {xs : List Value} (h : Own w base E (some ⟨g, 0, none⟩) n c xs) (k : Nat) : w.frozen? ⟨g, k, none⟩ = false := h.1.frozenAt k

set_option maxHeartbeats 800000 in
theorem specPerm_any (ao : Option Addr) (n c : Nat) (zs : List Int) (w : World) (h : Ints w ao n zs) :
    Calls Try.prog 175 #[.slice ao n c] w fun e w' => e = .returned (.bool (isPerm zs)) ∧ Below w.heap.size w w' := by
  have hn := h.2.1
  have hl := h.1
  have HL := Lib.hid hl
  clear hl
  by_cases hs : n ≤ 400
  · have h1 : decide ((400 : Int) < n) = false := by simp; omega
    have hp : isPerm zs = permGo n (List.replicate n false) zs := by unfold isPerm; rw [HL.out]; simp [hs]
    have HP := Lib.hid hp
    clear hp
    go_enter Try.func175, Try.ntmps175
    go_wp2_with (at_make; refine wpList_mk etB _ rfl _ _ rfl w.heap.size _ _ _ _ n rfl rfl rfl rfl (by omega) (Nat.le_refl _) ?_; intro w1 hown hgrow hsz)
    have hb1 : Below w.heap.size w w1 := (Below.refl _ _).grown hgrow (Nat.le_refl _) (by simp)
    clear hgrow
    go_loopw [4] (fun i wr => ∃ (k : Nat) (seen : List Bool), k ≤ n ∧ i = .int .i64 k ∧ Own wr w.heap.size 4 (some ⟨w.heap.size, 0, none⟩) n n (seen.map Value.bool) ∧ isPerm zs = permGo n seen (zs.drop k) ∧ Below w.heap.size w wr) (fun i _ => n - (intOf i).toNat)
    case atStart => exact ⟨0, _, Nat.zero_le _, rfl, by rw [List.map_replicate]; exact hown, HP.out, hb1⟩
    case round =>
      obtain ⟨k, seen, hk, rfl, ho, hinv, hb⟩ := hrel
      clear hown hb1 hsz
      have HI := Lib.hid hinv
      clear hinv
      by_cases hlt : k < n
      · obtain ⟨b, off, rfl, hc⟩ := (h.below hb).at_ hlt
        have HK : Hid (k < zs.length) := by have := HL.out; show k < zs.length; omega
        have HH := Lib.hid h
        clear h
        cases hin : inB (iget zs k) 0 ((n : Int) - 1) with
        | false =>
          have HX := Lib.hid hin
          clear hin
          go_wp2_with (go_at_call 95; refine (specIn_any _ _ _ _).mono ?_; rintro e w' ⟨rfl, rfl⟩; rw [HX.out])
          go_ret
          exact ⟨ret_bool (HI.out.trans (permGo_out HK.out HX.out)).symm, hb⟩
        | true =>
          have HX := Lib.hid hin
          obtain ⟨hz0, hz1⟩ := inB_true.1 hin
          obtain ⟨m, hm⟩ := Int.eq_ofNat_of_zero_le hz0
          rw [hm] at hc hz1
          have HM := Lib.hid hm
          have hmn : m < n := by omega
          have hsc := own_bget ho hmn
          have hfr := own_frozen ho m
          have HXm : Hid (inB (m : Int) 0 ((n : Int) - 1) = true) := by have := HX.out; rwa [HM.out] at this
          clear hin hz0 hz1 hm
          cases hsb : bget seen m with
          | true =>
            rw [hsb] at hsc
            have HB := Lib.hid hsb
            clear hsb
            go_wp2_with (go_at_call 95; refine (specIn_any _ _ _ _).mono ?_; rintro e w' ⟨rfl, rfl⟩; rw [HXm.out])
            go_ret
            exact ⟨ret_bool (HI.out.trans (permGo_met HK.out HM.out HB.out)).symm, hb⟩
          | false =>
            rw [hsb] at hsc
            obtain ⟨st1, st2⟩ := ho.stored m (.bool true)
            have HB := Lib.hid hsb
            have HS1 := Lib.hid st1
            have HS2 := Lib.hid st2
            clear hsb st1 st2
            go_wp2_with (go_at_call 95; refine (specIn_any _ _ _ _).mono ?_; rintro e w' ⟨rfl, rfl⟩; rw [HXm.out])
            go_roundw
            case rel =>
              exact ⟨k + 1, seen.set m true, by omega, by go_num, by rw [List.map_set]; exact HS1.out, HI.out.trans (permGo_on HK.out HM.out HXm.out HB.out), hb.grown HS2.out hb.size (by intro g hg; injection hg with hg; omega)⟩
            case measure => simp [intOf]; omega
      · obtain rfl : k = n := by omega
        go_wp2
        go_ret
        exact ⟨ret_bool (by rw [HI.out, List.drop_of_length_le (Nat.le_of_eq HL.out)]; rfl), hb⟩
  · have h1 : decide ((400 : Int) < n) = true := by simp; omega
    go_enter Try.func175, Try.ntmps175
    go_wp2
    go_ret
    exact ⟨ret_bool (by unfold isPerm; rw [HL.out]; simp; intro; omega), Below.refl _ _⟩

theorem size_any (ao : Option Addr) (n c : Nat) (w : World) : Calls Try.prog 139 #[.slice ao n c] w fun e w' => e = .returned (.int .i64 n) ∧ w' = w := by
  go_enter Try.func139, Try.ntmps139
  go_wp2
  go_ret
  exact ⟨rfl, rfl⟩

set_option maxHeartbeats 800000 in
theorem implPerm_any (ao : Option Addr) (n c : Nat) (zs : List Int) (w : World) (h : Ints w ao n zs) :
    Calls Try.prog 200 #[.slice ao n c] w fun e w' => e = .returned (.bool (isPerm zs)) ∧ Below w.heap.size w w' := by
  have hn := h.2.1
  have hl := h.1
  have HL := Lib.hid hl
  clear hl
  by_cases hs : n ≤ 400
  · have h1 : decide ((400 : Int) < n) = false := by simp; omega
    have hp : isPerm zs = permGo n (List.replicate n false) zs := by unfold isPerm; rw [HL.out]; simp [hs]
    have HP := Lib.hid hp
    clear hp
    go_enter Try.func200, Try.ntmps200
    go_wp2_with (at_make; refine wpList_mk etB _ rfl _ _ rfl w.heap.size _ _ _ _ n rfl rfl rfl rfl (by omega) (Nat.le_refl _) ?_; intro w1 hown hgrow hsz)
    have hb1 : Below w.heap.size w w1 := (Below.refl _ _).grown hgrow (Nat.le_refl _) (by simp)
    clear hgrow
    go_loopw [14] (fun i wr => ∃ (k : Nat) (seen : List Bool), k ≤ n ∧ i = .int .i64 k ∧ Own wr w.heap.size 4 (some ⟨w.heap.size, 0, none⟩) n n (seen.map Value.bool) ∧ isPerm zs = permGo n seen (zs.drop k) ∧ Below w.heap.size w wr) (fun i _ => n - (intOf i).toNat)
    case atStart => exact ⟨0, _, Nat.zero_le _, rfl, by rw [List.map_replicate]; exact hown, HP.out, hb1⟩
    case round =>
      obtain ⟨k, seen, hk, rfl, ho, hinv, hb⟩ := hrel
      clear hown hb1 hsz
      have HI := Lib.hid hinv
      clear hinv
      by_cases hlt : k < n
      · obtain ⟨b, off, rfl, hc⟩ := (h.below hb).at_ hlt
        have HK : Hid (k < zs.length) := by have := HL.out; show k < zs.length; omega
        have HH := Lib.hid h
        clear h
        cases hin : inB (iget zs k) 0 ((n : Int) - 1) with
        | false =>
          have HX := Lib.hid hin
          clear hin
          go_wp2_with (first | (go_at_call 139; refine (size_any _ _ _ _).mono ?_; rintro e w' ⟨rfl, rfl⟩) | (go_at_call 97; refine (within_any _ _ _ _).mono ?_; rintro e w' ⟨rfl, rfl⟩; rw [HX.out]))
          go_ret
          exact ⟨ret_bool (HI.out.trans (permGo_out HK.out HX.out)).symm, hb⟩
        | true =>
          have HX := Lib.hid hin
          obtain ⟨hz0, hz1⟩ := inB_true.1 hin
          obtain ⟨m, hm⟩ := Int.eq_ofNat_of_zero_le hz0
          rw [hm] at hc hz1
          have HM := Lib.hid hm
          have hmn : m < n := by omega
          have hsc := own_bget ho hmn
          have hfr := own_frozen ho m
          have HXm : Hid (inB (m : Int) 0 ((n : Int) - 1) = true) := by have := HX.out; rwa [HM.out] at this
          clear hin hz0 hz1 hm
          cases hsb : bget seen m with
          | true =>
            rw [hsb] at hsc
            have HB := Lib.hid hsb
            clear hsb
            go_wp2_with (first | (go_at_call 139; refine (size_any _ _ _ _).mono ?_; rintro e w' ⟨rfl, rfl⟩) | (go_at_call 97; refine (within_any _ _ _ _).mono ?_; rintro e w' ⟨rfl, rfl⟩; rw [HXm.out]))
            go_ret
            exact ⟨ret_bool (HI.out.trans (permGo_met HK.out HM.out HB.out)).symm, hb⟩
          | false =>
            rw [hsb] at hsc
            obtain ⟨st1, st2⟩ := ho.stored m (.bool true)
            have HB := Lib.hid hsb
            have HS1 := Lib.hid st1
            have HS2 := Lib.hid st2
            clear hsb st1 st2
            go_wp2_with (first | (go_at_call 139; refine (size_any _ _ _ _).mono ?_; rintro e w' ⟨rfl, rfl⟩) | (go_at_call 97; refine (within_any _ _ _ _).mono ?_; rintro e w' ⟨rfl, rfl⟩; rw [HXm.out]))
            go_roundw
            case rel =>
              exact ⟨k + 1, seen.set m true, by omega, by go_num, by rw [List.map_set]; exact HS1.out, HI.out.trans (permGo_on HK.out HM.out HXm.out HB.out), hb.grown HS2.out hb.size (by intro g hg; injection hg with hg; omega)⟩
            case measure => simp [intOf]; omega
      · obtain rfl : k = n := by omega
        go_wp2
        go_ret
        exact ⟨ret_bool (by rw [HI.out, List.drop_of_length_le (Nat.le_of_eq HL.out)]; rfl), hb⟩
  · have h1 : decide ((400 : Int) < n) = true := by simp; omega
    go_enter Try.func200, Try.ntmps200
    go_wp2
    go_ret
    exact ⟨ret_bool (by unfold isPerm; rw [HL.out]; simp; intro; omega), Below.refl _ _⟩
end Go.Proofs.Ytpognnifgcacnaa

/- The presentation of a diagram: the program's walk. -/
namespace Go.Proofs.Ytpognnifgcacnaa
open Go.RowKit

set_option maxRecDepth 100000 in
set_option maxHeartbeats 1600000 in
theorem implCox_any (ao : Option Addr) (n c : Nat) (zs : List Int) (w : World) (h : Ints w ao n zs) (hz : ∀ j, j < n → 0 ≤ iget zs j ∧ iget zs j ≤ 32) (hn : n < 5) :
    Calls Try.prog 110 #[.slice ao n c] w fun e w' => ∃ v, e = .returned v ∧ OwP 2 49 w' w.heap.size w'.heap.size v (coxPres zs) ∧ Below w.heap.size w w' := by
  have HL := Lib.hid h.1
  obtain ⟨N, hN⟩ : ∃ N, n + 1 = N := ⟨_, rfl⟩
  have hN5 : N ≤ 5 := by omega
  go_enter Try.func110, Try.ntmps110
  go_wp2_with (go_at_call 139; refine (size_any ao n c _).mono ?_; rintro e w1 ⟨rfl, rfl⟩)
  rw [show ((n : Int) + 1) = (N : Int) by omega]
  have r0 : Blk ((w.alloc (.cells #[.int .i64 0, .slice none 0 0] 72)).alloc (.cells #[.int .i64 N, .slice none 0 0] 72)) w.heap.size 72 #[.int .i64 0, .slice none 0 0] := (blk_at rfl).alloc _
  have r1 : Blk ((w.alloc (.cells #[.int .i64 0, .slice none 0 0] 72)).alloc (.cells #[.int .i64 N, .slice none 0 0] 72)) (w.heap.size + 1) 72 #[.int .i64 N, .slice none 0 0] := blk_at (by simp)
  go_loopw [14] (fun i wr => ∃ (k m : Nat) (ao' : Option Addr) (c' : Nat) (us : List Value), i = .int .i64 k ∧ k ≤ N ∧ CoxSt w wr N ao' m c' us (coxUp zs N k)) (fun i _ => N - (intOf i).toNat)
  case atStart => exact ⟨0, 0, none, 0, [], rfl, Nat.zero_le _, r0, r1, OwR.empty_ (Own.nil_ _ _ _) (fun g hg => by cases hg), by simp, below_alloc2 _ _ _, by omega⟩
  case round =>
    obtain ⟨k, m, ao', c', us, rfl, hk, st⟩ := hrel
    by_cases hlt : k < N
    · have x0 := st.box.cell 0
      simp at x0
      have ST := Lib.hid st
      clear st r0 r1
      go_wp2_with fail
      go_loopw [6] (fun i wr => ∃ (j m : Nat) (ao' : Option Addr) (c' : Nat) (us : List Value), i = .int .i64 j ∧ k < j ∧ j ≤ N ∧ CoxSt w wr N ao' m c' us (coxUp zs N k ++ coxRow zs k (j - (k + 1)))) (fun i _ => N - (intOf i).toNat)
      case atStart => exact ⟨k + 1, m, ao', c', us, by simp, by omega, by omega, by simpa [coxRow] using ST.out⟩
      case round =>
        obtain ⟨j, m, ao', c', us, rfl, hkj, hj, st⟩ := hrel
        clear ST x0
        have x0 := st.box.cell 0
        have x1 := st.box.cell 1
        have f1 := st.box.frozen 1
        simp at x0 x1
        have ST := Lib.hid st
        clear st
        by_cases hlt2 : j < N
        · by_cases hjk : j = k + 1
          · subst hjk
            obtain ⟨L, hL⟩ : ∃ L : Nat, iget zs k = (L : Int) := ⟨(iget zs k).toNat, by have := hz k (by omega); omega⟩
            have hL2 : L ≤ 32 := by have := hz k (by omega); omega
            have hlab : coxLab zs k (k + 1) = (L : Int) := by unfold coxLab; rw [if_pos rfl, hL]
            have HLAB := Lib.hid hlab
            clear hlab
            obtain ⟨b, off, rfl, hc⟩ := (h.below ST.out.below).at_ (k := k) (by omega)
            rw [hL] at hc
            by_cases hL0 : 0 < L
            · have hm : m + 1 ≤ 1000 := by have h1 := ST.out.row.len; have h2 := coxUp_len zs N k; have h3 := coxRow_len zs k ((k + 1) - (k + 1)); have h4 : N * k ≤ 5 * 5 := Nat.mul_le_mul hN5 (by omega); rw [List.length_append] at h1; omega
              have hP : Ints (wr.alloc (.cells #[.int .i64 k, .int .i64 ((k : Int) + 1)] 2)).drew (some ⟨wr.heap.size, 0, none⟩) 2 [(k : Int), ((k : Int) + 1)] := Own.ints (zs := [(k : Int), ((k : Int) + 1)]) (own_lit (us := [.int .i64 k, .int .i64 ((k : Int) + 1)]) rfl (Nat.le_refl _) (by simp))
              have bP : Below wr.heap.size wr (wr.alloc (.cells #[.int .i64 k, .int .i64 ((k : Int) + 1)] 2)) := below_alloc1 _ _
              have HP := Lib.hid hP
              have BP := Lib.hid bP
              have HM := Lib.hid hm
              have hsz := ST.out.size
              have HO : Hid (coxOne zs k (k + 1) = [repL [(k : Int), ((k : Int) + 1)] L]) := Lib.hid (by unfold coxOne; rw [HLAB.out, if_pos (by omega)]; rfl)
              clear hP bP hm
              go_wp2_with fail
              have xP : (wr.alloc (.cells #[.int .i64 k, .int .i64 ((k : Int) + 1)] 2)).cell? ⟨w.heap.size + 1, 1, none⟩ = some (.slice ao' m c') := (ST.out.box.alloc _).cell 1
              go_region_law (first | (refine step_ap1 (o := ⟨some 42, _, _, _, _, _⟩) etSS rfl (.tmp 35) (.tmp 41) rfl (w.heap.size + 2) ao' m c' us rfl (ST.out.row.own.below B3) (.slice a1 (2 * L) c1) w2.heap.size 1 rfl ((blk_at rfl).cell 0) rfl (by have := HM.out; omega) (by have := B3.size; simp at *; omega) ?_; intro ao2 c2 w4 o4 g4 hat; have B4S : Below (w.heap.size + 2) wr w4 := (B3S.grown g4 (by have := B3.size; omega) (fun g hg => (ST.out.row.own.lt g hg).1)); have x4 : w4.cell? ⟨w.heap.size + 1, 1, none⟩ = some (.slice ao' m c') := (ST.out.box.below B4S (by omega)).cell 1; have f4 : w4.frozen? ⟨w.heap.size + 1, 1, none⟩ = false := (ST.out.box.below B4S (by omega)).frozen 1) | (go_simp; go_at_call 180; refine (repeat_any _ 2 2 L [(k : Int), ((k : Int) + 1)] _ HP.out (by omega) (by omega) (by omega) (by omega)).mono ?_; rintro e w2 ⟨a1, c1, rfl, o1, b1⟩; have B2 : Below wr.heap.size wr w2 := below_tr b1 BP.out.drew; have B2S := B2.mono hsz; have B3 : Below wr.heap.size wr (w2.alloc (.cells #[.slice a1 (2 * L) c1] 49)) := B2.alloc B2.size _; have B3S := B3.mono hsz; have x2 : w2.cell? ⟨w.heap.size + 1, 1, none⟩ = some (.slice ao' m c') := (ST.out.box.below B2S (by omega)).cell 1; have x3 : (w2.alloc (.cells #[.slice a1 (2 * L) c1] 49)).cell? ⟨w.heap.size + 1, 1, none⟩ = some (.slice ao' m c') := (ST.out.box.below B3S (by omega)).cell 1))
              all_goals
                have st2 := ST.out.push HM.out B2 (o1.mono (by simp [World.drew])) (below_alloc1 _ _) o4 g4 hat
                have hs4 := B4S.size
                generalize w4.setCell ⟨w.heap.size + 1, 1, none⟩ (.slice ao2 (m + 1) c2) = wf at *
                clear B2 B2S B3 B3S B4S x0 x1 x2 x3 x4 xP f1 f4 o1 b1 o4 g4 hat ST HP BP
                go_wp2_with fail
                go_roundw
                case rel => exact ⟨(k + 1) + 1, m + 1, ao2, c2, _, by go_num, by omega, by omega, by rw [coxRow_one (by omega), ← List.append_assoc, HO.out]; exact st2⟩
                case measure => simp [intOf]; omega
            · obtain rfl : L = 0 := by omega
              have HO : Hid (coxOne zs k (k + 1) = []) := Lib.hid (by unfold coxOne; rw [HLAB.out, if_neg (by omega)])
              go_wp2_with fail
              go_roundw
              case rel => exact ⟨k + 1 + 1, m, ao', c', us, by go_num, by omega, by omega, by rw [coxRow_one (by omega), ← List.append_assoc, HO.out, List.append_nil]; exact ST.out⟩
              case measure => simp [intOf]; omega
          · have hm : m + 1 ≤ 1000 := by have h1 := ST.out.row.len; have h2 := coxUp_len zs N k; have h3 := coxRow_len zs k (j - (k + 1)); have h4 : N * k ≤ 5 * 5 := Nat.mul_le_mul hN5 (by omega); rw [List.length_append] at h1; omega
            have hP : Ints (wr.alloc (.cells #[.int .i64 k, .int .i64 (j : Int)] 2)).drew (some ⟨wr.heap.size, 0, none⟩) 2 [(k : Int), (j : Int)] := Own.ints (zs := [(k : Int), (j : Int)]) (own_lit (us := [.int .i64 k, .int .i64 (j : Int)]) rfl (Nat.le_refl _) (by simp))
            have bP : Below wr.heap.size wr (wr.alloc (.cells #[.int .i64 k, .int .i64 (j : Int)] 2)) := below_alloc1 _ _
            have HP := Lib.hid hP
            have BP := Lib.hid bP
            have HM := Lib.hid hm
            have hsz := ST.out.size
            have HO : Hid (coxOne zs k j = [repL [(k : Int), (j : Int)] 2]) := Lib.hid (by unfold coxOne coxLab; rw [if_neg hjk, if_pos (by omega)]; rfl)
            clear hP bP hm
            go_wp2_with fail
            have xP : (wr.alloc (.cells #[.int .i64 k, .int .i64 (j : Int)] 2)).cell? ⟨w.heap.size + 1, 1, none⟩ = some (.slice ao' m c') := (ST.out.box.alloc _).cell 1
            go_region_law (first | (refine step_ap1 (o := ⟨some 42, _, _, _, _, _⟩) etSS rfl (.tmp 35) (.tmp 41) rfl (w.heap.size + 2) ao' m c' us rfl (ST.out.row.own.below B3) (.slice a1 (2 * 2) c1) w2.heap.size 1 rfl ((blk_at rfl).cell 0) rfl (by have := HM.out; omega) (by have := B3.size; simp at *; omega) ?_; intro ao2 c2 w4 o4 g4 hat; have B4S : Below (w.heap.size + 2) wr w4 := (B3S.grown g4 (by have := B3.size; omega) (fun g hg => (ST.out.row.own.lt g hg).1)); have x4 : w4.cell? ⟨w.heap.size + 1, 1, none⟩ = some (.slice ao' m c') := (ST.out.box.below B4S (by omega)).cell 1; have f4 : w4.frozen? ⟨w.heap.size + 1, 1, none⟩ = false := (ST.out.box.below B4S (by omega)).frozen 1) | (go_simp; go_at_call 180; refine (repeat_any _ 2 2 2 [(k : Int), (j : Int)] _ HP.out (by omega) (by omega) (by omega) (by omega)).mono ?_; rintro e w2 ⟨a1, c1, rfl, o1, b1⟩; have B2 : Below wr.heap.size wr w2 := below_tr b1 BP.out.drew; have B2S := B2.mono hsz; have B3 : Below wr.heap.size wr (w2.alloc (.cells #[.slice a1 (2 * 2) c1] 49)) := B2.alloc B2.size _; have B3S := B3.mono hsz; have x2 : w2.cell? ⟨w.heap.size + 1, 1, none⟩ = some (.slice ao' m c') := (ST.out.box.below B2S (by omega)).cell 1; have x3 : (w2.alloc (.cells #[.slice a1 (2 * 2) c1] 49)).cell? ⟨w.heap.size + 1, 1, none⟩ = some (.slice ao' m c') := (ST.out.box.below B3S (by omega)).cell 1))
            all_goals
              have st2 := ST.out.push HM.out B2 (o1.mono (by simp [World.drew])) (below_alloc1 _ _) o4 g4 hat
              have hs4 := B4S.size
              generalize w4.setCell ⟨w.heap.size + 1, 1, none⟩ (.slice ao2 (m + 1) c2) = wf at *
              clear B2 B2S B3 B3S B4S x0 x1 x2 x3 x4 xP f1 f4 o1 b1 o4 g4 hat ST HP BP
              go_wp2_with fail
              go_roundw
              case rel => exact ⟨j + 1, m + 1, ao2, c2, _, by go_num, by omega, by omega, by rw [coxRow_one (by omega), ← List.append_assoc, HO.out]; exact st2⟩
              case measure => simp [intOf]; omega
        · obtain rfl : j = N := by omega
          go_wp2_with fail
          go_roundw
          case rel => exact ⟨k + 1, m, ao', c', us, by go_num, by omega, ST.out⟩
          case measure => simp [intOf]; omega
    · obtain rfl : k = N := by omega
      have x0 := st.box.cell 0
      have x1 := st.box.cell 1
      have y0 := st.res.cell 0
      have y1 := st.res.cell 1
      have f0 := st.res.frozen 0
      have f1 := st.res.frozen 1
      simp at x0 x1 y0 y1
      have ST := Lib.hid st
      clear st r0 r1
      go_wp2_with fail
      have st2 := ST.out.done
      generalize (wr.setCell ⟨w.heap.size, 0, none⟩ (.int .i64 k)).setCell ⟨w.heap.size, 1, none⟩ (.slice ao' m c') = wf at *
      have e0 := st2.1.cell 0
      have e1 := st2.1.cell 1
      simp at e0 e1
      refine bodyPost_ret (v := .agg #[.int .i64 k, .slice ao' m c']) (by simp [results, Try.f110, go_sem, e0, e1]) rfl ⟨_, rfl, ⟨ao', m, c', us, ?_, ?_⟩, st2.2.2⟩
      · unfold coxPres; rw [HL.out, hN]
      · unfold coxPres; rw [HL.out, hN]; exact st2.2.1.mono (by omega) (Nat.le_refl _)
end Go.Proofs.Ytpognnifgcacnaa

/- CoxeterPresentation, both. -/
namespace Go.Proofs.Ytpognnifgcacnaa
open Go.RowKit

theorem isDiag_in {zs : List Int} (h : isDiag zs = true) : zs.length < 5 ∧ ∀ j, j < zs.length → 0 ≤ iget zs j ∧ iget zs j ≤ 32 := by
  unfold isDiag at h
  simp only [Bool.and_eq_true, List.all_eq_true, decide_eq_true_eq] at h
  refine ⟨h.2, fun j hj => ?_⟩
  have h1 := h.1 (iget zs j) (by rw [iget_lt hj]; exact List.getElem_mem hj)
  unfold isLabel at h1
  rcases Bool.or_eq_true _ _ ▸ h1 with h2 | h2
  · have : iget zs j = 0 := by simpa using h2
    omega
  · have := inB_true.1 h2
    omega

theorem specIsB_any (ao : Option Addr) (n c : Nat) (zs : List Int) (w : World) (h : Ints w ao n zs) :
    Calls Try.prog 105 #[.slice ao n c] w fun e w' => e = .returned (.bool (isDiag zs)) ∧ Below w.heap.size w w' :=
  (spec12Is_any ao n c zs w h).mono (by rintro e w' ⟨rfl, rfl⟩; exact ⟨rfl, Below.refl _ _⟩)

end Go.Proofs.Ytpognnifgcacnaa

/- Cosets that some generators lead to, and the first fault of intersections, on lists. No program in sight. -/
namespace Go.Proofs.Ytpognnifgcacnaa

/-- whether a mask holds a generator -/
def mBit (mask g : Nat) : Bool := mask / 2 ^ g % 2 == 1
/-- which are met, the queue -/
abbrev MSt := List Bool × List Int
def mStep (T : List (List Int)) (mask c : Nat) (s : MSt) (g : Nat) : MSt := if mBit mask g = true ∧ bat s.1 (bTo T c g) = false then (s.1.set (bTo T c g) true, s.2 ++ [(bTo T c g : Int)]) else s
def mRow (T : List (List Int)) (mask ng c : Nat) (s : MSt) : MSt := (List.range ng).foldl (mStep T mask c) s
def mLoop (T : List (List Int)) (mask ng : Nat) : Nat → Nat → MSt → MSt
  | 0, _, s => s
  | f + 1, i, s => if i < s.2.length then mLoop T mask ng f (i + 1) (mRow T mask ng (iget s.2 i).toNat s) else s
def mStart (n : Nat) : MSt := ((List.replicate n false).set 0 true, [0])
def mem (T : List (List Int)) (ng n mask : Nat) : MSt := mLoop T mask ng (n + 1) 0 (mStart n)
structure MOK (n : Nat) (s : MSt) : Prop where
  l : s.1.length = n
  q : ∀ k, k < s.2.length → ∃ d : Nat, iget s.2 k = (d : Int) ∧ d < n ∧ bat s.1 d = true
  cnt : bcnt s.1 = s.2.length
  cov : ∀ d, d < n → bat s.1 d = true → ∃ k, k < s.2.length ∧ iget s.2 k = (d : Int)
theorem MOK.le {n : Nat} {s : MSt} (h : MOK n s) : s.2.length ≤ n := by
  have := bcnt_le s.1; rw [h.cnt, h.l] at this; exact this
structure MGrow (s s' : MSt) : Prop where
  len : s.2.length ≤ s'.2.length
  pre : ∀ k, k < s.2.length → iget s'.2 k = iget s.2 k
  met : ∀ d, bat s.1 d = true → bat s'.1 d = true
theorem MGrow.refl (s : MSt) : MGrow s s := ⟨Nat.le_refl _, fun _ _ => rfl, fun _ h => h⟩
theorem MGrow.trans {a b c : MSt} (h : MGrow a b) (k : MGrow b c) : MGrow a c :=
  ⟨Nat.le_trans h.len k.len, fun i hi => (k.pre i (Nat.lt_of_lt_of_le hi h.len)).trans (h.pre i hi), fun d hd => k.met d (h.met d hd)⟩
section
variable {T : List (List Int)} {ng n mask : Nat}
theorem mStep_grow (s : MSt) (c g : Nat) : MGrow s (mStep T mask c s g) := by
  unfold mStep
  split
  · refine ⟨by simp, fun k hk => iget_app_lt hk, fun d hd => ?_⟩
    dsimp only
    rw [bat_set]
    split
    · rfl
    · exact hd
  · exact MGrow.refl s
theorem mStep_ok {s : MSt} {c g : Nat} (h : MOK n s) (hd : bTo T c g < n) : MOK n (mStep T mask c s g) := by
  unfold mStep
  generalize bTo T c g = d at *
  split
  · rename_i hm
    have hm := hm.2
    refine ⟨by rw [List.length_set]; exact h.l, fun k hk => ?_, ?_, fun e he hb => ?_⟩
    · dsimp only at hk ⊢
      by_cases e : k < s.2.length
      · obtain ⟨d', h1, h2, h3⟩ := h.q k e
        refine ⟨d', by rw [iget_app_lt e]; exact h1, h2, ?_⟩
        rw [bat_set]; split
        · rfl
        · exact h3
      · obtain rfl : k = s.2.length := by simp at hk; omega
        exact ⟨d, iget_app_eq, hd, by rw [bat_set, if_pos ⟨rfl, by rw [h.l]; exact hd⟩]⟩
    · dsimp only; rw [bcnt_set _ _ (by rw [h.l]; exact hd) hm, h.cnt]; simp
    · dsimp only at hb ⊢
      by_cases e2 : d = e
      · subst e2; exact ⟨s.2.length, by simp, iget_app_eq⟩
      · rw [bat_set, if_neg (fun h => e2 h.1)] at hb
        obtain ⟨k, h1, h2⟩ := h.cov e he hb
        exact ⟨k, by rw [List.length_append]; omega, by rw [iget_app_lt h1]; exact h2⟩
  · exact h
theorem mStep_met {s : MSt} {c g : Nat} (h : MOK n s) (hd : bTo T c g < n) (hb : mBit mask g = true) : bat (mStep T mask c s g).1 (bTo T c g) = true := by
  unfold mStep
  cases hm : bat s.1 (bTo T c g) with
  | false => rw [if_pos ⟨hb, rfl⟩]; dsimp only; rw [bat_set, if_pos ⟨rfl, by rw [h.l]; exact hd⟩]
  | true => rw [if_neg (fun h => by cases h.2)]; exact hm
theorem mRow_ok (hT : Leads T n) (hng : T.length = ng) {c : Nat} (hc : c < n) {s : MSt} (h : MOK n s) : ∀ m, m ≤ ng → MOK n ((List.range m).foldl (mStep T mask c) s) ∧ MGrow s ((List.range m).foldl (mStep T mask c) s) ∧ ∀ g, g < m → mBit mask g = true → bat ((List.range m).foldl (mStep T mask c) s).1 (bTo T c g) = true
  | 0, _ => ⟨h, MGrow.refl s, fun g hg => by omega⟩
  | m + 1, hm => by
    obtain ⟨h1, h2, h3⟩ := mRow_ok hT hng hc h m (by omega)
    rw [List.range_succ, List.foldl_append]
    generalize (List.range m).foldl (mStep T mask c) s = t at *
    have hd := (bTo_lt hT hc (g := m) (by omega)).1
    refine ⟨mStep_ok h1 hd, h2.trans (mStep_grow t c m), fun g hg hb => ?_⟩
    show bat (mStep T mask c t m).1 (bTo T c g) = true
    by_cases e : g = m
    · subst e; exact mStep_met h1 hd hb
    · exact (mStep_grow t c m).met _ (h3 g (by omega) hb)
def MSeen (T : List (List Int)) (mask ng i : Nat) (s : MSt) : Prop := ∀ k, k < i → ∀ g, g < ng → mBit mask g = true → bat s.1 (bTo T (iget s.2 k).toNat g) = true
theorem mLoop_step {f i : Nat} {s : MSt} (h : i < s.2.length) : mLoop T mask ng (f + 1) i s = mLoop T mask ng f (i + 1) (mRow T mask ng (iget s.2 i).toNat s) := by rw [mLoop, if_pos h]
theorem mLoop_ok (hT : Leads T n) (hng : T.length = ng) : ∀ (f i : Nat) (s : MSt), MOK n s → MOK n (mLoop T mask ng f i s) ∧ MGrow s (mLoop T mask ng f i s)
  | 0, _, s, h => ⟨h, MGrow.refl s⟩
  | f + 1, i, s, h => by
    unfold mLoop
    split
    · rename_i hi
      obtain ⟨d, h1, h2, _⟩ := h.q i hi
      obtain ⟨k1, k2, _⟩ := mRow_ok (mask := mask) hT hng (c := (iget s.2 i).toNat) (by omega) h ng (Nat.le_refl _)
      obtain ⟨m1, m2⟩ := mLoop_ok hT hng f (i + 1) _ k1
      exact ⟨m1, k2.trans m2⟩
    · exact ⟨h, MGrow.refl s⟩
theorem mLoop_seen (hT : Leads T n) (hng : T.length = ng) : ∀ (f i : Nat) (s : MSt), MOK n s → MSeen T mask ng i s → i ≤ s.2.length → n + 1 ≤ f + i → MSeen T mask ng (mLoop T mask ng f i s).2.length (mLoop T mask ng f i s)
  | 0, i, s, h, hs, hi, hf => by have := h.le; omega
  | f + 1, i, s, h, hs, hi, hf => by
    unfold mLoop
    split
    · rename_i hlt
      obtain ⟨d, h1, h2, _⟩ := h.q i hlt
      obtain ⟨k1, k2, k3⟩ := mRow_ok (mask := mask) hT hng (c := (iget s.2 i).toNat) (by omega) h ng (Nat.le_refl _)
      refine mLoop_seen hT hng f (i + 1) _ k1 (fun k hk g hg hb => ?_) (Nat.le_trans hlt k2.len) (by omega)
      have e : iget (mRow T mask ng (iget s.2 i).toNat s).2 k = iget s.2 k := k2.pre k (by omega)
      rw [e]
      by_cases e2 : k = i
      · subst e2; exact k3 g hg hb
      · exact k2.met _ (hs k (by omega) g hg hb)
    · obtain rfl : i = s.2.length := by omega
      exact hs
/-- what is closed holds all that is met -/
theorem mLoop_in (hT : Leads T n) (hng : T.length = ng) {p : Nat → Prop} (hp : ∀ c, c < n → p c → ∀ g, g < ng → mBit mask g = true → p (bTo T c g)) : ∀ (f i : Nat) (s : MSt), MOK n s → (∀ d, d < n → bat s.1 d = true → p d) → ∀ d, d < n → bat (mLoop T mask ng f i s).1 d = true → p d
  | 0, _, s, _, hs => hs
  | f + 1, i, s, h, hs => by
    unfold mLoop
    split
    · rename_i hlt
      obtain ⟨c, h1, h2, h3⟩ := h.q i hlt
      have hpc := hs c h2 h3
      rw [h1, Int.toNat_natCast]
      obtain ⟨k1, _, _⟩ := mRow_ok (mask := mask) hT hng h2 h ng (Nat.le_refl _)
      refine mLoop_in hT hng hp f (i + 1) _ k1 ?_
      have key : ∀ m, m ≤ ng → ∀ d, d < n → bat ((List.range m).foldl (mStep T mask c) s).1 d = true → p d := by
        intro m
        induction m with
        | zero => intro _; exact hs
        | succ m ih =>
          intro hm d hd hb
          rw [List.range_succ, List.foldl_append] at hb
          have hb : bat (mStep T mask c ((List.range m).foldl (mStep T mask c) s) m).1 d = true := hb
          unfold mStep at hb
          split at hb
          · rename_i hc
            dsimp only at hb
            rw [bat_set] at hb
            split at hb
            · rename_i e; rw [← e.1]; exact hp c h2 hpc m (by omega) hc.1
            · exact ih (by omega) d hd hb
          · exact ih (by omega) d hd hb
      exact key ng (Nat.le_refl _)
    · exact hs
end
end Go.Proofs.Ytpognnifgcacnaa

/- Orbits and their numbers, on lists. No program in sight. -/
namespace Go.Proofs.Ytpognnifgcacnaa

theorem mBit_all {ng g : Nat} (h : g < ng) : mBit (2 ^ ng - 1) g = true := by
  have : mBit (2 ^ ng - 1) g = (2 ^ ng - 1).testBit g := by
    unfold mBit; rw [Nat.testBit_eq_decide_div_mod_eq]; rfl
  rw [this, Nat.testBit_two_pow_sub_one]; simpa using h
/-- a step of the search for an orbit -/
def oStep (T : List (List Int)) (c : Nat) (s : MSt) (g : Nat) : MSt := if bat s.1 (bTo T c g) = false then (s.1.set (bTo T c g) true, s.2 ++ [(bTo T c g : Int)]) else s
theorem oStep_eq {T : List (List Int)} {ng g : Nat} (h : g < ng) (c : Nat) (s : MSt) : mStep T (2 ^ ng - 1) c s g = oStep T c s g := by
  unfold mStep oStep
  simp only [mBit_all h, true_and]
def oStart (n c : Nat) : MSt := ((List.replicate n false).set c true, [(c : Int)])
/-- the points to which lists lead a point, as they are met -/
def orb (T : List (List Int)) (n c : Nat) : MSt := mLoop T (2 ^ T.length - 1) T.length (n + 1) 0 (oStart n c)
theorem oStart_bat {n c d : Nat} (hd : d < n) : bat (oStart n c).1 d = true ↔ d = c := by
  show bat ((List.replicate n false).set c true) d = true ↔ _
  rw [bat_set]
  constructor
  · intro h
    split at h
    · rename_i e; exact e.1.symm
    · simp [bat, hd] at h
  · rintro rfl; rw [if_pos ⟨rfl, by simpa using hd⟩]
theorem oStart_ok {n c : Nat} (hc : c < n) : MOK n (oStart n c) := by
  refine ⟨by simp [oStart], fun k hk => ?_, ?_, fun d hd hb => ?_⟩
  · obtain rfl : k = 0 := by simp [oStart] at hk; omega
    exact ⟨c, rfl, hc, (oStart_bat hc).2 rfl⟩
  · show bcnt ((List.replicate n false).set c true) = 1
    rw [bcnt_set _ _ (by simpa using hc) (by simp [bat, hc])]
    simp [bcnt]
  · rw [oStart_bat hd] at hb; subst hb; exact ⟨0, by simp [oStart], rfl⟩
section
variable {T : List (List Int)} {n : Nat}
theorem orb_ok (hT : Leads T n) {c : Nat} (hc : c < n) : MOK n (orb T n c) := (mLoop_ok hT rfl _ _ _ (oStart_ok hc)).1
/-- whether lists lead a point to another one -/
def rch (T : List (List Int)) (n c d : Nat) : Bool := bat (orb T n c).1 d
theorem rch_refl (hT : Leads T n) {c : Nat} (hc : c < n) : rch T n c c = true := (mLoop_ok hT rfl _ _ _ (oStart_ok hc)).2.met c ((oStart_bat hc).2 rfl)
theorem rch_on (hT : Leads T n) {c d g : Nat} (hc : c < n) (hd : d < n) (h : rch T n c d = true) (hg : g < T.length) : rch T n c (bTo T d g) = true := by
  have hs := mLoop_seen (mask := 2 ^ T.length - 1) hT rfl (n + 1) 0 _ (oStart_ok hc) (fun k hk => by omega) (Nat.zero_le _) (by omega)
  obtain ⟨k, k1, k2⟩ := (orb_ok hT hc).cov d hd h
  have := hs k k1 g hg (mBit_all hg)
  have e : iget (mLoop T (2 ^ T.length - 1) T.length (n + 1) 0 (oStart n c)).2 k = (d : Int) := k2
  rw [e, Int.toNat_natCast] at this
  exact this
theorem rch_in (hT : Leads T n) {c : Nat} (hc : c < n) {p : Nat → Prop} (h0 : p c) (hp : ∀ d, d < n → p d → ∀ g, g < T.length → p (bTo T d g)) : ∀ d, d < n → rch T n c d = true → p d :=
  mLoop_in (mask := 2 ^ T.length - 1) hT rfl (fun d hd hpd g hg _ => hp d hd hpd g hg) (n + 1) 0 (oStart n c) (oStart_ok hc) fun d hd hb => by rw [oStart_bat hd] at hb; subst hb; exact h0
theorem rch_trans (hT : Leads T n) {c d e : Nat} (hc : c < n) (hd : d < n) (he : e < n) (h1 : rch T n c d = true) (h2 : rch T n d e = true) : rch T n c e = true :=
  rch_in (p := fun e => rch T n c e = true) hT hd h1 (fun e he h g hg => rch_on hT hc he h hg) e he h2
/-- each list leads back what it leads -/
def Back2 (T : List (List Int)) (n : Nat) : Prop := ∀ g, g < T.length → ∀ c, c < n → bTo T (bTo T c g) g = c
theorem rch_symm (hT : Leads T n) (hb : Back2 T n) {c d : Nat} (hc : c < n) (hd : d < n) (h : rch T n c d = true) : rch T n d c = true :=
  rch_in (p := fun d => rch T n d c = true) hT hc (rch_refl hT hc) (fun e he h g hg => by
    have h1 := (bTo_lt hT he hg).1
    have h2 := rch_on hT h1 h1 (rch_refl hT h1) hg
    rw [hb g hg e he] at h2
    exact rch_trans hT h1 he hc h2 h) d hd h

theorem bcnt_full : ∀ {l : List Bool}, bcnt l = l.length → ∀ d, d < l.length → bat l d = true
  | [], _, d, hd => by simp at hd
  | b :: r, h, d, hd => by
    have hr := bcnt_le r
    have hb : b = true ∧ bcnt r = r.length := by
      unfold bcnt at h hr ⊢
      rw [List.filter_cons] at h
      split at h
      · rename_i hb; exact ⟨hb, by simpa using h⟩
      · simp at h; omega
    cases d with
    | zero => exact hb.1
    | succ d => exact bcnt_full hb.2 d (by simpa using hd)
theorem bcnt_all : ∀ {l : List Bool}, (∀ d, d < l.length → bat l d = true) → bcnt l = l.length
  | [], _ => rfl
  | b :: r, h => by
    have h0 : b = true := h 0 (by simp)
    have h1 := bcnt_all (l := r) fun d hd => h (d + 1) (by simpa using hd)
    unfold bcnt at h1 ⊢
    rw [List.filter_cons, if_pos h0]; simp [h1]
/-- the orbit is everything exactly if every point is met -/
theorem orb_full (hT : Leads T n) {c : Nat} (hc : c < n) : (orb T n c).2.length = n ↔ ∀ d, d < n → rch T n c d = true := by
  have h := orb_ok hT hc
  rw [← h.cnt]
  constructor
  · intro e d hd; exact bcnt_full (by rw [h.l]; exact e) d (by rw [h.l]; exact hd)
  · intro e; rw [bcnt_all (fun d hd => e d (by rw [h.l] at hd; exact hd)), h.l]

/-- the numbers of orbits, and how many there are -/
abbrev LSt := List Int × Nat
def labSet (T : List (List Int)) (n i : Nat) (s : LSt) : LSt := ((List.range n).map fun d => if rch T n i d then (s.2 : Int) else iget s.1 d, s.2 + 1)
def labStep (T : List (List Int)) (n : Nat) (s : LSt) (i : Nat) : LSt := if 0 ≤ iget s.1 i then s else labSet T n i s
def labStart (n : Nat) : LSt := (List.replicate n (-1), 0)
def labTo (T : List (List Int)) (n i : Nat) : LSt := (List.range i).foldl (labStep T n) (labStart n)
def labs (T : List (List Int)) (n : Nat) : LSt := labTo T n n
theorem labTo_succ (i : Nat) : labTo T n (i + 1) = labStep T n (labTo T n i) i := by unfold labTo; rw [List.range_succ, List.foldl_append]; rfl
theorem labSet_get {i d : Nat} {s : LSt} (hd : d < n) : iget (labSet T n i s).1 d = if rch T n i d then (s.2 : Int) else iget s.1 d := by simp [labSet, iget, hd]
theorem labSet_len {i : Nat} {s : LSt} : (labSet T n i s).1.length = n := by simp [labSet]
structure LOK (T : List (List Int)) (n i : Nat) (s : LSt) : Prop where
  len : s.1.length = n
  met : ∀ d, d < n → (0 ≤ iget s.1 d ↔ ∃ c, c < i ∧ rch T n c d = true)
  low : ∀ d, d < n → -1 ≤ iget s.1 d ∧ iget s.1 d < s.2
theorem labTo_ok (hT : Leads T n) (hb : Back2 T n) : ∀ i, i ≤ n → LOK T n i (labTo T n i)
  | 0, _ => ⟨by simp [labTo, labStart], fun d hd => ⟨fun h => by simp [labTo, labStart, iget, hd] at h, fun ⟨c, h, _⟩ => absurd h (by omega)⟩, fun d hd => by simp [labTo, labStart, iget, hd]⟩
  | i + 1, hi => by
    have h := labTo_ok hT hb i (by omega)
    rw [labTo_succ]
    generalize labTo T n i = s at *
    unfold labStep
    split
    · rename_i hl
      refine ⟨h.len, fun d hd => ?_, h.low⟩
      rw [h.met d hd]
      constructor
      · rintro ⟨c, h1, h2⟩; exact ⟨c, by omega, h2⟩
      · rintro ⟨c, h1, h2⟩
        by_cases e : c = i
        · subst e
          obtain ⟨c', h3, h4⟩ := (h.met c hi).1 hl
          exact ⟨c', h3, rch_trans hT (by omega) hi hd h4 h2⟩
        · exact ⟨c, by omega, h2⟩
    · rename_i hl
      refine ⟨labSet_len, fun d hd => ?_, fun d hd => ?_⟩
      · rw [labSet_get hd]
        split
        · rename_i hr; exact ⟨fun _ => ⟨i, by omega, hr⟩, fun _ => by omega⟩
        · rename_i hr
          rw [h.met d hd]
          constructor
          · rintro ⟨c, h1, h2⟩; exact ⟨c, by omega, h2⟩
          · rintro ⟨c, h1, h2⟩
            by_cases e : c = i
            · subst e; exact absurd h2 hr
            · exact ⟨c, by omega, h2⟩
      · rw [labSet_get hd]
        have := h.low d hd
        split
        · exact ⟨by omega, by show (s.2 : Int) < ((s.2 + 1 : Nat) : Int); omega⟩
        · exact ⟨this.1, by show _ < ((s.2 + 1 : Nat) : Int); omega⟩
/-- whoever is met from i for the first time was not met ahead of it -/
theorem lab_new (hT : Leads T n) (hb : Back2 T n) {i d : Nat} {s : LSt} (hi : i < n) (h : LOK T n i s) (hl : iget s.1 i < 0) (hd : d < n) (hr : rch T n i d = true) : iget s.1 d = -1 := by
  have := h.low d hd
  by_cases e : 0 ≤ iget s.1 d
  · obtain ⟨c, h1, h2⟩ := (h.met d hd).1 e
    have h3 := rch_trans hT (by omega) hd hi h2 (rch_symm hT hb hi hd hr)
    have := (h.met i hi).2 ⟨c, h1, h3⟩
    omega
  · omega
theorem labTo_mono : ∀ {i k : Nat}, i ≤ k → (labTo T n i).2 ≤ (labTo T n k).2 := by
  intro i k h
  induction k with
  | zero => obtain rfl : i = 0 := by omega
            exact Nat.le_refl _
  | succ k ih =>
    by_cases e : i = k + 1
    · subst e; exact Nat.le_refl _
    · refine Nat.le_trans (ih (by omega)) ?_
      rw [labTo_succ]; unfold labStep; split
      · exact Nat.le_refl _
      · simp [labSet]
theorem labTo_one (hT : Leads T n) (hb : Back2 T n) (hn : 0 < n) : (labTo T n 1).2 = 1 := by
  have h0 : iget (labTo T n 0).1 0 = -1 := by simp [labTo, labStart, iget, hn]
  rw [show 1 = 0 + 1 by rfl, labTo_succ]
  unfold labStep
  rw [if_neg (by rw [h0]; omega)]
  rfl
/-- there is one orbit exactly if that of 0 is everything -/
theorem labs_one (hT : Leads T n) (hb : Back2 T n) (hn : 0 < n) : (labs T n).2 = 1 ↔ (orb T n 0).2.length = n := by
  rw [orb_full hT hn]
  constructor
  · intro h d hd
    have key : ∀ i, 1 ≤ i → i ≤ n → labTo T n i = labTo T n 1 := by
      intro i h1 h2
      induction i with
      | zero => omega
      | succ i ih =>
        by_cases e : i = 0
        · subst e; rfl
        · have ih := ih (by omega) (by omega)
          have hm := labTo_mono (T := T) (n := n) h2
          have : (labTo T n n).2 = 1 := h
          rw [labTo_succ] at hm ⊢
          unfold labStep at hm ⊢
          split at hm
          · rename_i hl; rw [if_pos hl]; exact ih
          · rw [ih] at hm
            have := labTo_one hT hb hn
            simp only [labSet] at hm
            omega
    by_cases e : d = 0
    · subst e; exact rch_refl hT hn
    · have h1 : 0 ≤ iget (labTo T n d).1 d := by
        have hm := labTo_mono (T := T) (n := n) (show d + 1 ≤ n by omega)
        have : (labTo T n n).2 = 1 := h
        rw [labTo_succ] at hm
        unfold labStep at hm
        split at hm
        · rename_i hl; exact hl
        · rw [key d (by omega) (by omega)] at hm
          have := labTo_one hT hb hn
          simp only [labSet] at hm
          omega
      rw [key d (by omega) (by omega)] at h1
      obtain ⟨c, h2, h3⟩ := ((labTo_ok hT hb 1 hn).met d hd).1 h1
      obtain rfl : c = 0 := by omega
      exact h3
  · intro h
    have key : ∀ i, 1 ≤ i → i ≤ n → (labTo T n i).2 = 1 := by
      intro i h1 h2
      induction i with
      | zero => omega
      | succ i ih =>
        by_cases e : i = 0
        · subst e; exact labTo_one hT hb hn
        · rw [labTo_succ]
          unfold labStep
          rw [if_pos (((labTo_ok hT hb i (by omega)).met i (by omega)).2 ⟨0, by omega, h i (by omega)⟩)]
          exact ih (by omega) (by omega)
    exact key n hn (Nat.le_refl _)
end
end Go.Proofs.Ytpognnifgcacnaa

/- What a permutation's numbers are. No program in sight. -/
namespace Go.Proofs.Ytpognnifgcacnaa

theorem permGo_within {n : Nat} {zs : List Int} : ∀ {seen : List Bool}, permGo n seen zs = true → ∀ z ∈ zs, 0 ≤ z ∧ z < n := by
  induction zs with
  | nil => intro seen _ z hz; cases hz
  | cons a r ih =>
    intro seen h z hz
    simp only [permGo, Bool.and_eq_true] at h
    rcases List.mem_cons.1 hz with rfl | hz
    · have := inB_true.1 h.1.1; omega
    · exact ih h.2 z hz
theorem isPerm_within {zs : List Int} (h : isPerm zs = true) {k : Nat} (hk : k < zs.length) : 0 ≤ iget zs k ∧ iget zs k < zs.length := by
  unfold isPerm at h
  exact permGo_within ((Bool.and_eq_true _ _ ▸ h).2) _ (iget_mem hk)
end Go.Proofs.Ytpognnifgcacnaa

/- What a maniplex is, on lists. No program in sight. -/
namespace Go.Proofs.Ytpognnifgcacnaa

/-- no number stands at its own place, and each leads back -/
def isFreeL (zs : List Int) : Bool := (List.range zs.length).all fun i => !(iget zs i == (i : Int)) && iget zs (iget zs i).toNat == (i : Int)
theorem isFreeL_at {zs : List Int} (h : isFreeL zs = true) {i : Nat} (hi : i < zs.length) : iget zs i ≠ i ∧ iget zs (iget zs i).toNat = i := by
  unfold isFreeL at h
  have := (List.all_eq_true.1 h) i (List.mem_range.2 hi)
  simpa using this
theorem isFreeL_no {zs : List Int} {i : Nat} (hi : i < zs.length) (h : iget zs i = i ∨ iget zs (iget zs i).toNat ≠ i) : isFreeL zs = false := by
  cases hf : isFreeL zs with
  | false => rfl
  | true =>
    have := isFreeL_at hf hi
    rcases h with h | h
    · exact absurd h this.1
    · exact absurd this.2 h
theorem isFreeL_yes {zs : List Int} (h : ∀ i, i < zs.length → iget zs i ≠ i ∧ iget zs (iget zs i).toNat = i) : isFreeL zs = true := by
  unfold isFreeL
  rw [List.all_eq_true]
  intro i hi
  have := h i (List.mem_range.1 hi)
  simpa using this
/-- two moves commute at a flag, and differ there -/
def commAt (zss : List (List Int)) (i k f : Nat) : Prop := bTo zss (bTo zss f i) k = bTo zss (bTo zss f k) i ∧ bTo zss f i ≠ bTo zss f k
structure Man (zss : List (List Int)) : Prop where
  n1 : 1 ≤ zss.length
  n5 : zss.length ≤ 5
  f2 : 2 ≤ (lget zss 0).length
  f4 : (lget zss 0).length ≤ 400
  len : ∀ i, i < zss.length → (lget zss i).length = (lget zss 0).length
  perm : ∀ i, i < zss.length → isPerm (lget zss i) = true
  free : ∀ i, i < zss.length → isFreeL (lget zss i) = true
  comm : ∀ i k, i + 2 ≤ k → k < zss.length → ∀ f, f < (lget zss 0).length → commAt zss i k f
  conn : (orb zss (lget zss 0).length 0).2.length = (lget zss 0).length
noncomputable def manB (zss : List (List Int)) : Bool := @decide (Man zss) (Classical.propDecidable _)
theorem manB_yes {zss : List (List Int)} (h : Man zss) : manB zss = true := by unfold manB; exact @decide_eq_true _ (Classical.propDecidable _) h
theorem manB_no {zss : List (List Int)} (h : ¬ Man zss) : manB zss = false := by unfold manB; exact @decide_eq_false _ (Classical.propDecidable _) h
/-- rows that are permutations of n points -/
def Rows (zss : List (List Int)) (n m : Nat) : Prop := ∀ i, i < m → (lget zss i).length = n ∧ isPerm (lget zss i) = true ∧ isFreeL (lget zss i) = true
theorem rows_leads {zss : List (List Int)} {n : Nat} (h : Rows zss n zss.length) : Leads zss n :=
  ⟨fun k hk => (h k hk).1, fun k hk x hx => by
    have h1 := isPerm_within (h k hk).2.1 (k := x) (by rw [(h k hk).1]; exact hx)
    rw [(h k hk).1] at h1; exact h1⟩
theorem rows_back {zss : List (List Int)} {n : Nat} (h : Rows zss n zss.length) : Back2 zss n := fun g hg c hc => by
  have h1 := (isFreeL_at (h g hg).2.2 (i := c) (by rw [(h g hg).1]; exact hc)).2
  unfold bTo
  rw [h1, Int.toNat_natCast]
theorem Man.rows {zss : List (List Int)} (h : Man zss) : Rows zss (lget zss 0).length zss.length := fun i hi => ⟨h.len i hi, h.perm i hi, h.free i hi⟩
end Go.Proofs.Ytpognnifgcacnaa

/- Rows that are permutations and free involutions: l01Perm, l01Free, isFreeInvolution. guards: -/
namespace Go.Proofs.Ytpognnifgcacnaa
open Go.RowKit

theorem one_of1 {us : List Value} {u0 : Value} (hl : us.length = 1) (g0 : us[0]? = some u0) : us = [u0] := by
  match us, hl with
  | [p], _ => simp at g0; rw [g0]
theorem permS_fc (zss : List (List Int)) (i : Nat) (hi : i < zss.length) (hn : (lget zss i).length ≤ 1048576) :
    FC Try.prog 175 [(1003, rowsRo zss)] [o1 (.esl 1003 i 0 (lget zss i).length)] [] (vv (.bool (isPerm (lget zss i)))) [] :=
  fc_of_calls fun w η ω us hm ⟨hl, ha⟩ => by
    obtain ⟨u0, g0, d0⟩ := ha 0 _ rfl
    obtain ⟨ao, c, rfl, hI⟩ := rdRow (x := 1003) hm rfl hi d0 (by omega)
    rw [one_of1 hl g0]
    exact specPerm_any ao _ c _ w hI
theorem permI_fc (zss : List (List Int)) (i : Nat) (hi : i < zss.length) (hn : (lget zss i).length ≤ 1048576) :
    FC Try.prog 200 [(1003, rowsRo zss)] [o1 (.esl 1003 i 0 (lget zss i).length)] [] (vv (.bool (isPerm (lget zss i)))) [] :=
  fc_of_calls fun w η ω us hm ⟨hl, ha⟩ => by
    obtain ⟨u0, g0, d0⟩ := ha 0 _ rfl
    obtain ⟨ao, c, rfl, hI⟩ := rdRow (x := 1003) hm rfl hi d0 (by omega)
    rw [one_of1 hl g0]
    exact implPerm_any ao _ c _ w hI

theorem iget_nat {zs : List Int} {k : Nat} (h : 0 ≤ iget zs k) : iget zs k = (((iget zs k).toNat : Nat) : Int) := (Int.toNat_of_nonneg h).symm
set_option maxRecDepth 100000 in
set_option maxHeartbeats 1000000 in
theorem freeS_fc (zss : List (List Int)) (i : Nat) (hi : i < zss.length) (hn : (lget zss i).length ≤ 1048576) (hp : isPerm (lget zss i) = true) :
    FC Try.prog 176 [(1003, rowsRo zss)] [o1 (.esl 1003 i 0 (lget zss i).length)] [] (vv (.bool (isFreeL (lget zss i)))) [] := by
  have hrow : (irows zss)[i]? = some (ivals (lget zss i)) := irows_get hi
  have hW := fun k hk => isPerm_within hp (k := k) hk
  refine fc_enter (nt := 27) Try.func176 rfl rfl (by simp) fun w0 ω0 => ?_
  generalize lget zss i = zs at *
  (refine goes_seq ?_; refine goes_region ?_; apply run_step rfl; (exact stp_assign rfl rfl); refine run_nil ?_; refine fin_seq ?_; refine goes_seq ?_; refine goes_seq ?_; refine goes_region ?_; apply run_step rfl; (exact stp_assign rfl rfl); refine run_nil ?_; refine fin_seq ?_; refine goes_block ?_)
  refine goes_loop (fun k : Nat => St.of [(0, o1 (.esl 1003 i 0 zs.length)), (3, vv (I6 k))] [(1003, rowsRo zss)]) (fun k => k ≤ zs.length ∧ ∀ j, j < k → iget zs j ≠ j ∧ iget zs (iget zs j).toNat = j) (fun k => zs.length - k) 0 ⟨Nat.zero_le _, fun j h => absurd h (by omega)⟩ (Wk.of ⟨rfl, rfl, trivial⟩ ⟨rfl, trivial⟩ trivial) ?_
  rintro k ⟨hk, hok⟩
  (refine goes_seq ?_; refine goes_seq ?_; refine goes_region ?_; apply run_step rfl; (exact stp_move rfl rfl); apply run_step rfl; (exact stp_move rfl rfl); apply run_step rfl; (exact stp_len rfl rfl rfl (by as_aux_lemma => kernel_rfl)); apply run_step rfl; (exact stp_bin rfl rfl rfl rfl); refine run_nil ?_; refine fin_seq ?_)
  refine goes_if rfl (fun hlt => ?_) (fun hlt => ?_)
  · have hlt' : k < zs.length := by omega
    obtain ⟨d, hd⟩ : ∃ d : Nat, iget zs k = (d : Int) := ⟨_, iget_nat (hW k hlt').1⟩
    have hdl : d < zs.length := by have := (hW k hlt').2; rw [hd] at this; omega
    have gk : (ivals zs)[k]? = some (I6 (d : Int)) := by rw [ivals_get hlt', hd]
    (refine goes_skip ?_; refine fin_seq ?_; refine goes_seq ?_; refine goes_block ?_; refine goes_seq ?_; refine goes_region ?_; apply run_step rfl; (exact stp_move rfl rfl); apply run_step rfl; (exact stp_move rfl rfl); apply run_step rfl; (exact stp_ixE rfl rfl rfl rfl rfl (by as_aux_lemma => kernel_rfl) (by first | assumption | exact ivals_get (by assumption) | exact irows_get (by assumption) | exact ivals_get (by omega) | exact irows_get (by omega) | rfl) (by first | rfl | exact (Int.toNat_of_nonneg (by omega)).symm) (by first | assumption | omega | (simp; omega)) (by first | exact Nat.le_refl _ | exact Nat.le_of_eq (ivals_len _).symm | exact Nat.le_of_eq (irows_len _).symm | (refine Nat.le_trans ?_ (Nat.le_of_eq (ivals_len _).symm); (first | omega | (simp; done) | (simp; omega))) | (refine Nat.le_trans ?_ (Nat.le_of_eq (irows_len _).symm); (first | omega | (simp; done) | (simp; omega))))); apply run_step rfl; (exact stp_loadE' rfl (by as_aux_lemma => kernel_rfl) rfl rfl rfl (by first | assumption | exact ivals_get (by assumption) | exact irows_get (by assumption) | exact ivals_get (by omega) | exact irows_get (by omega) | rfl) (by first | assumption | exact ivals_get (by assumption) | exact irows_get (by assumption) | exact ivals_get (by omega) | exact irows_get (by omega) | rfl)); apply run_step rfl; (exact stp_move rfl rfl); apply run_step rfl; (exact stp_bin rfl rfl rfl rfl); apply run_step rfl; (exact stp_move rfl rfl))
    refine run_bool 16 rfl (fun h1 => ?_) (fun h1 => ?_)
    · have e1 : (d : Int) = k := of_decide_eq_true h1
      rw [isFreeL_no hlt' (.inl (hd.trans e1))]
      (apply run_gNo rfl rfl rfl rfl rfl; apply run_gNo rfl rfl rfl rfl rfl; apply run_gNo rfl rfl rfl rfl rfl; apply run_gNo rfl rfl rfl rfl rfl; apply run_gNo rfl rfl rfl rfl rfl; apply run_gNo rfl rfl rfl rfl rfl; apply run_gNo rfl rfl rfl rfl rfl; apply run_gNo rfl rfl rfl rfl rfl; apply run_gNo rfl rfl rfl rfl rfl; apply run_step rfl; (exact stp_pickT rfl rfl rfl); refine run_nil ?_; refine fin_seq ?_)
      refine goes_cond rfl (fun _ => ?_) (fun e => by cases e)
      (refine goes_seq ?_; refine goes_region ?_; apply run_step rfl; (exact stp_assign rfl rfl); refine run_nil ?_; refine fin_seq ?_; refine goes_ret ?_; refine fin_ret_block ?_; refine fin_ret_then ?_; refine fin_ret_then ?_; refine fin_ret_block ?_; refine fin_ret_then ?_)
      exact fin_ret1 (.inl rfl) rfl (.tmp rfl) trivial trivial
    · have e1 : (d : Int) ≠ k := of_decide_eq_false h1
      (apply run_gYes rfl rfl rfl; (exact stp_move rfl rfl); apply run_gYes rfl rfl rfl; (exact stp_move rfl rfl); apply run_gYes rfl rfl rfl; (exact stp_move rfl rfl); apply run_gYes rfl rfl rfl; (exact stp_ixE rfl rfl rfl rfl rfl (by as_aux_lemma => kernel_rfl) (by first | assumption | exact ivals_get (by assumption) | exact irows_get (by assumption) | exact ivals_get (by omega) | exact irows_get (by omega) | rfl) (by first | rfl | exact (Int.toNat_of_nonneg (by omega)).symm) (by first | assumption | omega | (simp; omega)) (by first | exact Nat.le_refl _ | exact Nat.le_of_eq (ivals_len _).symm | exact Nat.le_of_eq (irows_len _).symm | (refine Nat.le_trans ?_ (Nat.le_of_eq (ivals_len _).symm); (first | omega | (simp; done) | (simp; omega))) | (refine Nat.le_trans ?_ (Nat.le_of_eq (irows_len _).symm); (first | omega | (simp; done) | (simp; omega))))); apply run_gYes rfl rfl rfl; (exact stp_loadE' rfl (by as_aux_lemma => kernel_rfl) rfl rfl rfl (by first | assumption | exact ivals_get (by assumption) | exact irows_get (by assumption) | exact ivals_get (by omega) | exact irows_get (by omega) | rfl) (by first | assumption | exact ivals_get (by assumption) | exact irows_get (by assumption) | exact ivals_get (by omega) | exact irows_get (by omega) | rfl)); apply run_gYes rfl rfl rfl; (exact stp_ixE rfl rfl rfl rfl rfl (by as_aux_lemma => kernel_rfl) (by first | assumption | exact ivals_get (by assumption) | exact irows_get (by assumption) | exact ivals_get (by omega) | exact irows_get (by omega) | rfl) (by first | rfl | exact (Int.toNat_of_nonneg (by omega)).symm) (by first | assumption | omega | (simp; omega)) (by first | exact Nat.le_refl _ | exact Nat.le_of_eq (ivals_len _).symm | exact Nat.le_of_eq (irows_len _).symm | (refine Nat.le_trans ?_ (Nat.le_of_eq (ivals_len _).symm); (first | omega | (simp; done) | (simp; omega))) | (refine Nat.le_trans ?_ (Nat.le_of_eq (irows_len _).symm); (first | omega | (simp; done) | (simp; omega))))); apply run_gYes rfl rfl rfl; (exact stp_loadE' rfl (by as_aux_lemma => kernel_rfl) rfl rfl rfl (by first | assumption | exact ivals_get (by assumption) | exact irows_get (by assumption) | exact ivals_get (by omega) | exact irows_get (by omega) | rfl) (by first | assumption | exact ivals_get (by assumption) | exact irows_get (by assumption) | exact ivals_get (by omega) | exact irows_get (by omega) | rfl)); apply run_gYes rfl rfl rfl; (exact stp_move rfl rfl); apply run_gYes rfl rfl rfl; (exact stp_bin rfl rfl rfl rfl); apply run_step rfl; (exact stp_pickF rfl rfl rfl); refine run_nil ?_; refine fin_seq ?_)
      refine goes_cond rfl (fun h2 => ?_) (fun h2 => ?_)
      · have e2 : iget zs d ≠ k := by simpa using h2
        rw [isFreeL_no hlt' (.inr (by rw [hd, Int.toNat_natCast]; exact e2))]
        (refine goes_seq ?_; refine goes_region ?_; apply run_step rfl; (exact stp_assign rfl rfl); refine run_nil ?_; refine fin_seq ?_; refine goes_ret ?_; refine fin_ret_block ?_; refine fin_ret_then ?_; refine fin_ret_then ?_; refine fin_ret_block ?_; refine fin_ret_then ?_)
        exact fin_ret1 (.inl rfl) rfl (.tmp rfl) trivial trivial
      · have e2 : iget zs d = k := by simpa using h2
        (refine goes_skip ?_; refine fin_block ?_; refine fin_seq ?_; refine goes_region ?_; apply run_step rfl; (exact stp_move rfl rfl); apply run_step rfl; (exact stp_add rfl rfl rfl (by first | exact IntWalk.i64_in _ (by omega) | rfl)); apply run_step rfl; (exact stp_assign rfl rfl); refine run_nil ?_)
        exact fin_round (k + 1) ⟨by omega, fun j hj => by
          by_cases e : j = k
          · subst e; rw [hd, Int.toNat_natCast]; exact ⟨e1, e2⟩
          · exact hok j (by omega)⟩ (by omega) (Wk.of ⟨rfl, rfl, trivial⟩ ⟨rfl, trivial⟩ trivial)
  · obtain rfl : k = zs.length := by omega
    rw [isFreeL_yes hok]
    (refine goes_exit ?_; refine fin_exit_then ?_; refine fin_exit_then ?_; refine fin_exit_eq ?_; refine fin_seq ?_; refine goes_seq ?_; refine goes_region ?_; apply run_step rfl; (exact stp_assign rfl rfl); refine run_nil ?_; refine fin_seq ?_; refine goes_ret ?_)
    exact fin_ret1 (.inl rfl) rfl (.tmp rfl) trivial trivial
/-- a permutation that is a free involution -/
def freeInv (zs : List Int) : Bool := isPerm zs && isFreeL zs
set_option maxRecDepth 100000 in
set_option maxHeartbeats 1000000 in
theorem freeI_fc (zss : List (List Int)) (i : Nat) (hi : i < zss.length) (hn : (lget zss i).length ≤ 1048576) :
    FC Try.prog 186 [(1003, rowsRo zss)] [o1 (.esl 1003 i 0 (lget zss i).length)] [] (vv (.bool (freeInv (lget zss i)))) [] := by
  have hrow : (irows zss)[i]? = some (ivals (lget zss i)) := irows_get hi
  have hP := permI_fc zss i hi hn
  refine fc_enter (nt := 27) Try.func186 rfl rfl (by simp) fun w0 ω0 => ?_
  unfold freeInv
  cases hp : isPerm (lget zss i) with
  | false =>
    rw [hp] at hP
    rw [Bool.false_and]
    (refine goes_seq ?_; refine goes_region ?_; apply run_step rfl; (exact stp_assign rfl rfl); refine run_nil ?_; refine fin_seq ?_; refine goes_seq ?_; refine goes_seq ?_; refine goes_region ?_; apply run_step rfl; (exact stp_move rfl rfl); apply run_step rfl; (apply call_gate 200; exact stp_callR hP (by as_aux_lemma => kernel_rfl) rfl rfl ⟨rfl, trivial⟩ ⟨⟨_, rfl, .inl rfl⟩, trivial⟩ rfl rfl); apply run_step rfl; (exact stp_not rfl rfl); refine run_nil ?_; refine fin_seq ?_)
    refine goes_cond rfl (fun _ => ?_) (fun e => by cases e)
    (refine goes_seq ?_; refine goes_region ?_; apply run_step rfl; (exact stp_assign rfl rfl); refine run_nil ?_; refine fin_seq ?_; refine goes_ret ?_; refine fin_ret_then ?_)
    exact fin_ret1 (.inl rfl) rfl (.tmp rfl) trivial trivial
  | true =>
    rw [hp] at hP
    rw [Bool.true_and]
    have hW := fun k hk => isPerm_within hp (k := k) hk
    generalize lget zss i = zs at *
    (refine goes_seq ?_; refine goes_region ?_; apply run_step rfl; (exact stp_assign rfl rfl); refine run_nil ?_; refine fin_seq ?_; refine goes_seq ?_; refine goes_seq ?_; refine goes_region ?_; apply run_step rfl; (exact stp_move rfl rfl); apply run_step rfl; (apply call_gate 200; exact stp_callR hP (by as_aux_lemma => kernel_rfl) rfl rfl ⟨rfl, trivial⟩ ⟨⟨_, rfl, .inl rfl⟩, trivial⟩ rfl rfl); apply run_step rfl; (exact stp_not rfl rfl); refine run_nil ?_; refine fin_seq ?_)
    refine goes_cond rfl (fun e => by cases e) (fun _ => ?_)
    (refine goes_skip ?_; refine fin_seq ?_; refine goes_seq ?_; refine goes_seq ?_; refine goes_region ?_; apply run_step rfl; (exact stp_move rfl rfl); apply run_step rfl; (exact stp_len rfl rfl rfl (by as_aux_lemma => kernel_rfl)); apply run_step rfl; (exact stp_move rfl rfl); refine run_nil ?_; refine fin_seq ?_; refine goes_block ?_)
    refine goes_loop (fun k : Nat => St.of [(0, o1 (.esl 1003 i 0 zs.length)), (8, o1 (.esl 1003 i 0 zs.length)), (9, vv (I6 zs.length)), (10, vv (I6 k))] [(1003, rowsRo zss)]) (fun k => k ≤ zs.length ∧ ∀ j, j < k → iget zs j ≠ j ∧ iget zs (iget zs j).toNat = j) (fun k => zs.length - k) 0 ⟨Nat.zero_le _, fun j h => absurd h (by omega)⟩ (Wk.of ⟨rfl, rfl, rfl, rfl, trivial⟩ ⟨rfl, trivial⟩ trivial) ?_
    rintro k ⟨hk, hok⟩
    (refine goes_seq ?_; refine goes_region ?_; apply run_step rfl; (exact stp_bin rfl rfl rfl rfl); refine run_nil ?_; refine fin_seq ?_; refine goes_seq ?_)
    refine goes_if rfl (fun hlt => ?_) (fun hlt => ?_)
    · have hlt' : k < zs.length := by omega
      obtain ⟨d, hd⟩ : ∃ d : Nat, iget zs k = (d : Int) := ⟨_, iget_nat (hW k hlt').1⟩
      have hdl : d < zs.length := by have := (hW k hlt').2; rw [hd] at this; omega
      have gk : (ivals zs)[k]? = some (I6 (d : Int)) := by rw [ivals_get hlt', hd]
      (refine goes_skip ?_; refine fin_seq ?_; refine goes_seq ?_; refine goes_block ?_; refine goes_seq ?_; refine goes_region ?_; apply run_step rfl; (exact stp_move rfl rfl); apply run_step rfl; (exact stp_ixE rfl rfl rfl rfl rfl (by as_aux_lemma => kernel_rfl) (by first | assumption | exact ivals_get (by assumption) | exact irows_get (by assumption) | exact ivals_get (by omega) | exact irows_get (by omega) | rfl) (by first | rfl | exact (Int.toNat_of_nonneg (by omega)).symm) (by first | assumption | omega | (simp; omega)) (by first | exact Nat.le_refl _ | exact Nat.le_of_eq (ivals_len _).symm | exact Nat.le_of_eq (irows_len _).symm | (refine Nat.le_trans ?_ (Nat.le_of_eq (ivals_len _).symm); (first | omega | (simp; done) | (simp; omega))) | (refine Nat.le_trans ?_ (Nat.le_of_eq (irows_len _).symm); (first | omega | (simp; done) | (simp; omega))))); apply run_step rfl; (exact stp_loadE' rfl (by as_aux_lemma => kernel_rfl) rfl rfl rfl (by first | assumption | exact ivals_get (by assumption) | exact irows_get (by assumption) | exact ivals_get (by omega) | exact irows_get (by omega) | rfl) (by first | assumption | exact ivals_get (by assumption) | exact irows_get (by assumption) | exact ivals_get (by omega) | exact irows_get (by omega) | rfl)); apply run_step rfl; (exact stp_assign rfl rfl); apply run_step rfl; (exact stp_assign rfl rfl); refine run_nil ?_; refine fin_seq ?_; refine goes_seq ?_; refine goes_region ?_; apply run_step rfl; (exact stp_move rfl rfl); apply run_step rfl; (exact stp_move rfl rfl); apply run_step rfl; (exact stp_bin rfl rfl rfl rfl); apply run_step rfl; (exact stp_move rfl rfl))
      refine run_bool 18 rfl (fun h1 => ?_) (fun h1 => ?_)
      · have e1 : (d : Int) = k := of_decide_eq_true h1
        rw [isFreeL_no hlt' (.inl (hd.trans e1))]
        (apply run_gNo rfl rfl rfl rfl rfl; apply run_gNo rfl rfl rfl rfl rfl; apply run_gNo rfl rfl rfl rfl rfl; apply run_gNo rfl rfl rfl rfl rfl; apply run_gNo rfl rfl rfl rfl rfl; apply run_gNo rfl rfl rfl rfl rfl; apply run_step rfl; (exact stp_pickT rfl rfl rfl); refine run_nil ?_; refine fin_seq ?_)
        refine goes_cond rfl (fun _ => ?_) (fun e => by cases e)
        (refine goes_seq ?_; refine goes_region ?_; apply run_step rfl; (exact stp_assign rfl rfl); refine run_nil ?_; refine fin_seq ?_; refine goes_ret ?_; refine fin_ret_block ?_; refine fin_ret_then ?_; refine fin_ret_then ?_; refine fin_ret_block ?_; refine fin_ret_then ?_)
        exact fin_ret1 (.inl rfl) rfl (.tmp rfl) trivial trivial
      · have e1 : (d : Int) ≠ k := of_decide_eq_false h1
        (apply run_gYes rfl rfl rfl; (exact stp_move rfl rfl); apply run_gYes rfl rfl rfl; (exact stp_move rfl rfl); apply run_gYes rfl rfl rfl; (exact stp_ixE rfl rfl rfl rfl rfl (by as_aux_lemma => kernel_rfl) (by first | assumption | exact ivals_get (by assumption) | exact irows_get (by assumption) | exact ivals_get (by omega) | exact irows_get (by omega) | rfl) (by first | rfl | exact (Int.toNat_of_nonneg (by omega)).symm) (by first | assumption | omega | (simp; omega)) (by first | exact Nat.le_refl _ | exact Nat.le_of_eq (ivals_len _).symm | exact Nat.le_of_eq (irows_len _).symm | (refine Nat.le_trans ?_ (Nat.le_of_eq (ivals_len _).symm); (first | omega | (simp; done) | (simp; omega))) | (refine Nat.le_trans ?_ (Nat.le_of_eq (irows_len _).symm); (first | omega | (simp; done) | (simp; omega))))); apply run_gYes rfl rfl rfl; (exact stp_loadE' rfl (by as_aux_lemma => kernel_rfl) rfl rfl rfl (by first | assumption | exact ivals_get (by assumption) | exact irows_get (by assumption) | exact ivals_get (by omega) | exact irows_get (by omega) | rfl) (by first | assumption | exact ivals_get (by assumption) | exact irows_get (by assumption) | exact ivals_get (by omega) | exact irows_get (by omega) | rfl)); apply run_gYes rfl rfl rfl; (exact stp_move rfl rfl); apply run_gYes rfl rfl rfl; (exact stp_bin rfl rfl rfl rfl); apply run_step rfl; (exact stp_pickF rfl rfl rfl); refine run_nil ?_; refine fin_seq ?_)
        refine goes_cond rfl (fun h2 => ?_) (fun h2 => ?_)
        · have e2 : iget zs d ≠ k := by simpa using h2
          rw [isFreeL_no hlt' (.inr (by rw [hd, Int.toNat_natCast]; exact e2))]
          (refine goes_seq ?_; refine goes_region ?_; apply run_step rfl; (exact stp_assign rfl rfl); refine run_nil ?_; refine fin_seq ?_; refine goes_ret ?_; refine fin_ret_block ?_; refine fin_ret_then ?_; refine fin_ret_then ?_; refine fin_ret_block ?_; refine fin_ret_then ?_)
          exact fin_ret1 (.inl rfl) rfl (.tmp rfl) trivial trivial
        · have e2 : iget zs d = k := by simpa using h2
          (refine goes_skip ?_; refine fin_block ?_; refine fin_seq ?_; refine goes_region ?_; apply run_step rfl; (exact stp_add rfl rfl rfl (by first | exact IntWalk.i64_in _ (by omega) | rfl)); apply run_step rfl; (exact stp_move rfl rfl); refine run_nil ?_)
          exact fin_round (k + 1) ⟨by omega, fun j hj => by
            by_cases e : j = k
            · subst e; rw [hd, Int.toNat_natCast]; exact ⟨e1, e2⟩
            · exact hok j (by omega)⟩ (by omega) (Wk.of ⟨rfl, rfl, rfl, rfl, trivial⟩ ⟨rfl, trivial⟩ trivial)
    · obtain rfl : k = zs.length := by omega
      rw [isFreeL_yes hok]
      (refine goes_exit ?_; refine fin_exit_then ?_; refine fin_exit_then ?_; refine fin_exit_eq ?_; refine fin_seq ?_; refine goes_seq ?_; refine goes_region ?_; apply run_step rfl; (exact stp_assign rfl rfl); refine run_nil ?_; refine fin_seq ?_; refine goes_ret ?_)
      exact fin_ret1 (.inl rfl) rfl (.tmp rfl) trivial trivial
end Go.Proofs.Ytpognnifgcacnaa

/- The orbit of a point, the reference's: l01Orbit. -/
namespace Go.Proofs.Ytpognnifgcacnaa
open Go.RowKit

theorem bat_pad {a p : List Bool} {d : Nat} (h : d < a.length) : bat (a ++ p) d = bat a d := by simp [bat, List.getElem?_append_left h]
theorem set_padB {a p : List Bool} {d : Nat} (h : d < a.length) (b : Bool) : (a ++ p).set d b = a.set d b ++ p := List.set_append_left _ _ h
set_option maxRecDepth 100000 in
set_option maxHeartbeats 2000000 in
theorem orbS_fc (zss : List (List Int)) (n c : Nat) (hT : Leads zss n) (hpos : 0 < zss.length) (hn : n ≤ 1000000) (hg : zss.length ≤ 1000000) (hc : c < n) :
    FC Try.prog 177 [(1003, rowsRo zss)] [o1 (.sl 1003 0 zss.length), vv (I6 c)] [(12, leOw (orb zss n c).2)] (o1 (.sl 12 0 (orb zss n c).2.length)) [] := by
  have hlen : (irows zss).length = zss.length := irows_len _
  have hr0 : (lget zss 0).length = n := hT.len 0 hpos
  have hrow0 : (irows zss)[0]? = some (ivals (lget zss 0)) := irows_get hpos
  have hil : (ivals (lget zss 0)).length = n := by rw [ivals_len]; exact hr0
  refine fc_enter (nt := 63) Try.func177 rfl rfl (by simp) fun w0 ω0 => ?_
  (refine goes_seq ?_; refine goes_region ?_; apply run_step rfl; (exact stp_assign rfl rfl); refine run_nil ?_; refine fin_seq ?_; refine goes_seq ?_; refine goes_region ?_; apply run_step rfl; (exact stp_move rfl rfl); apply run_step rfl; (exact stp_lit1I (E := 2) rfl (by as_aux_lemma => kernel_rfl) rfl); apply run_step rfl; (exact stp_assign rfl rfl); refine run_nil ?_; refine fin_seq ?_; refine goes_seq ?_; refine goes_region ?_; apply run_step rfl; (exact stp_assign rfl rfl); refine run_nil ?_; refine fin_seq ?_; refine goes_seq ?_; refine goes_seq ?_; refine goes_region ?_; apply run_step rfl; (exact stp_move rfl rfl); apply run_step rfl; (exact stp_len rfl rfl rfl (by as_aux_lemma => kernel_rfl)); apply run_step rfl; (exact stp_bin rfl rfl rfl rfl); refine run_nil ?_; refine fin_seq ?_)
  refine goes_if rfl (fun _ => ?_) (fun h => absurd hpos (by omega))
  have hm0 : ((n : Int) + (c : Int) + 1) = ((n + c + 1 : Nat) : Int) := by omega
  have hrp : (List.replicate (n + c + 1) false).length = n + c + 1 := by simp
  have hst : (List.replicate (n + c + 1) false).set c true = (oStart n c).1 ++ List.replicate (c + 1) false := by
    rw [show n + c + 1 = n + (c + 1) by omega, ← List.replicate_append_replicate, set_padB (by simpa using hc)]; rfl
  have hbl : n + c + 1 ≤ (bvals (List.replicate (n + c + 1) false)).length := by rw [bvals_len]; simp
  (refine goes_region ?_; apply run_step rfl; (exact stp_move rfl rfl); apply run_step rfl; (first | exact stp_ix (j := 0) rfl rfl rfl rfl rfl (by as_aux_lemma => kernel_rfl) rfl hpos (Nat.le_of_eq hlen.symm) | exact stp_loadR rfl (by as_aux_lemma => kernel_rfl) rfl rfl rfl hrow0 hil | exact stp_makeB (n := n + c + 1) (E := 4) rfl (by as_aux_lemma => kernel_rfl) (by as_aux_lemma => kernel_rfl) rfl rfl hm0 hm0 (by omega) | exact stp_ix (j := c) rfl rfl rfl rfl rfl (by as_aux_lemma => kernel_rfl) rfl (by omega) hbl | exact stp_stB (bs := List.replicate (n + c + 1) false) rfl rfl rfl rfl rfl (by rw [hrp]; omega) (by as_aux_lemma => kernel_rfl)); apply run_step rfl; (first | exact stp_ix (j := 0) rfl rfl rfl rfl rfl (by as_aux_lemma => kernel_rfl) rfl hpos (Nat.le_of_eq hlen.symm) | exact stp_loadR rfl (by as_aux_lemma => kernel_rfl) rfl rfl rfl hrow0 hil | exact stp_makeB (n := n + c + 1) (E := 4) rfl (by as_aux_lemma => kernel_rfl) (by as_aux_lemma => kernel_rfl) rfl rfl hm0 hm0 (by omega) | exact stp_ix (j := c) rfl rfl rfl rfl rfl (by as_aux_lemma => kernel_rfl) rfl (by omega) hbl | exact stp_stB (bs := List.replicate (n + c + 1) false) rfl rfl rfl rfl rfl (by rw [hrp]; omega) (by as_aux_lemma => kernel_rfl)); apply run_step rfl; (exact stp_len rfl rfl rfl (by as_aux_lemma => kernel_rfl)); apply run_step rfl; (exact stp_assign rfl rfl); refine run_nil ?_; refine fin_seq ?_; refine goes_seq ?_; refine goes_region ?_; apply run_step rfl; (exact stp_move rfl rfl); apply run_step rfl; (exact stp_move rfl rfl); apply run_step rfl; (exact stp_add rfl rfl rfl (by first | exact IntWalk.i64_in _ (by omega) | rfl)); apply run_step rfl; (exact stp_add rfl rfl rfl (by first | exact IntWalk.i64_in _ (by omega) | rfl)); apply run_step rfl; (first | exact stp_ix (j := 0) rfl rfl rfl rfl rfl (by as_aux_lemma => kernel_rfl) rfl hpos (Nat.le_of_eq hlen.symm) | exact stp_loadR rfl (by as_aux_lemma => kernel_rfl) rfl rfl rfl hrow0 hil | exact stp_makeB (n := n + c + 1) (E := 4) rfl (by as_aux_lemma => kernel_rfl) (by as_aux_lemma => kernel_rfl) rfl rfl hm0 hm0 (by omega) | exact stp_ix (j := c) rfl rfl rfl rfl rfl (by as_aux_lemma => kernel_rfl) rfl (by omega) hbl | exact stp_stB (bs := List.replicate (n + c + 1) false) rfl rfl rfl rfl rfl (by rw [hrp]; omega) (by as_aux_lemma => kernel_rfl)); apply run_step rfl; (exact stp_assign rfl rfl); refine run_nil ?_; refine fin_seq ?_; refine goes_seq ?_; refine goes_region ?_; apply run_step rfl; (exact stp_move rfl rfl); apply run_step rfl; (exact stp_move rfl rfl); apply run_step rfl; (first | exact stp_ix (j := 0) rfl rfl rfl rfl rfl (by as_aux_lemma => kernel_rfl) rfl hpos (Nat.le_of_eq hlen.symm) | exact stp_loadR rfl (by as_aux_lemma => kernel_rfl) rfl rfl rfl hrow0 hil | exact stp_makeB (n := n + c + 1) (E := 4) rfl (by as_aux_lemma => kernel_rfl) (by as_aux_lemma => kernel_rfl) rfl rfl hm0 hm0 (by omega) | exact stp_ix (j := c) rfl rfl rfl rfl rfl (by as_aux_lemma => kernel_rfl) rfl (by omega) hbl | exact stp_stB (bs := List.replicate (n + c + 1) false) rfl rfl rfl rfl rfl (by rw [hrp]; omega) (by as_aux_lemma => kernel_rfl)); apply run_step rfl; (first | exact stp_ix (j := 0) rfl rfl rfl rfl rfl (by as_aux_lemma => kernel_rfl) rfl hpos (Nat.le_of_eq hlen.symm) | exact stp_loadR rfl (by as_aux_lemma => kernel_rfl) rfl rfl rfl hrow0 hil | exact stp_makeB (n := n + c + 1) (E := 4) rfl (by as_aux_lemma => kernel_rfl) (by as_aux_lemma => kernel_rfl) rfl rfl hm0 hm0 (by omega) | exact stp_ix (j := c) rfl rfl rfl rfl rfl (by as_aux_lemma => kernel_rfl) rfl (by omega) hbl | exact stp_stB (bs := List.replicate (n + c + 1) false) rfl rfl rfl rfl rfl (by rw [hrp]; omega) (by as_aux_lemma => kernel_rfl)); refine run_nil ?_; refine fin_seq ?_; refine goes_seq ?_; refine goes_seq ?_; refine goes_region ?_; apply run_step rfl; (exact stp_assign rfl rfl); refine run_nil ?_; refine fin_seq ?_; refine goes_block ?_)
  rw [hst]
  generalize hm : 2 ^ zss.length - 1 = mask
  have hstep : ∀ k, k < zss.length → ∀ c s, mStep zss mask c s k = oStep zss c s k := fun k hk c s => by rw [← hm]; exact oStep_eq hk c s
  have hout : orb zss n c = mLoop zss mask zss.length (n + 1) 0 (oStart n c) := by rw [← hm]; rfl
  rw [hout]
  refine goes_loop (fun q : Nat × MSt => St.of [(0, o1 (.sl 1003 0 zss.length)), (5, o1 (.sl 12 0 q.2.2.length)), (7, o1 (.sl 24 0 (n + c + 1))), (8, vv (I6 q.1))] [(1003, rowsRo zss), (12, leOw q.2.2), (24, boOw (q.2.1 ++ List.replicate (c + 1) false))])
    (fun q => q.1 ≤ q.2.2.length ∧ MOK n q.2 ∧ mLoop zss mask zss.length (n + 1 - q.1) q.1 q.2 = mLoop zss mask zss.length (n + 1) 0 (oStart n c)) (fun q => n + 1 - q.1) (0, oStart n c) ⟨Nat.zero_le _, oStart_ok hc, rfl⟩ (Wk.of ⟨rfl, rfl, rfl, rfl, trivial⟩ ⟨rfl, rfl, rfl, trivial⟩ trivial) ?_
  rintro ⟨i, s⟩ ⟨hi, hok, hl⟩
  dsimp only at hi hl ⊢
  have hOn : s.2.length ≤ n := hok.le
  (refine goes_seq ?_; refine goes_seq ?_; refine goes_region ?_; apply run_step rfl; (exact stp_move rfl rfl); apply run_step rfl; (exact stp_move rfl rfl); apply run_step rfl; (exact stp_len rfl rfl rfl (by as_aux_lemma => kernel_rfl)); apply run_step rfl; (exact stp_bin rfl rfl rfl rfl); refine run_nil ?_; refine fin_seq ?_)
  refine goes_if rfl (fun h => ?_) (fun h => ?_)
  · have hlt : i < s.2.length := by omega
    have hl' : mLoop zss mask zss.length (n - i) (i + 1) (mRow zss mask zss.length (iget s.2 i).toNat s) = mLoop zss mask zss.length (n + 1) 0 (oStart n c) := by
      rw [← hl, show n + 1 - i = (n - i) + 1 by omega]; exact (mLoop_step hlt).symm
    obtain ⟨e, he1, he2, -⟩ := hok.q i hlt
    rw [he1, Int.toNat_natCast] at hl'
    have hro := fun m hm => mRow_ok (mask := mask) hT rfl he2 hok m hm
    obtain ⟨s0, hs0⟩ : ∃ s0 : MSt, s0 = s := ⟨_, rfl⟩
    rw [← hs0] at hro hl'
    have hi0 : i < s0.2.length := by rw [hs0]; exact hlt
    have he0 : iget s0.2 i = (e : Int) := by rw [hs0]; exact he1
    (refine goes_skip ?_; refine fin_seq ?_; refine goes_seq ?_; refine goes_block ?_; refine goes_seq ?_; refine goes_region ?_; apply run_step rfl; (exact stp_assign rfl rfl); refine run_nil ?_; refine fin_seq ?_; refine goes_block ?_)
    refine goes_loop (fun q : Nat × MSt => St.of [(0, o1 (.sl 1003 0 zss.length)), (5, o1 (.sl 12 0 q.2.2.length)), (7, o1 (.sl 24 0 (n + c + 1))), (8, vv (I6 i)), (9, vv (I6 q.1))] [(1003, rowsRo zss), (12, leOw q.2.2), (24, boOw (q.2.1 ++ List.replicate (c + 1) false))])
      (fun q => q.1 ≤ zss.length ∧ (List.range q.1).foldl (mStep zss mask e) s0 = q.2) (fun q => zss.length - q.1) (0, s) ⟨Nat.zero_le _, hs0⟩ (Wk.of ⟨rfl, rfl, rfl, rfl, rfl, trivial⟩ ⟨rfl, rfl, rfl, trivial⟩ trivial) ?_
    clear hl hok hs0 he1 hlt h hi hOn
    rintro ⟨k, s⟩ ⟨hk, hfo⟩
    dsimp only at hk hfo ⊢
    obtain ⟨hok, grw, _⟩ := hro k hk
    rw [hfo] at hok grw
    have hOn : s.2.length ≤ n := hok.le
    have hlt : i < s.2.length := Nat.lt_of_lt_of_le hi0 grw.len
    have hei : iget s.2 i = (e : Int) := (grw.pre i hi0).trans he0
    have hbl : s.1.length = n := hok.l
    (refine goes_seq ?_; refine goes_seq ?_; refine goes_region ?_; apply run_step rfl; (exact stp_move rfl rfl); apply run_step rfl; (exact stp_move rfl rfl); apply run_step rfl; (exact stp_len rfl rfl rfl (by as_aux_lemma => kernel_rfl)); apply run_step rfl; (exact stp_bin rfl rfl rfl rfl); refine run_nil ?_; refine fin_seq ?_)
    refine goes_if rfl (fun h2 => ?_) (fun h2 => ?_)
    · have hkn : k < zss.length := by omega
      have hd := bTo_lt hT he2 (g := k) hkn
      have hrl : (lget zss k).length = n := hT.len k hkn
      have hrowk : (irows zss)[k]? = some (ivals (lget zss k)) := irows_get hkn
      have hilk : (ivals (lget zss k)).length = n := by rw [ivals_len]; exact hrl
      obtain ⟨d, hdd⟩ : ∃ d, bTo zss e k = d := ⟨_, rfl⟩
      have hst : (List.range (k + 1)).foldl (mStep zss mask e) s0 = oStep zss e s k := by
        rw [List.range_succ, List.foldl_append, hfo]; exact hstep k hkn e s
      unfold oStep at hst
      rw [hdd] at hd hst
      have hgetd : (ivals (lget zss k))[e]? = some (I6 (d : Int)) := by rw [ivals_get (by omega), hd.2]
      have hgq : (ivals s.2)[i]? = some (I6 (e : Int)) := by rw [ivals_get hlt, hei]
      have hgb : (bvals (s.1 ++ List.replicate (c + 1) false))[d]? = some (.bool (bat s.1 d)) := by rw [bvals_get (by rw [List.length_append]; omega), bat_pad (by omega)]
      have hel : e < (ivals (lget zss k)).length := by rw [hilk]; exact he2
      have hbb : n + c + 1 ≤ (bvals (s.1 ++ List.replicate (c + 1) false)).length := by rw [bvals_len, List.length_append, hbl, List.length_replicate]; omega
      have hq0 : s.2.length ≤ (ivals s.2).length := by rw [ivals_len]; exact Nat.le_refl _
      (refine goes_skip ?_; refine fin_seq ?_; refine goes_seq ?_; refine goes_block ?_; refine goes_seq ?_)
      apply goes_draw 11 [] [[], [], [0, 1], [0, 1, 2], [], [], [4, 5], [4, 5, 6], [0, 1, 2, 3, 4, 5, 6, 7], [0, 1, 2, 3, 4, 5, 6, 7, 8], [0, 1, 2, 3, 4, 5, 6, 7, 8, 9]] [40, 41, 42, 43, 44, 45, 46, 47, 48, 49, 10] [] (by kernel_rfl) (by kernel_rfl)
      · (apply draw_put rfl; (intro S1 hS; exact stp_move rfl (hS.op rfl)); apply draw_put rfl; (intro S1 hS; exact stp_move rfl (hS.op rfl)); (first | (apply draw_put rfl; (focus (intro S1 hS; exact stp_ix (j := k) rfl (hS.op rfl) (hS.op rfl) (hS.ch _ _ rfl) rfl (by as_aux_lemma => kernel_rfl) rfl hkn (Nat.le_of_eq hlen.symm)))) | (apply draw_put rfl; (focus (intro S1 hS; exact stp_loadR rfl (by as_aux_lemma => kernel_rfl) (hS.op rfl) (hS.ch _ _ rfl) rfl hrowk hilk))) | (apply draw_put rfl; (focus (intro S1 hS; exact stp_ix (j := i) rfl (hS.op rfl) (hS.op rfl) (hS.ch _ _ rfl) rfl (by as_aux_lemma => kernel_rfl) rfl hlt hq0))) | (apply draw_put rfl; (focus (intro S1 hS; exact stp_loadV rfl (by as_aux_lemma => kernel_rfl) (hS.op rfl) (hS.ch _ _ rfl) rfl hgq))) | (apply draw_put rfl; (focus (intro S1 hS; exact stp_ixE (j := e) rfl (hS.op rfl) (hS.op rfl) (hS.ch _ _ rfl) rfl (by as_aux_lemma => kernel_rfl) hrowk rfl he2 (Nat.le_of_eq hilk.symm)))) | (apply draw_put rfl; (focus (intro S1 hS; exact stp_loadE' rfl (by as_aux_lemma => kernel_rfl) (hS.op rfl) (hS.ch _ _ rfl) rfl hrowk hgetd)))); (first | (apply draw_put rfl; (focus (intro S1 hS; exact stp_ix (j := k) rfl (hS.op rfl) (hS.op rfl) (hS.ch _ _ rfl) rfl (by as_aux_lemma => kernel_rfl) rfl hkn (Nat.le_of_eq hlen.symm)))) | (apply draw_put rfl; (focus (intro S1 hS; exact stp_loadR rfl (by as_aux_lemma => kernel_rfl) (hS.op rfl) (hS.ch _ _ rfl) rfl hrowk hilk))) | (apply draw_put rfl; (focus (intro S1 hS; exact stp_ix (j := i) rfl (hS.op rfl) (hS.op rfl) (hS.ch _ _ rfl) rfl (by as_aux_lemma => kernel_rfl) rfl hlt hq0))) | (apply draw_put rfl; (focus (intro S1 hS; exact stp_loadV rfl (by as_aux_lemma => kernel_rfl) (hS.op rfl) (hS.ch _ _ rfl) rfl hgq))) | (apply draw_put rfl; (focus (intro S1 hS; exact stp_ixE (j := e) rfl (hS.op rfl) (hS.op rfl) (hS.ch _ _ rfl) rfl (by as_aux_lemma => kernel_rfl) hrowk rfl he2 (Nat.le_of_eq hilk.symm)))) | (apply draw_put rfl; (focus (intro S1 hS; exact stp_loadE' rfl (by as_aux_lemma => kernel_rfl) (hS.op rfl) (hS.ch _ _ rfl) rfl hrowk hgetd)))); apply draw_put rfl; (intro S1 hS; exact stp_move rfl (hS.op rfl)); apply draw_put rfl; (intro S1 hS; exact stp_move rfl (hS.op rfl)); (first | (apply draw_put rfl; (focus (intro S1 hS; exact stp_ix (j := k) rfl (hS.op rfl) (hS.op rfl) (hS.ch _ _ rfl) rfl (by as_aux_lemma => kernel_rfl) rfl hkn (Nat.le_of_eq hlen.symm)))) | (apply draw_put rfl; (focus (intro S1 hS; exact stp_loadR rfl (by as_aux_lemma => kernel_rfl) (hS.op rfl) (hS.ch _ _ rfl) rfl hrowk hilk))) | (apply draw_put rfl; (focus (intro S1 hS; exact stp_ix (j := i) rfl (hS.op rfl) (hS.op rfl) (hS.ch _ _ rfl) rfl (by as_aux_lemma => kernel_rfl) rfl hlt hq0))) | (apply draw_put rfl; (focus (intro S1 hS; exact stp_loadV rfl (by as_aux_lemma => kernel_rfl) (hS.op rfl) (hS.ch _ _ rfl) rfl hgq))) | (apply draw_put rfl; (focus (intro S1 hS; exact stp_ixE (j := e) rfl (hS.op rfl) (hS.op rfl) (hS.ch _ _ rfl) rfl (by as_aux_lemma => kernel_rfl) hrowk rfl he2 (Nat.le_of_eq hilk.symm)))) | (apply draw_put rfl; (focus (intro S1 hS; exact stp_loadE' rfl (by as_aux_lemma => kernel_rfl) (hS.op rfl) (hS.ch _ _ rfl) rfl hrowk hgetd)))); (first | (apply draw_put rfl; (focus (intro S1 hS; exact stp_ix (j := k) rfl (hS.op rfl) (hS.op rfl) (hS.ch _ _ rfl) rfl (by as_aux_lemma => kernel_rfl) rfl hkn (Nat.le_of_eq hlen.symm)))) | (apply draw_put rfl; (focus (intro S1 hS; exact stp_loadR rfl (by as_aux_lemma => kernel_rfl) (hS.op rfl) (hS.ch _ _ rfl) rfl hrowk hilk))) | (apply draw_put rfl; (focus (intro S1 hS; exact stp_ix (j := i) rfl (hS.op rfl) (hS.op rfl) (hS.ch _ _ rfl) rfl (by as_aux_lemma => kernel_rfl) rfl hlt hq0))) | (apply draw_put rfl; (focus (intro S1 hS; exact stp_loadV rfl (by as_aux_lemma => kernel_rfl) (hS.op rfl) (hS.ch _ _ rfl) rfl hgq))) | (apply draw_put rfl; (focus (intro S1 hS; exact stp_ixE (j := e) rfl (hS.op rfl) (hS.op rfl) (hS.ch _ _ rfl) rfl (by as_aux_lemma => kernel_rfl) hrowk rfl he2 (Nat.le_of_eq hilk.symm)))) | (apply draw_put rfl; (focus (intro S1 hS; exact stp_loadE' rfl (by as_aux_lemma => kernel_rfl) (hS.op rfl) (hS.ch _ _ rfl) rfl hrowk hgetd)))); (first | (apply draw_put rfl; (focus (intro S1 hS; exact stp_ix (j := k) rfl (hS.op rfl) (hS.op rfl) (hS.ch _ _ rfl) rfl (by as_aux_lemma => kernel_rfl) rfl hkn (Nat.le_of_eq hlen.symm)))) | (apply draw_put rfl; (focus (intro S1 hS; exact stp_loadR rfl (by as_aux_lemma => kernel_rfl) (hS.op rfl) (hS.ch _ _ rfl) rfl hrowk hilk))) | (apply draw_put rfl; (focus (intro S1 hS; exact stp_ix (j := i) rfl (hS.op rfl) (hS.op rfl) (hS.ch _ _ rfl) rfl (by as_aux_lemma => kernel_rfl) rfl hlt hq0))) | (apply draw_put rfl; (focus (intro S1 hS; exact stp_loadV rfl (by as_aux_lemma => kernel_rfl) (hS.op rfl) (hS.ch _ _ rfl) rfl hgq))) | (apply draw_put rfl; (focus (intro S1 hS; exact stp_ixE (j := e) rfl (hS.op rfl) (hS.op rfl) (hS.ch _ _ rfl) rfl (by as_aux_lemma => kernel_rfl) hrowk rfl he2 (Nat.le_of_eq hilk.symm)))) | (apply draw_put rfl; (focus (intro S1 hS; exact stp_loadE' rfl (by as_aux_lemma => kernel_rfl) (hS.op rfl) (hS.ch _ _ rfl) rfl hrowk hgetd)))); (first | (apply draw_put rfl; (focus (intro S1 hS; exact stp_ix (j := k) rfl (hS.op rfl) (hS.op rfl) (hS.ch _ _ rfl) rfl (by as_aux_lemma => kernel_rfl) rfl hkn (Nat.le_of_eq hlen.symm)))) | (apply draw_put rfl; (focus (intro S1 hS; exact stp_loadR rfl (by as_aux_lemma => kernel_rfl) (hS.op rfl) (hS.ch _ _ rfl) rfl hrowk hilk))) | (apply draw_put rfl; (focus (intro S1 hS; exact stp_ix (j := i) rfl (hS.op rfl) (hS.op rfl) (hS.ch _ _ rfl) rfl (by as_aux_lemma => kernel_rfl) rfl hlt hq0))) | (apply draw_put rfl; (focus (intro S1 hS; exact stp_loadV rfl (by as_aux_lemma => kernel_rfl) (hS.op rfl) (hS.ch _ _ rfl) rfl hgq))) | (apply draw_put rfl; (focus (intro S1 hS; exact stp_ixE (j := e) rfl (hS.op rfl) (hS.op rfl) (hS.ch _ _ rfl) rfl (by as_aux_lemma => kernel_rfl) hrowk rfl he2 (Nat.le_of_eq hilk.symm)))) | (apply draw_put rfl; (focus (intro S1 hS; exact stp_loadE' rfl (by as_aux_lemma => kernel_rfl) (hS.op rfl) (hS.ch _ _ rfl) rfl hrowk hgetd)))); apply draw_put rfl; (intro S1 hS; exact stp_assign rfl (hS.op rfl)); exact Draw.nil)
      · rfl
      ((refine rest_done (by as_aux_lemma => kernel_rfl) ?_; skip))
      (refine fin_seq ?_; refine goes_seq ?_; refine goes_region ?_; apply run_step rfl; (exact stp_move rfl rfl); apply run_step rfl; (exact stp_move rfl rfl); apply run_step rfl; (exact stp_ix (j := d) rfl rfl rfl rfl rfl (by as_aux_lemma => kernel_rfl) rfl (by omega) hbb); apply run_step rfl; (exact stp_loadV rfl (by as_aux_lemma => kernel_rfl) rfl rfl rfl (by first | assumption | exact ivals_get (by assumption) | exact irows_get (by assumption) | exact ivals_get (by omega) | exact irows_get (by omega) | rfl)); apply run_step rfl; (exact stp_not rfl rfl); refine run_nil ?_; refine fin_seq ?_)
      refine goes_cond rfl (fun hb => ?_) (fun hb => ?_)
      · have hb : bat s.1 d = false := by simpa using hb
        have hv : (List.range (k + 1)).foldl (mStep zss mask e) s0 = (s.1.set d true, s.2 ++ [(d : Int)]) := by rw [hst, if_pos hb]
        (refine goes_seq ?_; refine goes_region ?_; apply run_step rfl; (exact stp_move rfl rfl); apply run_step rfl; (exact stp_move rfl rfl); apply run_step rfl; (first | exact stp_ix (j := d) rfl rfl rfl rfl rfl (by as_aux_lemma => kernel_rfl) rfl (by omega) hbb | exact stp_stB rfl rfl rfl rfl rfl (by rw [List.length_append]; omega) (by as_aux_lemma => kernel_rfl)); apply run_step rfl; (first | exact stp_ix (j := d) rfl rfl rfl rfl rfl (by as_aux_lemma => kernel_rfl) rfl (by omega) hbb | exact stp_stB rfl rfl rfl rfl rfl (by rw [List.length_append]; omega) (by as_aux_lemma => kernel_rfl)); refine run_nil ?_; refine fin_seq ?_; refine goes_region ?_; apply run_step rfl; (exact stp_move rfl rfl); apply run_step rfl; (exact stp_move rfl rfl); apply run_step rfl; (exact stp_lit1I (E := 2) rfl (by as_aux_lemma => kernel_rfl) rfl); apply run_step rfl; (exact stp_appI rfl (by as_aux_lemma => kernel_rfl) rfl rfl rfl (by first | rfl | assumption | (simp; done)) rfl rfl (by omega)); apply run_step rfl; (exact stp_assign rfl rfl); refine run_nil ?_; refine fin_block ?_; refine fin_seq ?_; refine goes_region ?_; apply run_step rfl; (exact stp_move rfl rfl); apply run_step rfl; (exact stp_add rfl rfl rfl (by first | exact IntWalk.i64_in _ (by omega) | rfl)); apply run_step rfl; (exact stp_assign rfl rfl); refine run_nil ?_)
        exact fin_round (k + 1, (s.1.set d true, s.2 ++ [(d : Int)])) ⟨hkn, hv⟩ (by show zss.length - (k + 1) < zss.length - k; omega) (Wk.of ⟨rfl, congrArg (fun x => some (o1 (.sl 12 0 x))) (by simp), rfl, rfl, rfl, trivial⟩ ⟨rfl, rfl, congrArg (fun l => some (boOw l)) (set_padB (by omega) true), trivial⟩ trivial)
      · have hb : bat s.1 d = true := by simpa using hb
        have hv : (List.range (k + 1)).foldl (mStep zss mask e) s0 = s := by rw [hst, if_neg (by rw [hb]; simp)]
        (refine goes_skip ?_; refine fin_block ?_; refine fin_seq ?_; refine goes_region ?_; apply run_step rfl; (exact stp_move rfl rfl); apply run_step rfl; (exact stp_add rfl rfl rfl (by first | exact IntWalk.i64_in _ (by omega) | rfl)); apply run_step rfl; (exact stp_assign rfl rfl); refine run_nil ?_)
        exact fin_round (k + 1, s) ⟨hkn, hv⟩ (by show zss.length - (k + 1) < zss.length - k; omega) (Wk.of ⟨rfl, rfl, rfl, rfl, rfl, trivial⟩ ⟨rfl, rfl, rfl, trivial⟩ trivial)
    · obtain rfl : k = zss.length := by omega
      (refine goes_exit ?_; refine fin_exit_then ?_; refine fin_exit_then ?_; refine fin_exit_eq ?_; refine fin_block ?_; refine fin_seq ?_; refine goes_region ?_; apply run_step rfl; (exact stp_move rfl rfl); apply run_step rfl; (exact stp_add rfl rfl rfl (by first | exact IntWalk.i64_in _ (by omega) | rfl)); apply run_step rfl; (exact stp_assign rfl rfl); refine run_nil ?_)
      exact fin_round (i + 1, s) ⟨hlt, hok, by rw [← hl']; show mLoop _ _ _ (n + 1 - (i + 1)) _ _ = _; rw [show n + 1 - (i + 1) = n - i by omega]; unfold mRow; rw [hfo]⟩ (by show n + 1 - (i + 1) < n + 1 - i; omega) (Wk.of ⟨rfl, rfl, rfl, rfl, trivial⟩ ⟨rfl, rfl, rfl, trivial⟩ trivial)
  · have hio : i = s.2.length := by omega
    have hOM : mLoop zss mask zss.length (n + 1) 0 (oStart n c) = s := by
      rw [← hl, show n + 1 - i = (n - i) + 1 by omega, mLoop, if_neg (by omega)]
    rw [hOM]
    (refine goes_exit ?_; refine fin_exit_then ?_; refine fin_exit_then ?_; refine fin_exit_eq ?_; refine fin_seq ?_; refine goes_seq ?_; refine goes_region ?_; apply run_step rfl; (exact stp_move rfl rfl); apply run_step rfl; (exact stp_assign rfl rfl); refine run_nil ?_; refine fin_seq ?_; refine goes_ret ?_)
    exact fin_ret1 (.inl rfl) rfl (.tmp rfl) ⟨rfl, trivial⟩ trivial
end Go.Proofs.Ytpognnifgcacnaa
