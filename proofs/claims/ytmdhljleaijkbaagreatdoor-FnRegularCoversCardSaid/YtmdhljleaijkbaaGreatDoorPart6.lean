/- Draws of maniplexes: l05Grid. guards: -/
import Derived.Test.YtmdhljleaijkbaaGreatDoorPart5
import Derived.Deep.DeepCutAuto
import Derived.Deep.CutBlock
import Derived.Test.YtmdhljleaijkbaaGreatDoorPart3
import Derived.Test.YtmdhljleaijkbaaGreatDoorPart1
import Derived.Deep.RegionHeld3
import Derived.Deep.QuietTactic
namespace Go.Proofs.YtmdhljleaijkbaaGreatDoor
open Go.RowKit

theorem xor1_lt {f N : Nat} (h : f < 2 * N) (hN : N ≤ 1000000) : ∃ x : Nat, bits .xor .i64 (f : Int) 1 = (x : Int) ∧ x < 2 * N := by
  refine ⟨f ^^^ 1, i64_xor_nat f 1 (by omega) (by omega), ?_⟩
  have := xor_one_div f
  omega
theorem xor2_lt {f N : Nat} (h : f < 4 * N) (hN : N ≤ 1000000) : ∃ x : Nat, bits .xor .i64 (f : Int) 2 = (x : Int) ∧ x < 4 * N := by
  refine ⟨f ^^^ 2, i64_xor_nat f 2 (by omega) (by omega), ?_⟩
  have h1 : (f ^^^ 2) / 2 / 2 = f / 2 / 2 := by
    rw [Nat.xor_div_two, Nat.xor_div_two]; simp
  omega
set_option maxRecDepth 100000 in
set_option maxHeartbeats 6400000 in
theorem grid_any (a b : Nat) (w : World) (ha : 1 ≤ a) (ha4 : a ≤ 4) (hb : 1 ≤ b) (hb2 : b ≤ 2) :
    Calls Tryz.prog 65 #[.int .i64 a, .int .i64 b] w fun e w' => ∃ v d, e = .returned v ∧ OwM 2 38 w' w.heap.size w'.heap.size v d ∧ d.length = 3 ∧ Sq d (8 * a * b) ∧ Below w.heap.size w w' := by
  obtain ⟨M, hM⟩ : ∃ M, a * b = M := ⟨_, rfl⟩
  have hM1 : 1 ≤ M := by rw [← hM]; exact Nat.mul_pos ha hb
  have hM8 : M ≤ 8 := by rw [← hM]; exact Nat.mul_le_mul ha4 hb2
  have hN : 8 * a * b = 8 * M := by rw [Nat.mul_assoc, hM]
  rw [hN]
  obtain ⟨NN, hNN⟩ : ∃ NN, 8 * M = NN := ⟨_, rfl⟩
  rw [hNN]
  have hw2 : IntKind.i64.wrap (8 * (a : Int) * (b : Int)) = (NN : Int) := by rw [show 8 * (a : Int) * (b : Int) = ((8 * a * b : Nat) : Int) by simp, hN, hNN]; exact IntWalk.i64_in _ (by omega)
  have E1 := Gl.empty_ (w.alloc (.cells #[.slice none 0 0] 26)) (w.heap.size + 1) NN (by simp) (g := w.heap.size + 1) (by simp)
  have E2 := Gl.empty_ ((w.alloc (.cells #[.slice none 0 0] 26)).alloc (.cells #[] 2)) (w.heap.size + 1) NN (by simp) (g := w.heap.size + 1 + 1) (by simp)
  have E3 := Gl.empty_ (((w.alloc (.cells #[.slice none 0 0] 26)).alloc (.cells #[] 2)).alloc (.cells #[] 2)) (w.heap.size + 1) NN (by simp) (g := w.heap.size + 1 + 1 + 1) (by simp)
  have k1 : Blk ((((w.alloc (.cells #[.slice none 0 0] 26)).alloc (.cells #[] 2)).alloc (.cells #[] 2)).alloc (.cells #[] 2)) w.heap.size 26 #[.slice none 0 0] := (((blk_at rfl).alloc _).alloc _).alloc _
  have B1 := (below_alloc3 w (.cells #[.slice none 0 0] 26) (.cells #[] 2) (.cells #[] 2)).alloc (by simp; omega) (.cells #[] 2)
  have G1 := Lib.hid ((E1.below (below_alloc1 _ (.cells #[] 2))).below (below_alloc1 _ (.cells #[] 2)))
  have G2 := Lib.hid (E2.below (below_alloc1 _ (.cells #[] 2)))
  have G3 := Lib.hid E3
  have K1 := Lib.hid k1
  have HB1 := Lib.hid B1
  have hz1 : w.heap.size + 1 + 1 + 1 + 1 = ((((w.alloc (.cells #[.slice none 0 0] 26)).alloc (.cells #[] 2)).alloc (.cells #[] 2)).alloc (.cells #[] 2)).heap.size := by simp
  clear E1 E2 E3 k1 B1
  go_enter Tryz.func65, Tryz.ntmps65
  go_wp2_with fail
  go_loopw [5, 6, 7, 8] (fun s5 s6 s7 s8 wr => ∃ (f : Nat) (a1 a2 a3 : Option Addr) (c1 c2 c3 : Nat), f ≤ NN ∧ s5 = .slice a1 f c1 ∧ s6 = .slice a2 f c2 ∧ s7 = .slice a3 f c3 ∧ s8 = .int .i64 f ∧ Gl wr (w.heap.size + 1) a1 f c1 NN ∧ Gl wr (w.heap.size + 1) a2 f c2 NN ∧ Gl wr (w.heap.size + 1) a3 f c3 NN ∧ Ap a1 a2 ∧ Ap a1 a3 ∧ Ap a2 a3 ∧ Blk wr w.heap.size 26 #[.slice none 0 0] ∧ w.heap.size + 1 ≤ wr.heap.size ∧ Below w.heap.size w wr) (fun _ _ _ s8 _ => NN - (intOf s8).toNat)
  case atStart => exact ⟨0, _, _, _, _, _, _, Nat.zero_le _, rfl, rfl, rfl, rfl, G1.out, G2.out, G3.out, (fun g e => by simp [bk] at e ⊢; omega), (fun g e => by simp [bk] at e ⊢; omega), (fun g e => by simp [bk] at e ⊢; omega), K1.out, by simp, HB1.out⟩
  case round =>
    clear G1 G2 G3 K1 HB1 hz1
    obtain ⟨f, a1, a2, a3, c1, c2, c3, hf, rfl, rfl, rfl, rfl, g1, g2, g3, p12, p13, p23, kb, hsz, hbl⟩ := hrel
    by_cases hlt : f < NN
    · obtain ⟨q, hq⟩ : ∃ q, f / 8 = q := ⟨_, rfl⟩
      obtain ⟨r, hr⟩ : ∃ r, f % 8 = r := ⟨_, rfl⟩
      obtain ⟨x, hx⟩ : ∃ x, q % a = x := ⟨_, rfl⟩
      obtain ⟨y, hy⟩ : ∃ y, q / a = y := ⟨_, rfl⟩
      have hr8 : r < 8 := by omega
      have hqM : q < M := by omega
      have hxa : x < a := by rw [← hx]; exact Nat.mod_lt _ (by omega)
      have hyb : y < b := by rw [← hy]; exact Nat.div_lt_of_lt_mul (by rw [hM]; exact hqM)
      obtain ⟨z, hz, hz8⟩ := xor1_lt (f := f) (N := 4 * M) (by omega) (by omega)
      have t1 : (f : Int).tdiv 8 = (q : Int) := by rw [← hq]; rfl
      have t2 : (f : Int).tmod 8 = (r : Int) := by rw [← hr]; rfl
      have t3 : (q : Int).tmod (a : Int) = (x : Int) := by rw [← hx]; rfl
      have t4 : (q : Int).tdiv (a : Int) = (y : Int) := by rw [← hy]; rfl
      obtain ⟨v0, hv0⟩ : ∃ v, (r + 4) % 8 = v := ⟨_, rfl⟩
      obtain ⟨v1, hv1, hv8⟩ := xor1_lt (f := v0) (N := 4) (by omega) (by omega)
      obtain ⟨u7, hu7⟩ : ∃ u, (r + 7) % 8 = u := ⟨_, rfl⟩
      obtain ⟨u1, hu1⟩ : ∃ u, (r + 1) % 8 = u := ⟨_, rfl⟩
      obtain ⟨h, hh⟩ : ∃ h, r / 2 = h := ⟨_, rfl⟩
      obtain ⟨x0, hx0⟩ : ∃ u, (x + 1) % a = u := ⟨_, rfl⟩
      obtain ⟨x2, hx2⟩ : ∃ u, (x + a - 1) % a = u := ⟨_, rfl⟩
      obtain ⟨y1, hy1⟩ : ∃ u, (y + 1) % b = u := ⟨_, rfl⟩
      obtain ⟨y3, hy3⟩ : ∃ u, (y + b - 1) % b = u := ⟨_, rfl⟩
      have bx0 : x0 < a := by rw [← hx0]; exact Nat.mod_lt _ (by omega)
      have bx2 : x2 < a := by rw [← hx2]; exact Nat.mod_lt _ (by omega)
      have by1 : y1 < b := by rw [← hy1]; exact Nat.mod_lt _ (by omega)
      have by3 : y3 < b := by rw [← hy3]; exact Nat.mod_lt _ (by omega)
      have prod : ∀ y, y < b → ∃ P : Nat, (a : Int) * (y : Int) = (P : Int) ∧ P + a ≤ M := fun y hy => ⟨a * y, by rw [Int.natCast_mul], by rw [← hM, ← Nat.mul_succ]; exact Nat.mul_le_mul_left _ hy⟩
      obtain ⟨P0, hP0, bP0⟩ := prod y hyb
      obtain ⟨P1, hP1, bP1⟩ := prod y1 by1
      obtain ⟨P3, hP3, bP3⟩ := prod y3 by3
      have t5 : ((r : Int) + 4).tmod 8 = (v0 : Int) := by rw [← hv0]; rfl
      have t6 : ((r : Int) + 7).tmod 8 = (u7 : Int) := by rw [← hu7]; rfl
      have t7 : ((r : Int) + 1).tmod 8 = (u1 : Int) := by rw [← hu1]; rfl
      have t8 : (r : Int).tdiv 2 = (h : Int) := by rw [← hh]; rfl
      have t9 : ((x : Int) + 1).tmod (a : Int) = (x0 : Int) := by rw [← hx0]; rfl
      have t10 : ((y : Int) + 1).tmod (b : Int) = (y1 : Int) := by rw [← hy1]; rfl
      have t11 : ((x : Int) + (a : Int) - 1).tmod (a : Int) = (x2 : Int) := by rw [← hx2, show (x : Int) + (a : Int) - 1 = ((x + a - 1 : Nat) : Int) by omega]; rfl
      have t12 : ((y : Int) + (b : Int) - 1).tmod (b : Int) = (y3 : Int) := by rw [← hy3, show (y : Int) + (b : Int) - 1 = ((y + b - 1 : Nat) : Int) by omega]; rfl
      have t13 : (r : Int).tmod 2 = ((r % 2 : Nat) : Int) := rfl
      have ha0 : ((a : Int) == 0) = false := by simp; omega
      have ha0' : (a : Int) ≠ 0 := by omega
      have hb0 : ((b : Int) == 0) = false := by simp; omega
      have hb0' : (b : Int) ≠ 0 := by omega
      have hu8 : u7 < 8 ∧ u1 < 8 ∧ h < 4 := by omega
      have hyM : y ≤ 2 ∧ x ≤ 4 ∧ P0 ≤ 8 ∧ P1 ≤ 8 ∧ P3 ≤ 8 := by omega
      clear prod hx0 hx2 hy1 hy3 hu7 hu1 hv0 hq hr hx hy
      obtain ⟨z1, n1, m1, o1⟩ := g1
      have O1 := Lib.hid o1
      have G2 := Lib.hid g2
      have G3 := Lib.hid g3
      have HB := Lib.hid hbl
      have KB := Lib.hid kb
      clear o1 g2 g3 hbl kb
      clear t13
      have hc : (((r : Int) % 2 == 0) = true ∨ ((r : Int) % 2 == 0) = false) ∧ (h = 0 ∨ h = 1 ∨ h = 2 ∨ h = 3) := ⟨by cases ((r : Int) % 2 == 0) <;> simp, by omega⟩
      clear hh
      rcases hc with ⟨hev | hev, hk | hk | hk | hk⟩
      · subst hk
        go_wp2_with fail
        go_quiet (fail)
        have O1 := Lib.hid (show Own (wr.drewN nq) _ _ _ _ _ _ from O1.out)
        have G2 := Lib.hid (show Gl (wr.drewN nq) _ _ _ _ _ from G2.out)
        have G3 := Lib.hid (show Gl (wr.drewN nq) _ _ _ _ _ from G3.out)
        have HB := Lib.hid (below_drewN HB.out nq)
        have KB := Lib.hid (show Blk (wr.drewN nq) _ _ _ from KB.out)
        have hsz : w.heap.size + 1 ≤ (wr.drewN nq).heap.size := hsz
        generalize wr.drewN nq = wq at *
        go_wp2_with (first | (at_builtin; refine wpList_ap1 etI _ rfl _ _ rfl (w.heap.size + 1) a3 f c3 _ rfl O3.out _ rfl rfl (by omega) hs5 ?_; intro b3 d3 w6 ho2 hg2 hblk; have s13 : Ap b1 b3 := (q13.symm.grown hblk (fun g e => (J1.out.lt g e).2)).symm; have s23 : Ap b2 b3 := (r23.symm.grown hblk (fun g e => (J2.out.lt g e).2)).symm; have K3 := Lib.hid (Gl.app n3 m3 ho2 (show 0 ≤ 8 * ((x0 : Int) + (P0 : Int)) + (v1 : Int) ∧ 8 * ((x0 : Int) + (P0 : Int)) + (v1 : Int) < (NN : Int) by omega)); have K1 := Lib.hid (J1.out.side hg2 q13.symm); have K2 := Lib.hid (J2.out.side hg2 r23.symm); have HB6 := Lib.hid (HB5.out.grown hg2 (by omega) (fun g e => by have := (O3.out.lt g e).1; omega)); have KB6 := Lib.hid (gl_blk KB5.out O3.out hg2); have hs6 : w.heap.size + 1 ≤ w6.heap.size := Nat.le_trans hs5 hg2.size; clear ho2 hg2 hblk O3 J1 J2 J3 HB5 KB5) | (at_builtin; refine wpList_ap1 etI _ rfl _ _ rfl (w.heap.size + 1) a2 f c2 _ rfl O2.out _ rfl rfl (by omega) hs4 ?_; intro b2 d2 w5 ho2 hg2 hblk; have r12 : Ap b1 b2 := (q12.symm.grown hblk (fun g e => (H1.out.lt g e).2)).symm; have r23 : Ap b2 a3 := p23.grown hblk (fun g e => (H3.out.lt g e).2); have J2 := Lib.hid (Gl.app n2 m2 ho2 (show 0 ≤ 8 * (q : Int) + (u7 : Int) ∧ 8 * (q : Int) + (u7 : Int) < (NN : Int) by omega)); have J1 := Lib.hid (H1.out.side hg2 q12.symm); have J3 := Lib.hid (H3.out.side hg2 p23); have HB5 := Lib.hid (HB4.out.grown hg2 (by omega) (fun g e => by have := (O2.out.lt g e).1; omega)); have KB5 := Lib.hid (gl_blk KB4.out O2.out hg2); have hs5 : w.heap.size + 1 ≤ w5.heap.size := Nat.le_trans hs4 hg2.size; obtain ⟨z3, n3, m3, o3⟩ := J3.out; have O3 := Lib.hid o3; clear ho2 hg2 hblk o3 O2 H1 H2 H3 HB4 KB4) | (at_builtin; refine wpList_ap1 etI _ rfl _ _ rfl (w.heap.size + 1) a1 f c1 _ rfl O1.out _ rfl rfl (by omega) hsz ?_; intro b1 d1 w4 ho2 hg2 hblk; have q12 : Ap b1 a2 := p12.grown hblk (fun g e => (G2.out.lt g e).2); have q13 : Ap b1 a3 := p13.grown hblk (fun g e => (G3.out.lt g e).2); have H1 := Lib.hid (Gl.app n1 m1 ho2 (show 0 ≤ (z : Int) ∧ (z : Int) < (NN : Int) by omega)); have H2 := Lib.hid (G2.out.side hg2 p12); have H3 := Lib.hid (G3.out.side hg2 p13); have HB4 := Lib.hid (HB.out.grown hg2 (by omega) (fun g e => by have := (O1.out.lt g e).1; omega)); have KB4 := Lib.hid (gl_blk KB.out O1.out hg2); have hs4 : w.heap.size + 1 ≤ w4.heap.size := Nat.le_trans hsz hg2.size; obtain ⟨z2, n2, m2, o2⟩ := H2.out; have O2 := Lib.hid o2; clear ho2 hg2 hblk o2 O1 G2 G3 HB KB))
        go_roundw
        case rel => exact ⟨f + 1, b1, b2, b3, _, _, _, by omega, rfl, rfl, rfl, by go_num, K1.out, K2.out, K3.out, r12, s13, s23, KB6.out, hs6, HB6.out⟩
        case measure => simp [intOf]; omega
      · subst hk
        go_wp2_with fail
        go_quiet (fail)
        have O1 := Lib.hid (show Own (wr.drewN nq) _ _ _ _ _ _ from O1.out)
        have G2 := Lib.hid (show Gl (wr.drewN nq) _ _ _ _ _ from G2.out)
        have G3 := Lib.hid (show Gl (wr.drewN nq) _ _ _ _ _ from G3.out)
        have HB := Lib.hid (below_drewN HB.out nq)
        have KB := Lib.hid (show Blk (wr.drewN nq) _ _ _ from KB.out)
        have hsz : w.heap.size + 1 ≤ (wr.drewN nq).heap.size := hsz
        generalize wr.drewN nq = wq at *
        go_wp2_with (first | (at_builtin; refine wpList_ap1 etI _ rfl _ _ rfl (w.heap.size + 1) a3 f c3 _ rfl O3.out _ rfl rfl (by omega) hs5 ?_; intro b3 d3 w6 ho2 hg2 hblk; have s13 : Ap b1 b3 := (q13.symm.grown hblk (fun g e => (J1.out.lt g e).2)).symm; have s23 : Ap b2 b3 := (r23.symm.grown hblk (fun g e => (J2.out.lt g e).2)).symm; have K3 := Lib.hid (Gl.app n3 m3 ho2 (show 0 ≤ 8 * ((x : Int) + (P1 : Int)) + (v1 : Int) ∧ 8 * ((x : Int) + (P1 : Int)) + (v1 : Int) < (NN : Int) by omega)); have K1 := Lib.hid (J1.out.side hg2 q13.symm); have K2 := Lib.hid (J2.out.side hg2 r23.symm); have HB6 := Lib.hid (HB5.out.grown hg2 (by omega) (fun g e => by have := (O3.out.lt g e).1; omega)); have KB6 := Lib.hid (gl_blk KB5.out O3.out hg2); have hs6 : w.heap.size + 1 ≤ w6.heap.size := Nat.le_trans hs5 hg2.size; clear ho2 hg2 hblk O3 J1 J2 J3 HB5 KB5) | (at_builtin; refine wpList_ap1 etI _ rfl _ _ rfl (w.heap.size + 1) a2 f c2 _ rfl O2.out _ rfl rfl (by omega) hs4 ?_; intro b2 d2 w5 ho2 hg2 hblk; have r12 : Ap b1 b2 := (q12.symm.grown hblk (fun g e => (H1.out.lt g e).2)).symm; have r23 : Ap b2 a3 := p23.grown hblk (fun g e => (H3.out.lt g e).2); have J2 := Lib.hid (Gl.app n2 m2 ho2 (show 0 ≤ 8 * (q : Int) + (u7 : Int) ∧ 8 * (q : Int) + (u7 : Int) < (NN : Int) by omega)); have J1 := Lib.hid (H1.out.side hg2 q12.symm); have J3 := Lib.hid (H3.out.side hg2 p23); have HB5 := Lib.hid (HB4.out.grown hg2 (by omega) (fun g e => by have := (O2.out.lt g e).1; omega)); have KB5 := Lib.hid (gl_blk KB4.out O2.out hg2); have hs5 : w.heap.size + 1 ≤ w5.heap.size := Nat.le_trans hs4 hg2.size; obtain ⟨z3, n3, m3, o3⟩ := J3.out; have O3 := Lib.hid o3; clear ho2 hg2 hblk o3 O2 H1 H2 H3 HB4 KB4) | (at_builtin; refine wpList_ap1 etI _ rfl _ _ rfl (w.heap.size + 1) a1 f c1 _ rfl O1.out _ rfl rfl (by omega) hsz ?_; intro b1 d1 w4 ho2 hg2 hblk; have q12 : Ap b1 a2 := p12.grown hblk (fun g e => (G2.out.lt g e).2); have q13 : Ap b1 a3 := p13.grown hblk (fun g e => (G3.out.lt g e).2); have H1 := Lib.hid (Gl.app n1 m1 ho2 (show 0 ≤ (z : Int) ∧ (z : Int) < (NN : Int) by omega)); have H2 := Lib.hid (G2.out.side hg2 p12); have H3 := Lib.hid (G3.out.side hg2 p13); have HB4 := Lib.hid (HB.out.grown hg2 (by omega) (fun g e => by have := (O1.out.lt g e).1; omega)); have KB4 := Lib.hid (gl_blk KB.out O1.out hg2); have hs4 : w.heap.size + 1 ≤ w4.heap.size := Nat.le_trans hsz hg2.size; obtain ⟨z2, n2, m2, o2⟩ := H2.out; have O2 := Lib.hid o2; clear ho2 hg2 hblk o2 O1 G2 G3 HB KB))
        go_roundw
        case rel => exact ⟨f + 1, b1, b2, b3, _, _, _, by omega, rfl, rfl, rfl, by go_num, K1.out, K2.out, K3.out, r12, s13, s23, KB6.out, hs6, HB6.out⟩
        case measure => simp [intOf]; omega
      · subst hk
        go_wp2_with fail
        go_quiet (fail)
        have O1 := Lib.hid (show Own (wr.drewN nq) _ _ _ _ _ _ from O1.out)
        have G2 := Lib.hid (show Gl (wr.drewN nq) _ _ _ _ _ from G2.out)
        have G3 := Lib.hid (show Gl (wr.drewN nq) _ _ _ _ _ from G3.out)
        have HB := Lib.hid (below_drewN HB.out nq)
        have KB := Lib.hid (show Blk (wr.drewN nq) _ _ _ from KB.out)
        have hsz : w.heap.size + 1 ≤ (wr.drewN nq).heap.size := hsz
        generalize wr.drewN nq = wq at *
        go_wp2_with (first | (at_builtin; refine wpList_ap1 etI _ rfl _ _ rfl (w.heap.size + 1) a3 f c3 _ rfl O3.out _ rfl rfl (by omega) hs5 ?_; intro b3 d3 w6 ho2 hg2 hblk; have s13 : Ap b1 b3 := (q13.symm.grown hblk (fun g e => (J1.out.lt g e).2)).symm; have s23 : Ap b2 b3 := (r23.symm.grown hblk (fun g e => (J2.out.lt g e).2)).symm; have K3 := Lib.hid (Gl.app n3 m3 ho2 (show 0 ≤ 8 * ((x2 : Int) + (P0 : Int)) + (v1 : Int) ∧ 8 * ((x2 : Int) + (P0 : Int)) + (v1 : Int) < (NN : Int) by omega)); have K1 := Lib.hid (J1.out.side hg2 q13.symm); have K2 := Lib.hid (J2.out.side hg2 r23.symm); have HB6 := Lib.hid (HB5.out.grown hg2 (by omega) (fun g e => by have := (O3.out.lt g e).1; omega)); have KB6 := Lib.hid (gl_blk KB5.out O3.out hg2); have hs6 : w.heap.size + 1 ≤ w6.heap.size := Nat.le_trans hs5 hg2.size; clear ho2 hg2 hblk O3 J1 J2 J3 HB5 KB5) | (at_builtin; refine wpList_ap1 etI _ rfl _ _ rfl (w.heap.size + 1) a2 f c2 _ rfl O2.out _ rfl rfl (by omega) hs4 ?_; intro b2 d2 w5 ho2 hg2 hblk; have r12 : Ap b1 b2 := (q12.symm.grown hblk (fun g e => (H1.out.lt g e).2)).symm; have r23 : Ap b2 a3 := p23.grown hblk (fun g e => (H3.out.lt g e).2); have J2 := Lib.hid (Gl.app n2 m2 ho2 (show 0 ≤ 8 * (q : Int) + (u7 : Int) ∧ 8 * (q : Int) + (u7 : Int) < (NN : Int) by omega)); have J1 := Lib.hid (H1.out.side hg2 q12.symm); have J3 := Lib.hid (H3.out.side hg2 p23); have HB5 := Lib.hid (HB4.out.grown hg2 (by omega) (fun g e => by have := (O2.out.lt g e).1; omega)); have KB5 := Lib.hid (gl_blk KB4.out O2.out hg2); have hs5 : w.heap.size + 1 ≤ w5.heap.size := Nat.le_trans hs4 hg2.size; obtain ⟨z3, n3, m3, o3⟩ := J3.out; have O3 := Lib.hid o3; clear ho2 hg2 hblk o3 O2 H1 H2 H3 HB4 KB4) | (at_builtin; refine wpList_ap1 etI _ rfl _ _ rfl (w.heap.size + 1) a1 f c1 _ rfl O1.out _ rfl rfl (by omega) hsz ?_; intro b1 d1 w4 ho2 hg2 hblk; have q12 : Ap b1 a2 := p12.grown hblk (fun g e => (G2.out.lt g e).2); have q13 : Ap b1 a3 := p13.grown hblk (fun g e => (G3.out.lt g e).2); have H1 := Lib.hid (Gl.app n1 m1 ho2 (show 0 ≤ (z : Int) ∧ (z : Int) < (NN : Int) by omega)); have H2 := Lib.hid (G2.out.side hg2 p12); have H3 := Lib.hid (G3.out.side hg2 p13); have HB4 := Lib.hid (HB.out.grown hg2 (by omega) (fun g e => by have := (O1.out.lt g e).1; omega)); have KB4 := Lib.hid (gl_blk KB.out O1.out hg2); have hs4 : w.heap.size + 1 ≤ w4.heap.size := Nat.le_trans hsz hg2.size; obtain ⟨z2, n2, m2, o2⟩ := H2.out; have O2 := Lib.hid o2; clear ho2 hg2 hblk o2 O1 G2 G3 HB KB))
        go_roundw
        case rel => exact ⟨f + 1, b1, b2, b3, _, _, _, by omega, rfl, rfl, rfl, by go_num, K1.out, K2.out, K3.out, r12, s13, s23, KB6.out, hs6, HB6.out⟩
        case measure => simp [intOf]; omega
      · subst hk
        go_wp2_with fail
        go_quiet (fail)
        have O1 := Lib.hid (show Own (wr.drewN nq) _ _ _ _ _ _ from O1.out)
        have G2 := Lib.hid (show Gl (wr.drewN nq) _ _ _ _ _ from G2.out)
        have G3 := Lib.hid (show Gl (wr.drewN nq) _ _ _ _ _ from G3.out)
        have HB := Lib.hid (below_drewN HB.out nq)
        have KB := Lib.hid (show Blk (wr.drewN nq) _ _ _ from KB.out)
        have hsz : w.heap.size + 1 ≤ (wr.drewN nq).heap.size := hsz
        generalize wr.drewN nq = wq at *
        go_wp2_with (first | (at_builtin; refine wpList_ap1 etI _ rfl _ _ rfl (w.heap.size + 1) a3 f c3 _ rfl O3.out _ rfl rfl (by omega) hs5 ?_; intro b3 d3 w6 ho2 hg2 hblk; have s13 : Ap b1 b3 := (q13.symm.grown hblk (fun g e => (J1.out.lt g e).2)).symm; have s23 : Ap b2 b3 := (r23.symm.grown hblk (fun g e => (J2.out.lt g e).2)).symm; have K3 := Lib.hid (Gl.app n3 m3 ho2 (show 0 ≤ 8 * ((x : Int) + (P3 : Int)) + (v1 : Int) ∧ 8 * ((x : Int) + (P3 : Int)) + (v1 : Int) < (NN : Int) by omega)); have K1 := Lib.hid (J1.out.side hg2 q13.symm); have K2 := Lib.hid (J2.out.side hg2 r23.symm); have HB6 := Lib.hid (HB5.out.grown hg2 (by omega) (fun g e => by have := (O3.out.lt g e).1; omega)); have KB6 := Lib.hid (gl_blk KB5.out O3.out hg2); have hs6 : w.heap.size + 1 ≤ w6.heap.size := Nat.le_trans hs5 hg2.size; clear ho2 hg2 hblk O3 J1 J2 J3 HB5 KB5) | (at_builtin; refine wpList_ap1 etI _ rfl _ _ rfl (w.heap.size + 1) a2 f c2 _ rfl O2.out _ rfl rfl (by omega) hs4 ?_; intro b2 d2 w5 ho2 hg2 hblk; have r12 : Ap b1 b2 := (q12.symm.grown hblk (fun g e => (H1.out.lt g e).2)).symm; have r23 : Ap b2 a3 := p23.grown hblk (fun g e => (H3.out.lt g e).2); have J2 := Lib.hid (Gl.app n2 m2 ho2 (show 0 ≤ 8 * (q : Int) + (u7 : Int) ∧ 8 * (q : Int) + (u7 : Int) < (NN : Int) by omega)); have J1 := Lib.hid (H1.out.side hg2 q12.symm); have J3 := Lib.hid (H3.out.side hg2 p23); have HB5 := Lib.hid (HB4.out.grown hg2 (by omega) (fun g e => by have := (O2.out.lt g e).1; omega)); have KB5 := Lib.hid (gl_blk KB4.out O2.out hg2); have hs5 : w.heap.size + 1 ≤ w5.heap.size := Nat.le_trans hs4 hg2.size; obtain ⟨z3, n3, m3, o3⟩ := J3.out; have O3 := Lib.hid o3; clear ho2 hg2 hblk o3 O2 H1 H2 H3 HB4 KB4) | (at_builtin; refine wpList_ap1 etI _ rfl _ _ rfl (w.heap.size + 1) a1 f c1 _ rfl O1.out _ rfl rfl (by omega) hsz ?_; intro b1 d1 w4 ho2 hg2 hblk; have q12 : Ap b1 a2 := p12.grown hblk (fun g e => (G2.out.lt g e).2); have q13 : Ap b1 a3 := p13.grown hblk (fun g e => (G3.out.lt g e).2); have H1 := Lib.hid (Gl.app n1 m1 ho2 (show 0 ≤ (z : Int) ∧ (z : Int) < (NN : Int) by omega)); have H2 := Lib.hid (G2.out.side hg2 p12); have H3 := Lib.hid (G3.out.side hg2 p13); have HB4 := Lib.hid (HB.out.grown hg2 (by omega) (fun g e => by have := (O1.out.lt g e).1; omega)); have KB4 := Lib.hid (gl_blk KB.out O1.out hg2); have hs4 : w.heap.size + 1 ≤ w4.heap.size := Nat.le_trans hsz hg2.size; obtain ⟨z2, n2, m2, o2⟩ := H2.out; have O2 := Lib.hid o2; clear ho2 hg2 hblk o2 O1 G2 G3 HB KB))
        go_roundw
        case rel => exact ⟨f + 1, b1, b2, b3, _, _, _, by omega, rfl, rfl, rfl, by go_num, K1.out, K2.out, K3.out, r12, s13, s23, KB6.out, hs6, HB6.out⟩
        case measure => simp [intOf]; omega
      · subst hk
        go_wp2_with fail
        go_quiet (fail)
        have O1 := Lib.hid (show Own (wr.drewN nq) _ _ _ _ _ _ from O1.out)
        have G2 := Lib.hid (show Gl (wr.drewN nq) _ _ _ _ _ from G2.out)
        have G3 := Lib.hid (show Gl (wr.drewN nq) _ _ _ _ _ from G3.out)
        have HB := Lib.hid (below_drewN HB.out nq)
        have KB := Lib.hid (show Blk (wr.drewN nq) _ _ _ from KB.out)
        have hsz : w.heap.size + 1 ≤ (wr.drewN nq).heap.size := hsz
        generalize wr.drewN nq = wq at *
        go_wp2_with (first | (at_builtin; refine wpList_ap1 etI _ rfl _ _ rfl (w.heap.size + 1) a3 f c3 _ rfl O3.out _ rfl rfl (by omega) hs5 ?_; intro b3 d3 w6 ho2 hg2 hblk; have s13 : Ap b1 b3 := (q13.symm.grown hblk (fun g e => (J1.out.lt g e).2)).symm; have s23 : Ap b2 b3 := (r23.symm.grown hblk (fun g e => (J2.out.lt g e).2)).symm; have K3 := Lib.hid (Gl.app n3 m3 ho2 (show 0 ≤ 8 * ((x0 : Int) + (P0 : Int)) + (v1 : Int) ∧ 8 * ((x0 : Int) + (P0 : Int)) + (v1 : Int) < (NN : Int) by omega)); have K1 := Lib.hid (J1.out.side hg2 q13.symm); have K2 := Lib.hid (J2.out.side hg2 r23.symm); have HB6 := Lib.hid (HB5.out.grown hg2 (by omega) (fun g e => by have := (O3.out.lt g e).1; omega)); have KB6 := Lib.hid (gl_blk KB5.out O3.out hg2); have hs6 : w.heap.size + 1 ≤ w6.heap.size := Nat.le_trans hs5 hg2.size; clear ho2 hg2 hblk O3 J1 J2 J3 HB5 KB5) | (at_builtin; refine wpList_ap1 etI _ rfl _ _ rfl (w.heap.size + 1) a2 f c2 _ rfl O2.out _ rfl rfl (by omega) hs4 ?_; intro b2 d2 w5 ho2 hg2 hblk; have r12 : Ap b1 b2 := (q12.symm.grown hblk (fun g e => (H1.out.lt g e).2)).symm; have r23 : Ap b2 a3 := p23.grown hblk (fun g e => (H3.out.lt g e).2); have J2 := Lib.hid (Gl.app n2 m2 ho2 (show 0 ≤ 8 * (q : Int) + (u1 : Int) ∧ 8 * (q : Int) + (u1 : Int) < (NN : Int) by omega)); have J1 := Lib.hid (H1.out.side hg2 q12.symm); have J3 := Lib.hid (H3.out.side hg2 p23); have HB5 := Lib.hid (HB4.out.grown hg2 (by omega) (fun g e => by have := (O2.out.lt g e).1; omega)); have KB5 := Lib.hid (gl_blk KB4.out O2.out hg2); have hs5 : w.heap.size + 1 ≤ w5.heap.size := Nat.le_trans hs4 hg2.size; obtain ⟨z3, n3, m3, o3⟩ := J3.out; have O3 := Lib.hid o3; clear ho2 hg2 hblk o3 O2 H1 H2 H3 HB4 KB4) | (at_builtin; refine wpList_ap1 etI _ rfl _ _ rfl (w.heap.size + 1) a1 f c1 _ rfl O1.out _ rfl rfl (by omega) hsz ?_; intro b1 d1 w4 ho2 hg2 hblk; have q12 : Ap b1 a2 := p12.grown hblk (fun g e => (G2.out.lt g e).2); have q13 : Ap b1 a3 := p13.grown hblk (fun g e => (G3.out.lt g e).2); have H1 := Lib.hid (Gl.app n1 m1 ho2 (show 0 ≤ (z : Int) ∧ (z : Int) < (NN : Int) by omega)); have H2 := Lib.hid (G2.out.side hg2 p12); have H3 := Lib.hid (G3.out.side hg2 p13); have HB4 := Lib.hid (HB.out.grown hg2 (by omega) (fun g e => by have := (O1.out.lt g e).1; omega)); have KB4 := Lib.hid (gl_blk KB.out O1.out hg2); have hs4 : w.heap.size + 1 ≤ w4.heap.size := Nat.le_trans hsz hg2.size; obtain ⟨z2, n2, m2, o2⟩ := H2.out; have O2 := Lib.hid o2; clear ho2 hg2 hblk o2 O1 G2 G3 HB KB))
        go_roundw
        case rel => exact ⟨f + 1, b1, b2, b3, _, _, _, by omega, rfl, rfl, rfl, by go_num, K1.out, K2.out, K3.out, r12, s13, s23, KB6.out, hs6, HB6.out⟩
        case measure => simp [intOf]; omega
      · subst hk
        go_wp2_with fail
        go_quiet (fail)
        have O1 := Lib.hid (show Own (wr.drewN nq) _ _ _ _ _ _ from O1.out)
        have G2 := Lib.hid (show Gl (wr.drewN nq) _ _ _ _ _ from G2.out)
        have G3 := Lib.hid (show Gl (wr.drewN nq) _ _ _ _ _ from G3.out)
        have HB := Lib.hid (below_drewN HB.out nq)
        have KB := Lib.hid (show Blk (wr.drewN nq) _ _ _ from KB.out)
        have hsz : w.heap.size + 1 ≤ (wr.drewN nq).heap.size := hsz
        generalize wr.drewN nq = wq at *
        go_wp2_with (first | (at_builtin; refine wpList_ap1 etI _ rfl _ _ rfl (w.heap.size + 1) a3 f c3 _ rfl O3.out _ rfl rfl (by omega) hs5 ?_; intro b3 d3 w6 ho2 hg2 hblk; have s13 : Ap b1 b3 := (q13.symm.grown hblk (fun g e => (J1.out.lt g e).2)).symm; have s23 : Ap b2 b3 := (r23.symm.grown hblk (fun g e => (J2.out.lt g e).2)).symm; have K3 := Lib.hid (Gl.app n3 m3 ho2 (show 0 ≤ 8 * ((x : Int) + (P1 : Int)) + (v1 : Int) ∧ 8 * ((x : Int) + (P1 : Int)) + (v1 : Int) < (NN : Int) by omega)); have K1 := Lib.hid (J1.out.side hg2 q13.symm); have K2 := Lib.hid (J2.out.side hg2 r23.symm); have HB6 := Lib.hid (HB5.out.grown hg2 (by omega) (fun g e => by have := (O3.out.lt g e).1; omega)); have KB6 := Lib.hid (gl_blk KB5.out O3.out hg2); have hs6 : w.heap.size + 1 ≤ w6.heap.size := Nat.le_trans hs5 hg2.size; clear ho2 hg2 hblk O3 J1 J2 J3 HB5 KB5) | (at_builtin; refine wpList_ap1 etI _ rfl _ _ rfl (w.heap.size + 1) a2 f c2 _ rfl O2.out _ rfl rfl (by omega) hs4 ?_; intro b2 d2 w5 ho2 hg2 hblk; have r12 : Ap b1 b2 := (q12.symm.grown hblk (fun g e => (H1.out.lt g e).2)).symm; have r23 : Ap b2 a3 := p23.grown hblk (fun g e => (H3.out.lt g e).2); have J2 := Lib.hid (Gl.app n2 m2 ho2 (show 0 ≤ 8 * (q : Int) + (u1 : Int) ∧ 8 * (q : Int) + (u1 : Int) < (NN : Int) by omega)); have J1 := Lib.hid (H1.out.side hg2 q12.symm); have J3 := Lib.hid (H3.out.side hg2 p23); have HB5 := Lib.hid (HB4.out.grown hg2 (by omega) (fun g e => by have := (O2.out.lt g e).1; omega)); have KB5 := Lib.hid (gl_blk KB4.out O2.out hg2); have hs5 : w.heap.size + 1 ≤ w5.heap.size := Nat.le_trans hs4 hg2.size; obtain ⟨z3, n3, m3, o3⟩ := J3.out; have O3 := Lib.hid o3; clear ho2 hg2 hblk o3 O2 H1 H2 H3 HB4 KB4) | (at_builtin; refine wpList_ap1 etI _ rfl _ _ rfl (w.heap.size + 1) a1 f c1 _ rfl O1.out _ rfl rfl (by omega) hsz ?_; intro b1 d1 w4 ho2 hg2 hblk; have q12 : Ap b1 a2 := p12.grown hblk (fun g e => (G2.out.lt g e).2); have q13 : Ap b1 a3 := p13.grown hblk (fun g e => (G3.out.lt g e).2); have H1 := Lib.hid (Gl.app n1 m1 ho2 (show 0 ≤ (z : Int) ∧ (z : Int) < (NN : Int) by omega)); have H2 := Lib.hid (G2.out.side hg2 p12); have H3 := Lib.hid (G3.out.side hg2 p13); have HB4 := Lib.hid (HB.out.grown hg2 (by omega) (fun g e => by have := (O1.out.lt g e).1; omega)); have KB4 := Lib.hid (gl_blk KB.out O1.out hg2); have hs4 : w.heap.size + 1 ≤ w4.heap.size := Nat.le_trans hsz hg2.size; obtain ⟨z2, n2, m2, o2⟩ := H2.out; have O2 := Lib.hid o2; clear ho2 hg2 hblk o2 O1 G2 G3 HB KB))
        go_roundw
        case rel => exact ⟨f + 1, b1, b2, b3, _, _, _, by omega, rfl, rfl, rfl, by go_num, K1.out, K2.out, K3.out, r12, s13, s23, KB6.out, hs6, HB6.out⟩
        case measure => simp [intOf]; omega
      · subst hk
        go_wp2_with fail
        go_quiet (fail)
        have O1 := Lib.hid (show Own (wr.drewN nq) _ _ _ _ _ _ from O1.out)
        have G2 := Lib.hid (show Gl (wr.drewN nq) _ _ _ _ _ from G2.out)
        have G3 := Lib.hid (show Gl (wr.drewN nq) _ _ _ _ _ from G3.out)
        have HB := Lib.hid (below_drewN HB.out nq)
        have KB := Lib.hid (show Blk (wr.drewN nq) _ _ _ from KB.out)
        have hsz : w.heap.size + 1 ≤ (wr.drewN nq).heap.size := hsz
        generalize wr.drewN nq = wq at *
        go_wp2_with (first | (at_builtin; refine wpList_ap1 etI _ rfl _ _ rfl (w.heap.size + 1) a3 f c3 _ rfl O3.out _ rfl rfl (by omega) hs5 ?_; intro b3 d3 w6 ho2 hg2 hblk; have s13 : Ap b1 b3 := (q13.symm.grown hblk (fun g e => (J1.out.lt g e).2)).symm; have s23 : Ap b2 b3 := (r23.symm.grown hblk (fun g e => (J2.out.lt g e).2)).symm; have K3 := Lib.hid (Gl.app n3 m3 ho2 (show 0 ≤ 8 * ((x2 : Int) + (P0 : Int)) + (v1 : Int) ∧ 8 * ((x2 : Int) + (P0 : Int)) + (v1 : Int) < (NN : Int) by omega)); have K1 := Lib.hid (J1.out.side hg2 q13.symm); have K2 := Lib.hid (J2.out.side hg2 r23.symm); have HB6 := Lib.hid (HB5.out.grown hg2 (by omega) (fun g e => by have := (O3.out.lt g e).1; omega)); have KB6 := Lib.hid (gl_blk KB5.out O3.out hg2); have hs6 : w.heap.size + 1 ≤ w6.heap.size := Nat.le_trans hs5 hg2.size; clear ho2 hg2 hblk O3 J1 J2 J3 HB5 KB5) | (at_builtin; refine wpList_ap1 etI _ rfl _ _ rfl (w.heap.size + 1) a2 f c2 _ rfl O2.out _ rfl rfl (by omega) hs4 ?_; intro b2 d2 w5 ho2 hg2 hblk; have r12 : Ap b1 b2 := (q12.symm.grown hblk (fun g e => (H1.out.lt g e).2)).symm; have r23 : Ap b2 a3 := p23.grown hblk (fun g e => (H3.out.lt g e).2); have J2 := Lib.hid (Gl.app n2 m2 ho2 (show 0 ≤ 8 * (q : Int) + (u1 : Int) ∧ 8 * (q : Int) + (u1 : Int) < (NN : Int) by omega)); have J1 := Lib.hid (H1.out.side hg2 q12.symm); have J3 := Lib.hid (H3.out.side hg2 p23); have HB5 := Lib.hid (HB4.out.grown hg2 (by omega) (fun g e => by have := (O2.out.lt g e).1; omega)); have KB5 := Lib.hid (gl_blk KB4.out O2.out hg2); have hs5 : w.heap.size + 1 ≤ w5.heap.size := Nat.le_trans hs4 hg2.size; obtain ⟨z3, n3, m3, o3⟩ := J3.out; have O3 := Lib.hid o3; clear ho2 hg2 hblk o3 O2 H1 H2 H3 HB4 KB4) | (at_builtin; refine wpList_ap1 etI _ rfl _ _ rfl (w.heap.size + 1) a1 f c1 _ rfl O1.out _ rfl rfl (by omega) hsz ?_; intro b1 d1 w4 ho2 hg2 hblk; have q12 : Ap b1 a2 := p12.grown hblk (fun g e => (G2.out.lt g e).2); have q13 : Ap b1 a3 := p13.grown hblk (fun g e => (G3.out.lt g e).2); have H1 := Lib.hid (Gl.app n1 m1 ho2 (show 0 ≤ (z : Int) ∧ (z : Int) < (NN : Int) by omega)); have H2 := Lib.hid (G2.out.side hg2 p12); have H3 := Lib.hid (G3.out.side hg2 p13); have HB4 := Lib.hid (HB.out.grown hg2 (by omega) (fun g e => by have := (O1.out.lt g e).1; omega)); have KB4 := Lib.hid (gl_blk KB.out O1.out hg2); have hs4 : w.heap.size + 1 ≤ w4.heap.size := Nat.le_trans hsz hg2.size; obtain ⟨z2, n2, m2, o2⟩ := H2.out; have O2 := Lib.hid o2; clear ho2 hg2 hblk o2 O1 G2 G3 HB KB))
        go_roundw
        case rel => exact ⟨f + 1, b1, b2, b3, _, _, _, by omega, rfl, rfl, rfl, by go_num, K1.out, K2.out, K3.out, r12, s13, s23, KB6.out, hs6, HB6.out⟩
        case measure => simp [intOf]; omega
      · subst hk
        go_wp2_with fail
        go_quiet (fail)
        have O1 := Lib.hid (show Own (wr.drewN nq) _ _ _ _ _ _ from O1.out)
        have G2 := Lib.hid (show Gl (wr.drewN nq) _ _ _ _ _ from G2.out)
        have G3 := Lib.hid (show Gl (wr.drewN nq) _ _ _ _ _ from G3.out)
        have HB := Lib.hid (below_drewN HB.out nq)
        have KB := Lib.hid (show Blk (wr.drewN nq) _ _ _ from KB.out)
        have hsz : w.heap.size + 1 ≤ (wr.drewN nq).heap.size := hsz
        generalize wr.drewN nq = wq at *
        go_wp2_with (first | (at_builtin; refine wpList_ap1 etI _ rfl _ _ rfl (w.heap.size + 1) a3 f c3 _ rfl O3.out _ rfl rfl (by omega) hs5 ?_; intro b3 d3 w6 ho2 hg2 hblk; have s13 : Ap b1 b3 := (q13.symm.grown hblk (fun g e => (J1.out.lt g e).2)).symm; have s23 : Ap b2 b3 := (r23.symm.grown hblk (fun g e => (J2.out.lt g e).2)).symm; have K3 := Lib.hid (Gl.app n3 m3 ho2 (show 0 ≤ 8 * ((x : Int) + (P3 : Int)) + (v1 : Int) ∧ 8 * ((x : Int) + (P3 : Int)) + (v1 : Int) < (NN : Int) by omega)); have K1 := Lib.hid (J1.out.side hg2 q13.symm); have K2 := Lib.hid (J2.out.side hg2 r23.symm); have HB6 := Lib.hid (HB5.out.grown hg2 (by omega) (fun g e => by have := (O3.out.lt g e).1; omega)); have KB6 := Lib.hid (gl_blk KB5.out O3.out hg2); have hs6 : w.heap.size + 1 ≤ w6.heap.size := Nat.le_trans hs5 hg2.size; clear ho2 hg2 hblk O3 J1 J2 J3 HB5 KB5) | (at_builtin; refine wpList_ap1 etI _ rfl _ _ rfl (w.heap.size + 1) a2 f c2 _ rfl O2.out _ rfl rfl (by omega) hs4 ?_; intro b2 d2 w5 ho2 hg2 hblk; have r12 : Ap b1 b2 := (q12.symm.grown hblk (fun g e => (H1.out.lt g e).2)).symm; have r23 : Ap b2 a3 := p23.grown hblk (fun g e => (H3.out.lt g e).2); have J2 := Lib.hid (Gl.app n2 m2 ho2 (show 0 ≤ 8 * (q : Int) + (u1 : Int) ∧ 8 * (q : Int) + (u1 : Int) < (NN : Int) by omega)); have J1 := Lib.hid (H1.out.side hg2 q12.symm); have J3 := Lib.hid (H3.out.side hg2 p23); have HB5 := Lib.hid (HB4.out.grown hg2 (by omega) (fun g e => by have := (O2.out.lt g e).1; omega)); have KB5 := Lib.hid (gl_blk KB4.out O2.out hg2); have hs5 : w.heap.size + 1 ≤ w5.heap.size := Nat.le_trans hs4 hg2.size; obtain ⟨z3, n3, m3, o3⟩ := J3.out; have O3 := Lib.hid o3; clear ho2 hg2 hblk o3 O2 H1 H2 H3 HB4 KB4) | (at_builtin; refine wpList_ap1 etI _ rfl _ _ rfl (w.heap.size + 1) a1 f c1 _ rfl O1.out _ rfl rfl (by omega) hsz ?_; intro b1 d1 w4 ho2 hg2 hblk; have q12 : Ap b1 a2 := p12.grown hblk (fun g e => (G2.out.lt g e).2); have q13 : Ap b1 a3 := p13.grown hblk (fun g e => (G3.out.lt g e).2); have H1 := Lib.hid (Gl.app n1 m1 ho2 (show 0 ≤ (z : Int) ∧ (z : Int) < (NN : Int) by omega)); have H2 := Lib.hid (G2.out.side hg2 p12); have H3 := Lib.hid (G3.out.side hg2 p13); have HB4 := Lib.hid (HB.out.grown hg2 (by omega) (fun g e => by have := (O1.out.lt g e).1; omega)); have KB4 := Lib.hid (gl_blk KB.out O1.out hg2); have hs4 : w.heap.size + 1 ≤ w4.heap.size := Nat.le_trans hsz hg2.size; obtain ⟨z2, n2, m2, o2⟩ := H2.out; have O2 := Lib.hid o2; clear ho2 hg2 hblk o2 O1 G2 G3 HB KB))
        go_roundw
        case rel => exact ⟨f + 1, b1, b2, b3, _, _, _, by omega, rfl, rfl, rfl, by go_num, K1.out, K2.out, K3.out, r12, s13, s23, KB6.out, hs6, HB6.out⟩
        case measure => simp [intOf]; omega
    · obtain rfl : f = NN := by omega
      have c0 : wr.cell? ⟨w.heap.size, 0, none⟩ = some (.slice none 0 0) := kb.cell 0
      have f0 := kb.frozen 0
      have l0 := kb.lt
      have hset : (wr.setCell ⟨w.heap.size, 0, none⟩ (.slice (some ⟨wr.heap.size, 0, none⟩) 3 3)).heap.size = wr.heap.size := by simp [World.setCell]
      have HG1 := Lib.hid (g1.setBox (Nat.lt_succ_self w.heap.size) (.slice (some ⟨wr.heap.size, 0, none⟩) 3 3))
      have HG2 := Lib.hid (g2.setBox (Nat.lt_succ_self w.heap.size) (.slice (some ⟨wr.heap.size, 0, none⟩) 3 3))
      have HG3 := Lib.hid (g3.setBox (Nat.lt_succ_self w.heap.size) (.slice (some ⟨wr.heap.size, 0, none⟩) 3 3))
      have KS : Blk (wr.setCell ⟨w.heap.size, 0, none⟩ (.slice (some ⟨wr.heap.size, 0, none⟩) 3 3)) w.heap.size 26 #[.slice (some ⟨wr.heap.size, 0, none⟩) 3 3] := kb.set_ 0 _
      have HBS := Lib.hid (hbl.setCell (p := ⟨w.heap.size, 0, none⟩) (Nat.le_refl _) (.slice (some ⟨wr.heap.size, 0, none⟩) 3 3))
      have HSZ := Lib.hid hset
      clear g1 g2 g3 hbl hset
      go_wp2_with fail
      generalize hws : wr.setCell ⟨w.heap.size, 0, none⟩ (.slice (some ⟨wr.heap.size, 0, none⟩) 3 3) = ws at *
      obtain ⟨d, d1, d2, d3⟩ := gl3_box (lo' := w.heap.size) HG1.out HG2.out HG3.out p12 p13 p23 (by rw [HSZ.out]; exact hsz) HSZ.out (Nat.le_succ _) rfl
      have bf := HBS.out.alloc HBS.out.size (.cells #[.slice a1 f c1, .slice a2 f c2, .slice a3 f c3] 38)
      have kf := KS.alloc (.cells #[.slice a1 f c1, .slice a2 f c2, .slice a3 f c3] 38)
      generalize ws.alloc (.cells #[.slice a1 f c1, .slice a2 f c2, .slice a3 f c3] 38) = wf at *
      have e0 : wf.cell? ⟨w.heap.size, 0, none⟩ = some (.slice (some ⟨wr.heap.size, 0, none⟩) 3 3) := kf.cell 0
      refine bodyPost_ret (v := .agg #[.slice (some ⟨wr.heap.size, 0, none⟩) 3 3]) (by simp [results, Tryz.f65, go_sem, e0]) rfl ⟨_, d, rfl, d3, d1, d2, bf⟩
end Go.Proofs.YtmdhljleaijkbaaGreatDoor

/- Draws of maniplexes: l02Map. guards: -/
namespace Go.Proofs.YtmdhljleaijkbaaGreatDoor
open Go.RowKit

theorem only_cell {lo hi : Nat} {w wx : World} (h : Only lo hi w wx) {p : Addr} (hp : w.heap.size ≤ p.block) (v : Value) : Only lo hi w (wx.setCell p v) :=
  ⟨h.os, h.tape, h.output, by have := h.size; simpa [World.setCell] using this, fun k hk hd => (Below.heap_setCell _ _ _ _ (by omega)).trans (h.block k hk hd)⟩
/-- a maniplex drawn beside a source -/
structure MxS (w wx : World) (sb : Nat) (v : Value) (r : List (List Int)) (L : Nat) : Prop where
  ow : OwM 2 38 wx w.heap.size wx.heap.size v r
  sq : Sq r L
  pos : 1 ≤ L
  src : Src wx sb
  only : Only sb (sb + 1) w wx
structure M3 (w wr : World) (sb f n : Nat) (a1 a2 am : Option Addr) (c1 c2 cm : Nat) : Prop where
  g1 : Gl wr (w.heap.size + 1) a1 f c1 n
  g2 : Gl wr (w.heap.size + 1) a2 f c2 n
  gm : Gl wr (w.heap.size + 1) am n cm n
  p12 : Ap a1 a2
  p1m : Ap a1 am
  p2m : Ap a2 am
  box : Blk wr w.heap.size 26 #[.slice none 0 0]
  src : Src wr sb
  only : Only sb (sb + 1) w wr
  sz : w.heap.size + 1 ≤ wr.heap.size
set_option maxRecDepth 100000 in
set_option maxHeartbeats 6400000 in
theorem mapS_any (sb E : Nat) (w : World) (h : Src w sb) (hsb : sb < w.heap.size) (hE : 1 ≤ E) (hE9 : E ≤ 100) :
    Calls Tryz.prog 39 #[.pointer (some ⟨sb, 0, none⟩), .int .i64 E] w fun e w' => ∃ v r L, e = .returned v ∧ MxS w w' sb v r L ∧ r.length = 3 ∧ L ≤ 4 * E := by
  obtain ⟨N, hN⟩ : ∃ N, 4 * E = N := ⟨_, rfl⟩
  rw [hN]
  have hw1 : IntKind.i64.wrap (4 * (E : Int)) = (N : Int) := by rw [IntWalk.i64_in _ (by omega)]; omega
  have hw1' : 4 * (E : Int) = (N : Int) := by omega
  have b1 := below_alloc3 w (.cells #[.slice none 0 0] 26) (.cells #[] 2) (.cells #[] 2)
  have k1 : Blk (((w.alloc (.cells #[.slice none 0 0] 26)).alloc (.cells #[] 2)).alloc (.cells #[] 2)) w.heap.size 26 #[.slice none 0 0] := ((blk_at rfl).alloc _).alloc _
  have E1 := (Gl.empty_ (w.alloc (.cells #[.slice none 0 0] 26)) (w.heap.size + 1) N (by simp) (g := w.heap.size + 1) (by simp)).below (below_alloc1 _ (.cells #[] 2))
  have E2 := Gl.empty_ ((w.alloc (.cells #[.slice none 0 0] 26)).alloc (.cells #[] 2)) (w.heap.size + 1) N (by simp) (g := w.heap.size + 1 + 1) (by simp)
  have hz1 : w.heap.size + 1 + 1 + 1 = (((w.alloc (.cells #[.slice none 0 0] 26)).alloc (.cells #[] 2)).alloc (.cells #[] 2)).heap.size := by simp
  have S1 := Lib.hid (src_belowL h hsb b1)
  have O1 := Lib.hid (only_of_below (sb := sb) b1)
  have G1 := Lib.hid E1
  have G2 := Lib.hid E2
  have K1 := Lib.hid k1
  clear b1 k1 E1 E2 h
  go_enter Tryz.func39, Tryz.ntmps39
  go_wp2_with fail
  generalize ((w.alloc (.cells #[.slice none 0 0] 26)).alloc (.cells #[] 2)).alloc (.cells #[] 2) = w1 at *
  refine (matching_any sb N w1 S1.out (by omega) (by omega) (by omega)).mono ?_
  rintro e w2 ⟨am, cm, rfl, gs⟩
  have gb := only_of_below (sb := sb) (Below.refl w1.heap.size w1)
  have M0 := Lib.hid (show M3 w w2 sb 0 N (some ⟨w.heap.size + 1, 0, none⟩) (some ⟨w.heap.size + 1 + 1, 0, none⟩) am 0 0 cm from
    ⟨G1.out.only gs.only (by omega), G2.out.only gs.only (by omega), gs.gl.mono (by omega), (fun g e e' => by simp [bk] at e e'; omega), (fun g e e' => by have := (gs.gl.lt g e').1; simp [bk] at e; omega), (fun g e e' => by have := (gs.gl.lt g e').1; simp [bk] at e; omega),
     K1.out.only gs.only (.inr (by omega)), gs.src, O1.out.trans gs.only, by have := gs.only.size; omega⟩)
  clear gs gb G1 G2 K1 S1 O1 hz1
  go_wp2_with fail
  go_loopw [6, 7, 9] (fun s6 s7 s9 wr => ∃ (f : Nat) (a1 a2 : Option Addr) (c1 c2 : Nat), f ≤ N ∧ s6 = .slice a1 f c1 ∧ s7 = .slice a2 f c2 ∧ s9 = .int .i64 f ∧ M3 w wr sb f N a1 a2 am c1 c2 cm) (fun _ _ s9 _ => N - (intOf s9).toNat)
  case atStart => exact ⟨0, _, _, _, _, Nat.zero_le _, rfl, rfl, rfl, M0.out⟩
  case round =>
    clear M0
    obtain ⟨f, a1, a2, c1, c2, hf, rfl, rfl, rfl, m3⟩ := hrel
    by_cases hlt : f < N
    · obtain ⟨x1, hx1, bx1⟩ := xor1_lt (f := f) (N := 2 * E) (by omega) (by omega)
      obtain ⟨x2, hx2, bx2⟩ := xor2_lt (f := f) (N := E) (by omega) (by omega)
      have hfi : (f : Int) < (N : Int) := by omega
      have hsz := m3.sz
      obtain ⟨z1, n1, l1, o1⟩ := m3.g1
      have HO1 := Lib.hid o1
      have M := Lib.hid m3
      clear o1 m3
      go_wp2_with (first
        | (at_builtin; refine wpList_ap1 etI _ rfl _ _ rfl (w.heap.size + 1) a2 f c2 _ rfl HO2.out _ rfl rfl (by omega) hs4 ?_; intro b2 d2 w5 ho2 hg2 hblk; have MM := Lib.hid (show M3 w w5 sb (f + 1) N b1 b2 am d1 d2 cm from ⟨Q1.out.side hg2 q12.symm, Gl.app n2 l2 ho2 (show 0 ≤ (x2 : Int) ∧ (x2 : Int) < (N : Int) by omega), Qm.out.side hg2 M.out.p2m, (q12.symm.grown hblk (fun g e => (Q1.out.lt g e).2)).symm, q1m, M.out.p2m.grown hblk (fun g e => (Qm.out.lt g e).2), gl_blk QB.out HO2.out hg2, QS.out.grown hg2 (fun g e => by have := (HO2.out.lt g e).1; omega), only_grown QO.out hg2 (fun g e => by have := (HO2.out.lt g e).1; omega), Nat.le_trans hs4 hg2.size⟩); clear ho2 hg2 hblk)
        | (at_builtin; refine wpList_ap1 etI _ rfl _ _ rfl (w.heap.size + 1) a1 f c1 _ rfl HO1.out _ rfl rfl (by omega) hsz ?_; intro b1 d1 w4 ho1 hg1 hblk; have q12 : Ap b1 a2 := M.out.p12.grown hblk (fun g e => (M.out.g2.lt g e).2); have q1m : Ap b1 am := M.out.p1m.grown hblk (fun g e => (M.out.gm.lt g e).2); have Q1 := Lib.hid (Gl.app n1 l1 ho1 (show 0 ≤ (x1 : Int) ∧ (x1 : Int) < (N : Int) by omega)); have Qm := Lib.hid (M.out.gm.side hg1 M.out.p1m); have QB := Lib.hid (gl_blk M.out.box HO1.out hg1); have QS := Lib.hid (M.out.src.grown hg1 (fun g e => by have := (HO1.out.lt g e).1; omega)); have QO := Lib.hid (only_grown M.out.only hg1 (fun g e => by have := (HO1.out.lt g e).1; omega)); have hs4 : w.heap.size + 1 ≤ w4.heap.size := Nat.le_trans hsz hg1.size; obtain ⟨z2, n2, l2, o2⟩ := M.out.g2.side hg1 M.out.p12; have HO2 := Lib.hid o2; clear ho1 hg1 hblk o2))
      go_roundw
      case rel => exact ⟨f + 1, b1, b2, d1, d2, by omega, rfl, rfl, by go_num, MM.out⟩
      case measure => simp [intOf]; omega
    · obtain rfl : f = N := by omega
      obtain ⟨wC, rfl⟩ : ∃ x, x = wr := ⟨_, rfl⟩
      have hszC := m3.sz
      obtain ⟨d, d1, sqd, owd⟩ := gl3_box (lo' := w.heap.size) m3.g1 m3.gm m3.g2 m3.p1m m3.p12 m3.p2m.symm m3.sz rfl (Nat.le_succ _) rfl
      have kA := below_alloc1 wC (.cells #[.slice a1 f c1, .slice am f cm, .slice a2 f c2] 38)
      have B1 := Lib.hid kA
      have HD := Lib.hid owd.rdcM.1
      have HT := Lib.hid sqd.leads
      have M := Lib.hid m3
      have hz1 := kA.size
      clear kA owd sqd m3
      go_upto_region 9 with fail
      generalize wC.alloc (.cells #[.slice a1 f c1, .slice am f cm, .slice a2 f c2] 38) = w1 at *
      obtain ⟨L, hL⟩ : ∃ L, (orb d f 0).2.length = L := ⟨_, rfl⟩
      have hL1 : 1 ≤ L := by rw [← hL]; exact orb_one HT.out (by omega)
      have hLN : L ≤ f := by rw [← hL]; exact (orb_ok HT.out (by omega)).le
      have HLL := Lib.hid hL
      clear hL
      go_wp2_with fail
      refine (orbO_any (c := 0) rfl w1 HD.out HT.out (by omega) (by omega) (by omega) (by omega)).mono ?_
      rw [HLL.out]
      rintro e w3 ⟨oa, oc, rfl, ho, b2⟩
      have hG := orb_gl HT.out (show 0 < f by omega) (by rw [HLL.out]; exact ho)
      rw [HLL.out] at hG
      have B3 := Lib.hid (B1.out.trans (b2.mono hz1))
      have z12 := b2.size
      have HD3 := Lib.hid (HD.out.below b2)
      have HO3 := Lib.hid hG
      clear hG ho b2 HD B1
      go_wp2_with (at_make; refine wpList_mk etI _ rfl _ _ rfl w3.heap.size _ _ _ _ f rfl rfl rfl rfl (by omega) (Nat.le_refl _) ?_; intro w4 o4 g4 s4)
      have b4 : Below w3.heap.size w3 w4 := (Below.refl _ _).grown g4 (Nat.le_refl _) (by simp)
      obtain ⟨gn, hgn⟩ : ∃ gn, w3.heap.size = gn := ⟨_, rfl⟩
      have G4 := Lib.hid (gl_made (N := L) (Nat.le_refl w3.heap.size) rfl (by omega) hL1 o4)
      have B4 := Lib.hid b4
      have HGN := Lib.hid hgn
      rw [hgn] at G4 ⊢
      clear o4 g4 s4 b4 hgn
      go_wp2_with fail
      go_loopw [13] (fun iv wr => ∃ i : Nat, iv = .int .i64 i ∧ i ≤ L ∧ Gl wr gn (some ⟨gn, 0, none⟩) f f L ∧ Below w3.heap.size w3 wr) (fun iv _ => L - (intOf iv).toNat)
      case atStart => exact ⟨0, rfl, Nat.zero_le _, G4.out, B4.out⟩
      case round =>
        clear G4 B4
        obtain ⟨i, rfl, hi, hg, hb⟩ := hrel
        by_cases hlt : i < L
        · obtain ⟨og, x, rfl, hx, hcx, hfx, -, -⟩ := (HO3.out.below hb).cell hlt
          obtain ⟨g', y, e, hy, hcy, hfy, -, -⟩ := hg.cell hx
          injection e with e; injection e with e; subst e
          obtain ⟨p1, p2⟩ := hg.put x (y := (i : Int)) (by omega)
          have P1 := Lib.hid p1
          have P2 := Lib.hid (hb.grown p2 (by have := hb.size; omega) (fun g e => by injection e with e; rw [← e, HGN.out]; exact Nat.le_refl _))
          have hxi : (x : Int) < (f : Int) := by omega
          have hii : (i : Int) < (L : Int) := by omega
          clear p1 p2 hg hb
          go_wp2_with fail
          go_roundw
          case rel => exact ⟨i + 1, by go_num, by omega, P1.out, P2.out⟩
          case measure => simp [intOf]; omega
        · obtain rfl : i = L := by omega
          obtain ⟨wB, rfl⟩ : ∃ x, x = wr := ⟨_, rfl⟩
          have HG := Lib.hid hg
          have HB := Lib.hid hb
          have hzB := hb.size
          have b7 := (Below.refl wB.heap.size wB).alloc (Nat.le_refl _) (.cells #[.slice none 0 0] 26)
          have ST := Lib.hid (MBx.start (w := wB) b7 (Blk.new wB 26 #[.slice none 0 0]) (Nat.le_refl _))
          have hz7 : wB.heap.size < (wB.alloc (.cells #[.slice none 0 0] 26)).heap.size := by simp
          clear b7 hb hg
          go_upto_region 16 with fail
          generalize wB.alloc (.cells #[.slice none 0 0] 26) = w7 at *
          obtain ⟨bx, hbx⟩ : ∃ bx, wB.heap.size = bx := ⟨_, rfl⟩
          have HBX := Lib.hid hbx
          rw [hbx] at ST hz7 ⊢
          clear hbx
          go_wp2_with fail
          go_loopw [15] (fun kv wr => ∃ (q : Nat) (am : Option Addr) (cm : Nat) (us : List Value) (ds : List (List Int)), kv = .int .i64 q ∧ q ≤ 3 ∧ Sq ds i ∧ MBx wB wr bx (bx + 1) am q cm us ds) (fun kv _ => 3 - (intOf kv).toNat)
          case atStart => exact ⟨0, none, 0, [], [], rfl, Nat.zero_le _, sq_nil _, ST.out⟩
          case round =>
            clear ST hz7
            obtain ⟨q, am3, cm3, um, ds, rfl, hq, hds, st⟩ := hrel
            obtain ⟨wA, rfl⟩ : ∃ x, x = wr := ⟨_, rfl⟩
            have ST := Lib.hid st
            have hbw := Lib.hid st.bel
            have hzr := hbw.out.size
            have HBA := Lib.hid (HB.out.trans (hbw.out.mono hzB))
            by_cases hltq : q < 3
            · have hqi : (q : Int) < 3 := by omega
              have HDS := Lib.hid hds
              have E0 := Lib.hid (Gl.empty_ wA wA.heap.size i (Nat.le_refl _) rfl)
              have hbA := below_alloc1 wA (.cells #[] 2)
              have HBE := Lib.hid hbA
              clear st hds hbA
              go_wp2_with fail
              go_loopw [16, 17] (fun sv iv w8 => ∃ (f : Nat) (a : Option Addr) (cc : Nat), f ≤ i ∧ sv = .slice a f cc ∧ iv = .int .i64 f ∧ Gl w8 wA.heap.size a f cc i ∧ Below wA.heap.size wA w8) (fun _ iv _ => i - (intOf iv).toNat)
              case atStart => exact ⟨0, _, _, Nat.zero_le _, rfl, rfl, E0.out, HBE.out⟩
              case round =>
                clear E0 HBE
                obtain ⟨p, a, cc, hf, rfl, rfl, hg, hb8⟩ := hrel
                obtain ⟨w8, rfl⟩ : ∃ x, x = wr := ⟨_, rfl⟩
                have hz8 := hb8.size
                have HBW := Lib.hid (HBA.out.trans (hb8.mono (by omega)))
                have HBX2 := Lib.hid (hbw.out.trans (hb8.mono hzr))
                have HB8 := Lib.hid hb8
                have HG8 := Lib.hid hg
                clear hb8 hg
                by_cases hltf : p < i
                · have hfi : (p : Int) < (i : Int) := by omega
                  obtain ⟨og, x, rfl, hx, hcx, hfx, -, -⟩ := (HO3.out.below HBW.out).cell hltf
                  obtain ⟨b2, off2, a2, n2, c2, e2, hc2, hi2⟩ := (HD3.out.intss.below HBW.out).at_ hltq
                  injection e2 with e2
                  injection e2 with e21 e22
                  subst e21 e22
                  rw [Nat.zero_add] at hc2
                  have hn2 : n2 = f := by rw [← hi2.1]; exact HT.out.len q (by omega)
                  subst hn2
                  obtain ⟨b4, off4, rfl, hc4⟩ := hi2.at_ hx
                  have hy := bTo_lt HT.out hx (g := q) (by omega)
                  obtain ⟨y, hye⟩ : ∃ y, bTo d x q = y := ⟨_, rfl⟩
                  rw [hy.2, hye] at hc4
                  rw [hye] at hy
                  have hyN := hy.1
                  obtain ⟨g5, u, e5, hu, hcu, hfu, -, -⟩ := (HG.out.below HBX2.out).cell hyN
                  injection e5 with e5; injection e5 with e5; subst e5
                  have hxi : (x : Int) < (n2 : Int) := by omega
                  have hyi : (y : Int) < (n2 : Int) := by omega
                  clear hi2 hy hye
                  go_upto_region 23 with fail
                  go_region_law (refine gl_step (o := ⟨some 88, _, _, _, _, _⟩) etI rfl (.tmp 73) (.tmp 87) rfl wA.heap.size a p cc i rfl HG8.out (u : Int) rfl (by omega) (by omega) hz8 ?_; intro a9 c9 w9 g9 B9 gr9 hat9)
                  all_goals
                    have HG9 := Lib.hid g9
                    have HB9 := Lib.hid (HB8.out.trans B9)
                    clear g9 B9 gr9 hat9
                    go_wp2_with fail
                    go_roundw
                  all_goals first | exact ⟨p + 1, a9, c9, by omega, rfl, by go_num, HG9.out, HB9.out⟩ | (simp [intOf]; omega)
                · obtain rfl : p = i := by omega
                  have STB := Lib.hid (ST.out.below HB8.out)
                  obtain ⟨zs, n8, m8, o8⟩ := HG8.out
                  have HO8 := Lib.hid o8
                  have xb := STB.out.cell
                  have hlo8 := STB.out.at_.2.2
                  clear o8
                  go_wp2_with (at_builtin; refine wpList_ap1 etSS _ rfl _ _ rfl (bx + 1) am3 q cm3 _ rfl STB.out.row.own (.slice a p cc) rfl rfl (by omega) hlo8 ?_; intro ao2 c2' w4 ho2 hg2 hat; have x4 := (STB.out.boxG hg2).cell 0; have f4 := (STB.out.boxG hg2).frozen 0)
                  have SP := Lib.hid (ST.out.push (by omega) HB8.out HO8.out (Below.refl _ _) ho2 hg2 (hat.imp id fun e => ⟨_, e, Nat.le_succ _⟩))
                  clear ho2 hg2 hat STB ST
                  go_roundw
                  case rel => exact ⟨q + 1, ao2, c2', _, _, by go_num, by omega, HDS.out.app n8 m8, SP.out⟩
                  case measure => simp [intOf]; omega
            · obtain rfl : q = 3 := by omega

              have xb := st.cell
              have HBF := Lib.hid (B3.out.trans (HBA.out.mono (by omega)))
              have KRr := M.out.box.belowS HBF.out
              have xr := KRr.cell 0
              have fr := KRr.frozen 0
              have SF := Lib.hid (src_belowL M.out.src (by omega) HBF.out)
              have OF := Lib.hid (only_below M.out.only HBF.out)
              have hwb : w.heap.size ≤ wB.heap.size := by omega
              simp at xr
              have hrl : ds.length = 3 := st.row.len
              clear st
              go_wp2
              have hfl : w.heap.size < bx := by rw [← HBX.out]; omega
              exact bodyPost_ret (v := .agg #[.slice am3 3 cm3]) (by simp [results, Tryz.f39, go_sem, xr]) rfl ⟨_, ds, i, rfl, ⟨ST.out.done hfl _ hwb, hds, hL1, src_farL SF.out fun h hh => Below.heap_setCell _ _ _ h (by show h ≠ w.heap.size; omega), only_cell OF.out (Nat.le_refl _) _⟩, hrl, hLN⟩
end Go.Proofs.YtmdhljleaijkbaaGreatDoor

/- Draws of maniplexes: l02Run, l05Words. guards: -/
namespace Go.Proofs.YtmdhljleaijkbaaGreatDoor
open Go.RowKit

set_option maxRecDepth 100000 in
set_option maxHeartbeats 3200000 in
theorem run_any (ao bo : Option Addr) (n c m cb N f : Nat) (d : List (List Int)) (zs : List Int) (w : World) (hd : RdSSc w (.slice ao n c) d) (hz : Ints w bo m zs) (hT : Leads d N) (hl : Low n zs) (hf : f < N) (hN : N ≤ 1000000) (hm : m ≤ 1000000) :
    Calls Tryz.prog 110 #[.agg #[.slice ao n c], .int .i64 f, .slice bo m cb] w fun e w' => ∃ g : Nat, g < N ∧ e = .returned (.int .i64 g) ∧ Below w.heap.size w w' := by
  have hdl := hd.intss.1
  have b1 := below_alloc1 w (.cells #[.slice ao n c] 26)
  have k1 : Blk (w.alloc (.cells #[.slice ao n c] 26)) w.heap.size 26 #[.slice ao n c] := blk_at rfl
  have HD := Lib.hid (hd.below b1)
  have HZ := Lib.hid (hz.below b1)
  have HT := Lib.hid hT
  have HL := Lib.hid hl
  have HZL := Lib.hid hz.1
  clear hd hz hT hl
  go_enter Tryz.func110, Tryz.ntmps110
  go_upto_region 1 with fail
  generalize w.alloc (.cells #[.slice ao n c] 26) = w1 at *
  have K1 := Lib.hid k1
  have B1 := Lib.hid b1
  have hz1 := b1.size
  clear k1 b1
  go_wp2_with fail
  go_loopw [1, 7] (fun s1 s7 wr => ∃ i g : Nat, i ≤ m ∧ s1 = .int .i64 g ∧ s7 = .int .i64 i ∧ g < N ∧ Below w1.heap.size w1 wr) (fun _ s7 _ => m - (intOf s7).toNat)
  case atStart => exact ⟨0, f, Nat.zero_le _, rfl, rfl, hf, Below.refl _ _⟩
  case round =>
    obtain ⟨i, g, hi, rfl, rfl, hg, hb⟩ := hrel
    have HB := Lib.hid hb
    clear hb
    by_cases hlt : i < m
    · have hlo := low_get HL.out (k := i) (by rw [HZL.out]; exact hlt)
      obtain ⟨j, hj⟩ := Int.eq_ofNat_of_zero_le hlo.1
      have hjn : j < n := by rw [hj] at hlo; omega
      obtain ⟨b2, off2, rfl, hc2⟩ := (HZ.out.below HB.out).at_ hlt
      rw [hj] at hc2
      obtain ⟨b3, off3, a3, n3, c3, rfl, hc3, hi3⟩ := (HD.out.intss.below HB.out).at_ hjn
      have hn3 : n3 = N := by rw [← hi3.1]; exact HT.out.len j (by omega)
      subst hn3
      obtain ⟨b4, off4, rfl, hc4⟩ := hi3.at_ hg
      have hy := bTo_lt HT.out hg (g := j) (by omega)
      obtain ⟨y, hye⟩ : ∃ y, bTo d g j = y := ⟨_, rfl⟩
      rw [hy.2, hye] at hc4
      rw [hye] at hy
      have x0 := (K1.out.belowS HB.out).cell 0
      simp at x0
      have hj0 : (j : Int) < (n : Int) := by omega
      have hg0 : (g : Int) < (n3 : Int) := by omega
      have hi0 : (i : Int) < (m : Int) := by omega
      have hyn := hy.1
      clear hi3 hy hye hlo hj
      go_wp2_with fail
      go_quiet (fail)
      have HB2 := Lib.hid (below_drewN HB.out nq)
      go_wp2_with fail
      go_roundw
      case rel => exact ⟨i + 1, y, by omega, rfl, by go_num, hyn, HB2.out⟩
      case measure => simp [intOf]; omega
    · obtain rfl : i = m := by omega
      go_wp2_with fail
      go_ret
      exact ⟨g, hg, rfl, B1.out.trans (HB.out.mono hz1)⟩
set_option maxRecDepth 100000 in
set_option maxHeartbeats 6400000 in
theorem words_any (ao bo : Option Addr) (n c m cb N : Nat) (d ws : List (List Int)) (w : World) (hd : RdSSc w (.slice ao n c) d) (hw : RdSSc w (.slice bo m cb) ws) (hT : Leads d N) (hl : ∀ k, k < m → Low n (lget ws k)) (hlw : ∀ k, k < m → (lget ws k).length ≤ 1000) (hn : 0 < n) (hm : m ≤ 100) (hN : 1 ≤ N) (hN9 : N ≤ 1000000) :
    Calls Tryz.prog 100 #[.agg #[.slice ao n c], .slice bo m cb] w fun e w' => ∃ a c2 us ds, e = .returned (.slice a m c2) ∧ OwR (OwS 2) w' w.heap.size w'.heap.size 38 a m c2 us ds ∧ Sq ds N ∧ Below w.heap.size w w' := by
  have hdl := hd.intss.1
  have hwl := hw.intss.1
  have hl0 : (lget d 0).length = N := hT.len 0 (by omega)
  have b1 := below_alloc1 w (.cells #[.slice ao n c] 26)
  have k1 : Blk (w.alloc (.cells #[.slice ao n c] 26)) w.heap.size 26 #[.slice ao n c] := blk_at rfl
  have hz1 : w.heap.size < (w.alloc (.cells #[.slice ao n c] 26)).heap.size := by simp
  have HD := Lib.hid (hd.below b1)
  have HW := Lib.hid (hw.below b1)
  have HT := Lib.hid hT
  have HL := Lib.hid hl
  have HLW := Lib.hid hlw
  clear hd hw hT hl hlw
  go_enter Tryz.func100, Tryz.ntmps100
  go_upto_region 1 with fail
  generalize w.alloc (.cells #[.slice ao n c] 26) = w1 at *
  have K1 := Lib.hid k1
  have B1 := Lib.hid b1
  have hO : OwR (OwS 2) (w1.alloc (.cells #[] 38)) w1.heap.size (w1.alloc (.cells #[] 38)).heap.size 38 (some ⟨w1.heap.size, 0, none⟩) 0 0 [] [] := OwR.empty_ (Own.empty_ w1 38 (Nat.le_refl _)) (fun g hg => by simp [bk] at hg ⊢; omega)
  have HO := Lib.hid hO
  have HB0 := Lib.hid (below_alloc1 w1 (.cells #[] 38))
  clear k1 b1 hO
  go_wp2_with fail
  go_loopw [5, 6] (fun s5 s6 wr => ∃ (q : Nat) (a : Option Addr) (c2 : Nat) (us : List Value) (ds : List (List Int)), s5 = .slice a q c2 ∧ s6 = .int .i64 q ∧ q ≤ m ∧ Sq ds N ∧ OwR (OwS 2) wr w1.heap.size wr.heap.size 38 a q c2 us ds ∧ Below w1.heap.size w1 wr) (fun _ s6 _ => m - (intOf s6).toNat)
  case atStart => exact ⟨0, _, _, [], [], rfl, rfl, Nat.zero_le _, sq_nil _, HO.out, HB0.out⟩
  case round =>
    clear HO HB0
    obtain ⟨q, a, c2, us, ds, rfl, rfl, hq, hds, ho, hb⟩ := hrel
    obtain ⟨wA, rfl⟩ : ∃ x, x = wr := ⟨_, rfl⟩
    have hzA := hb.size
    have HB := Lib.hid hb
    have HO := Lib.hid ho
    have HDS := Lib.hid hds
    clear ho hb hds
    by_cases hlt : q < m
    · have hqi : (q : Int) < (m : Int) := by omega
      have E0 := Lib.hid (Gl.empty_ wA wA.heap.size N (Nat.le_refl _) rfl)
      have HBA := Lib.hid (below_alloc1 wA (.cells #[] 2))
      go_wp2_with fail
      go_loopw [7, 8] (fun sv iv w8 => ∃ (f : Nat) (a : Option Addr) (cc : Nat), f ≤ N ∧ sv = .slice a f cc ∧ iv = .int .i64 f ∧ Gl w8 wA.heap.size a f cc N ∧ Below wA.heap.size wA w8) (fun _ iv _ => N - (intOf iv).toNat)
      case atStart => exact ⟨0, _, _, Nat.zero_le _, rfl, rfl, E0.out, HBA.out⟩
      case round =>
        clear E0 HBA
        obtain ⟨f, a8, cc, hf, rfl, rfl, hg, hb8⟩ := hrel
        obtain ⟨w8, rfl⟩ : ∃ x, x = wr := ⟨_, rfl⟩
        have hz8 := hb8.size
        have HBW := Lib.hid (HB.out.trans (hb8.mono hzA))
        have HB8 := Lib.hid hb8
        have HG := Lib.hid hg
        have x1 := (K1.out.belowS HBW.out).cell 0
        simp at x1
        clear hb8 hg
        go_wp2_with fail
        refine (flagsS_any ao n c N d w8 (HD.out.below HBW.out).rd hn hl0 hN9).mono ?_
        rintro e w9 ⟨rfl, b9⟩
        have HBW9 := Lib.hid (HBW.out.trans (b9.mono HBW.out.size))
        have HB9 := Lib.hid (HB8.out.trans (b9.mono hz8))
        have HG9 := Lib.hid (HG.out.below b9)
        have hz9 := HB9.out.size
        clear x1 b9 HBW HB8 HG
        by_cases hltf : f < N
        · have hfi : (f : Int) < (N : Int) := by omega
          have x2 := (K1.out.belowS HBW9.out).cell 0
          simp at x2
          obtain ⟨b2, off2, a2, n2, cr, rfl, hc2, hi2⟩ := (HW.out.intss.below HBW9.out).at_ hlt
          have hn2 : n2 ≤ 1000 := by rw [← hi2.1]; exact HLW.out q hlt
          have HI2 := Lib.hid hi2
          have HR := Lib.hid (run_any ao a2 n c n2 cr N f d (lget ws q) w9.drew (HD.out.below (HBW9.out.drew)) (hi2.drewN 1) HT.out (HL.out q hlt) hltf hN9 (by omega))
          clear hi2
          go_upto_region 9 with fail
          go_region_law (first
            | (refine gl_step0 (o := ⟨some 32, _, _, _, _, _⟩) etI rfl (.tmp 23) (.tmp 31) rfl wA.heap.size a8 f cc N rfl HG10.out (y : Int) rfl (by omega) (by omega) hz10 ?_; intro a11 c11 w11 g11 B11 gr11 hat11)
            | (go_simp; go_at_call 110; refine HR.out.mono ?_; rintro e w10 ⟨y, hy, rfl, b10⟩; have b10' : Below w9.heap.size w9 w10 := below_tr b10 (below_drew1 w9); have HG10 := Lib.hid (HG9.out.below b10'); have HB10 := Lib.hid (HB9.out.trans (b10'.mono hz9)); have hz10 : wA.heap.size ≤ w10.heap.size := HB10.out.size))
          all_goals
            have HG11 := Lib.hid g11
            have HB11 := Lib.hid (HB10.out.trans B11)
            clear g11 B11 gr11 hat11
            go_wp2_with fail
            go_roundw
          all_goals first | exact ⟨f + 1, a11, c11, by omega, rfl, by go_num, HG11.out, HB11.out⟩ | (simp [intOf]; omega)
        · obtain rfl : f = N := by omega
          obtain ⟨zs, n8, m8, o8⟩ := HG9.out
          have HO8 := Lib.hid o8
          have HOB := Lib.hid (HO.out.below (innerS _) HB9.out)
          clear o8
          go_wp2_with (at_builtin; refine wpList_ap1 etSS _ rfl _ _ rfl w1.heap.size a q c2 _ rfl HOB.out.own (.slice a8 f cc) rfl rfl (by omega) (by omega) ?_; intro ao2 c2' w4 ho2 hg2 hat)
          have SP := Lib.hid (rows_push2 HO.out hzA HB9.out HO8.out (Below.refl _ _) ho2 hg2 (hat.imp id fun e => ⟨_, e, Nat.le_succ _⟩))
          have HB4 := Lib.hid ((HB.out.trans (HB9.out.mono hzA)).grown hg2 (by omega) (fun g e => (HO.out.own.lt g e).1))
          clear ho2 hg2 hat
          go_roundw
          case rel => exact ⟨q + 1, ao2, c2', _, _, rfl, by go_num, by omega, HDS.out.app n8 m8, SP.out, HB4.out⟩
          case measure => simp [intOf]; omega
    · obtain rfl : q = m := by omega
      go_wp2_with fail
      go_ret
      exact ⟨a, c2, us, ds, rfl, HO.out.mono (Nat.le_of_lt hz1) (Nat.le_refl _), HDS.out, B1.out.trans (HB.out.mono (Nat.le_of_lt hz1))⟩
end Go.Proofs.YtmdhljleaijkbaaGreatDoor

/- Draws of maniplexes: l05Replace, l05Dual. guards: -/
namespace Go.Proofs.YtmdhljleaijkbaaGreatDoor
open Go.RowKit

set_option maxRecDepth 100000 in
set_option maxHeartbeats 6400000 in
theorem replace_any (ao bo : Option Addr) (n c m cb N : Nat) (d ws : List (List Int)) (w : World) (hd : RdSSc w (.slice ao n c) d) (hw : RdSSc w (.slice bo m cb) ws) (hT : Leads d N) (hl : ∀ k, k < m → Low n (lget ws k)) (hlw : ∀ k, k < m → (lget ws k).length ≤ 1000) (hn : 0 < n) (hm : m ≤ 100) (hm1 : 1 ≤ m) (hN : 1 ≤ N) (hN9 : N ≤ 1000) :
    Calls Tryz.prog 84 #[.agg #[.slice ao n c], .slice bo m cb] w fun e w' => ∃ v b r L, e = .returned (.tuple #[v, .bool b]) ∧ OwM 2 38 w' w.heap.size w'.heap.size v r ∧ r.length = m ∧ Sq r L ∧ 1 ≤ L ∧ L ≤ N ∧ Below w.heap.size w w' := by
  have b1 := below_alloc2 w (.cells #[.slice ao n c] 26) (.cells #[.slice none 0 0] 26)
  have k1 : Blk ((w.alloc (.cells #[.slice ao n c] 26)).alloc (.cells #[.slice none 0 0] 26)) w.heap.size 26 #[.slice ao n c] := (blk_at rfl).alloc _
  have k3 : Blk ((w.alloc (.cells #[.slice ao n c] 26)).alloc (.cells #[.slice none 0 0] 26)) (w.heap.size + 1) 26 #[.slice none 0 0] := blk_at (by simp)
  have hz1 : w.heap.size + 2 = ((w.alloc (.cells #[.slice ao n c] 26)).alloc (.cells #[.slice none 0 0] 26)).heap.size := by simp
  have HD := Lib.hid (hd.below b1)
  have HW := Lib.hid (hw.below b1)
  have hmw : IntKind.i64.wrap ((m : Int) - 1) = (m : Int) - 1 := IntWalk.i64_in _ (by omega)
  clear hd hw
  go_enter Tryz.func84, Tryz.ntmps84
  go_upto_region 1 with fail
  generalize (w.alloc (.cells #[.slice ao n c] 26)).alloc (.cells #[.slice none 0 0] 26) = w1 at *
  have x1 := k1.cell 0
  simp at x1
  have K3 := Lib.hid k3
  have B1 := Lib.hid b1
  clear k1 k3 b1
  go_wp2_with fail
  refine (words_any ao bo n c m cb N d ws w1 HD.out HW.out hT hl hlw hn hm hN (by omega)).mono ?_
  rintro e w2 ⟨a2, c2, us, ds, rfl, o2, sq2, b2⟩
  have hdl : ds.length = m := o2.len
  have z12 := b2.size
  have kA := below_alloc1 w2 (.cells #[.slice a2 m c2] 26)
  have K2 : Blk (w2.alloc (.cells #[.slice a2 m c2] 26)) w2.heap.size 26 #[.slice a2 m c2] := blk_at rfl
  have K3' := Lib.hid ((K3.out.belowS b2).alloc (.cells #[.slice a2 m c2] 26))
  have B3 := Lib.hid ((B1.out.trans (b2.mono (by omega))).trans (kA.mono (by omega)))
  have R3 := Lib.hid (((OwSS.rdc ⟨_, _, _, _, rfl, o2⟩ : RdSSc w2 (.slice a2 m c2) ds)).below kA)
  have SQ := Lib.hid sq2
  clear b2 o2 sq2 kA HD HW B1 K3 x1
  go_upto_region 2 with fail
  generalize w2.alloc (.cells #[.slice a2 m c2] 26) = w3 at *
  have x3 := K2.cell 0
  simp at x3
  have hz3 := K2.lt
  clear K2
  go_wp2_with fail
  refine (section_any a2 m c2 N ((m : Int) - 1) ds w3 R3.out SQ.out.leads hm1 hm (by omega) hN hN9).mono ?_
  rintro e w4 ⟨v4, r, L, rfl, o4, hr, sq4, hL1, hLN, b4⟩
  obtain ⟨a4, n4, c4, rfl⟩ := o4.form
  have hn4 : n4 = m := by have := o4.rdcM.2; omega
  subst hn4
  have z34 := b4.size
  have kA := below_alloc1 w4 (.cells #[.slice a4 n4 c4] 26)
  have K4 : Blk (w4.alloc (.cells #[.slice a4 n4 c4] 26)) w4.heap.size 26 #[.slice a4 n4 c4] := blk_at rfl
  have K5 := (K3'.out.belowS b4).alloc (.cells #[.slice a4 n4 c4] 26)
  have B5 := Lib.hid ((B3.out.trans (b4.mono (by omega))).trans (kA.mono (by omega)))
  have O5 := Lib.hid (o4.below kA)
  have SQ4 := Lib.hid sq4
  clear b4 o4 sq4 kA R3 SQ B3 K3' x3
  go_upto_region 3 with fail
  generalize w4.alloc (.cells #[.slice a4 n4 c4] 26) = w5 at *
  have hz5 := K4.lt
  have hz15 := K5.lt
  have hR := Lib.hid (specManC (w := w5.drew) (O5.out.below (below_drew1 w5)).rdcM.1 ⟨by omega, fun i hi => by have := (SQ4.out (lget r i) (by rw [lget_lt hi]; exact List.getElem_mem hi)).1; omega⟩)
  have x4 := K4.cell 0
  simp at x4
  have K5' := Lib.hid K5
  clear K5
  go_region_law (go_simp; go_at_call 24; refine hR.out.mono ?_; rintro e w6 ⟨rfl, b6⟩; have b6' : Below w5.heap.size w5 w6 := below_tr b6 (below_drew1 w5); have x6 := (K4.belowS b6').cell 0; have y6 := (K5'.out.belowS b6').cell 0; have f6 := (K5'.out.belowS b6').frozen 0; simp at x6 y6)
  all_goals
    have O6 := Lib.hid ((O5.out.below b6').only (only_set w6 (w.heap.size + 1) 0 (.slice a4 n4 c4)) (.inr (by omega : w.heap.size + 1 + 1 ≤ w3.heap.size)))
    have B6 := Lib.hid ((B5.out.trans (b6'.mono (by omega))).setCell (p := ⟨w.heap.size + 1, 0, none⟩) (by simp) (.slice a4 n4 c4))
    have hzz := b6'.size
    have hz6 : (w6.setCell ⟨w.heap.size + 1, 0, none⟩ (.slice a4 n4 c4)).heap.size = w6.heap.size := by simp [World.setCell]
    generalize manB r = mb at *
    have HZ6 := Lib.hid hz6
    clear b6 b6' O5 B5 hz6
    go_wp2_with fail
    refine bodyPost_ret (v := .tuple #[.agg #[.slice a4 n4 c4], .bool mb]) (by simp [results, Tryz.f84, go_sem, y6]) rfl ⟨_, mb, r, L, rfl, O6.out.mono (by omega) (by rw [HZ6.out]; omega), hr, SQ4.out, hL1, hLN, B6.out⟩
theorem vals_lit {w : World} {E : Nat} {u : Value} {g : Nat} (hg : w.heap.size = g) : Vals (w.alloc (.cells #[u] E)) (some ⟨g, 0, none⟩) 1 [u] := ⟨rfl, by omega, fun _ => ⟨g, 0, rfl, fun j v hv => by
  match j, hv with
  | 0, hv => simp at hv; subst hv; exact (blk_at hg : Blk _ g E #[u]).cell 0
  | j + 1, hv => simp at hv⟩⟩
set_option maxRecDepth 100000 in
set_option maxHeartbeats 6400000 in
theorem dualS_any (ao : Option Addr) (n c N : Nat) (d : List (List Int)) (w : World) (hd : RdSSc w (.slice ao n c) d) (hT : Leads d N) (hn : 0 < n) (hn9 : n ≤ 100) (hN : 1 ≤ N) (hN9 : N ≤ 1000) :
    Calls Tryz.prog 69 #[.agg #[.slice ao n c]] w fun e w' => ∃ v r L, e = .returned v ∧ OwM 2 38 w' w.heap.size w'.heap.size v r ∧ r.length = n ∧ Sq r L ∧ 1 ≤ L ∧ L ≤ N ∧ Below w.heap.size w w' := by
  have b1 := below_alloc2 w (.cells #[.slice ao n c] 26) (.cells #[.slice none 0 0] 26)
  have k1 : Blk ((w.alloc (.cells #[.slice ao n c] 26)).alloc (.cells #[.slice none 0 0] 26)) w.heap.size 26 #[.slice ao n c] := (blk_at rfl).alloc _
  have k3 : Blk ((w.alloc (.cells #[.slice ao n c] 26)).alloc (.cells #[.slice none 0 0] 26)) (w.heap.size + 1) 26 #[.slice none 0 0] := blk_at (by simp)
  have hz1 : w.heap.size + 2 = ((w.alloc (.cells #[.slice ao n c] 26)).alloc (.cells #[.slice none 0 0] 26)).heap.size := by simp
  have HD := Lib.hid (hd.below b1)
  have hnw : IntKind.i64.wrap ((n : Int) - 1) = (n : Int) - 1 := IntWalk.i64_in _ (by omega)
  clear hd
  go_enter Tryz.func69, Tryz.ntmps69
  go_upto_region 1 with fail
  generalize (w.alloc (.cells #[.slice ao n c] 26)).alloc (.cells #[.slice none 0 0] 26) = w1 at *
  have K1 := Lib.hid k1
  have K3 := Lib.hid k3
  have B1 := Lib.hid b1
  have hO : OwR (OwS 2) (w1.alloc (.cells #[] 38)) w1.heap.size (w1.alloc (.cells #[] 38)).heap.size 38 (some ⟨w1.heap.size, 0, none⟩) 0 0 [] [] := OwR.empty_ (Own.empty_ w1 38 (Nat.le_refl _)) (fun g hg => by simp [bk] at hg ⊢; omega)
  have HO := Lib.hid hO
  have hbA := below_alloc1 w1 (.cells #[] 38)
  have HB0 := Lib.hid hbA
  have x1 := (k1.alloc (.cells #[] 38)).cell 0
  simp at x1
  clear k1 k3 b1 hO hbA
  go_wp2_with fail
  go_loopw [3, 4] (fun s3 s4 wr => ∃ (q : Nat) (z : Int) (a : Option Addr) (c2 : Nat) (us : List Value) (ds : List (List Int)), s3 = .slice a q c2 ∧ s4 = .int .i64 z ∧ z + 1 + q = n ∧ -1 ≤ z ∧ (∀ r ∈ ds, r.length = 1 ∧ Low n r) ∧ OwR (OwS 2) wr w1.heap.size wr.heap.size 38 a q c2 us ds ∧ Below w1.heap.size w1 wr) (fun _ s4 _ => (intOf s4 + 1).toNat)
  case atStart => exact ⟨0, (n : Int) - 1, _, _, [], [], rfl, by go_num, by omega, by omega, (fun r hr => by simp at hr), HO.out, HB0.out⟩
  case round =>
    clear HO HB0 x1
    obtain ⟨q, z, a, c2, us, ds, rfl, rfl, hzq, hz, hds, ho, hb⟩ := hrel
    obtain ⟨wA, rfl⟩ : ∃ x, x = wr := ⟨_, rfl⟩
    have hzA := hb.size
    have HB := Lib.hid hb
    have HO := Lib.hid ho
    have HDS := Lib.hid hds
    clear ho hb hds
    by_cases hlt : 0 ≤ z
    · have kA := below_alloc1 wA (.cells #[.int .i64 z] 2)
      have hL : Own (wA.alloc (.cells #[.int .i64 z] 2)) wA.heap.size 2 (some ⟨wA.heap.size, 0, none⟩) 1 1 ([z].map (Value.int .i64)) := own_rowL (us := [.int .i64 z]) rfl rfl rfl (by simp)
      have HLt := Lib.hid hL
      have KA := Lib.hid kA
      have kB := below_alloc1 (wA.alloc (.cells #[.int .i64 z] 2)) (.cells #[.slice (some ⟨wA.heap.size, 0, none⟩) 1 1] 38)
      have KB := Lib.hid kB
      have HOB := Lib.hid ((HO.out.below (innerS _) kA).below (innerS _) kB)
      have HV := Lib.hid (vals_lit (w := wA.alloc (.cells #[.int .i64 z] 2)) (E := 38) (u := .slice (some ⟨wA.heap.size, 0, none⟩) 1 1) (g := wA.heap.size + 1) (by simp))
      have hzB := kA.size
      have hzC := kB.size
      clear hL kA kB
      go_wp2_with (at_builtin; refine wpList_apV etSS _ rfl _ _ rfl w1.heap.size a q c2 us rfl HOB.out.own (some ⟨wA.heap.size + 1, 0, none⟩) 1 1 [.slice (some ⟨wA.heap.size, 0, none⟩) 1 1] rfl HV.out (by intro u hu; simp at hu; subst hu; rfl) (by omega) (by omega) ?_; intro ao2 c2' w4 ho2 hg2 hat)
      have SP := Lib.hid (rows_push2 HO.out hzA KA.out HLt.out KB.out ho2 hg2 (hat.imp id fun e => ⟨_, e, hzC⟩))
      have HB4 := Lib.hid ((HB.out.trans ((KA.out.trans (KB.out.mono hzB)).mono hzA)).grown hg2 (by omega) (fun g e => (HO.out.own.lt g e).1))
      have hzw : IntKind.i64.wrap (z - 1) = z - 1 := IntWalk.i64_in _ (by omega)
      clear ho2 hg2 hat
      go_roundw
      case rel => exact ⟨q + 1, z - 1, ao2, c2', _, _, rfl, by go_num, by omega, by omega, (fun r hr => by
        rcases List.mem_append.1 hr with h1 | h1
        · exact HDS.out r h1
        · simp at h1; subst h1; exact ⟨rfl, fun x hx => by simp at hx; subst hx; omega⟩), SP.out, HB4.out⟩
      case measure => simp [intOf]; omega
    · have hqn : q = n := by omega
      subst hqn
      have x2 := (K1.out.belowS HB.out).cell 0
      simp at x2
      have hdl : ds.length = q := HO.out.len
      have hrow : ∀ k, k < q → (lget ds k).length = 1 ∧ Low q (lget ds k) := fun k hk => by rw [lget_lt (by omega)]; exact HDS.out _ (List.getElem_mem (by omega))
      have HRW := Lib.hid hrow
      clear hrow
      go_wp2_with fail
      refine (replace_any ao a q c q c2 N d ds wA (HD.out.below HB.out) (OwSS.rdc ⟨_, _, _, _, rfl, HO.out⟩) hT (fun k hk => (HRW.out k hk).2) (fun k hk => by rw [(HRW.out k hk).1]; omega) hn hn9 (by omega) hN hN9).mono ?_
      rintro e w4 ⟨v4, mb, r, L, rfl, o4, hr, sq4, hL1, hLN, b4⟩
      obtain ⟨a4, n4, c4, rfl⟩ := o4.form
      have z34 := b4.size
      have kA := below_alloc1 w4 (.cells #[.slice a4 n4 c4] 26)
      have K4 : Blk (w4.alloc (.cells #[.slice a4 n4 c4] 26)) w4.heap.size 26 #[.slice a4 n4 c4] := blk_at rfl
      have HB4 := Lib.hid (HB.out.trans (b4.mono hzA))
      have K5 := ((K3.out.belowS HB4.out)).alloc (.cells #[.slice a4 n4 c4] 26)
      have B5 := Lib.hid ((B1.out.trans (HB4.out.mono (by omega))).trans (kA.mono (by omega)))
      have O5 := Lib.hid (o4.below kA)
      clear b4 o4 kA x2
      go_upto_region 7 with fail
      generalize w4.alloc (.cells #[.slice a4 n4 c4] 26) = w5 at *
      have x4 := K4.cell 0
      have y4 := K5.cell 0
      have f4 := K5.frozen 0
      simp at x4 y4
      have hz5 := K4.lt
      have O6 := Lib.hid (O5.out.only (only_set w5 (w.heap.size + 1) 0 (.slice a4 n4 c4)) (.inr (by omega : w.heap.size + 1 + 1 ≤ wA.heap.size)))
      have B6 := Lib.hid (B5.out.setCell (p := ⟨w.heap.size + 1, 0, none⟩) (by simp) (.slice a4 n4 c4))
      have HZ6 := Lib.hid (show (w5.setCell ⟨w.heap.size + 1, 0, none⟩ (.slice a4 n4 c4)).heap.size = w5.heap.size by simp [World.setCell])
      clear O5 B5
      go_wp2_with fail
      refine bodyPost_ret (v := .agg #[.slice a4 n4 c4]) (by simp [results, Tryz.f69, go_sem, y4]) rfl ⟨_, r, L, rfl, O6.out.mono (by omega) (by rw [HZ6.out]; omega), hr, sq4, hL1, hLN, B6.out⟩
end Go.Proofs.YtmdhljleaijkbaaGreatDoor

/- Draws of maniplexes: l02Any. guards: -/
namespace Go.Proofs.YtmdhljleaijkbaaGreatDoor
open Go.RowKit

/-- m's box and what it holds, the edge's box, the source -/
structure AS (w wr : World) (sb most : Nat) (am : Option Addr) (n cm : Nat) (d : List (List Int)) (N : Nat) : Prop where
  res : Blk wr w.heap.size 26 #[.slice none 0 0]
  eb : Blk wr (w.heap.size + 1 + 1 + 1) 26 #[.slice (some ⟨w.heap.size + 1 + 1, 0, none⟩) 1 1]
  mb : Blk wr (w.heap.size + 1 + 1 + 1 + 1) 26 #[.slice am n cm]
  eo : OwM 2 38 wr (w.heap.size + 1) (w.heap.size + 1 + 1 + 1) (.agg #[.slice (some ⟨w.heap.size + 1 + 1, 0, none⟩) 1 1]) [[1, 0]]
  mo : ∃ hi, OwM 2 38 wr (w.heap.size + 1) hi (.agg #[.slice am n cm]) d ∧ hi ≤ wr.heap.size ∧ (hi ≤ w.heap.size + 1 + 1 + 1 ∨ OwM 2 38 wr (w.heap.size + 5) hi (.agg #[.slice am n cm]) d)
  sq : Sq d N
  n1 : 1 ≤ n
  n5 : n ≤ 5
  N1 : 1 ≤ N
  Nm : N ≤ most
  src : Src wr sb
  only : Only sb (sb + 1) w wr
  sz : w.heap.size + 5 ≤ wr.heap.size
section
variable {w wr w2 : World} {sb most n cm N : Nat} {am : Option Addr} {d : List (List Int)}
theorem AS.next (h : AS w wr sb most am n cm d N) (hs : sb < w.heap.size) (s : Src w2 sb) (o : Only sb (sb + 1) wr w2) : AS w w2 sb most am n cm d N := by
  have hz := h.sz
  obtain ⟨hi, m1, m2, m3⟩ := h.mo
  exact ⟨h.res.only o (.inr (by omega)), h.eb.only o (.inr (by omega)), h.mb.only o (.inr (by omega)), h.eo.only o (.inr (by omega)), ⟨hi, m1.only o (.inr (by omega)), Nat.le_trans m2 o.size, m3.imp id fun q => q.only o (.inr (by omega))⟩, h.sq, h.n1, h.n5, h.N1, h.Nm, s, h.only.trans o, Nat.le_trans hz o.size⟩
theorem AS.below (h : AS w wr sb most am n cm d N) (hs : sb < w.heap.size) (b : Below wr.heap.size wr w2) : AS w w2 sb most am n cm d N :=
  h.next hs (src_belowL h.src (by have := h.sz; omega) b) (only_of_below b)
theorem AS.rdm (h : AS w wr sb most am n cm d N) : RdSSc wr (.slice am n cm) d ∧ d.length = n := by
  obtain ⟨hi, m1, m2, m3⟩ := h.mo
  exact m1.rdcM
theorem AS.rde (h : AS w wr sb most am n cm d N) : RdSSc wr (.slice (some ⟨w.heap.size + 1 + 1, 0, none⟩) 1 1) [[1, 0]] := h.eo.rdcM.1
/-- m is another maniplex now -/
theorem AS.put (h : AS w wr sb most am n cm d N) {lo hi a' n' c' N' : Nat} {ao' : Option Addr} {r : List (List Int)} (o : OwM 2 38 wr lo hi (.agg #[.slice ao' n' c']) r) (hlo : w.heap.size + 5 ≤ lo) (hhi : hi ≤ wr.heap.size) (sq : Sq r N') (h1 : 1 ≤ n') (h5 : n' ≤ 5) (g1 : 1 ≤ N') (g2 : N' ≤ most) (_ : a' = 0) (hs : sb < w.heap.size) :
    AS w (wr.setCell ⟨w.heap.size + 1 + 1 + 1 + 1, 0, none⟩ (.slice ao' n' c')) sb most ao' n' c' r N' := by
  have hz := h.sz
  have oc := only_set wr (w.heap.size + 1 + 1 + 1 + 1) 0 (.slice ao' n' c')
  have hsz : (wr.setCell ⟨w.heap.size + 1 + 1 + 1 + 1, 0, none⟩ (.slice ao' n' c')).heap.size = wr.heap.size := by simp [World.setCell]
  have kb : Blk (wr.setCell ⟨w.heap.size + 1 + 1 + 1 + 1, 0, none⟩ (.slice ao' n' c')) (w.heap.size + 1 + 1 + 1 + 1) 26 #[.slice ao' n' c'] := by simpa using h.mb.set_ 0 (.slice ao' n' c')
  have o2 := o.only oc (.inr (by omega))
  exact ⟨h.res.only oc (.inl (by omega)), h.eb.only oc (.inl (by omega)), kb, h.eo.only oc (.inl (by omega)), ⟨hi, o2.mono (by omega) (Nat.le_refl _), by omega, .inr (o2.mono hlo (Nat.le_refl _))⟩, sq, h1, h5, g1, g2, src_farL h.src fun g hg => Below.heap_setCell _ _ _ g (by simp; omega), only_cell h.only (by simp; omega) _, by omega⟩
/-- the result is m -/
theorem AS.fin (h : AS w wr sb most am n cm d N) (hs : sb < w.heap.size) : MxS w (wr.setCell ⟨w.heap.size, 0, none⟩ (.slice am n cm)) sb (.agg #[.slice am n cm]) d N := by
  have hz := h.sz
  obtain ⟨hi, m1, m2, m3⟩ := h.mo
  have oc := only_set wr w.heap.size 0 (.slice am n cm)
  have hsz : (wr.setCell ⟨w.heap.size, 0, none⟩ (.slice am n cm)).heap.size = wr.heap.size := by simp [World.setCell]
  exact ⟨(m1.only oc (.inr (by omega))).mono (by omega) (by omega), h.sq, h.N1, src_farL h.src fun g hg => Below.heap_setCell _ _ _ g (by simp; omega), only_cell h.only (Nat.le_refl _) _⟩
theorem AS.fine (h : AS w wr sb most am n cm d N) (hs : sb < w.heap.size) : MxS w (wr.setCell ⟨w.heap.size, 0, none⟩ (.slice (some ⟨w.heap.size + 1 + 1, 0, none⟩) 1 1)) sb (.agg #[.slice (some ⟨w.heap.size + 1 + 1, 0, none⟩) 1 1]) [[1, 0]] 2 := by
  have hz := h.sz
  have oc := only_set wr w.heap.size 0 (.slice (some ⟨w.heap.size + 1 + 1, 0, none⟩) 1 1)
  have hsz : (wr.setCell ⟨w.heap.size, 0, none⟩ (.slice (some ⟨w.heap.size + 1 + 1, 0, none⟩) 1 1)).heap.size = wr.heap.size := by simp [World.setCell]
  refine ⟨(h.eo.only oc (.inr (by omega))).mono (by omega) (by omega), fun r hr => ?_, by omega, src_farL h.src fun g hg => Below.heap_setCell _ _ _ g (by simp; omega), only_cell h.only (Nat.le_refl _) _⟩
  simp at hr; subst hr
  exact ⟨rfl, fun z hz => by simp at hz; omega⟩
end
theorem polyL_sq {m : Nat} (hm : 1 ≤ m) : Sq [polyL polyA (2 * m), polyL (polyB (2 * m)) (2 * m)] (2 * m) := fun r hr => by
  simp at hr
  rcases hr with rfl | rfl
  · refine ⟨length_polyL _ _, fun z hz => ?_⟩
    unfold polyL at hz
    obtain ⟨f, hf, rfl⟩ := List.mem_map.1 hz
    have := List.mem_range.1 hf
    unfold polyA
    split <;> omega
  · refine ⟨length_polyL _ _, fun z hz => ?_⟩
    unfold polyL at hz
    obtain ⟨f, hf, rfl⟩ := List.mem_map.1 hz
    unfold polyB
    split
    · exact ⟨Int.emod_nonneg _ (by omega), Int.emod_lt_of_pos _ (by omega)⟩
    · exact ⟨Int.emod_nonneg _ (by omega), Int.emod_lt_of_pos _ (by omega)⟩
theorem polyZ_any {m : Nat} (z : Int) (hz : z = (m : Int)) (w : World) (h1 : 1 ≤ m) (h2 : m ≤ 200) :
    Calls Tryz.prog 67 #[.int .i64 z] w fun e w' => ∃ a c r, e = .returned (.agg #[.slice a 2 c]) ∧ OwM 2 38 w' w.heap.size w'.heap.size (.agg #[.slice a 2 c]) r ∧ Sq r (2 * m) ∧ Below w.heap.size w w' := by
  subst hz
  refine (specPolygon_any m w h1 h2).mono ?_
  rintro e w' ⟨v, rfl, ho, hb⟩
  obtain ⟨a, n, c, rfl⟩ := ho.form
  have hn : n = 2 := by have := ho.rdcM.2; simpa using this.symm
  subst hn
  exact ⟨a, c, _, rfl, ho, polyL_sq h1, hb⟩
theorem mapZ_any {sb E : Nat} (z : Int) (hz : z = (E : Int)) (w : World) (h : Src w sb) (hsb : sb < w.heap.size) (hE : 1 ≤ E) (hE9 : E ≤ 100) :
    Calls Tryz.prog 39 #[.pointer (some ⟨sb, 0, none⟩), .int .i64 z] w fun e w' => ∃ a c r L, e = .returned (.agg #[.slice a 3 c]) ∧ MxS w w' sb (.agg #[.slice a 3 c]) r L ∧ L ≤ 4 * E := by
  subst hz
  refine (mapS_any sb E w h hsb hE hE9).mono ?_
  rintro e w' ⟨v, r, L, rfl, hm, hr, hL⟩
  obtain ⟨a, n, c, rfl⟩ := hm.ow.form
  have hn : n = 3 := by have := hm.ow.rdcM.2; omega
  subst hn
  exact ⟨a, c, r, L, rfl, hm, hL⟩
theorem besZ_any (ao bo : Option Addr) (n c m c' N K : Nat) (d e : List (List Int)) (w : World) (hd : RdSSc w (.slice ao n c) d) (he : RdSSc w (.slice bo m c') e) (hT : Sq d N) (hE : Sq e K) (hn : 1 ≤ n) (hm : 1 ≤ m) (hn9 : n ≤ 100) (hm9 : m ≤ 100) (hN : 1 ≤ N) (hK : 1 ≤ K) (hN9 : N ≤ 1000) (hK9 : K ≤ 1000) :
    Calls Tryz.prog 66 #[.agg #[.slice ao n c], .agg #[.slice bo m c']] w fun e w' => ∃ a cc r, e = .returned (.agg #[.slice a (n + m) cc]) ∧ OwM 2 38 w' w.heap.size w'.heap.size (.agg #[.slice a (n + m) cc]) r ∧ Sq r (N * K) ∧ Below w.heap.size w w' := by
  refine (beside_any ao bo n c m c' N K d e w hd he hT.leads hE.leads hn hm hn9 hm9 hN hK hN9 hK9).mono ?_
  rintro e w' ⟨v, r, rfl, ho, hr, hs, hb⟩
  obtain ⟨a, q, cc, rfl⟩ := ho.form
  have hq : q = n + m := by have := ho.rdcM.2; omega
  subst hq
  exact ⟨a, cc, r, rfl, ho, hs, hb⟩
theorem edge_sq : Sq [[1, 0]] 2 := fun r hr => by
  simp at hr; subst hr
  exact ⟨rfl, fun z hz => by simp at hz; omega⟩
/-- how long the slice in a box is -/
def lenOf (w : World) (b : Nat) : Nat := match w.cell? ⟨b, 0, none⟩ with
  | some (.slice _ n _) => n
  | _ => 0
theorem lenOf_blk {w : World} {b n c : Nat} {a : Option Addr} {t : TypeId} (h : Blk w b t #[.slice a n c]) : lenOf w b = n := by
  unfold lenOf
  rw [h.cell 0]; rfl
theorem any_div {most p k : Nat} (hm : most ≤ 400) (h1 : 1 ≤ p) (h3 : 4 * p ≤ most) (h4 : most / (4 * p) = k) : 1 ≤ k ∧ (4 * p) * k ≤ most ∧ k ≤ 100 := by
  subst h4
  have h5 := Nat.mul_div_le most (4 * p)
  have h6 := Nat.mul_le_mul_right (most / (4 * p)) (show 4 ≤ 4 * p by omega)
  exact ⟨Nat.div_pos h3 (by omega), h5, by omega⟩
theorem as_start {w : World} {sb most : Nat} (h : Src w sb) (hsb : sb < w.heap.size) (hm : 2 ≤ most) : AS w (((((w.alloc (.cells #[.slice none 0 0] 26)).alloc (.cells #[.int .i64 1, .int .i64 0] 2)).alloc (.cells #[.slice (some ⟨w.heap.size + 1, 0, none⟩) 2 2] 38)).alloc (.cells #[.slice (some ⟨w.heap.size + 1 + 1, 0, none⟩) 1 1] 26)).alloc (.cells #[.slice (some ⟨w.heap.size + 1 + 1, 0, none⟩) 1 1] 26)) sb most (some ⟨w.heap.size + 1 + 1, 0, none⟩) 1 1 [[1, 0]] 2 := by
  have hL : Own (((w.alloc (.cells #[.slice none 0 0] 26)).alloc (.cells #[.int .i64 1, .int .i64 0] 2))) (w.heap.size + 1) 2 (some ⟨w.heap.size + 1, 0, none⟩) 2 2 (([1, 0] : List Int).map (Value.int .i64)) := by
    have := own_rowL (w := w.alloc (.cells #[.slice none 0 0] 26)) (us := [.int .i64 1, .int .i64 0]) (zs := [1, 0]) (k := 2) (g := w.heap.size + 1) (by simp) rfl rfl (by omega)
    have e : (w.alloc (.cells #[.slice none 0 0] 26)).heap.size = w.heap.size + 1 := by simp
    rw [e] at this; exact this
  have e2 : ((w.alloc (.cells #[.slice none 0 0] 26)).alloc (.cells #[.int .i64 1, .int .i64 0] 2)).heap.size = w.heap.size + 1 + 1 := by simp
  have hR : OwR (OwS 2) (((w.alloc (.cells #[.slice none 0 0] 26)).alloc (.cells #[.int .i64 1, .int .i64 0] 2)).alloc (.cells #[.slice (some ⟨w.heap.size + 1, 0, none⟩) 2 2] 38)) (w.heap.size + 1) (w.heap.size + 1 + 1 + 1) 38 (some ⟨w.heap.size + 1 + 1, 0, none⟩) 1 1 [.slice (some ⟨w.heap.size + 1, 0, none⟩) 2 2] [[1, 0]] := by
    have := OwR.lit (E := 38) (us := [.slice (some ⟨w.heap.size + 1, 0, none⟩) 2 2]) (ds := [[1, 0]]) (n := 1) (lo := w.heap.size + 1) (hi := w.heap.size + 1 + 1) (w := (w.alloc (.cells #[.slice none 0 0] 26)).alloc (.cells #[.int .i64 1, .int .i64 0] 2)) (innerS 2) (by omega) (by omega) rfl rfl (by omega) (fun j u d hu hd => by
        match j, hu, hd with
        | 0, hu, hd => simp at hu hd; subst hu hd; exact ⟨_, _, _, rfl, hL.mono (Nat.zero_le _)⟩
        | j + 1, hu, _ => simp at hu) (fun j u hu => by
        match j, hu with
        | 0, hu => simp at hu; subst hu; exact in_slice fun g hg => by simp [bk] at hg; omega
        | j + 1, hu => simp at hu) (fun i j u u' g hij hu hu' _ => by
        match i, j, hu, hu' with
        | 0, 0, _, _ => exact absurd rfl hij
        | 0, j + 1, _, hu' => simp at hu'
        | i + 1, _, hu, _ => simp at hu)
    rw [e2] at this; exact this
  have kA := below_alloc2 (((w.alloc (.cells #[.slice none 0 0] 26)).alloc (.cells #[.int .i64 1, .int .i64 0] 2)).alloc (.cells #[.slice (some ⟨w.heap.size + 1, 0, none⟩) 2 2] 38)) (.cells #[.slice (some ⟨w.heap.size + 1 + 1, 0, none⟩) 1 1] 26) (.cells #[.slice (some ⟨w.heap.size + 1 + 1, 0, none⟩) 1 1] 26)
  have eo : OwM 2 38 (((((w.alloc (.cells #[.slice none 0 0] 26)).alloc (.cells #[.int .i64 1, .int .i64 0] 2)).alloc (.cells #[.slice (some ⟨w.heap.size + 1, 0, none⟩) 2 2] 38)).alloc (.cells #[.slice (some ⟨w.heap.size + 1 + 1, 0, none⟩) 1 1] 26)).alloc (.cells #[.slice (some ⟨w.heap.size + 1 + 1, 0, none⟩) 1 1] 26)) (w.heap.size + 1) (w.heap.size + 1 + 1 + 1) (.agg #[.slice (some ⟨w.heap.size + 1 + 1, 0, none⟩) 1 1]) [[1, 0]] := ⟨_, _, _, _, rfl, hR.below (innerS _) kA⟩
  have hB := (below_alloc3 w (.cells #[.slice none 0 0] 26) (.cells #[.int .i64 1, .int .i64 0] 2) (.cells #[.slice (some ⟨w.heap.size + 1, 0, none⟩) 2 2] 38)).trans (kA.mono (by simp; omega))
  exact ⟨((((blk_at rfl).alloc _).alloc _).alloc _).alloc _, (blk_at (by simp)).alloc _, blk_at (by simp), eo, ⟨_, eo, by simp, .inl (Nat.le_refl _)⟩, edge_sq, by omega, by omega, by omega, hm, src_belowL h hsb hB, only_of_below hB, by simp⟩
set_option maxRecDepth 100000 in
set_option maxHeartbeats 6400000 in
theorem any_any (sb most : Nat) (w : World) (h : Src w sb) (hsb : sb < w.heap.size) (hm8 : 8 ≤ most) (hm4 : most ≤ 400) :
    Calls Tryz.prog 99 #[.pointer (some ⟨sb, 0, none⟩), .int .i64 most] w fun e w' => ∃ a n c r N, e = .returned (.agg #[.slice a n c]) ∧ MxS w w' sb (.agg #[.slice a n c]) r N ∧ 1 ≤ n ∧ n ≤ 5 ∧ N ≤ most := by
  have HA := Lib.hid (as_start (most := most) h hsb (by omega))
  clear h
  go_enter Tryz.func99, Tryz.ntmps99
  go_upto_region 3 with fail
  generalize ((((w.alloc (.cells #[.slice none 0 0] 26)).alloc (.cells #[.int .i64 1, .int .i64 0] 2)).alloc (.cells #[.slice (some ⟨w.heap.size + 1, 0, none⟩) 2 2] 38)).alloc (.cells #[.slice (some ⟨w.heap.size + 1 + 1, 0, none⟩) 1 1] 26)).alloc (.cells #[.slice (some ⟨w.heap.size + 1 + 1, 0, none⟩) 1 1] 26) = w1 at *
  go_wp2_with fail
  refine (next_any sb _ _ HA.out.src (by omega)).mono ?_
  rintro e w2 ⟨r, rfl, -, r2, s2, o2⟩
  have hr := r2 (by omega)
  have HA2 := Lib.hid (HA.out.next hsb s2 o2)
  clear HA r2 s2 o2
  go_upto_block 0 with (fail)
  go_cut [7] (fun s7 wx => ∃ (am : Option Addr) (n cm : Nat) (d : List (List Int)) (N : Nat), AS w wx sb most am n cm d N)
  case first =>
    obtain ⟨h2, hh2⟩ : ∃ u, most / 2 = u := ⟨_, rfl⟩
    obtain ⟨h4, hh4⟩ : ∃ u, most / 4 = u := ⟨_, rfl⟩
    have tA : (most : Int).tdiv 2 = (h2 : Int) := by rw [← hh2]; rfl
    have tB : (most : Int).tdiv 4 = (h4 : Int) := by rw [← hh4]; rfl
    by_cases hr0 : r = 0
    · subst hr0
      go_wp2_with fail
      refine (next_any sb _ _ HA2.out.src (by omega)).mono ?_
      rintro e w3 ⟨q, rfl, -, q3, s3, o3⟩
      have hq := q3 (by omega)
      have HA3 := Lib.hid (HA2.out.next hsb s3 o3)
      have hqw : IntKind.i64.wrap (1 + (q : Int)) = 1 + (q : Int) := IntWalk.i64_in _ (by omega)
      clear q3 s3 o3 HA2
      go_wp2_with fail
      refine (polyZ_any (m := 1 + q) _ (by omega) w3 (by omega) (by omega)).mono ?_
      rintro e w4 ⟨a4, c4, r4, rfl, o4, sq4, b4⟩
      have HA4 := Lib.hid (HA3.out.below hsb b4)
      have y4 := HA4.out.mb.cell 0
      have f4 := HA4.out.mb.frozen 0
      simp at y4
      have HP := Lib.hid (HA4.out.put (a' := 0) o4 HA3.out.sz (Nat.le_refl _) sq4 (by omega) (by omega) (by omega) (by omega) rfl hsb)
      clear o4 b4 HA3
      go_wp2_with fail
      go_meet
      case rel => exact ⟨_, _, _, _, _, HP.out⟩
    · by_cases hr1 : r = 1
      · subst hr1
        have y2 := HA2.out.eb.cell 0
        have z2 := HA2.out.res.cell 0
        have f2 := HA2.out.res.frozen 0
        simp at y2 z2
        have HF := Lib.hid (HA2.out.fine hsb)
        go_wp2_with fail
        exact bodyPost_ret (v := .agg #[.slice (some ⟨w.heap.size + 1 + 1, 0, none⟩) 1 1]) (by simp [results, Tryz.f99, go_sem, z2]) rfl ⟨_, _, _, _, _, rfl, HF.out, by omega, by omega, by omega⟩
      · by_cases hr2 : r = 2
        · subst hr2
          go_wp2_with fail
          refine (next_any sb _ _ HA2.out.src (by omega)).mono ?_
          rintro e w3 ⟨q, rfl, -, q3, s3, o3⟩
          have hq := q3 (by omega)
          have HA3 := Lib.hid (HA2.out.next hsb s3 o3)
          have hqw : IntKind.i64.wrap (1 + (q : Int)) = 1 + (q : Int) := IntWalk.i64_in _ (by omega)
          clear q3 s3 o3 HA2
          go_wp2_with fail
          refine (polyZ_any (m := 1 + q) _ (by omega) w3 (by omega) (by omega)).mono ?_
          rintro e w4 ⟨a4, c4, r4, rfl, o4, sq4, b4⟩
          have HA4 := Lib.hid (HA3.out.below hsb b4)
          have y4 := HA4.out.mb.cell 0
          have f4 := HA4.out.mb.frozen 0
          simp at y4
          have HP := Lib.hid (HA4.out.put (a' := 0) o4 HA3.out.sz (Nat.le_refl _) sq4 (by omega) (by omega) (by omega) (by omega) rfl hsb)
          clear o4 b4 HA3 HA4
          go_upto_region 11 with fail
          generalize w4.setCell ⟨w.heap.size + 1 + 1 + 1 + 1, 0, none⟩ (.slice a4 2 c4) = w5 at *
          have y5 := HP.out.mb.cell 0
          have e5 := HP.out.eb.cell 0
          simp at y5 e5
          go_wp2_with fail
          refine (besZ_any a4 (some ⟨w.heap.size + 1 + 1, 0, none⟩) 2 c4 1 1 (2 * (1 + q)) 2 r4 [[1, 0]] w5 HP.out.rdm.1 HP.out.rde sq4 edge_sq (by omega) (by omega) (by omega) (by omega) (by omega) (by omega) (by omega) (by omega)).mono ?_
          rintro e w6 ⟨a6, c6, r6, rfl, o6, sq6, b6⟩
          have HA6 := Lib.hid (HP.out.below hsb b6)
          have y6 := HA6.out.mb.cell 0
          have f6 := HA6.out.mb.frozen 0
          simp at y6
          have HP6 := Lib.hid (HA6.out.put (a' := 0) o6 HP.out.sz (Nat.le_refl _) sq6 (by omega) (by omega) (by omega) (by omega) rfl hsb)
          clear o6 b6 HP HA6
          go_wp2_with fail
          go_meet
          case rel => exact ⟨_, _, _, _, _, HP6.out⟩
        · by_cases hr3 : r = 3
          · subst hr3
            go_wp2_with fail
            refine (next_any sb _ _ HA2.out.src (by omega)).mono ?_
            rintro e w3 ⟨q, rfl, -, q3, s3, o3⟩
            have hq := q3 (by omega)
            have HA3 := Lib.hid (HA2.out.next hsb s3 o3)
            have hqw : IntKind.i64.wrap (1 + (q : Int)) = 1 + (q : Int) := IntWalk.i64_in _ (by omega)
            have hqw2 : IntKind.i64.wrap (4 * (1 + (q : Int))) = 4 * (1 + (q : Int)) := IntWalk.i64_in _ (by omega)
            clear q3 s3 o3 HA2
            by_cases h4p : 4 * (1 + q) ≤ most
            · have h4i : ¬ (most : Int) < 4 * (1 + (q : Int)) := by omega
              obtain ⟨k, hk⟩ : ∃ k, most / (4 * (1 + q)) = k := ⟨_, rfl⟩
              obtain ⟨hk1, hkm, hk100⟩ := any_div (p := 1 + q) (k := k) hm4 (by omega) (by omega) hk
              have hk9 : k ≤ most := by rw [← hk]; exact Nat.div_le_self _ _
              have tC : (most : Int).tdiv (4 * (1 + (q : Int))) = (k : Int) := by
                rw [show 4 * (1 + (q : Int)) = ((4 * (1 + q) : Nat) : Int) by omega, ← hk]; rfl
              have hne : ¬ 4 * (1 + (q : Int)) = 0 := by omega
              have hkw : IntKind.i64.wrap (k : Int) = (k : Int) := IntWalk.i64_in _ (by omega)
              clear hk
              go_upto_region 16 with fail
              go_region_law (first
                | (go_simp; go_at_call 66; refine (besZ_any a4 a6 2 c4 2 c6 (2 * (1 + q)) (2 * (1 + u)) r4 r6 w6 O46.out.rdcM.1 O6.out.rdcM.1 SQ4.out SQ6.out (by omega) (by omega) (by omega) (by omega) (by omega) (by omega) (by omega) (by omega)).mono ?_; rintro e w7 ⟨a7, c7, r7, rfl, o7, sq7, b7⟩; have HA7 := Lib.hid (HA6.out.below hsb b7); have y7 := HA7.out.mb.cell 0; have f7 := HA7.out.mb.frozen 0; simp at y7)
                | (go_simp; go_at_call 67; refine (polyZ_any (m := 1 + u) _ (by omega) w5 (by omega) (by omega)).mono ?_; rintro e w6 ⟨a6, c6, r6, rfl, o6, sq6, b6⟩; have O6 := Lib.hid o6; have O46 := Lib.hid (O45.out.below b6); have SQ6 := Lib.hid sq6; have HA6 := Lib.hid (HA5.out.below hsb b6))
                | (go_simp; go_at_call 38; refine (next_any sb _ w4 HA4.out.src (by omega)).mono ?_; rintro e w5 ⟨u, rfl, -, u3, s5, o5⟩; have hu := u3 (by omega); have HA5 := Lib.hid (HA4.out.next hsb s5 o5); have O45 := Lib.hid (O4.out.only o5 (.inr (by have := HA3.out.sz; omega))); have huw : IntKind.i64.wrap (1 + (u : Int)) = 1 + (u : Int) := IntWalk.i64_in _ (by omega))
                | (go_simp; go_at_call 67; refine (polyZ_any (m := 1 + q) _ (by omega) w3.drew (by omega) (by omega)).mono ?_; rintro e w4 ⟨a4, c4, r4, rfl, o4, sq4, b4⟩; have b4' : Below w3.heap.size w3 w4 := below_tr b4 (below_drew1 w3); have HA4 := Lib.hid (HA3.out.below hsb b4'); have O4 := Lib.hid (show OwM 2 38 w4 w3.heap.size w4.heap.size (.agg #[.slice a4 2 c4]) r4 from o4); have SQ4 := Lib.hid sq4))
              all_goals
                have hNN : 2 * (1 + q) * (2 * (1 + u)) ≤ most := by
                  have e1 : 2 * (1 + q) * (2 * (1 + u)) = 4 * (1 + q) * (1 + u) := by rw [← Nat.mul_assoc, Nat.mul_right_comm 2 (1 + q) 2]
                  have e2 := Nat.mul_le_mul_left (4 * (1 + q)) (show 1 + u ≤ k by omega)
                  omega
                have hNP : 1 ≤ 2 * (1 + q) * (2 * (1 + u)) := Nat.mul_pos (by omega) (by omega)
                have HP7 := Lib.hid (HA7.out.put (a' := 0) o7 (by have := HA6.out.sz; omega) (Nat.le_refl _) sq7 (by omega) (by omega) hNP hNN rfl hsb)
                clear o7 b7 hNN hNP
                go_wp2_with fail
                go_meet
              all_goals exact ⟨_, _, _, _, _, HP7.out⟩
            · have h4i : (most : Int) < 4 * (1 + (q : Int)) := by omega
              obtain ⟨k, hk⟩ : ∃ k, most / (4 * (2)) = k := ⟨_, rfl⟩
              obtain ⟨hk1, hkm, hk100⟩ := any_div (p := 2) (k := k) hm4 (by omega) (by omega) hk
              have hk9 : k ≤ most := by rw [← hk]; exact Nat.div_le_self _ _
              have tC : (most : Int).tdiv (4 * (2 : Int)) = (k : Int) := by
                rw [show 4 * (2 : Int) = ((4 * (2) : Nat) : Int) by omega, ← hk]; rfl
              have h8 : IntKind.i64.wrap 8 = 8 := rfl
              have t8 : (most : Int) / 8 = (k : Int) := by rw [← hk]; rfl
              have hkw : IntKind.i64.wrap (k : Int) = (k : Int) := IntWalk.i64_in _ (by omega)
              clear hk
              go_upto_region 16 with fail
              go_region_law (first
                | (go_simp; go_at_call 66; refine (besZ_any a4 a6 2 c4 2 c6 (2 * (2)) (2 * (1 + u)) r4 r6 w6 O46.out.rdcM.1 O6.out.rdcM.1 SQ4.out SQ6.out (by omega) (by omega) (by omega) (by omega) (by omega) (by omega) (by omega) (by omega)).mono ?_; rintro e w7 ⟨a7, c7, r7, rfl, o7, sq7, b7⟩; have HA7 := Lib.hid (HA6.out.below hsb b7); have y7 := HA7.out.mb.cell 0; have f7 := HA7.out.mb.frozen 0; simp at y7)
                | (go_simp; go_at_call 67; refine (polyZ_any (m := 1 + u) _ (by omega) w5 (by omega) (by omega)).mono ?_; rintro e w6 ⟨a6, c6, r6, rfl, o6, sq6, b6⟩; have O6 := Lib.hid o6; have O46 := Lib.hid (O45.out.below b6); have SQ6 := Lib.hid sq6; have HA6 := Lib.hid (HA5.out.below hsb b6))
                | (go_simp; go_at_call 38; refine (next_any sb _ w4 HA4.out.src (by omega)).mono ?_; rintro e w5 ⟨u, rfl, -, u3, s5, o5⟩; have hu := u3 (by omega); have HA5 := Lib.hid (HA4.out.next hsb s5 o5); have O45 := Lib.hid (O4.out.only o5 (.inr (by have := HA3.out.sz; omega))); have huw : IntKind.i64.wrap (1 + (u : Int)) = 1 + (u : Int) := IntWalk.i64_in _ (by omega))
                | (go_simp; go_at_call 67; refine (polyZ_any (m := 2) _ (by omega) w3.drew (by omega) (by omega)).mono ?_; rintro e w4 ⟨a4, c4, r4, rfl, o4, sq4, b4⟩; have b4' : Below w3.heap.size w3 w4 := below_tr b4 (below_drew1 w3); have HA4 := Lib.hid (HA3.out.below hsb b4'); have O4 := Lib.hid (show OwM 2 38 w4 w3.heap.size w4.heap.size (.agg #[.slice a4 2 c4]) r4 from o4); have SQ4 := Lib.hid sq4))
              all_goals
                have hNN : 2 * (2) * (2 * (1 + u)) ≤ most := by
                  have e1 : 2 * (2) * (2 * (1 + u)) = 4 * (2) * (1 + u) := by rw [← Nat.mul_assoc, Nat.mul_right_comm 2 (2) 2]
                  have e2 := Nat.mul_le_mul_left (4 * (2)) (show 1 + u ≤ k by omega)
                  omega
                have hNP : 1 ≤ 2 * (2) * (2 * (1 + u)) := Nat.mul_pos (by omega) (by omega)
                have HP7 := Lib.hid (HA7.out.put (a' := 0) o7 (by have := HA6.out.sz; omega) (Nat.le_refl _) sq7 (by omega) (by omega) hNP hNN rfl hsb)
                clear o7 b7 hNN hNP
                go_wp2_with fail
                go_meet
              all_goals exact ⟨_, _, _, _, _, HP7.out⟩
          · have hr0' : ((r : Int) == 0) = false := by simp; omega
            have hr1' : ((r : Int) == 1) = false := by simp; omega
            have hr2' : ((r : Int) == 2) = false := by simp; omega
            have hr3' : ((r : Int) == 3) = false := by simp; omega
            go_wp2_with fail
            refine (next_any sb _ _ HA2.out.src (by omega)).mono ?_
            rintro e w3 ⟨q, rfl, -, q3, s3, o3⟩
            have hq := q3 (by omega)
            have HA3 := Lib.hid (HA2.out.next hsb s3 o3)
            have hqw : IntKind.i64.wrap (1 + (q : Int)) = 1 + (q : Int) := IntWalk.i64_in _ (by omega)
            clear q3 s3 o3 HA2
            go_wp2_with fail
            refine (mapZ_any (E := 1 + q) _ (by omega) w3 HA3.out.src (by have := HA3.out.sz; omega) (by omega) (by omega)).mono ?_
            rintro e w4 ⟨a4, c4, r4, L, rfl, m4, hL⟩
            have HA4 := Lib.hid (HA3.out.next hsb m4.src m4.only)
            have y4 := HA4.out.mb.cell 0
            have f4 := HA4.out.mb.frozen 0
            simp at y4
            have HP := Lib.hid (HA4.out.put (a' := 0) m4.ow HA3.out.sz (Nat.le_refl _) m4.sq (by omega) (by omega) m4.pos (by omega) rfl hsb)
            clear m4 HA3
            go_wp2_with fail
            go_meet
            case rel => exact ⟨_, _, _, _, _, HP.out⟩
  case rest =>
    obtain ⟨am, n, cm, d, N, ha⟩ := hcut
    have HA := Lib.hid ha
    clear ha HA2
    go_wp2_with fail
    go_loopw [] (fun wr => ∃ (am : Option Addr) (n cm : Nat) (d : List (List Int)) (N : Nat), AS w wr sb most am n cm d N) (fun wr => 5 - lenOf wr (w.heap.size + 1 + 1 + 1 + 1))
    case atStart => exact ⟨am, n, cm, d, N, HA.out⟩
    case round =>
      clear HA
      obtain ⟨am, n, cm, d, N, ha⟩ := hrel
      have HA := Lib.hid ha
      have hn1 := ha.n1
      have hn5 := ha.n5
      have hN1 := ha.N1
      have hNm := ha.Nm
      have hln : lenOf wr (w.heap.size + 1 + 1 + 1 + 1) = n := lenOf_blk ha.mb
      have y1 := ha.mb.cell 0
      have y2 := ha.res.cell 0
      have f2 := ha.res.frozen 0
      simp at y1 y2
      have hdl : (lget d 0).length = N := ha.sq.leads.len 0 (by have := ha.rdm.2; omega)
      clear ha
      by_cases hn : n < 5
      · have hni : (n : Int) < 5 := by omega
        go_wp2_with fail
        refine (flagsS_any am n cm N d wr HA.out.rdm.1.rd (by omega) hdl (by omega)).mono ?_
        rintro e w3 ⟨rfl, b3⟩
        have HA3 := Lib.hid (HA.out.below hsb b3)
        have hNw : IntKind.i64.wrap ((N : Int) * 2) = (N : Int) * 2 := IntWalk.i64_in _ (by omega)
        clear HA b3 y1 y2 f2
        by_cases hN2 : N * 2 ≤ most
        · have hNi : (N : Int) * 2 ≤ (most : Int) := by omega
          go_wp2_with fail
          refine (next_any sb _ _ HA3.out.src (by omega)).mono ?_
          rintro e w4 ⟨q, rfl, -, -, s4, o4⟩
          have HA4 := Lib.hid (HA3.out.next hsb s4 o4)
          clear s4 o4 HA3
          by_cases hq : q = 0
          · subst hq
            go_wp2_with fail
            refine (next_any sb _ _ HA4.out.src (by omega)).mono ?_
            rintro e w5 ⟨u, rfl, -, -, s5, o5⟩
            have HA5 := Lib.hid (HA4.out.next hsb s5 o5)
            have y5 := HA5.out.mb.cell 0
            have e5 := HA5.out.eb.cell 0
            simp at y5 e5
            clear s5 o5 HA4
            by_cases hu : u = 0
            · subst hu
              go_wp2_with fail
              refine (besZ_any am (some ⟨w.heap.size + 1 + 1, 0, none⟩) n cm 1 1 N 2 d [[1, 0]] w5 HA5.out.rdm.1 HA5.out.rde HA5.out.sq edge_sq (by omega) (by omega) (by omega) (by omega) (by omega) (by omega) (by omega) (by omega)).mono ?_
              rintro e w6 ⟨a6, c6, r6, rfl, o6, sq6, b6⟩
              have HA6 := Lib.hid (HA5.out.below hsb b6)
              have y6 := HA6.out.mb.cell 0
              have f6 := HA6.out.mb.frozen 0
              simp at y6
              have HP6 := Lib.hid (HA6.out.put (a' := 0) o6 HA5.out.sz (Nat.le_refl _) sq6 (by omega) (by omega) (by omega) (by omega) rfl hsb)
              clear o6 b6 HA5 HA6
              go_wp2_with fail
              go_roundw
              case rel => exact ⟨_, _, _, _, _, HP6.out⟩
              case measure => rw [hln, lenOf_blk HP6.out.mb]; omega
            · have hu0 : ((u : Int) == 0) = false := by simp; omega
              go_wp2_with fail
              refine (besZ_any (some ⟨w.heap.size + 1 + 1, 0, none⟩) am 1 1 n cm 2 N [[1, 0]] d w5 HA5.out.rde HA5.out.rdm.1 edge_sq HA5.out.sq (by omega) (by omega) (by omega) (by omega) (by omega) (by omega) (by omega) (by omega)).mono ?_
              rintro e w6 ⟨a6, c6, r6, rfl, o6, sq6, b6⟩
              have HA6 := Lib.hid (HA5.out.below hsb b6)
              have y6 := HA6.out.mb.cell 0
              have f6 := HA6.out.mb.frozen 0
              simp at y6
              have HP6 := Lib.hid (HA6.out.put (a' := 0) o6 HA5.out.sz (Nat.le_refl _) sq6 (by omega) (by omega) (by omega) (by omega) rfl hsb)
              clear o6 b6 HA5 HA6
              go_wp2_with fail
              go_roundw
              case rel => exact ⟨_, _, _, _, _, HP6.out⟩
              case measure => rw [hln, lenOf_blk HP6.out.mb]; omega
          · have hq0 : ((q : Int) == 0) = false := by simp; omega
            have y4 := HA4.out.mb.cell 0
            have z4 := HA4.out.res.cell 0
            have f4 := HA4.out.res.frozen 0
            simp at y4 z4
            have HF := Lib.hid (HA4.out.fin hsb)
            have hNf := HA4.out.Nm
            go_wp2_with fail
            exact bodyPost_ret (v := .agg #[.slice am n cm]) (by simp [results, Tryz.f99, go_sem, z4]) rfl (by first | exact ⟨_, _, _, _, _, rfl, HF.out, hn1, hn5, hNf⟩ | exact ⟨_, _, _, rfl, _, _, HF.out, hn1, hn5, hNf⟩)
        · have hNi : ¬ (N : Int) * 2 ≤ (most : Int) := by omega
          have y4 := HA3.out.mb.cell 0
          have z4 := HA3.out.res.cell 0
          have f4 := HA3.out.res.frozen 0
          simp at y4 z4
          have HF := Lib.hid (HA3.out.fin hsb)
          have hNf := HA3.out.Nm
          go_wp2_with fail
          exact bodyPost_ret (v := .agg #[.slice am n cm]) (by simp [results, Tryz.f99, go_sem, z4]) rfl (by first | exact ⟨_, _, _, _, _, rfl, HF.out, hn1, hn5, hNf⟩ | exact ⟨_, _, _, rfl, _, _, HF.out, hn1, hn5, hNf⟩)
      · have hni : ¬ (n : Int) < 5 := by omega
        have HF := Lib.hid (HA.out.fin hsb)
        have hNf := HA.out.Nm
        go_wp2_with fail
        exact bodyPost_ret (v := .agg #[.slice am n cm]) (by simp [results, Tryz.f99, go_sem, y2]) rfl (by first | exact ⟨_, _, _, _, _, rfl, HF.out, hn1, hn5, hNf⟩ | exact ⟨_, _, _, rfl, _, _, HF.out, hn1, hn5, hNf⟩)
end Go.Proofs.YtmdhljleaijkbaaGreatDoor

/- IsRotation, the program's and the reference's. -/
namespace Go.Proofs.YtmdhljleaijkbaaGreatDoor
open Go.RowKit

end Go.Proofs.YtmdhljleaijkbaaGreatDoor

/- A memory of names: a vector takes another name; an append of nothing. No program in sight. -/
namespace Go.Proofs.YtmdhljleaijkbaaGreatDoor
open Go.RowKit

section
variable {P : Program} {nt : Nat} {S : St} {t : Nat} {ty : TypeId} {ps : String} {af : Array Edge} {gd : Option (Nat × Bool)} {x y : Operand}
end
end Go.Proofs.YtmdhljleaijkbaaGreatDoor

/- A memory of names: a literal of three rows; the other one of a pair (x ^ 1). No program in sight. -/
namespace Go.Proofs.YtmdhljleaijkbaaGreatDoor
open Go.RowKit

section
variable {P : Program} {nt : Nat} {S : St} {t : Nat} {ty : TypeId} {ps : String} {af : Array Edge} {gd : Option (Nat × Bool)} {x y : Operand}
end
end Go.Proofs.YtmdhljleaijkbaaGreatDoor

/- The map of a rotation, on lists; rotations in names. -/
namespace Go.Proofs.YtmdhljleaijkbaaGreatDoor
open Go.RowKit

structure Tab where
  a : List Int
  b : List Int
  c : List Int
def Tab.rows (T : Tab) : List (List Int) := [T.a, T.b, T.c]
end Go.Proofs.YtmdhljleaijkbaaGreatDoor

/- A memory of names: a struct of one slice. No program in sight. -/
namespace Go.Proofs.YtmdhljleaijkbaaGreatDoor
open Go.RowKit

section
variable {P : Program} {nt : Nat} {S : St} {t : Nat} {ty : TypeId} {ps : String} {af : Array Edge} {gd : Option (Nat × Bool)}
end
end Go.Proofs.YtmdhljleaijkbaaGreatDoor

/- The map of a rotation: the program's. -/
namespace Go.Proofs.YtmdhljleaijkbaaGreatDoor
open Go.RowKit

section
variable {P : Program} {nt : Nat} {S : St} {t : Nat} {ty : TypeId} {ps : String} {af : Array Edge} {gd : Option (Nat × Bool)} {x : Operand}
end
abbrev mBox : Ch := ⟨true, 26, 1, .flat [.val (.slice none 0 0)]⟩
end Go.Proofs.YtmdhljleaijkbaaGreatDoor

/- Forms of maniplexes, the reference's: l01Back, l02Numbers, l02Renumber, l02Form. -/
namespace Go.Proofs.YtmdhljleaijkbaaGreatDoor
open Go.RowKit

/-- values put at places -/
def putL (N : Nat) (g : Nat → Nat) (v : Nat → Int) (m : Nat) : List Int := (List.range m).foldl (fun l i => l.set (g i) (v i)) (List.replicate N 0)
theorem putL_zero (N : Nat) (g : Nat → Nat) (v : Nat → Int) : putL N g v 0 = List.replicate N 0 := rfl
theorem putL_succ (N : Nat) (g : Nat → Nat) (v : Nat → Int) (m : Nat) : putL N g v (m + 1) = (putL N g v m).set (g m) (v m) := by unfold putL; rw [List.range_succ, List.foldl_append]; rfl
theorem putL_len (N : Nat) (g : Nat → Nat) (v : Nat → Int) : ∀ m, (putL N g v m).length = N
  | 0 => by simp [putL_zero]
  | m + 1 => by rw [putL_succ, List.length_set]; exact putL_len N g v m
def fRow (p r : List Int) : List Int := putL p.length (fun f => (iget p f).toNat) (fun f => iget p (iget r f).toNat) p.length
def formL (T : List (List Int)) (p : List Int) : List (List Int) := T.map (fRow p)
set_option maxRecDepth 100000 in
set_option maxHeartbeats 2000000 in
theorem renS_fc (T : List (List Int)) (P : List Int) (N : Nat) (hT : Leads T N) (hP : P.length = N) (hin : ∀ f, f < N → 0 ≤ iget P f ∧ iget P f < N) (hN : N ≤ 1000000) (hg : T.length ≤ 1000000) :
    FC Tryz.prog 70 [(1002, wRo P), (1003, rowsRo T)] [mA T.length, o1 (.sl 1002 0 N)] [(1000, imOw (formL T P))] (.s (.agg [.sl 1000 0 T.length])) [] := by
  have hTl : (irows T).length = T.length := irows_len _
  have hPi : N ≤ (ivals P).length := by rw [ivals_len, hP]; exact Nat.le_refl _
  refine fc_enter (nt := 50) Tryz.func70 rfl rfl (by simp) fun w0 ω0 => ?_
  (refine goes_seq ?_; refine goes_region ?_; apply run_step rfl; (exact stp_box rfl rfl rfl rfl); apply run_step rfl; (exact stp_allocZ [.slice none 0 0] rfl (by as_aux_lemma => kernel_rfl)); refine run_nil ?_; refine fin_seq ?_; refine goes_seq ?_; refine goes_region ?_; apply run_step rfl; (exact stp_buildZ [.slice none 0 0] rfl (by as_aux_lemma => kernel_rfl)))
  refine run_wk (wk_nilA (t := 9) (n := 1000) (k := 1) (E := 38) (d := .rows 2 (irows []) []) 0 rfl rfl rfl rfl) ?_
  (apply run_step rfl; (first | exact stp_allocZ [.slice none 0 0] rfl (by as_aux_lemma => kernel_rfl) | exact stp_storeAgg rfl rfl rfl rfl rfl rfl rfl rfl (by as_aux_lemma => kernel_rfl) rfl); apply run_step rfl; (first | exact stp_allocZ [.slice none 0 0] rfl (by as_aux_lemma => kernel_rfl) | exact stp_storeAgg rfl rfl rfl rfl rfl rfl rfl rfl (by as_aux_lemma => kernel_rfl) rfl); refine run_nil ?_; refine fin_seq ?_; refine goes_seq ?_; refine goes_seq ?_; refine goes_region ?_; apply run_step rfl; (exact stp_assign rfl rfl); refine run_nil ?_; refine fin_seq ?_; refine goes_block ?_)
  refine goes_loop (fun k : Nat => St.of [(1, o1 (.sl 1002 0 N)), (2, o1 (.ptr 2 0)), (4, o1 (.ptr 4 0)), (5, o1 (.ptr 5 0)), (6, vv (I6 k))] [(1002, wRo P), (1003, rowsRo T), (2, ⟨true, 26, 1, .flat [.sl 1003 0 T.length]⟩), (4, mBox), (5, ⟨true, 26, 1, .flat [.sl 1000 0 k]⟩), (1000, imOw (formL (T.take k) P))])
    (fun k => k ≤ T.length) (fun k => T.length - k) 0 (Nat.zero_le _) (Wk.of ⟨rfl, rfl, rfl, rfl, rfl, trivial⟩ ⟨rfl, rfl, rfl, rfl, rfl, rfl, trivial⟩ trivial) ?_
  intro k hk
  (refine goes_seq ?_; refine goes_seq ?_; refine goes_region ?_; apply run_step rfl; (exact stp_move rfl rfl); apply run_step rfl; (exact stp_fieldAddr (d := 0) rfl rfl rfl (by as_aux_lemma => kernel_rfl)); apply run_step rfl; (exact stp_loadF rfl (by as_aux_lemma => kernel_rfl) rfl rfl rfl rfl); apply run_step rfl; (exact stp_len rfl rfl rfl (by as_aux_lemma => kernel_rfl)); apply run_step rfl; (exact stp_bin rfl rfl rfl rfl); refine run_nil ?_; refine fin_seq ?_)
  refine goes_if rfl (fun h => ?_) (fun h => ?_)
  · have hkn : k < T.length := by omega
    have hrow : (irows T)[k]? = some (ivals (lget T k)) := irows_get hkn
    have hil : (ivals (lget T k)).length = N := by rw [ivals_len]; exact hT.len k hkn
    have hrl := hT.len k hkn
    have hrin := hT.within k hkn
    have hnext : formL (T.take (k + 1)) P = formL (T.take k) P ++ [fRow P (lget T k)] := by unfold formL; rw [take_lget hkn, List.map_append]; rfl
    have hfr : fRow P (lget T k) = putL N (fun f => (iget P f).toNat) (fun f => iget P (iget (lget T k) f).toNat) N := by unfold fRow; rw [hP]
    have hkl : (formL (T.take k) P).length = k := by unfold formL; rw [List.length_map, List.length_take]; omega
    generalize formL (T.take k) P = Fk at *
    generalize hr : lget T k = r at *
    (refine goes_skip ?_; refine fin_seq ?_; refine goes_seq ?_; refine goes_block ?_; refine goes_seq ?_; refine goes_region ?_; apply run_step rfl; (exact stp_move rfl rfl); apply run_step rfl; (exact stp_len rfl rfl rfl (by as_aux_lemma => kernel_rfl)); apply run_step rfl; (exact stp_makeI (E := 2) rfl (by as_aux_lemma => kernel_rfl) (by as_aux_lemma => kernel_rfl) rfl rfl rfl rfl (by omega)); apply run_step rfl; (exact stp_assign rfl rfl); refine run_nil ?_; refine fin_seq ?_; refine goes_seq ?_; refine goes_seq ?_; refine goes_region ?_; apply run_step rfl; (exact stp_assign rfl rfl); refine run_nil ?_; refine fin_seq ?_; refine goes_block ?_)
    refine goes_loop (fun f : Nat => St.of [(1, o1 (.sl 1002 0 N)), (2, o1 (.ptr 2 0)), (4, o1 (.ptr 4 0)), (5, o1 (.ptr 5 0)), (6, vv (I6 k)), (7, o1 (.sl 19 0 N)), (8, vv (I6 f))] [(1002, wRo P), (1003, rowsRo T), (2, ⟨true, 26, 1, .flat [.sl 1003 0 T.length]⟩), (4, mBox), (5, ⟨true, 26, 1, .flat [.sl 1000 0 k]⟩), (1000, imOw Fk), (19, leOw (putL N (fun f => (iget P f).toNat) (fun f => iget P (iget r f).toNat) f))])
      (fun f => f ≤ N) (fun f => N - f) 0 (Nat.zero_le _) (Wk.of ⟨rfl, rfl, rfl, rfl, rfl, rfl, rfl, trivial⟩ ⟨rfl, rfl, rfl, rfl, rfl, rfl, rfl, trivial⟩ trivial) ?_
    intro f hf
    have hs := putL_succ N (fun f => (iget P f).toNat) (fun f => iget P (iget r f).toNat) f
    have hL := putL_len N (fun f => (iget P f).toNat) (fun f => iget P (iget r f).toNat) f
    obtain ⟨L, hLe⟩ : ∃ L, putL N (fun f => (iget P f).toNat) (fun f => iget P (iget r f).toNat) f = L := ⟨_, rfl⟩
    rw [hLe] at hs hL ⊢
    have hLi : N ≤ (ivals L).length := by rw [ivals_len, hL]; exact Nat.le_refl _
    (refine goes_seq ?_; refine goes_seq ?_; refine goes_region ?_; apply run_step rfl; (exact stp_move rfl rfl); apply run_step rfl; (exact stp_move rfl rfl); apply run_step rfl; (exact stp_len rfl rfl rfl (by as_aux_lemma => kernel_rfl)); apply run_step rfl; (exact stp_bin rfl rfl rfl rfl); refine run_nil ?_; refine fin_seq ?_)
    refine goes_if rfl (fun h2 => ?_) (fun h2 => ?_)
    · have hfN : f < N := by omega
      obtain ⟨d, hd⟩ := Int.eq_ofNat_of_zero_le (hin f hfN).1
      have hdN : d < N := by have := (hin f hfN).2; omega
      obtain ⟨e, he⟩ := Int.eq_ofNat_of_zero_le (hrin f hfN).1
      have heN : e < N := by have := (hrin f hfN).2; omega
      rw [hd, he, Int.toNat_natCast, Int.toNat_natCast] at hs
      have gf : (ivals P)[f]? = some (I6 (d : Int)) := by rw [ivals_get (by omega), hd]
      have gr : (ivals r)[f]? = some (I6 (e : Int)) := by rw [ivals_get (by omega), he]
      have ge : (ivals P)[e]? = some (I6 (iget P e)) := ivals_get (by omega)
      (refine goes_skip ?_; refine fin_seq ?_; refine goes_seq ?_; refine goes_block ?_)
      apply goes_draw 16 [] [[], [], [], [1, 2], [1, 2, 3], [], [], [6], [], [6, 7, 8], [6, 7, 8, 9], [], [6, 7, 8, 9, 10, 11], [6, 7, 8, 9, 10, 11, 12], [5, 6, 7, 8, 9, 10, 11, 12, 13], [5, 6, 7, 8, 9, 10, 11, 12, 13, 14], [0, 1, 2, 3, 4, 5, 6, 7, 8, 9, 10, 11, 12, 13, 14, 15], [0, 1, 2, 3, 4, 5, 6, 7, 8, 9, 10, 11, 12, 13, 14, 15, 16]] [26, 27, 28, 29, 30, 31, 32, 33, 34, 35, 36, 37, 38, 39, 40, 41] [] (by kernel_rfl) (by kernel_rfl)
      · (apply draw_put rfl; (intro S1 hS; exact stp_move rfl (hS.op rfl)); apply draw_put rfl; (intro S1 hS; exact stp_move rfl (hS.op rfl)); apply draw_put rfl; (intro S1 hS; exact stp_move rfl (hS.op rfl)); (first | (apply draw_put rfl; (focus (intro S1 hS; exact stp_ix (j := f) rfl (hS.op rfl) (hS.op rfl) (hS.ch _ _ rfl) rfl (by as_aux_lemma => kernel_rfl) rfl hfN hPi))) | (apply draw_put rfl; (focus (intro S1 hS; exact stp_ix (j := e) rfl (hS.op rfl) (hS.op rfl) (hS.ch _ _ rfl) rfl (by as_aux_lemma => kernel_rfl) rfl heN hPi))) | (apply draw_put rfl; (focus (intro S1 hS; exact stp_ix (j := k) rfl (hS.op rfl) (hS.op rfl) (hS.ch _ _ rfl) rfl (by as_aux_lemma => kernel_rfl) rfl hkn (Nat.le_of_eq hTl.symm)))) | (apply draw_put rfl; (focus (intro S1 hS; exact stp_loadF rfl (by as_aux_lemma => kernel_rfl) (hS.op rfl) (hS.ch _ _ rfl) rfl rfl))) | (apply draw_put rfl; (focus (intro S1 hS; exact stp_loadR rfl (by as_aux_lemma => kernel_rfl) (hS.op rfl) (hS.ch _ _ rfl) rfl hrow hil))) | (apply draw_put rfl; (focus (intro S1 hS; exact stp_loadV rfl (by as_aux_lemma => kernel_rfl) (hS.op rfl) (hS.ch _ _ rfl) rfl gf))) | (apply draw_put rfl; (focus (intro S1 hS; exact stp_loadV rfl (by as_aux_lemma => kernel_rfl) (hS.op rfl) (hS.ch _ _ rfl) rfl ge))) | (apply draw_put rfl; (focus (intro S1 hS; exact stp_ixE (j := f) rfl (hS.op rfl) (hS.op rfl) (hS.ch _ _ rfl) rfl (by as_aux_lemma => kernel_rfl) hrow rfl hfN (Nat.le_of_eq hil.symm)))) | (apply draw_put rfl; (focus (intro S1 hS; exact stp_loadE' rfl (by as_aux_lemma => kernel_rfl) (hS.op rfl) (hS.ch _ _ rfl) rfl hrow gr)))); (first | (apply draw_put rfl; (focus (intro S1 hS; exact stp_ix (j := f) rfl (hS.op rfl) (hS.op rfl) (hS.ch _ _ rfl) rfl (by as_aux_lemma => kernel_rfl) rfl hfN hPi))) | (apply draw_put rfl; (focus (intro S1 hS; exact stp_ix (j := e) rfl (hS.op rfl) (hS.op rfl) (hS.ch _ _ rfl) rfl (by as_aux_lemma => kernel_rfl) rfl heN hPi))) | (apply draw_put rfl; (focus (intro S1 hS; exact stp_ix (j := k) rfl (hS.op rfl) (hS.op rfl) (hS.ch _ _ rfl) rfl (by as_aux_lemma => kernel_rfl) rfl hkn (Nat.le_of_eq hTl.symm)))) | (apply draw_put rfl; (focus (intro S1 hS; exact stp_loadF rfl (by as_aux_lemma => kernel_rfl) (hS.op rfl) (hS.ch _ _ rfl) rfl rfl))) | (apply draw_put rfl; (focus (intro S1 hS; exact stp_loadR rfl (by as_aux_lemma => kernel_rfl) (hS.op rfl) (hS.ch _ _ rfl) rfl hrow hil))) | (apply draw_put rfl; (focus (intro S1 hS; exact stp_loadV rfl (by as_aux_lemma => kernel_rfl) (hS.op rfl) (hS.ch _ _ rfl) rfl gf))) | (apply draw_put rfl; (focus (intro S1 hS; exact stp_loadV rfl (by as_aux_lemma => kernel_rfl) (hS.op rfl) (hS.ch _ _ rfl) rfl ge))) | (apply draw_put rfl; (focus (intro S1 hS; exact stp_ixE (j := f) rfl (hS.op rfl) (hS.op rfl) (hS.ch _ _ rfl) rfl (by as_aux_lemma => kernel_rfl) hrow rfl hfN (Nat.le_of_eq hil.symm)))) | (apply draw_put rfl; (focus (intro S1 hS; exact stp_loadE' rfl (by as_aux_lemma => kernel_rfl) (hS.op rfl) (hS.ch _ _ rfl) rfl hrow gr)))); apply draw_put rfl; (intro S1 hS; exact stp_move rfl (hS.op rfl)); apply draw_put rfl; (intro S1 hS; exact stp_fieldAddr (d := 0) rfl (hS.op rfl) (hS.ch _ _ rfl) (by as_aux_lemma => kernel_rfl)); (first | (apply draw_put rfl; (focus (intro S1 hS; exact stp_ix (j := f) rfl (hS.op rfl) (hS.op rfl) (hS.ch _ _ rfl) rfl (by as_aux_lemma => kernel_rfl) rfl hfN hPi))) | (apply draw_put rfl; (focus (intro S1 hS; exact stp_ix (j := e) rfl (hS.op rfl) (hS.op rfl) (hS.ch _ _ rfl) rfl (by as_aux_lemma => kernel_rfl) rfl heN hPi))) | (apply draw_put rfl; (focus (intro S1 hS; exact stp_ix (j := k) rfl (hS.op rfl) (hS.op rfl) (hS.ch _ _ rfl) rfl (by as_aux_lemma => kernel_rfl) rfl hkn (Nat.le_of_eq hTl.symm)))) | (apply draw_put rfl; (focus (intro S1 hS; exact stp_loadF rfl (by as_aux_lemma => kernel_rfl) (hS.op rfl) (hS.ch _ _ rfl) rfl rfl))) | (apply draw_put rfl; (focus (intro S1 hS; exact stp_loadR rfl (by as_aux_lemma => kernel_rfl) (hS.op rfl) (hS.ch _ _ rfl) rfl hrow hil))) | (apply draw_put rfl; (focus (intro S1 hS; exact stp_loadV rfl (by as_aux_lemma => kernel_rfl) (hS.op rfl) (hS.ch _ _ rfl) rfl gf))) | (apply draw_put rfl; (focus (intro S1 hS; exact stp_loadV rfl (by as_aux_lemma => kernel_rfl) (hS.op rfl) (hS.ch _ _ rfl) rfl ge))) | (apply draw_put rfl; (focus (intro S1 hS; exact stp_ixE (j := f) rfl (hS.op rfl) (hS.op rfl) (hS.ch _ _ rfl) rfl (by as_aux_lemma => kernel_rfl) hrow rfl hfN (Nat.le_of_eq hil.symm)))) | (apply draw_put rfl; (focus (intro S1 hS; exact stp_loadE' rfl (by as_aux_lemma => kernel_rfl) (hS.op rfl) (hS.ch _ _ rfl) rfl hrow gr)))); apply draw_put rfl; (intro S1 hS; exact stp_move rfl (hS.op rfl)); (first | (apply draw_put rfl; (focus (intro S1 hS; exact stp_ix (j := f) rfl (hS.op rfl) (hS.op rfl) (hS.ch _ _ rfl) rfl (by as_aux_lemma => kernel_rfl) rfl hfN hPi))) | (apply draw_put rfl; (focus (intro S1 hS; exact stp_ix (j := e) rfl (hS.op rfl) (hS.op rfl) (hS.ch _ _ rfl) rfl (by as_aux_lemma => kernel_rfl) rfl heN hPi))) | (apply draw_put rfl; (focus (intro S1 hS; exact stp_ix (j := k) rfl (hS.op rfl) (hS.op rfl) (hS.ch _ _ rfl) rfl (by as_aux_lemma => kernel_rfl) rfl hkn (Nat.le_of_eq hTl.symm)))) | (apply draw_put rfl; (focus (intro S1 hS; exact stp_loadF rfl (by as_aux_lemma => kernel_rfl) (hS.op rfl) (hS.ch _ _ rfl) rfl rfl))) | (apply draw_put rfl; (focus (intro S1 hS; exact stp_loadR rfl (by as_aux_lemma => kernel_rfl) (hS.op rfl) (hS.ch _ _ rfl) rfl hrow hil))) | (apply draw_put rfl; (focus (intro S1 hS; exact stp_loadV rfl (by as_aux_lemma => kernel_rfl) (hS.op rfl) (hS.ch _ _ rfl) rfl gf))) | (apply draw_put rfl; (focus (intro S1 hS; exact stp_loadV rfl (by as_aux_lemma => kernel_rfl) (hS.op rfl) (hS.ch _ _ rfl) rfl ge))) | (apply draw_put rfl; (focus (intro S1 hS; exact stp_ixE (j := f) rfl (hS.op rfl) (hS.op rfl) (hS.ch _ _ rfl) rfl (by as_aux_lemma => kernel_rfl) hrow rfl hfN (Nat.le_of_eq hil.symm)))) | (apply draw_put rfl; (focus (intro S1 hS; exact stp_loadE' rfl (by as_aux_lemma => kernel_rfl) (hS.op rfl) (hS.ch _ _ rfl) rfl hrow gr)))); (first | (apply draw_put rfl; (focus (intro S1 hS; exact stp_ix (j := f) rfl (hS.op rfl) (hS.op rfl) (hS.ch _ _ rfl) rfl (by as_aux_lemma => kernel_rfl) rfl hfN hPi))) | (apply draw_put rfl; (focus (intro S1 hS; exact stp_ix (j := e) rfl (hS.op rfl) (hS.op rfl) (hS.ch _ _ rfl) rfl (by as_aux_lemma => kernel_rfl) rfl heN hPi))) | (apply draw_put rfl; (focus (intro S1 hS; exact stp_ix (j := k) rfl (hS.op rfl) (hS.op rfl) (hS.ch _ _ rfl) rfl (by as_aux_lemma => kernel_rfl) rfl hkn (Nat.le_of_eq hTl.symm)))) | (apply draw_put rfl; (focus (intro S1 hS; exact stp_loadF rfl (by as_aux_lemma => kernel_rfl) (hS.op rfl) (hS.ch _ _ rfl) rfl rfl))) | (apply draw_put rfl; (focus (intro S1 hS; exact stp_loadR rfl (by as_aux_lemma => kernel_rfl) (hS.op rfl) (hS.ch _ _ rfl) rfl hrow hil))) | (apply draw_put rfl; (focus (intro S1 hS; exact stp_loadV rfl (by as_aux_lemma => kernel_rfl) (hS.op rfl) (hS.ch _ _ rfl) rfl gf))) | (apply draw_put rfl; (focus (intro S1 hS; exact stp_loadV rfl (by as_aux_lemma => kernel_rfl) (hS.op rfl) (hS.ch _ _ rfl) rfl ge))) | (apply draw_put rfl; (focus (intro S1 hS; exact stp_ixE (j := f) rfl (hS.op rfl) (hS.op rfl) (hS.ch _ _ rfl) rfl (by as_aux_lemma => kernel_rfl) hrow rfl hfN (Nat.le_of_eq hil.symm)))) | (apply draw_put rfl; (focus (intro S1 hS; exact stp_loadE' rfl (by as_aux_lemma => kernel_rfl) (hS.op rfl) (hS.ch _ _ rfl) rfl hrow gr)))); apply draw_put rfl; (intro S1 hS; exact stp_move rfl (hS.op rfl)); (first | (apply draw_put rfl; (focus (intro S1 hS; exact stp_ix (j := f) rfl (hS.op rfl) (hS.op rfl) (hS.ch _ _ rfl) rfl (by as_aux_lemma => kernel_rfl) rfl hfN hPi))) | (apply draw_put rfl; (focus (intro S1 hS; exact stp_ix (j := e) rfl (hS.op rfl) (hS.op rfl) (hS.ch _ _ rfl) rfl (by as_aux_lemma => kernel_rfl) rfl heN hPi))) | (apply draw_put rfl; (focus (intro S1 hS; exact stp_ix (j := k) rfl (hS.op rfl) (hS.op rfl) (hS.ch _ _ rfl) rfl (by as_aux_lemma => kernel_rfl) rfl hkn (Nat.le_of_eq hTl.symm)))) | (apply draw_put rfl; (focus (intro S1 hS; exact stp_loadF rfl (by as_aux_lemma => kernel_rfl) (hS.op rfl) (hS.ch _ _ rfl) rfl rfl))) | (apply draw_put rfl; (focus (intro S1 hS; exact stp_loadR rfl (by as_aux_lemma => kernel_rfl) (hS.op rfl) (hS.ch _ _ rfl) rfl hrow hil))) | (apply draw_put rfl; (focus (intro S1 hS; exact stp_loadV rfl (by as_aux_lemma => kernel_rfl) (hS.op rfl) (hS.ch _ _ rfl) rfl gf))) | (apply draw_put rfl; (focus (intro S1 hS; exact stp_loadV rfl (by as_aux_lemma => kernel_rfl) (hS.op rfl) (hS.ch _ _ rfl) rfl ge))) | (apply draw_put rfl; (focus (intro S1 hS; exact stp_ixE (j := f) rfl (hS.op rfl) (hS.op rfl) (hS.ch _ _ rfl) rfl (by as_aux_lemma => kernel_rfl) hrow rfl hfN (Nat.le_of_eq hil.symm)))) | (apply draw_put rfl; (focus (intro S1 hS; exact stp_loadE' rfl (by as_aux_lemma => kernel_rfl) (hS.op rfl) (hS.ch _ _ rfl) rfl hrow gr)))); (first | (apply draw_put rfl; (focus (intro S1 hS; exact stp_ix (j := f) rfl (hS.op rfl) (hS.op rfl) (hS.ch _ _ rfl) rfl (by as_aux_lemma => kernel_rfl) rfl hfN hPi))) | (apply draw_put rfl; (focus (intro S1 hS; exact stp_ix (j := e) rfl (hS.op rfl) (hS.op rfl) (hS.ch _ _ rfl) rfl (by as_aux_lemma => kernel_rfl) rfl heN hPi))) | (apply draw_put rfl; (focus (intro S1 hS; exact stp_ix (j := k) rfl (hS.op rfl) (hS.op rfl) (hS.ch _ _ rfl) rfl (by as_aux_lemma => kernel_rfl) rfl hkn (Nat.le_of_eq hTl.symm)))) | (apply draw_put rfl; (focus (intro S1 hS; exact stp_loadF rfl (by as_aux_lemma => kernel_rfl) (hS.op rfl) (hS.ch _ _ rfl) rfl rfl))) | (apply draw_put rfl; (focus (intro S1 hS; exact stp_loadR rfl (by as_aux_lemma => kernel_rfl) (hS.op rfl) (hS.ch _ _ rfl) rfl hrow hil))) | (apply draw_put rfl; (focus (intro S1 hS; exact stp_loadV rfl (by as_aux_lemma => kernel_rfl) (hS.op rfl) (hS.ch _ _ rfl) rfl gf))) | (apply draw_put rfl; (focus (intro S1 hS; exact stp_loadV rfl (by as_aux_lemma => kernel_rfl) (hS.op rfl) (hS.ch _ _ rfl) rfl ge))) | (apply draw_put rfl; (focus (intro S1 hS; exact stp_ixE (j := f) rfl (hS.op rfl) (hS.op rfl) (hS.ch _ _ rfl) rfl (by as_aux_lemma => kernel_rfl) hrow rfl hfN (Nat.le_of_eq hil.symm)))) | (apply draw_put rfl; (focus (intro S1 hS; exact stp_loadE' rfl (by as_aux_lemma => kernel_rfl) (hS.op rfl) (hS.ch _ _ rfl) rfl hrow gr)))); (first | (apply draw_put rfl; (focus (intro S1 hS; exact stp_ix (j := f) rfl (hS.op rfl) (hS.op rfl) (hS.ch _ _ rfl) rfl (by as_aux_lemma => kernel_rfl) rfl hfN hPi))) | (apply draw_put rfl; (focus (intro S1 hS; exact stp_ix (j := e) rfl (hS.op rfl) (hS.op rfl) (hS.ch _ _ rfl) rfl (by as_aux_lemma => kernel_rfl) rfl heN hPi))) | (apply draw_put rfl; (focus (intro S1 hS; exact stp_ix (j := k) rfl (hS.op rfl) (hS.op rfl) (hS.ch _ _ rfl) rfl (by as_aux_lemma => kernel_rfl) rfl hkn (Nat.le_of_eq hTl.symm)))) | (apply draw_put rfl; (focus (intro S1 hS; exact stp_loadF rfl (by as_aux_lemma => kernel_rfl) (hS.op rfl) (hS.ch _ _ rfl) rfl rfl))) | (apply draw_put rfl; (focus (intro S1 hS; exact stp_loadR rfl (by as_aux_lemma => kernel_rfl) (hS.op rfl) (hS.ch _ _ rfl) rfl hrow hil))) | (apply draw_put rfl; (focus (intro S1 hS; exact stp_loadV rfl (by as_aux_lemma => kernel_rfl) (hS.op rfl) (hS.ch _ _ rfl) rfl gf))) | (apply draw_put rfl; (focus (intro S1 hS; exact stp_loadV rfl (by as_aux_lemma => kernel_rfl) (hS.op rfl) (hS.ch _ _ rfl) rfl ge))) | (apply draw_put rfl; (focus (intro S1 hS; exact stp_ixE (j := f) rfl (hS.op rfl) (hS.op rfl) (hS.ch _ _ rfl) rfl (by as_aux_lemma => kernel_rfl) hrow rfl hfN (Nat.le_of_eq hil.symm)))) | (apply draw_put rfl; (focus (intro S1 hS; exact stp_loadE' rfl (by as_aux_lemma => kernel_rfl) (hS.op rfl) (hS.ch _ _ rfl) rfl hrow gr)))); (first | (apply draw_put rfl; (focus (intro S1 hS; exact stp_ix (j := f) rfl (hS.op rfl) (hS.op rfl) (hS.ch _ _ rfl) rfl (by as_aux_lemma => kernel_rfl) rfl hfN hPi))) | (apply draw_put rfl; (focus (intro S1 hS; exact stp_ix (j := e) rfl (hS.op rfl) (hS.op rfl) (hS.ch _ _ rfl) rfl (by as_aux_lemma => kernel_rfl) rfl heN hPi))) | (apply draw_put rfl; (focus (intro S1 hS; exact stp_ix (j := k) rfl (hS.op rfl) (hS.op rfl) (hS.ch _ _ rfl) rfl (by as_aux_lemma => kernel_rfl) rfl hkn (Nat.le_of_eq hTl.symm)))) | (apply draw_put rfl; (focus (intro S1 hS; exact stp_loadF rfl (by as_aux_lemma => kernel_rfl) (hS.op rfl) (hS.ch _ _ rfl) rfl rfl))) | (apply draw_put rfl; (focus (intro S1 hS; exact stp_loadR rfl (by as_aux_lemma => kernel_rfl) (hS.op rfl) (hS.ch _ _ rfl) rfl hrow hil))) | (apply draw_put rfl; (focus (intro S1 hS; exact stp_loadV rfl (by as_aux_lemma => kernel_rfl) (hS.op rfl) (hS.ch _ _ rfl) rfl gf))) | (apply draw_put rfl; (focus (intro S1 hS; exact stp_loadV rfl (by as_aux_lemma => kernel_rfl) (hS.op rfl) (hS.ch _ _ rfl) rfl ge))) | (apply draw_put rfl; (focus (intro S1 hS; exact stp_ixE (j := f) rfl (hS.op rfl) (hS.op rfl) (hS.ch _ _ rfl) rfl (by as_aux_lemma => kernel_rfl) hrow rfl hfN (Nat.le_of_eq hil.symm)))) | (apply draw_put rfl; (focus (intro S1 hS; exact stp_loadE' rfl (by as_aux_lemma => kernel_rfl) (hS.op rfl) (hS.ch _ _ rfl) rfl hrow gr)))); exact Draw.nil)
      · rfl
      ((apply rest_one 16 rfl (by as_aux_lemma => kernel_rfl) rfl rfl; (first | exact stp_ix (j := d) rfl rfl rfl rfl rfl (by as_aux_lemma => kernel_rfl) rfl hdN hLi | exact stp_stI rfl rfl rfl rfl rfl (by omega) (by as_aux_lemma => kernel_rfl))); (apply rest_one 17 rfl (by as_aux_lemma => kernel_rfl) rfl rfl; (first | exact stp_ix (j := d) rfl rfl rfl rfl rfl (by as_aux_lemma => kernel_rfl) rfl hdN hLi | exact stp_stI rfl rfl rfl rfl rfl (by omega) (by as_aux_lemma => kernel_rfl))); (refine rest_done (by as_aux_lemma => kernel_rfl) ?_; skip))
      (refine fin_block ?_; refine fin_seq ?_; refine goes_region ?_; apply run_step rfl; (exact stp_move rfl rfl); apply run_step rfl; (exact stp_add rfl rfl rfl (by first | exact IntWalk.i64_in _ (by omega) | rfl)); apply run_step rfl; (exact stp_assign rfl rfl); refine run_nil ?_)
      exact fin_round (f + 1) hfN (by show N - (f + 1) < N - f; omega) (Wk.of ⟨rfl, rfl, rfl, rfl, rfl, rfl, rfl, trivial⟩ ⟨rfl, rfl, rfl, rfl, rfl, rfl, congrArg (fun l => some (leOw l)) hs.symm, trivial⟩ trivial)
    · obtain rfl : f = N := by omega
      rw [hLe] at hfr
      rw [hfr] at hnext
      (refine goes_exit ?_; refine fin_exit_then ?_; refine fin_exit_then ?_; refine fin_exit_eq ?_; refine fin_seq ?_; refine goes_region ?_; apply run_step rfl; (exact stp_fieldAddr (d := 0) rfl rfl rfl (by as_aux_lemma => kernel_rfl)); apply run_step rfl; (first | exact stp_loadF rfl (by as_aux_lemma => kernel_rfl) rfl rfl rfl rfl | exact stp_lit1 rfl rfl rfl rfl rfl | exact stp_appR (E := 38) (F := 2) rfl (by as_aux_lemma => kernel_rfl) rfl rfl hkl rfl rfl rfl hL rfl (by omega) | exact stp_storeF rfl rfl rfl rfl rfl rfl (by as_aux_lemma => kernel_rfl) rfl); apply run_step rfl; (exact stp_move rfl rfl); apply run_step rfl; (exact stp_lit1 (E := 38) rfl (by as_aux_lemma => kernel_rfl) rfl rfl rfl); apply run_step rfl; (first | exact stp_loadF rfl (by as_aux_lemma => kernel_rfl) rfl rfl rfl rfl | exact stp_lit1 rfl rfl rfl rfl rfl | exact stp_appR (E := 38) (F := 2) rfl (by as_aux_lemma => kernel_rfl) rfl rfl hkl rfl rfl rfl hL rfl (by omega) | exact stp_storeF rfl rfl rfl rfl rfl rfl (by as_aux_lemma => kernel_rfl) rfl); apply run_step rfl; (exact stp_fieldAddr (d := 0) rfl rfl rfl (by as_aux_lemma => kernel_rfl)); apply run_step rfl; (first | exact stp_loadF rfl (by as_aux_lemma => kernel_rfl) rfl rfl rfl rfl | exact stp_lit1 rfl rfl rfl rfl rfl | exact stp_appR (E := 38) (F := 2) rfl (by as_aux_lemma => kernel_rfl) rfl rfl hkl rfl rfl rfl hL rfl (by omega) | exact stp_storeF rfl rfl rfl rfl rfl rfl (by as_aux_lemma => kernel_rfl) rfl); refine run_nil ?_; refine fin_block ?_; refine fin_seq ?_; refine goes_region ?_; apply run_step rfl; (exact stp_move rfl rfl); apply run_step rfl; (exact stp_add rfl rfl rfl (by first | exact IntWalk.i64_in _ (by omega) | rfl)); apply run_step rfl; (exact stp_assign rfl rfl); refine run_nil ?_)
      exact fin_round (k + 1) hkn (by show T.length - (k + 1) < T.length - k; omega) (Wk.of ⟨rfl, rfl, rfl, rfl, rfl, trivial⟩ ⟨rfl, rfl, rfl, rfl, rfl, congrArg (fun l => some (imOw l)) hnext.symm, trivial⟩ trivial)
  · obtain rfl : k = T.length := by omega
    rw [List.take_length]
    (refine goes_exit ?_; refine fin_exit_then ?_; refine fin_exit_then ?_; refine fin_exit_eq ?_; refine fin_seq ?_; refine goes_seq ?_; refine goes_region ?_; apply run_step rfl; (first | exact stp_loadAgg (k := 1) rfl rfl rfl rfl rfl rfl (by as_aux_lemma => kernel_rfl) | exact stp_storeAgg rfl rfl rfl rfl rfl rfl rfl rfl (by as_aux_lemma => kernel_rfl) rfl); apply run_step rfl; (first | exact stp_loadAgg (k := 1) rfl rfl rfl rfl rfl rfl (by as_aux_lemma => kernel_rfl) | exact stp_storeAgg rfl rfl rfl rfl rfl rfl rfl rfl (by as_aux_lemma => kernel_rfl) rfl); refine run_nil ?_; refine fin_seq ?_; refine goes_ret ?_)
    exact fin_ret1 (.inl rfl) rfl (.cell rfl rfl rfl rfl rfl (by as_aux_lemma => kernel_rfl)) ⟨rfl, trivial⟩ trivial
end Go.Proofs.YtmdhljleaijkbaaGreatDoor

/- Draws of maniplexes: l02Renumber in words. -/
namespace Go.Proofs.YtmdhljleaijkbaaGreatDoor
open Go.RowKit

theorem putL_low {N M : Nat} {g : Nat → Nat} {v : Nat → Int} (hM : 0 < M) : ∀ m, (∀ i, i < m → 0 ≤ v i ∧ v i < M) → Low M (putL N g v m)
  | 0, _ => fun z hz => by rw [putL_zero] at hz; rw [(List.mem_replicate.1 hz).2]; omega
  | m + 1, h => by
    rw [putL_succ]
    exact low_set (putL_low hM m fun i hi => h i (by omega)) (h m (by omega))
theorem formL_sq {T : List (List Int)} {P : List Int} {N : Nat} (hT : Leads T N) (hN : 0 < N) (hP : P.length = N) (hl : Low N P) : Sq (formL T P) N := fun r hr => by
  unfold formL at hr
  obtain ⟨q, hq, rfl⟩ := List.mem_map.1 hr
  obtain ⟨k, hk, rfl⟩ := List.getElem_of_mem hq
  unfold fRow
  rw [hP]
  refine ⟨putL_len _ _ _ _, putL_low hN _ fun i hi => ?_⟩
  have h1 := hT.within k hk i hi
  rw [lget_lt hk] at h1
  exact low_get hl (by omega)
theorem ren_any (ao po : Option Addr) (n c N cp : Nat) (d : List (List Int)) (zs : List Int) (w : World) (hd : RdSSc w (.slice ao n c) d) (hp : OwS 2 w (.slice po N cp) zs) (hT : Leads d N) (hl : zs.length = N) (hlow : Low N zs) (hN : 1 ≤ N) (hN9 : N ≤ 1000) (hn9 : n ≤ 1000) :
    Calls Tryz.prog 70 #[.agg #[.slice ao n c], .slice po N cp] w fun e w' => ∃ v r, e = .returned v ∧ OwM 2 38 w' w.heap.size w'.heap.size v r ∧ r.length = n ∧ Sq r N ∧ Below w.heap.size w w' := by
  have hdl := hd.intss.1
  have hin : ∀ f, f < N → 0 ≤ iget zs f ∧ iget zs f < N := fun f hf => low_get hlow (by omega)
  obtain ⟨hd', r, e1, hv⟩ := ofSSc 1003 38 2 hd
  obtain ⟨hp', r', e2, hv'⟩ := ofS 1002 2 hp
  rw [e1, e2]
  have hR := renS_fc d zs N hT hl hin (by omega) (by omega)
  have hF : (formL d zs).length = d.length := by simp [formL]
  have hS := formL_sq hT (by omega) hl hlow
  have hc := hR.call (w := w) (l := [(1002, (wRo zs, hp', r')), (1003, (rowsRo d, hd', r))]) (us := [_, _]) (fun p hp => by simp at hp; rcases hp with rfl | rfl; exact hv'; exact hv) rfl (denL2 (denM (den_sl (q := (rowsRo d, hd', r)) rfl)) (by have := den_sl (l := [(1002, (wRo zs, hp', r')), (1003, (rowsRo d, hd', r))]) (x := 1002) (q := (wRo zs, hp', r')) (n := N) rfl; exact this))
  refine Calls.mono (by rw [hl] at *; exact hc) ?_
  rintro e w' ⟨v, η, ω, rfl, hdn, hm, hB, hn⟩
  obtain ⟨us, rfl, hus, ha⟩ := hdn
  obtain ⟨u0, g0, d0⟩ := ha 0 _ rfl
  have e0 : us = #[u0] := by
    have hus : us.size = 1 := hus
    apply Array.ext (by simpa using hus)
    intro i q1 q2
    obtain rfl : i = 0 := by simp at q2; omega
    rw [Array.getElem?_eq_getElem q1] at g0
    simpa using g0
  subst e0
  obtain ⟨ao', n', c', us', rfl, hor⟩ := toSS (zss := formL d zs) (x := 1000) (E := 38) (F := 2) hm hn rfl (by rw [hF]; exact d0) (by rw [hF]; omega) (fun r hr => by rw [(hS r hr).1]; omega)
  exact ⟨_, formL d zs, rfl, ⟨ao', n', c', us', rfl, hor⟩, by rw [hF]; exact hdl, hS, hB⟩
end Go.Proofs.YtmdhljleaijkbaaGreatDoor

/- Draws of maniplexes: l02Draw. guards: -/
namespace Go.Proofs.YtmdhljleaijkbaaGreatDoor
open Go.RowKit

/-- lists that lie in blocks from lo on -/
def RdLo (w : World) (lo : Nat) (v : Value) (d : List (List Int)) : Prop := ∀ wx : World, w.heap.size ≤ wx.heap.size → (∀ g, lo ≤ g → g < w.heap.size → wx.heap[g]? = w.heap[g]?) → RdSSc wx v d
section
variable {w w2 : World} {lo : Nat} {v v' : Value} {d d' : List (List Int)}
theorem RdLo.rd (h : RdLo w lo v d) : RdSSc w v d := h w (Nat.le_refl _) fun _ _ _ => rfl
theorem RdLo.map (h : RdLo w lo v d) (hm : ∀ wx, RdSSc wx v d → RdSSc wx v' d') : RdLo w lo v' d' := fun wx hs hg => hm wx (h wx hs hg)
theorem RdLo.mono (h : RdLo w lo v d) {lo' : Nat} (hl : lo' ≤ lo) : RdLo w lo' v d := fun wx hs hg => h wx hs fun g h1 h2 => hg g (by omega) h2
theorem RdLo.step (h : RdLo w lo v d) (hz : w.heap.size ≤ w2.heap.size) (hb : ∀ g, lo ≤ g → g < w.heap.size → w2.heap[g]? = w.heap[g]?) : RdLo w2 lo v d := fun wx hs hg => h wx (Nat.le_trans hz hs) fun g h1 h2 => (hg g h1 (by omega)).trans (hb g h1 h2)
theorem RdLo.only {sb : Nat} (h : RdLo w lo v d) (ho : Only sb (sb + 1) w w2) (hs : sb < lo) : RdLo w2 lo v d := h.step ho.size fun g h1 h2 => ho.block g h2 (.inr (by omega))
theorem RdLo.below (h : RdLo w lo v d) (hb : Below w.heap.size w w2) : RdLo w2 lo v d := h.step hb.size fun g _ h2 => hb.block g h2
theorem RdLo.setBox (h : RdLo w lo v d) {b : Nat} (hb : b < lo ∨ w.heap.size ≤ b) (u : Value) : RdLo (w.setCell ⟨b, 0, none⟩ u) lo v d := h.step (by simp [World.setCell]) fun g h1 h2 => Below.heap_setCell _ _ _ g (by show g ≠ b; omega)
end
theorem OwR.rdlo {w : World} {lo hi n c : Nat} {a : Option Addr} {us : List Value} {ds : List (List Int)} (h : OwR (OwS 2) w lo hi 38 a n c us ds) : RdLo w lo (.slice a n c) ds := fun wx _ hg => OwSS.rdc ⟨_, _, _, _, rfl, h.same (innerS _) fun g h1 _ h3 => hg g h1 h3⟩
theorem OwM.rdlo {w : World} {lo hi n c : Nat} {a : Option Addr} {ds : List (List Int)} (h : OwM 2 38 w lo hi (.agg #[.slice a n c]) ds) : RdLo w lo (.slice a n c) ds := by
  obtain ⟨a', n', c', us, e, hor⟩ := h
  injection e with e
  have e2 : (.slice a n c : Value) = .slice a' n' c' := by
    have := congrArg (fun x : Array Value => x[0]?) e
    simpa using this
  injection e2 with e3 e4 e5
  subst e3 e4 e5
  exact hor.rdlo
/-- a maniplex that is read only, drawn beside a source -/
structure MxR (w wx : World) (sb : Nat) (a : Option Addr) (n c : Nat) (d : List (List Int)) : Prop where
  rd : RdLo wx w.heap.size (.slice a n c) d
  few : FewSS d
  src : Src wx sb
  only : Only sb (sb + 1) w wx
theorem sq_few {d : List (List Int)} {N : Nat} (h : Sq d N) (hN : N ≤ 1000) (hd : d.length ≤ 1000) : FewSS d := ⟨by omega, fun i hi => by rw [lget_lt hi]; have := (h _ (List.getElem_mem hi)).1; omega⟩
theorem MxS.r {w wx : World} {sb n c N : Nat} {a : Option Addr} {d : List (List Int)} (h : MxS w wx sb (.agg #[.slice a n c]) d N) (hN : N ≤ 1000) (hn : n ≤ 1000) : MxR w wx sb a n c d :=
  ⟨h.ow.rdlo, sq_few h.sq hN (by have := h.ow.rdcM.2; omega), h.src, h.only⟩
set_option maxRecDepth 100000 in
set_option maxHeartbeats 6400000 in
theorem drawS_any (sb most : Nat) (w : World) (h : Src w sb) (hsb : sb < w.heap.size) (hm8 : 8 ≤ most) (hm4 : most ≤ 400) :
    Calls Tryz.prog 82 #[.pointer (some ⟨sb, 0, none⟩), .int .i64 most] w fun e w' => ∃ a n c r N, e = .returned (.agg #[.slice a n c]) ∧ MxS w w' sb (.agg #[.slice a n c]) r N ∧ 1 ≤ n ∧ n ≤ 5 ∧ N ≤ most := by
  have b1 := below_alloc1 w (.cells #[.slice none 0 0] 26)
  have k1 : Blk (w.alloc (.cells #[.slice none 0 0] 26)) w.heap.size 26 #[.slice none 0 0] := blk_at rfl
  have hz1 : w.heap.size + 1 = (w.alloc (.cells #[.slice none 0 0] 26)).heap.size := by simp
  have S1 := Lib.hid (src_belowL h hsb b1)
  have O1 := Lib.hid (only_of_below (sb := sb) b1)
  have K1 := Lib.hid k1
  clear b1 k1 h
  go_enter Tryz.func82, Tryz.ntmps82
  go_upto_region 1 with fail
  generalize w.alloc (.cells #[.slice none 0 0] 26) = w1 at *
  go_wp2_with fail
  refine (any_any sb most w1 S1.out (by omega) hm8 hm4).mono ?_
  rintro e w2 ⟨a2, n, c2, d, N, rfl, m2, hn1, hn5, hNm⟩
  have kA := below_alloc1 w2 (.cells #[.slice a2 n c2] 26)
  have z12 := m2.only.size
  have km : Blk (w2.alloc (.cells #[.slice a2 n c2] 26)) w2.heap.size 26 #[.slice a2 n c2] := blk_at rfl
  have KR := Lib.hid ((K1.out.only m2.only (.inr (by omega))).alloc (.cells #[.slice a2 n c2] 26))
  have S3 := Lib.hid (src_belowL m2.src (by omega) kA)
  have O3 := Lib.hid ((O1.out.trans m2.only).trans (only_of_below kA))
  have M3 := Lib.hid (m2.ow.below kA)
  have SQ := Lib.hid m2.sq
  have hN1 := m2.pos
  have hz3 := kA.size
  clear m2 kA K1 S1 O1
  go_upto_region 2 with fail
  generalize w2.alloc (.cells #[.slice a2 n c2] 26) = w3 at *
  have KM := Lib.hid km
  have hlt3 := km.lt
  clear km
  go_wp2_with fail
  refine (next_any sb _ _ S3.out (by omega)).mono ?_
  rintro e w4 ⟨r, rfl, -, -, s4, o4⟩
  have S4 := Lib.hid s4
  have O4 := Lib.hid (O3.out.trans o4)
  have z34 := o4.size
  have KR4 := Lib.hid (KR.out.only o4 (.inr (by omega)))
  have KM4 := Lib.hid (KM.out.only o4 (.inr (by omega)))
  have M4 := Lib.hid (M3.out.only o4 (.inr (by omega)))
  clear s4 o4 S3 O3 KR KM M3
  have y4 := KM4.out.cell 0
  simp at y4
  by_cases hr : r = 0
  · have hr0 : ¬ (0 : Int) < (r : Int) := by omega
    have z4 := KR4.out.cell 0
    have f4 := KR4.out.frozen 0
    simp at z4
    have hF : MxS w (w4.setCell ⟨w.heap.size, 0, none⟩ (.slice a2 n c2)) sb (.agg #[.slice a2 n c2]) d N := ⟨(M4.out.only (only_set w4 w.heap.size 0 (.slice a2 n c2)) (.inr (by omega))).mono (by omega) (by simp [World.setCell]; omega), SQ.out, hN1, src_farL S4.out fun g hg => Below.heap_setCell _ _ _ g (by show g ≠ w.heap.size; omega), only_cell O4.out (Nat.le_refl _) _⟩
    have HF := Lib.hid hF
    clear hF
    go_wp2_with fail
    exact bodyPost_ret (v := .agg #[.slice a2 n c2]) (by simp [results, Tryz.f82, go_sem, z4]) rfl ⟨_, _, _, _, _, rfl, HF.out, hn1, hn5, hNm⟩
  · have hr0 : (0 : Int) < (r : Int) := by omega
    obtain ⟨hrd, hdl⟩ := M4.out.rdcM
    have HRD := Lib.hid hrd
    have hl0 : (lget d 0).length = N := SQ.out.leads.len 0 (by omega)
    clear hrd
    go_upto_region 3 with fail
    go_region_law (first
      | (go_simp; go_at_call 70; refine (ren_any a2 pa n c2 N pc d zs w6 (HRD6.out) zo SQ.out.leads zl zw hN1 (by omega) (by omega)).mono ?_; rintro e w7 ⟨v7, r7, rfl, o7, hr7, sq7, b7⟩; obtain ⟨a7, n7, c7, rfl⟩ := o7.form; have S7 := Lib.hid (src_belowL G6.out.src (by have := G6.out.only.size; omega) b7); have O7 := Lib.hid (only_below O6.out b7); have KR7 := Lib.hid (KR6.out.belowS b7); have y7 := KR7.out.cell 0; have f7 := KR7.out.frozen 0; simp at y7)
      | (go_simp; go_at_call 71; refine (draw_any sb N w5 S5.out (by omega) (by omega)).mono ?_; rintro e w6 ⟨pa, pc, rfl, g6⟩; have G6 := Lib.hid g6; have O6 := Lib.hid (O5.out.trans g6.only); have KR6 := Lib.hid (KR5.out.only g6.only (.inr (by omega))); have HRD6 := Lib.hid ((RL5.out.only g6.only (by omega)).rd); obtain ⟨zs, zl, zw, zo⟩ := g6.gl.ows; have hz56 := g6.only.size; have KM6 := Lib.hid (KM5.out.only g6.only (.inr (by omega))); have x6 := KM6.out.cell 0; simp at x6; clear g6)
      | (go_simp; go_at_call 26; refine (flagsS_any a2 n c2 N d w4.drew ((HRD.out.below (below_drew1 w4)).rd) (by omega) hl0 (by omega)).mono ?_; rintro e w5 ⟨rfl, b5⟩; have b5' : Below w4.heap.size w4 w5 := below_tr b5 (below_drew1 w4); have S5 := Lib.hid (src_belowL S4.out (by omega) b5'); have O5 := Lib.hid (only_below O4.out b5'); have KR5 := Lib.hid (KR4.out.belowS b5'); have RL5 := Lib.hid ((OwM.rdlo M4.out).below b5'); have hz45 := b5'.size; have KM5 := Lib.hid (KM4.out.belowS b5'); have x5 := KM5.out.cell 0; simp at x5))
    all_goals
      have hn7 : n7 = n := by have := o7.rdcM.2; omega
      subst hn7
      have hF : MxS w (w7.setCell ⟨w.heap.size, 0, none⟩ (.slice a7 n7 c7)) sb (.agg #[.slice a7 n7 c7]) r7 N := ⟨(o7.only (only_set w7 w.heap.size 0 (.slice a7 n7 c7)) (.inr (by omega))).mono (by omega) (by simp [World.setCell]), sq7, hN1, src_farL S7.out fun g hg => Below.heap_setCell _ _ _ g (by show g ≠ w.heap.size; omega), only_cell O7.out (Nat.le_refl _) _⟩
      have HF := Lib.hid hF
      clear hF o7 b7
      go_wp2_with fail
      exact bodyPost_ret (v := .agg #[.slice a7 n7 c7]) (by simp [results, Tryz.f82, go_sem, y7]) rfl ⟨_, _, _, _, _, rfl, HF.out, hn1, hn5, hNm⟩
end Go.Proofs.YtmdhljleaijkbaaGreatDoor

/- The mix of two maniplexes, the program's: walked, where the one covers the other. guards: -/
namespace Go.Proofs.YtmdhljleaijkbaaGreatDoor
open Go.RowKit

section
variable {P : Program} {ops : Array Oper} {rest : List Oper} {o : Oper} {a : Act} {Q : Exit → Act → World → Prop}
/-- append of one, the literal's block named -/
theorem wpList_ap1k {S E : TypeId} {z : Value} {bytes : Nat} (et : ET P S E z bytes) (w : World) (hg : o.guard = none) (s x : Operand) (ho : o.op = .call { callee := .builtin .append, args := #[s, x], argTypes := #[S, S] })
    (base : Nat) (ao : Option Addr) (n c : Nat) (xs : List Value) (hs : a.eval s = .slice ao n c) (hown : Own w base E ao n c xs) (u : Value) (k : Nat) (hk : w.heap.size = k)
    (hx : a.eval x = .slice (some ⟨k, 0, none⟩) 1 1) (hu : u.oneCell' = true) (hn : n + 1 ≤ 4398046511104) (hbase : base ≤ w.heap.size)
    (hK : ∀ ao' c' w', Own w' base E ao' (n + 1) c' (xs ++ [u]) → w.grownBy w' (bk ao) → (bk ao' = bk ao ∨ bk ao' = some (w.heap.size + 1)) → wpList P ops Q rest (a.put o.dst (.slice ao' (n + 1) c')) w') :
    wpList P ops Q (o :: rest) a (w.alloc (.cells #[u] E)) := by
  subst hk
  exact wpList_ap1 et w hg s x ho base ao n c xs hs hown u hx hu hn hbase hK
end
theorem by_tail2 {α β : Type} {H : α → β → Prop} (G : α → β → Prop) {R : Prop} (main : (∀ a b, H a b → G a b) → R) (tl : ∀ a b, H a b → G a b) : R := main tl
/-- the boxes ahead of the search -/
structure MxB (w wr : World) (p4 p6 p8 : Nat) (ao : Option Addr) (n c : Nat) (d : List (List Int)) (bo : Option Addr) (c' : Nat) (e : List (List Int)) : Prop where
  k4 : Blk wr p4 26 #[.slice ao n c]
  k6 : Blk wr p6 26 #[.slice bo n c']
  k8 : Blk wr p8 26 #[.slice none 0 0]
  r1 : RdSSc wr (.slice ao n c) d
  r2 : RdSSc wr (.slice bo n c') e
  bel : Below w.heap.size w wr
theorem MxB.next {w wr w2 : World} {p4 p6 p8 n c c' : Nat} {ao bo : Option Addr} {d e : List (List Int)} (h : MxB w wr p4 p6 p8 ao n c d bo c' e) (b : Below wr.heap.size wr w2) : MxB w w2 p4 p6 p8 ao n c d bo c' e :=
  ⟨h.k4.belowS b, h.k6.belowS b, h.k8.belowS b, h.r1.below b, h.r2.below b, below_tr b h.bel⟩
set_option maxRecDepth 100000 in
set_option maxHeartbeats 6400000 in
theorem mixAt_any (ao bo : Option Addr) (n c c' N K : Nat) (d e : List (List Int)) (r : List Int) (w : World) (hd : RdSSc w (.slice ao n c) d) (he : RdSSc w (.slice bo n c') e) (hM : Man d) (hE : Man e) (hl : d.length = e.length) (hN : flg d = N) (hK : flg e = K) (hr : Cov d e r) (hr0 : at_ r 0 = 0) :
    Calls Tryz.prog 37 #[.agg #[.slice ao n c], .int .i64 0, .agg #[.slice bo n c'], .int .i64 0] w fun q w' => ∃ v a cc R, q = .returned (.tuple #[.agg #[.slice a n cc], v, .int .i64 0]) ∧ RdLo w' w.heap.size (.slice a n cc) R ∧ (lget R 0).length = N ∧ Below w.heap.size w w' := by
  have hdl := hd.intss.1
  have hn1 := hM.n1
  have hn5 := hM.n5
  have hN2 : 2 ≤ N := by rw [← hN]; exact hM.f2
  have hN4 : N ≤ 400 := by rw [← hN]; exact hM.f4
  have hK2 : 2 ≤ K := by rw [← hK]; exact hE.f2
  have hK4 : K ≤ 400 := by rw [← hK]; exact hE.f4
  have hl0 : (lget d 0).length = N := hN
  have hk0 : (lget e 0).length = K := hK
  have b0 := below_alloc3 w (.cells #[.slice ao n c] 26) (.cells #[.slice bo n c'] 26) (.cells #[.slice none 0 0] 26)
  have S1 := Lib.hid (show MxB w (((w.alloc (.cells #[.slice ao n c] 26)).alloc (.cells #[.slice bo n c'] 26)).alloc (.cells #[.slice none 0 0] 26)) w.heap.size (w.heap.size + 1) (w.heap.size + 2) ao n c d bo c' e from ⟨((blk_at rfl).alloc _).alloc _, (blk_at (by simp)).alloc _, blk_at (by simp), hd.below b0, he.below b0, b0⟩)
  have hz1 : w.heap.size + 2 < (((w.alloc (.cells #[.slice ao n c] 26)).alloc (.cells #[.slice bo n c'] 26)).alloc (.cells #[.slice none 0 0] 26)).heap.size := by simp
  have HId := Lib.hid (fun (w : World) (h : RdSSc w (.slice ao n c) d) => implManC h (man_few hM))
  have HIe := Lib.hid (fun (w : World) (h : RdSSc w (.slice bo n c') e) => implManC h (man_few hE))
  rw [manB_yes hM] at HId
  rw [manB_yes hE] at HIe
  have HM := Lib.hid hM
  have HE := Lib.hid hE
  have HL := Lib.hid hl
  have HN := Lib.hid hN
  have HK := Lib.hid hK
  have HR := Lib.hid hr
  have HR0 := Lib.hid hr0
  have HD := Lib.hid hd
  have HEE := Lib.hid he
  clear hd he hM hE hl hN hK hr hr0 b0
  go_enter Tryz.func37, Tryz.ntmps37
  go_wp2_with fail
  generalize ((w.alloc (.cells #[.slice ao n c] 26)).alloc (.cells #[.slice bo n c'] 26)).alloc (.cells #[.slice none 0 0] 26) = w1 at *
  refine (HId.out _ S1.out.r1).mono ?_
  rintro q w2 ⟨rfl, b2⟩
  have S2 := Lib.hid (S1.out.next b2)
  have hz2 := b2.size
  have y2 := S2.out.k6.cell 0
  simp at y2
  clear b2 S1
  go_wp2_with fail
  refine (HIe.out _ S2.out.r2).mono ?_
  rintro q w3 ⟨rfl, b3⟩
  have S3 := Lib.hid (S2.out.next b3)
  have hz3 := b3.size
  clear b3 S2 y2
  go_wp2_with fail
  refine (hasFlag_any w.heap.size ao n c N 0 d 0 rfl w3 S3.out.k4 S3.out.r1.rd (by omega) hl0 (by omega) (by omega) (by omega)).mono ?_
  rintro q w4 ⟨rfl, hw⟩
  subst hw
  go_wp2_with fail
  refine (hasFlag_any (w.heap.size + 1) bo n c' K 0 e 0 rfl w3 S3.out.k6 S3.out.r2.rd (by omega) hk0 (by omega) (by omega) (by omega)).mono ?_
  rintro q w4 ⟨rfl, hw⟩
  subst hw
  go_wp2_with fail
  refine (rankM_any w.heap.size n c ao w3 S3.out.k4).mono ?_
  rintro q w4 ⟨rfl, hw⟩
  subst hw
  go_wp2_with fail
  refine (rankM_any (w.heap.size + 1) n c' bo w3 S3.out.k6).mono ?_
  rintro q w4 ⟨rfl, hw⟩
  subst hw
  go_upto_region 8 with fail
  have hmk : ∀ W : World, (Instr.makeMap 92 none).run Tryz.prog W = .ok (.map (some W.heap.size)) (W.alloc (.map #[] 0)) := fun W => Go.RowKit.run_makeMap _ W
  have hM0 : MapK (((w3.alloc (.cells #[.int .i64 0, .int .i64 0] 2)).alloc (.cells #[.slice (some ⟨w3.heap.size, 0, none⟩) 2 2] 38)).alloc (.map #[] 0)) (w3.heap.size + 2) [] := ⟨#[], 0, by have := heap_alloc_new ((w3.alloc (.cells #[.int .i64 0, .int .i64 0] 2)).alloc (.cells #[.slice (some ⟨w3.heap.size, 0, none⟩) 2 2] 38)) (.map #[] 0); simpa using this, rfl⟩
  go_upto_region 9 with (refine wpList_putM _ rfl _ _ _ (.inr rfl) (w3.heap.size + 2) [] ((0 : Int), (0 : Int)) 0 hM0 rfl rfl rfl rfl rfl ?_; intro w8 o8 m8)
  have s8 := o8.size
  have hz8 : (((w3.alloc (.cells #[.int .i64 0, .int .i64 0] 2)).alloc (.cells #[.slice (some ⟨w3.heap.size, 0, none⟩) 2 2] 38)).alloc (.map #[] 0)).heap.size = w3.heap.size + 3 := by simp
  have b8 : Below w3.heap.size w3 w8 := (below_alloc3 w3 _ _ _).trans (o8.below (by omega) (by omega))
  have K8 := Lib.hid (S3.out.next b8)
  go_upto_region 10 with (first | (go_at_call 42; refine (rankM_any w.heap.size n c ao w8 K8.out.k4).mono ?_; rintro q w9 ⟨rfl, hw⟩; subst hw) | (at_make; refine wpList_mk etSS _ rfl _ _ rfl w3.heap.size _ _ _ _ n rfl rfl rfl rfl (by omega) (by omega) ?_; intro w9 h9 g9 s9))
  have hps : (w.heap.size ≤ w.heap.size ∧ w.heap.size < w3.heap.size) ∧ (w.heap.size ≤ w.heap.size + 1 ∧ w.heap.size + 1 < w3.heap.size) ∧ (w.heap.size ≤ w.heap.size + 2 ∧ w.heap.size + 2 < w3.heap.size) := ⟨⟨by omega, by omega⟩, ⟨by omega, by omega⟩, by omega, by omega⟩
  have KT0 := MX.init S3.out.k4 S3.out.k6 S3.out.k8 hps rfl rfl S3.out.bel o8 m8 h9 g9
  rw [s9] at KT0
  have KT := Lib.hid (show MX w (w9.alloc (.cells #[.slice (some ⟨w8.heap.size, 0, none⟩) n n] 26)) w.heap.size (w.heap.size + 1) (w.heap.size + 1 + 1) (w8.heap.size + 1) w3.heap.size (w3.heap.size + 1 + 1) (.slice ao n c) (.slice bo n c') (some ⟨w3.heap.size + 1, 0, none⟩) ([0] : List Nat).length 1 [.slice (some ⟨w3.heap.size, 0, none⟩) 2 2] (mxP r [0]) (mxK r [0]) w8.heap.size n (List.replicate n (.slice none 0 0)) (List.replicate n []) from by
    have e1 : mxP r [0] = [[0, 0]] := by simp [mxP, HR0.out]
    have e2 : mxK r [0] = [((0 : Int), (0 : Int))] := by simp [mxK, HR0.out]
    rw [e1, e2]; exact KT0)
  have hL1 : ([0] : List Nat).length = 1 := rfl
  clear KT0 o8 m8 h9 g9 s9 K8 b8 hz8 s8 hM0 S3 hps hz1 hz2 hz3 hmk
  generalize w9.alloc (.cells #[.slice (some ⟨w8.heap.size, 0, none⟩) n n] 26) = wS at *
  generalize w8.heap.size + 1 = p13 at *
  generalize w8.heap.size = g0 at *
  generalize w3.heap.size + 1 + 1 = mb at *
  generalize w3.heap.size + 1 = sp at *
  generalize w3.heap.size = lo at *
  generalize w.heap.size + 1 + 1 = p8 at *
  generalize w.heap.size + 1 = p6 at *
  go_wp2_with fail
  go_loopw [11, 14] (fun pv av wr => ∃ (L : List Nat) (a : Nat) (ap : Option Addr) (cp : Nat) (up us : List Value) (R : List (List Int)), pv = .slice ap L.length cp ∧ av = .int .i64 a ∧ a ≤ L.length ∧ MPl d a 0 L ∧ MRw n a 0 R ∧ MX w wr w.heap.size p6 p8 p13 lo mb (.slice ao n c) (.slice bo n c') ap L.length cp up (mxP r L) (mxK r L) g0 n us R) (fun _ av _ => N + 1 - (intOf av).toNat)
  case atStart => exact ⟨[0], 0, _, _, _, _, _, rfl, rfl, Nat.zero_le _, MPl.start HM.out, MRw.start n, KT.out⟩
  case round =>
    clear KT
    obtain ⟨L, a, ap, cp, up, us, R, rfl, rfl, haL, mpl, mrw, mx⟩ := hrel
    obtain ⟨wA, rfl⟩ : ∃ x, x = wr := ⟨_, rfl⟩
    have hfew := mpl.few
    rw [HN.out] at hfew
    have MP := Lib.hid mpl
    have MR := Lib.hid mrw
    have MXA := Lib.hid mx
    clear mpl mrw mx
    by_cases hat : a < L.length
    · have hai : (a : Int) < (L.length : Int) := by omega
      have x4 := MXA.out.k4.cell 0
      simp at x4
      go_wp2_with fail
      go_loopw [11, 65] (fun pv iv wi => ∃ (L : List Nat) (i : Nat) (ap : Option Addr) (cp : Nat) (up us : List Value) (R : List (List Int)), pv = .slice ap L.length cp ∧ iv = .int .i64 i ∧ i ≤ n ∧ a < L.length ∧ MPl d a i L ∧ MRw n a i R ∧ MX w wi w.heap.size p6 p8 p13 lo mb (.slice ao n c) (.slice bo n c') ap L.length cp up (mxP r L) (mxK r L) g0 n us R) (fun _ iv _ => n - (intOf iv).toNat)
      case atStart => exact ⟨L, 0, ap, cp, up, us, R, rfl, rfl, Nat.zero_le _, hat, MP.out, MR.out, MXA.out⟩
      case round =>
        clear MP MR MXA x4 hat hfew haL hai
        obtain ⟨L, i, ap, cp, up, us, R, rfl, rfl, hi, hat, mpl, mrw, mx⟩ := hrel
        obtain ⟨wi, rfl⟩ : ∃ x, x = wr := ⟨_, rfl⟩
        have hfew := mpl.few
        rw [HN.out] at hfew
        have MP := Lib.hid mpl
        have MR := Lib.hid mrw
        have MXI := Lib.hid mx
        clear mpl mrw mx
        by_cases hlt : i < n
        · have hii : (i : Int) < (n : Int) := by omega
          have hai : (a : Int) < (L.length : Int) := by omega
          obtain ⟨b3, off3, a3, n3, c3, e3, hc3, hi3⟩ := (HD.out.below MXI.out.bel).intss.at_ hlt
          obtain ⟨b4, off4, a4, n4, c4, e4, hc4, hi4⟩ := (HEE.out.below MXI.out.bel).intss.at_ hlt
          obtain ⟨b5, a5, n5, c5, e5, hc5, hi5⟩ := MXI.out.at_pair hat
          rw [mxP_get hat] at hi5
          have hn3 : n3 = N := by rw [← hi3.1, HM.out.len i (by omega), hl0]
          have hn4 : n4 = K := by rw [← hi4.1, HE.out.len i (by have := HL.out; omega), hk0]
          have hn5' : n5 = 2 := by rw [← hi5.1]; rfl
          subst hn3 hn4 hn5'
          obtain ⟨x, hx⟩ : ∃ x, xget L a = x := ⟨_, rfl⟩
          have hxN : x < n3 := by have := MP.out.lt _ (xget_mem hat); rw [HN.out, hx] at this; exact this
          have hyy := bTo_lt (man_leads HM.out) (show x < flg d by rw [HN.out]; exact hxN) (show i < d.length by omega)
          have hon := HR.out.on (g := i) (show i < d.length by omega) (show x < flg d by rw [HN.out]; exact hxN)
          have hxr := HR.out.at_lt (show x < flg d by rw [HN.out]; exact hxN)
          have hyr := HR.out.at_lt hyy.1
          obtain ⟨y, hy⟩ : ∃ y, bTo d x i = y := ⟨_, rfl⟩
          rw [hy] at hyy hon hyr
          rw [hx] at hi5
          obtain ⟨x', hx'⟩ : ∃ x', at_ r x = x' := ⟨_, rfl⟩
          obtain ⟨y', hy'⟩ : ∃ y', at_ r y = y' := ⟨_, rfl⟩
          rw [hx'] at hi5 hon hxr
          rw [hy'] at hon hyr
          rw [HK.out] at hxr hyr
          rw [HN.out] at hyy
          have hee := (bTo_lt (man_leads HE.out) (show x' < flg e by rw [HK.out]; exact hxr.1) (show i < e.length by have := HL.out; omega)).2
          rw [← hon] at hee
          obtain ⟨q5, o5, e6, hc6⟩ := hi5.at_ (k := 0) (by omega)
          obtain ⟨q5', o5', e7, hc7⟩ := hi5.at_ (k := 1) (by omega)
          rw [e6] at e7
          injection e7 with e7
          injection e7 with e71 e72
          subst e71 e72
          obtain ⟨q3, o3, e8, hc8⟩ := hi3.at_ hxN
          obtain ⟨q4, o4, e9, hc9⟩ := hi4.at_ hxr.1
          rw [hyy.2] at hc8
          rw [hee] at hc9
          have hc6 : wi.cell? ⟨q5, o5 + 0, none⟩ = some (.int .i64 (x : Int)) := hc6
          have hc7 : wi.cell? ⟨q5, o5 + 1, none⟩ = some (.int .i64 (x' : Int)) := hc7
          rw [Nat.add_zero] at hc6
          have x4 : wi.cell? ⟨w.heap.size, 0, none⟩ = some (.slice ao n c) := MXI.out.k4.cell 0
          have x6 : wi.cell? ⟨p6, 0, none⟩ = some (.slice bo n c') := MXI.out.k6.cell 0
          have hxi : (x : Int) < (n3 : Int) := by omega
          have hxi' : (x' : Int) < (n4 : Int) := by omega
          have HXY := Lib.hid (And.intro hx (And.intro hy (And.intro hx' (And.intro hy' (And.intro hyy.1 hyr.1)))))
          subst e3 e4 e5 e6 e8 e9
          clear hi3 hi4 hi5 hyy hon hxr hyr hee hx hy hx' hy'
          have S0 := Lib.hid (show ∀ w', Below wi.heap.size wi w' → (w'.cell? ⟨w.heap.size, 0, none⟩ = some (.slice (some ⟨b3, off3, none⟩) n c) ∧ w'.cell? ⟨p6, 0, none⟩ = some (.slice (some ⟨b4, off4, none⟩) n c') ∧ w'.cell? ⟨b3, off3 + i, none⟩ = some (.slice (some ⟨q3, o3, none⟩) n3 c3) ∧ w'.cell? ⟨b4, off4 + i, none⟩ = some (.slice (some ⟨q4, o4, none⟩) n4 c4) ∧ w'.cell? ⟨b5, a, none⟩ = some (.slice (some ⟨q5, o5, none⟩) 2 c5) ∧ w'.cell? ⟨q5, o5, none⟩ = some (.int .i64 (x : Int)) ∧ w'.cell? ⟨q5, o5 + 1, none⟩ = some (.int .i64 (x' : Int)) ∧ w'.cell? ⟨q3, o3 + x, none⟩ = some (.int .i64 (y : Int)) ∧ w'.cell? ⟨q4, o4 + x', none⟩ = some (.int .i64 (y' : Int))) from fun w' hb => ⟨(hb.cell (World.block_lt_of_cell? wi _ x4)).trans x4, (hb.cell (World.block_lt_of_cell? wi _ x6)).trans x6, (hb.cell (World.block_lt_of_cell? wi _ hc3)).trans hc3, (hb.cell (World.block_lt_of_cell? wi _ hc4)).trans hc4, (hb.cell (World.block_lt_of_cell? wi _ hc5)).trans hc5, (hb.cell (World.block_lt_of_cell? wi _ hc6)).trans hc6, (hb.cell (World.block_lt_of_cell? wi _ hc7)).trans hc7, (hb.cell (World.block_lt_of_cell? wi _ hc8)).trans hc8, (hb.cell (World.block_lt_of_cell? wi _ hc9)).trans hc9⟩)
          have K0 := Lib.hid (S0.out wi.drew (below_drew1 wi))
          clear x4 x6 hc3 hc4 hc5 hc6 hc7 hc8 hc9
          go_upto_region 16 with fail
          go_region_held3 (fun w' => w'.cell? ⟨w.heap.size, 0, none⟩ = some (.slice (some ⟨b3, off3, none⟩) n c) ∧ w'.cell? ⟨p6, 0, none⟩ = some (.slice (some ⟨b4, off4, none⟩) n c') ∧ w'.cell? ⟨b3, off3 + i, none⟩ = some (.slice (some ⟨q3, o3, none⟩) n3 c3) ∧ w'.cell? ⟨b4, off4 + i, none⟩ = some (.slice (some ⟨q4, o4, none⟩) n4 c4) ∧ w'.cell? ⟨b5, a, none⟩ = some (.slice (some ⟨q5, o5, none⟩) 2 c5) ∧ w'.cell? ⟨q5, o5, none⟩ = some (.int .i64 (x : Int)) ∧ w'.cell? ⟨q5, o5 + 1, none⟩ = some (.int .i64 (x' : Int)) ∧ w'.cell? ⟨q3, o3 + x, none⟩ = some (.int .i64 (y : Int)) ∧ w'.cell? ⟨q4, o4 + x', none⟩ = some (.int .i64 (y' : Int))) (first | exact K0.out | exact S0.out _ ((below_drew1 wi).trans ((below_alloc1 wi.drew _).mono (Nat.le_refl _)))) (fail)
          have kn : Blk (wi.alloc (.cells #[.int .i64 (y : Int), .int .i64 (y' : Int)] 91)).drew wi.heap.size 91 #[.int .i64 (y : Int), .int .i64 (y' : Int)] := blk_at (w := wi) rfl
          have MXJ := Lib.hid (MXI.out.keep ((below_alloc1 wi (.cells #[.int .i64 (y : Int), .int .i64 (y' : Int)] 91)).trans ((below_drew1 _).mono (by simp))))
          have hmbp := MXI.out.mp.lt
          clear S0 K0 MXI
          generalize (wi.alloc (.cells #[.int .i64 (y : Int), .int .i64 (y' : Int)] 91)).drew = wj at *
          generalize wi.heap.size = pn at *
          have y0 : wj.cell? ⟨pn, 0, none⟩ = some (.int .i64 (y : Int)) := kn.cell 0
          have y1 : wj.cell? ⟨pn, 1, none⟩ = some (.int .i64 (y' : Int)) := kn.cell 1
          have hpn := kn.lt
          have HKN := Lib.hid kn
          clear kn
          have hkk : ((y : Int), (y' : Int)) = ((y : Int), (at_ r y : Int)) := by rw [HXY.out.2.2.2.1]
          obtain ⟨q, bo, hqb⟩ : ∃ (q : Int) (bo : Bool), (match fndK ((y : Int), (y' : Int)) (mxK r L) 0 with | some j => ((j : Int), true) | none => (0, false)) = (q, bo) := ⟨_, _, rfl⟩
          have HQB := Lib.hid hqb
          have HKK := Lib.hid hkk
          clear hqb hkk
          go_upto_if 102 with (refine wpList_lookMG wj rfl _ _ rfl mb _ _ q bo MXJ.out.mp HQB.out rfl rfl ?_)
          go_cut [11, 17] (fun s11 s17 wx => ∃ (L : List Nat) (ap : Option Addr) (cp : Nat) (up : List Value) (q : Int), s11 = .slice ap L.length cp ∧ s17 = .int .i64 q ∧ a < L.length ∧ MPl d a (i + 1) L ∧ MX w wx w.heap.size p6 p8 p13 lo mb (.slice (some ⟨b3, off3, none⟩) n c) (.slice (some ⟨b4, off4, none⟩) n c') ap L.length cp up (mxP r L) (mxK r L) g0 n us R)
          case first =>
            cases bo with
            | true =>
              have hmem : y ∈ L := by
                have h := HQB.out
                cases hf : fndK ((y : Int), (y' : Int)) (mxK r L) 0 with
                | some j => exact (fndM_some (r := r) (by rw [← HKK.out]; exact hf)).2
                | none => rw [hf] at h; injection h with _ h; cases h
              have HMEM := Lib.hid (show bTo d (xget L a) i ∈ L from by rw [HXY.out.1, HXY.out.2.1]; exact hmem)
              clear hmem
              go_wp2_with fail
              go_meet
              case rel => exact ⟨L, _, cp, up, q, rfl, rfl, hat, MP.out.old HMEM.out, MXJ.out⟩
            | false =>
              have hfn : fndK ((y : Int), (y' : Int)) (mxK r L) 0 = none := by
                have h := HQB.out
                cases hf : fndK ((y : Int), (y' : Int)) (mxK r L) 0 with
                | some j => rw [hf] at h; injection h with _ h; cases h
                | none => rfl
              have HMEM := Lib.hid (show bTo d (xget L a) i ∉ L from by rw [HXY.out.1, HXY.out.2.1]; exact fndM_none (r := r) (by rw [← HKK.out]; exact hfn))
              have HFN := Lib.hid hfn
              clear hfn
              go_upto_region 21 with (first | (go_at_call 30; refine (sizeRM_any _ _ _ _).mono ?_; rintro e w' ⟨rfl, hw⟩; subst hw) | (refine wpList_putM wj rfl _ _ _ (.inl rfl) mb _ ((y : Int), (y' : Int)) (L.length : Int) MXJ.out.mp HFN.out rfl rfl rfl (by simp [mxK]) ?_; intro wk ok mk))
              have MXK := Lib.hid (MXJ.out.put ok mk)
              have kk := HKN.out.only ok (.inr (by omega))
              have z0 : wk.cell? ⟨pn, 0, none⟩ = some (.int .i64 (y : Int)) := kk.cell 0
              have z1 : wk.cell? ⟨pn, 1, none⟩ = some (.int .i64 (y' : Int)) := kk.cell 1
              have hsk := MXK.out.size
              have o1 : Own (wk.alloc (.cells #[.int .i64 (y : Int), .int .i64 (y' : Int)] 2)) wk.heap.size 2 (some ⟨wk.heap.size, 0, none⟩) 2 2 (([(y : Int), (y' : Int)] : List Int).map (Value.int .i64)) := own_lit (us := [.int .i64 (y : Int), .int .i64 (y' : Int)]) rfl (Nat.le_refl _) (by simp)
              have O1 := Lib.hid o1
              clear MXJ ok mk kk o1 y0 y1
              have hown := (MXK.out.ps.own.alloc (.cells #[.int .i64 (y : Int), .int .i64 (y' : Int)] 2))
              have hle : L.length + 1 ≤ 4398046511104 := by omega
              have hbs : lo ≤ (wk.alloc (.cells #[.int .i64 (y : Int), .int .i64 (y' : Int)] 2)).heap.size := by simp; omega
              have HOWN := Lib.hid hown
              have HBS := Lib.hid hbs
              have HZK := Lib.hid (show (wk.alloc (.cells #[.int .i64 (y : Int), .int .i64 (y' : Int)] 2)).heap.size = wk.heap.size + 1 from by simp)
              clear hown hbs
              go_wp2_with (at_builtin; refine wpList_ap1k etSS (wk.alloc (.cells #[.int .i64 (y : Int), .int .i64 (y' : Int)] 2)) rfl _ _ rfl lo (some ⟨b5, 0, none⟩) L.length cp up rfl HOWN.out (.slice (some ⟨wk.heap.size, 0, none⟩) 2 2) (wk.heap.size + 1) HZK.out rfl rfl hle HBS.out ?_; intro ap5 cp5 w5 oz5 g5 hat5)
              have MX5 := Lib.hid (MXK.out.pair (below_alloc1 wk _) O1.out (Below.refl _ _) oz5 g5 (hat5.imp id fun e => ⟨_, e, Nat.le_succ _⟩))
              clear MXK oz5 g5 hat5 z0 z1 O1
              go_meet
              case rel =>
                refine ⟨L ++ [y], ap5, cp5, up ++ [.slice (some ⟨wk.heap.size, 0, none⟩) 2 2], (L.length : Int), by rw [List.length_append]; rfl, rfl, by rw [List.length_append]; omega, ?_, ?_⟩
                · have := MP.out.new HM.out hat (by omega) HMEM.out
                  rw [HXY.out.1, HXY.out.2.1] at this
                  exact this
                · rw [mxP_app, mxK_app, List.length_append, HXY.out.2.2.2.1]
                  have := MX5.out
                  exact this
          case rest =>
            obtain ⟨L', ap', cp', up', q', rfl, rfl, hat', mp', mx'⟩ := hcut
            obtain ⟨u, dd, hu, hdd, ⟨ra, rn, rc, rfl, ow0⟩, hin⟩ := mx'.rws.get hlt
            have hdl' : dd = lget R i := (lget_get? hdd).symm
            have hrl : dd.length = rn := by have := ow0.len; simpa using this
            have hrn : rn = a := by rw [← hrl, hdl']; have := MR.out.2 i hlt; rw [if_neg (by omega)] at this; exact this
            have hLN := mp'.few
            rw [HN.out] at hLN
            have hcell : wc.cell? ⟨g0, i, none⟩ = some (.slice ra rn rc) := mx'.rws.cell hu
            have hrout : ∀ g, bk ra = some g → g ≠ g0 ∧ g ≠ p13 := fun g e => by
              refine ⟨fun e2 => mx'.rws.out i _ g hu (by rw [ownBlock_slice]; exact e) (by simp [bk, e2]), fun e2 => ?_⟩
              obtain ⟨cs, hc⟩ := ow0.typM e
              have h13 := mx'.k13
              unfold Blk at h13
              rw [e2, h13] at hc
              injection hc with hc
              injection hc with _ hc
              revert hc; decide
            have MXC := Lib.hid mx'
            have MPC := Lib.hid mp'
            have hs0 : ∀ w' : World, w'.heap[g0]? = wc.heap[g0]? → w'.heap[p13]? = wc.heap[p13]? → (w'.cell? ⟨p13, 0, none⟩ = some (.slice (some ⟨g0, 0, none⟩) n n) ∧ w'.cell? ⟨g0, i, none⟩ = some (.slice ra rn rc)) := fun w' h1 h2 => ⟨(World.cell?_of_block h2).trans (MXC.out.k13.cell 0), (World.cell?_of_block h1).trans hcell⟩
            have hg0l : g0 < wc.heap.size := (mx'.rws.own.lt g0 rfl).2
            have h13l : p13 < wc.heap.size := mx'.k13.lt
            have K0 := Lib.hid (hs0 wc.drew rfl rfl)
            have K1 := Lib.hid (hs0 (wc.alloc (.cells #[.int .i64 q'] 2)).drew (Below.heap_alloc wc _ g0 hg0l) (Below.heap_alloc wc _ p13 h13l))
            have W2 : Own (wc.alloc (.cells #[.int .i64 q'] 2)).drew 0 2 ra rn rc (dd.map (Value.int .i64)) := ow0.alloc _
            have W0 : (wc.alloc (.cells #[.int .i64 q'] 2)).drew.cell? ⟨wc.heap.size, 0, none⟩ = some (.int .i64 q') := (blk_at (w := wc) (t := 2) (cs := #[.int .i64 q']) (k := wc.heap.size) rfl).cell 0
            have hgw : ∀ w2 : World, (wc.alloc (.cells #[.int .i64 q'] 2)).drew.grownBy w2 (bk ra) → wc.grownBy w2 (bk ra) := fun w2 g2 => by
              have h1 := World.grownBy_alloc wc (.cells #[.int .i64 q'] 2) (bk ra)
              exact grown_tr (show wc.grownBy (wc.alloc (.cells #[.int .i64 q'] 2)).drew (bk ra) from ⟨h1.os, h1.tape, h1.output, h1.size, h1.block⟩) g2
            have W3 := Lib.hid (show ∀ w2 : World, wc.grownBy w2 (bk ra) → (w2.cell? ⟨p13, 0, none⟩ = some (.slice (some ⟨g0, 0, none⟩) n n) ∧ w2.cell? ⟨g0, i, none⟩ = some (.slice ra rn rc)) from fun w2 g2 => hs0 w2 (g2.block g0 hg0l fun e => (hrout _ e.symm).1 rfl) (g2.block p13 h13l fun e => (hrout _ e.symm).2 rfl))
            have W4 := Lib.hid (show ∀ w2 : World, wc.grownBy w2 (bk ra) → w2.frozen? ⟨g0, i, none⟩ = false from fun w2 g2 => by
              have h1 := MXC.out.rws.own.kept g2 (by
                cases hb : bk ra with
                | none => exact .inr (by simp [bk])
                | some x => exact .inr fun e => by have := (hrout x hb).1; simp [bk] at e; omega)
              exact own_frozen h1 i)
            have hle2 : rn + 1 ≤ 4398046511104 := by omega
            have HRN := Lib.hid hrn
            have HDR := Lib.hid hrl
            clear hrn hrl
            have HW2 := Lib.hid W2
            have HGW := Lib.hid hgw
            have HU := Lib.hid hu
            have HDL := Lib.hid hdl'
            clear mx' mp' W2 hgw hu hdd hdl' hrout hs0 ow0 hin hcell y0 y1
            go_upto_region 22 with fail
            refine by_tail2 (α := World) (β := Value) (H := fun wx vx => Hid (MX w wx w.heap.size p6 p8 p13 lo mb (.slice (some ⟨b3, off3, none⟩) n c) (.slice (some ⟨b4, off4, none⟩) n c') ap' L'.length cp' up' (mxP r L') (mxK r L') g0 n (us.set i vx) (R.set i (lget R i ++ [q'])))) ?G (fun tail => ?main) ?tl
            case main =>
              have q0 := K0.out.1
              have q0' := K0.out.2
              have q1 := K1.out.1
              have q1' := K1.out.2
              go_region_law (first | (refine step_ap1 (o := ⟨some 126, _, _, _, _, _⟩) etI rfl (.tmp 123) (.tmp 125) rfl 0 ra rn rc _ rfl HW2.out (.int .i64 q') wc.heap.size 1 rfl W0 rfl hle2 (Nat.zero_le _) ?_; intro ao2 c2 w2z oz2 g2 hat2; have G2 := Lib.hid (HGW.out w2z g2); have K2 := Lib.hid (W3.out w2z G2.out); have q7 := K2.out.2; have q8 := K2.out.1; have f7 := W4.out w2z G2.out))
              all_goals
                have MXF := Lib.hid (MXC.out.row HU.out G2.out (zs := lget R i ++ [q']) (by rw [← HDL.out, List.map_append]; exact oz2) (hat2.elim .inl fun h => .inr ⟨_, h, by show _ ≤ (wc.heap.push _).size; rw [Array.size_push]; omega⟩))
                clear oz2 g2 hat2 G2 K2 q7 q8 f7
                generalize w2z.setCell ⟨g0, i, none⟩ (.slice ao2 (rn + 1) c2) = wf at *
                generalize Value.slice ao2 (rn + 1) c2 = vf at *
                exact tail wf vf MXF
            case tl =>
              intro wf vf MXF
              have MRF := Lib.hid (MR.out.put hlt (z := q'))
              clear K0 K1 W0 W3 W4 HW2 HGW HU HDL MXC HRN HDR
              go_wp2_with fail
              go_roundw
              case rel => exact ⟨L', i + 1, ap', cp', up', _, _, rfl, by go_num, hlt, hat', MPC.out, MRF.out, MXF.out⟩
              case measure => simp [intOf]; omega
        · obtain rfl : i = n := by omega
          have hii : ¬ (i : Int) < (i : Int) := by omega
          have hbig : ¬ (400 : Int) < (L.length : Int) := by omega
          have MPN := Lib.hid (MPl.next (by have := MP.out; rwa [← hdl] at this))
          have MRN := Lib.hid MR.out.next
          clear MP MR
          go_wp2_with fail
          go_roundw
          case rel => exact ⟨L, a + 1, ap, cp, up, us, R, rfl, by go_num, by omega, MPN.out, MRN.out, MXI.out⟩
          case measure => simp [intOf]; omega
    · have hge : ¬ (a : Int) < (L.length : Int) := by omega
      have hdone := MP.out.done HM.out (by omega)
      have hlen : (lget R 0).length = N := by
        rw [MR.out.2 0 (by omega), if_neg (by omega), ← HN.out, ← hdone]; omega
      have x13 : wA.cell? ⟨p13, 0, none⟩ = some (.slice (some ⟨g0, 0, none⟩) n n) := MXA.out.k13.cell 0
      have x8 : wA.cell? ⟨p8, 0, none⟩ = some (.slice none 0 0) := MXA.out.k8.cell 0
      have f8 := MXA.out.k8.frozen 0
      have hat_ := MXA.out.at_
      have K8 : Blk (wA.setCell ⟨p8, 0, none⟩ (.slice (some ⟨g0, 0, none⟩) n n)) p8 26 #[.slice (some ⟨g0, 0, none⟩) n n] := MXA.out.k8.set_ 0 (.slice (some ⟨g0, 0, none⟩) n n)
      have KR := Lib.hid ((MXA.out.rws.same (w' := wA.setCell ⟨p8, 0, none⟩ (.slice (some ⟨g0, 0, none⟩) n n)) (innerS _) fun g h1 _ _ => Below.heap_setCell _ _ _ _ (by show g ≠ p8; omega)).rdlo.mono (show w.heap.size ≤ lo by omega))
      have KB := Lib.hid (show Below w.heap.size w (wA.setCell ⟨p8, 0, none⟩ (.slice (some ⟨g0, 0, none⟩) n n)) from MXA.out.bel.setCell (by show w.heap.size ≤ p8; omega) _)
      clear MP MR MXA hdone hat_
      go_wp2_with fail
      generalize wA.setCell ⟨p8, 0, none⟩ (.slice (some ⟨g0, 0, none⟩) n n) = ws at *
      have e0 : ws.cell? ⟨p8, 0, none⟩ = some (.slice (some ⟨g0, 0, none⟩) n n) := K8.cell 0
      exact bodyPost_ret (v := .tuple #[.agg #[.slice (some ⟨g0, 0, none⟩) n n], .slice ap L.length cp, .int .i64 0]) (by simp [results, Tryz.f37, go_sem, e0]) rfl (by first | exact ⟨_, _, _, R, rfl, KR.out, hlen, KB.out⟩ | exact ⟨_, _, _, rfl, R, KR.out, hlen, KB.out⟩ | exact ⟨_, _, _, rfl, ⟨R, KR.out, hlen⟩, KB.out⟩)
end Go.Proofs.YtmdhljleaijkbaaGreatDoor
