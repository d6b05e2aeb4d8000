/- The program's test whether indices 0 and 2 commute. -/
import Derived.Test.YtpognnifgcacnaaPart1
import Derived.Deep.RegionHeld3
namespace Go.Proofs.Ytpognnifgcacnaa
open Go.RowKit

open Classical in
noncomputable def cmTB (d : List (List (Int × Int))) (q : Nat) : Bool := decide (CmT d q)
theorem cmTB_is {d : List (List (Int × Int))} {q : Nat} (h : cmTB d q = true) : CmT d q := by unfold cmTB at h; exact @of_decide_eq_true _ (Classical.propDecidable _) h
theorem cmTB_yes {d : List (List (Int × Int))} {q : Nat} (h : CmT d q) : cmTB d q = true := by unfold cmTB; simp [h]
theorem cmTB_no {d : List (List (Int × Int))} {q : Nat} (h : ¬ CmT d q) : cmTB d q = false := by unfold cmTB; simp [h]

set_option maxRecDepth 100000 in
set_option maxHeartbeats 3200000 in
theorem commutes_any (ao : Option Addr) (k c q : Nat) (d : List (List (Int × Int))) (w : World) (h : Tgtss w ao k d) (hk : k ≤ 12) (hlt : q < k) (hgood : ∀ j, j < k → (lget d j).length = 3 ∧ ∀ i, i < 3 → RgT d j i) :
    Calls Try.prog 158 #[.agg #[.slice ao k c], .int .i64 q] w fun e w' => e = .returned (.bool (cmTB d q)) ∧ Below w.heap.size w w' := by
  have HL := Lib.hid h.1
  obtain ⟨wr, hw1⟩ : ∃ w1, w1 = w.alloc (.cells #[.slice ao k c] 29) := ⟨_, rfl⟩
  have hB0 : Below w.heap.size w wr := by rw [hw1]; exact below_alloc1 _ _
  have hbx : Blk wr w.heap.size 29 #[.slice ao k c] := by rw [hw1]; exact blk_at rfl
  have h1 := h.below hB0
  obtain ⟨b, off, rfl, hrow⟩ : ∃ b off, ao = some ⟨b, off, none⟩ ∧ ∀ j, j < k → ∃ a' n' c', wr.cell? ⟨b, off + j, none⟩ = some (.slice a' n' c') ∧ Tgts wr a' n' (lget d j) := by
    obtain ⟨b, off, e, hc⟩ := h1.2.2 (by omega)
    refine ⟨b, off, e, fun j hj => ?_⟩
    obtain ⟨u, h2, a', n', c', rfl, h3⟩ := hc j hj
    exact ⟨a', n', c', h2, h3⟩
  have H1 := Lib.hid hrow
  have HB0 := Lib.hid hB0
  have HX := Lib.hid hbx
  have HG0 := Lib.hid hgood
  have HW := Lib.hid hw1
  clear h h1 hB0 hbx hrow hgood hw1
  go_enter Try.func158, Try.ntmps158
  go_wp2_with fail
  rw [← HW.out]
  clear HW
  have x0 := HX.out.cell 0
  simp at x0
  obtain ⟨a1, n1, c1, hc', hi⟩ := H1.out q hlt
  obtain rfl : n1 = 3 := by rw [← hi.1]; exact (HG0.out q hlt).1
  obtain ⟨b1, o1, rfl, p0, p1⟩ := hi.at_ (k := 0) (by omega)
  obtain ⟨b1', o1', e1, p4, p5⟩ := hi.at_ (k := 2) (by omega)
  injection e1 with e1; injection e1 with e1 e2 e3
  subst e1 e2
  clear e3 hi
  have q0 : wr.cell? ⟨b1, o1, none⟩ = some (.int .i64 (kA (lget d q) 0)) := p0
  have q1 : wr.cell? ⟨b1, o1 + 1, none⟩ = some (.int .i64 (kB (lget d q) 0)) := by simpa using p1
  have q4 : wr.cell? ⟨b1, o1 + 4, none⟩ = some (.int .i64 (kA (lget d q) 2)) := p4
  have q5 : wr.cell? ⟨b1, o1 + 4 + 1, none⟩ = some (.int .i64 (kB (lget d q) 2)) := p5
  clear p0 p1 p4 p5
  have hrg0 := (HG0.out q hlt).2 0 (by omega)
  have hrg2 := (HG0.out q hlt).2 2 (by omega)
  unfold RgT at hrg0 hrg2
  have hT0 : tP d q 0 = kA (lget d q) 0 := rfl
  have hT2 : tP d q 2 = kA (lget d q) 2 := rfl
  have hN0 : tM d q 0 = kB (lget d q) 0 := rfl
  have hN2 : tM d q 2 = kB (lget d q) 2 := rfl
  rw [hT0, hN0, HL.out] at hrg0
  rw [hT2, hN2, HL.out] at hrg2
  obtain ⟨r1, hr1⟩ : ∃ r : Nat, kA (lget d q) 0 = (r : Int) := ⟨(kA (lget d q) 0).toNat, by omega⟩
  obtain ⟨r2, hr2⟩ : ∃ r : Nat, kA (lget d q) 2 = (r : Int) := ⟨(kA (lget d q) 2).toNat, by omega⟩
  have hr1k : r1 < k := by omega
  have hr2k : r2 < k := by omega
  have hM0 : -1 ≤ kB (lget d q) 0 ∧ kB (lget d q) 0 ≤ 2 := hrg0.2
  have hM2 : -1 ≤ kB (lget d q) 2 ∧ kB (lget d q) 2 ≤ 2 := hrg2.2
  rw [hr1] at q0 hT0
  rw [hr2] at q4 hT2
  clear hr1 hr2 hrg0 hrg2
  generalize kB (lget d q) 0 = M0 at *
  generalize kB (lget d q) 2 = M2 at *
  have HT0 := Lib.hid hT0
  have HT2 := Lib.hid hT2
  have HN0 := Lib.hid hN0
  have HN2 := Lib.hid hN2
  clear hT0 hT2 hN0 hN2
  have hS : ∀ w', Below wr.heap.size wr w' → (Below wr.heap.size wr w' ∧ w'.cell? ⟨w.heap.size, 0, none⟩ = some (.slice (some ⟨b, off, none⟩) k c) ∧ w'.cell? ⟨b, off + q, none⟩ = some (.slice (some ⟨b1, o1, none⟩) 3 c1) ∧ w'.cell? ⟨b1, o1, none⟩ = some (.int .i64 (r1 : Int)) ∧ w'.cell? ⟨b1, o1 + 1, none⟩ = some (.int .i64 M0) ∧ w'.cell? ⟨b1, o1 + 4, none⟩ = some (.int .i64 (r2 : Int)) ∧ w'.cell? ⟨b1, o1 + 4 + 1, none⟩ = some (.int .i64 M2)) := fun w' hb =>
    ⟨hb, (hb.cell (World.block_lt_of_cell? wr _ x0)).trans x0, (hb.cell (World.block_lt_of_cell? wr _ hc')).trans hc', (hb.cell (World.block_lt_of_cell? wr _ q0)).trans q0, (hb.cell (World.block_lt_of_cell? wr _ q1)).trans q1, (hb.cell (World.block_lt_of_cell? wr _ q4)).trans q4, (hb.cell (World.block_lt_of_cell? wr _ q5)).trans q5⟩
  have HS := Lib.hid hS
  clear hS x0 hc' q0 q1 q4 q5

  rename_i K hK
  have tail : ∀ (b5 b6 : Nat) (wf : World), Below wr.heap.size wr wf → Blk wf b5 143 #[.int .i64 (r1 : Int), .int .i64 M0] → Blk wf b6 143 #[.int .i64 (r2 : Int), .int .i64 M2] → K { tmps := #[Value.agg #[Value.slice (some ⟨b, off, none⟩) k c], Value.int IntKind.i64 (q : Int), Value.pointer (some ⟨w.heap.size, 0, none⟩), undef, Value.bool false, Value.pointer (some ⟨b5, 0, none⟩), Value.pointer (some ⟨b6, 0, none⟩), undef, undef, undef, undef, Value.pointer (some ⟨w.heap.size, 0, none⟩), Value.slice (some ⟨b, off, none⟩) k c, Value.int IntKind.i64 (q : Int), Value.pointer (some ⟨b, off + q, none⟩), Value.slice (some ⟨b1, o1, none⟩) 3 c1, Value.pointer (some ⟨b1, o1, none⟩), Value.agg #[Value.int IntKind.i64 (r1 : Int), Value.int IntKind.i64 M0], Value.pointer (some ⟨w.heap.size, 0, none⟩), Value.slice (some ⟨b, off, none⟩) k c, Value.int IntKind.i64 (q : Int), Value.pointer (some ⟨b, off + q, none⟩), Value.slice (some ⟨b1, o1, none⟩) 3 c1, Value.pointer (some ⟨b1, o1 + 4, none⟩), Value.agg #[Value.int IntKind.i64 (r2 : Int), Value.int IntKind.i64 M2], undef, undef, undef, undef, undef, undef, undef, undef, undef, undef, undef, undef, undef, undef, undef, undef, undef, undef, undef, undef, undef, undef, undef, undef, undef, undef, undef, undef, undef, undef, undef, undef, undef, undef, undef, undef, undef, undef, undef, undef, undef, undef, undef, undef, undef, undef, undef, undef, undef, undef, undef, undef, undef, undef, undef, undef, undef, undef, undef, undef, undef, undef, undef, undef, undef, undef, undef, undef], defers := [] } wf := by
    intro b5 b6 wf hbf kb5 kb6
    refine hK _ _ ?_
    clear hK HS
    have hbf1 : Below wr.heap.size wr wf := hbf
    obtain ⟨a3, n3, c3, gc1, gi1⟩ := H1.out r1 hr1k
    obtain rfl : n3 = 3 := by rw [← gi1.1]; exact (HG0.out r1 hr1k).1
    obtain ⟨b3, o3, rfl, s4, s5⟩ := (gi1.below hbf1).at_ (k := 2) (by omega)
    obtain ⟨a4, n4, c4, gc2, gi2⟩ := H1.out r2 hr2k
    obtain rfl : n4 = 3 := by rw [← gi2.1]; exact (HG0.out r2 hr2k).1
    obtain ⟨b4, o4, rfl, s0, s1⟩ := (gi2.below hbf1).at_ (k := 0) (by omega)
    have s4 : wf.cell? ⟨b3, o3 + 4, none⟩ = some (.int .i64 (kA (lget d r1) 2)) := s4
    have s5 : wf.cell? ⟨b3, o3 + 4 + 1, none⟩ = some (.int .i64 (kB (lget d r1) 2)) := s5
    have s0 : wf.cell? ⟨b4, o4, none⟩ = some (.int .i64 (kA (lget d r2) 0)) := s0
    have s1 : wf.cell? ⟨b4, o4 + 1, none⟩ = some (.int .i64 (kB (lget d r2) 0)) := by simpa using s1
    have gc1' := (hbf1.cell (World.block_lt_of_cell? wr _ gc1)).trans gc1
    have gc2' := (hbf1.cell (World.block_lt_of_cell? wr _ gc2)).trans gc2
    have hA : tP d r1 2 = kA (lget d r1) 2 := rfl
    have hAM : tM d r1 2 = kB (lget d r1) 2 := rfl
    have hB : tP d r2 0 = kA (lget d r2) 0 := rfl
    have hBM : tM d r2 0 = kB (lget d r2) 0 := rfl
    generalize kA (lget d r1) 2 = A at *
    generalize kB (lget d r1) 2 = AM at *
    generalize kA (lget d r2) 0 = B at *
    generalize kB (lget d r2) 0 = BM at *
    have HA := Lib.hid (And.intro hA (And.intro hAM (And.intro hB hBM)))
    have y0 := (HX.out.belowS hbf1).cell 0
    simp at y0
    have y1 := kb5.cell 0
    have y2 := kb6.cell 0
    simp at y1 y2
    have hS : ∀ w', Below wf.heap.size wf w' → (Below wf.heap.size wf w' ∧ w'.cell? ⟨w.heap.size, 0, none⟩ = some (.slice (some ⟨b, off, none⟩) k c) ∧ w'.cell? ⟨b5, 0, none⟩ = some (.int .i64 (r1 : Int)) ∧ w'.cell? ⟨b6, 0, none⟩ = some (.int .i64 (r2 : Int)) ∧ w'.cell? ⟨b, off + r1, none⟩ = some (.slice (some ⟨b3, o3, none⟩) 3 c3) ∧ w'.cell? ⟨b, off + r2, none⟩ = some (.slice (some ⟨b4, o4, none⟩) 3 c4) ∧ w'.cell? ⟨b3, o3 + 4, none⟩ = some (.int .i64 A) ∧ w'.cell? ⟨b3, o3 + 4 + 1, none⟩ = some (.int .i64 AM) ∧ w'.cell? ⟨b4, o4, none⟩ = some (.int .i64 B) ∧ w'.cell? ⟨b4, o4 + 1, none⟩ = some (.int .i64 BM)) := fun w' hb =>
      ⟨hb, (hb.cell (World.block_lt_of_cell? wf _ y0)).trans y0, (hb.cell (World.block_lt_of_cell? wf _ y1)).trans y1, (hb.cell (World.block_lt_of_cell? wf _ y2)).trans y2, (hb.cell (World.block_lt_of_cell? wf _ gc1')).trans gc1', (hb.cell (World.block_lt_of_cell? wf _ gc2')).trans gc2', (hb.cell (World.block_lt_of_cell? wf _ s4)).trans s4, (hb.cell (World.block_lt_of_cell? wf _ s5)).trans s5, (hb.cell (World.block_lt_of_cell? wf _ s0)).trans s0, (hb.cell (World.block_lt_of_cell? wf _ s1)).trans s1⟩
    have HS := Lib.hid hS
    have HK5 := Lib.hid kb5
    have HK6 := Lib.hid kb6
    have HBF := Lib.hid (And.intro hbf hbf1)
    clear hS y0 y1 y2 gc1 gc2 gi1 gi2 gc1' gc2' s0 s1 s4 s5 hA hAM hB hBM kb5 kb6 hbf hbf1
    go_wp2_with fail

    rename_i K2 hK2
    have tail2 : ∀ (b7 b8 : Nat) (wg : World), Below wf.heap.size wf wg → Blk wg b7 143 #[.int .i64 A, .int .i64 AM] → Blk wg b8 143 #[.int .i64 B, .int .i64 BM] → K2 { tmps := #[Value.agg #[Value.slice (some ⟨b, off, none⟩) k c], Value.int IntKind.i64 (q : Int), Value.pointer (some ⟨w.heap.size, 0, none⟩), undef, Value.bool false, Value.pointer (some ⟨b5, 0, none⟩), Value.pointer (some ⟨b6, 0, none⟩), Value.pointer (some ⟨b7, 0, none⟩), Value.pointer (some ⟨b8, 0, none⟩), undef, undef, Value.pointer (some ⟨w.heap.size, 0, none⟩), Value.slice (some ⟨b, off, none⟩) k c, Value.int IntKind.i64 (q : Int), Value.pointer (some ⟨b, off + q, none⟩), Value.slice (some ⟨b1, o1, none⟩) 3 c1, Value.pointer (some ⟨b1, o1, none⟩), Value.agg #[Value.int IntKind.i64 (r1 : Int), Value.int IntKind.i64 M0], Value.pointer (some ⟨w.heap.size, 0, none⟩), Value.slice (some ⟨b, off, none⟩) k c, Value.int IntKind.i64 (q : Int), Value.pointer (some ⟨b, off + q, none⟩), Value.slice (some ⟨b1, o1, none⟩) 3 c1, Value.pointer (some ⟨b1, o1 + 4, none⟩), Value.agg #[Value.int IntKind.i64 (r2 : Int), Value.int IntKind.i64 M2], Value.pointer (some ⟨w.heap.size, 0, none⟩), Value.slice (some ⟨b, off, none⟩) k c, Value.pointer (some ⟨b5, 0, none⟩), Value.int IntKind.i64 (r1 : Int), Value.pointer (some ⟨b, off + r1, none⟩), Value.slice (some ⟨b3, o3, none⟩) 3 c3, Value.pointer (some ⟨b3, o3 + 4, none⟩), Value.agg #[Value.int IntKind.i64 A, Value.int IntKind.i64 AM], Value.pointer (some ⟨w.heap.size, 0, none⟩), Value.slice (some ⟨b, off, none⟩) k c, Value.pointer (some ⟨b6, 0, none⟩), Value.int IntKind.i64 (r2 : Int), Value.pointer (some ⟨b, off + r2, none⟩), Value.slice (some ⟨b4, o4, none⟩) 3 c4, Value.pointer (some ⟨b4, o4, none⟩), Value.agg #[Value.int IntKind.i64 B, Value.int IntKind.i64 BM], undef, undef, undef, undef, undef, undef, undef, undef, undef, undef, undef, undef, undef, undef, undef, undef, undef, undef, undef, undef, undef, undef, undef, undef, undef, undef, undef, undef, undef, undef, undef, undef, undef, undef, undef, undef, undef, undef, undef, undef, undef, undef, undef, undef, undef, undef, undef, undef, undef, undef, undef, undef], defers := [] } wg := by
      intro b7 b8 wg hbg kb7 kb8
      refine hK2 _ _ ?_
      clear hK2 HS
      have k5 := HK5.out.belowS hbg
      have k6 := HK6.out.belowS hbg
      have c0 := k5.cell 0
      have c1' := k5.cell 1
      have c2 := k6.cell 0
      have c3' := k6.cell 1
      have c4' := kb7.cell 0
      have c5 := kb7.cell 1
      have c6 := kb8.cell 0
      have c7 := kb8.cell 1
      simp at c0 c1' c2 c3' c4' c5 c6 c7
      have hbw : Below wr.heap.size wr wg := HBF.out.2.trans (hbg.mono HBF.out.2.size)
      have HBW := Lib.hid (below_tr hbw HB0.out)
      have HCm : Hid (CmT d q ↔ A = B ∧ AM = M2 ∧ BM = M0 ∧ cmM M0 M2 = true ∧ ¬ (M0 = M2 ∧ A = (q : Int))) := Lib.hid (by
        unfold CmT
        rw [HT0.out, HT2.out, HN0.out, HN2.out, show ((r1 : Int)).toNat = r1 by omega, show ((r2 : Int)).toNat = r2 by omega, HA.out.1, HA.out.2.1, HA.out.2.2.1, HA.out.2.2.2])
      have HK5' := Lib.hid k5
      have HK6' := Lib.hid k6
      have HK7' := Lib.hid kb7
      clear HA HT0 HT2 HN0 HN2 k5 k6 kb7 kb8 hbg hbw s0 s1 s4 s5 HK5 HK6
      by_cases hA1 : A = B
      · have t1 : (A != B) = false := by simpa using hA1
        by_cases hA2 : AM = M2
        · have t2 : (AM != M2) = false := by simpa using hA2
          by_cases hA3 : BM = M0
          · have t3 : (BM != M0) = false := by simpa using hA3
            have HA1 := Lib.hid hA1
            have HA2 := Lib.hid hA2
            have HA3 := Lib.hid hA3
            have h1 : M0 = -1 ∨ M0 = 0 ∨ M0 = 1 ∨ M0 = 2 := by omega
            have h2 : M2 = -1 ∨ M2 = 0 ∨ M2 = 1 ∨ M2 = 2 := by omega
            clear hA1 hA2 hA3 hM0 hM2
            go_wp2_with fail
            (refine wp_region_calm (by kernel_rfl) (by kernel_rfl) ?_; (repeat (first | go_big_quiet_skip | (go_big_quiet_want; first | (go_big_quiet_op; go_big_quiet_on) | (apply quiet_val; (· (intro _ hw; have f1 : (_ : World).cell? ⟨b5, 1, none⟩ = some (.int .i64 M0) := (HK5'.out.belowS hw).cell 1; have f2 : (_ : World).cell? ⟨b6, 1, none⟩ = some (.int .i64 M2) := (HK6'.out.belowS hw).cell 1; go_simp; exact rfl)); go_simp; go_big_quiet_on) | (apply quiet_call; (· (intro _ _; go_simp; exact ⟨rfl, rfl⟩)); (· (intro _ hw; fail)); go_simp; go_big_quiet_on)))); refine wpQuiet_nil ?_; intro wq bq)
            have y7 : wq.cell? ⟨b7, 0, none⟩ = some (.int .i64 A) := (HK7'.out.belowS bq).cell 0
            have HBQ := Lib.hid (below_tr bq HBW.out)
            clear bq HBW c0 c1' c2 c3' c4' c5 c6 c7 t1 t2 t3
            by_cases hA5 : A = (q : Int)
            · have t5 : (A != (q : Int)) = false := by simpa using hA5
              have HA5 := Lib.hid hA5
              clear hA5
              rcases h1 with rfl | rfl | rfl | rfl <;> rcases h2 with rfl | rfl | rfl | rfl <;>
              · go_wp2
                go_ret
                first
                  | exact ⟨ret_bool (cmTB_yes (HCm.out.2 ⟨HA1.out, HA2.out, HA3.out, by decide, fun h => absurd h.1 (by decide)⟩)).symm, HBQ.out⟩
                  | exact ⟨ret_bool (cmTB_no fun h => (HCm.out.1 h).2.2.2.2 ⟨by first | trivial | rfl, HA5.out⟩).symm, HBQ.out⟩
                  | exact ⟨ret_bool (cmTB_no fun h => absurd (HCm.out.1 h).2.2.2.1 (by decide)).symm, HBQ.out⟩
            · have t5 : (A != (q : Int)) = true := by simpa using hA5
              have HA5 := Lib.hid hA5
              clear hA5
              rcases h1 with rfl | rfl | rfl | rfl <;> rcases h2 with rfl | rfl | rfl | rfl <;>
              · go_wp2
                go_ret
                first
                  | exact ⟨ret_bool (cmTB_yes (HCm.out.2 ⟨HA1.out, HA2.out, HA3.out, by decide, fun h => HA5.out h.2⟩)).symm, HBQ.out⟩
                  | exact ⟨ret_bool (t5.trans (cmTB_yes (HCm.out.2 ⟨HA1.out, HA2.out, HA3.out, by decide, fun h => HA5.out h.2⟩)).symm), HBQ.out⟩
                  | exact ⟨ret_bool (cmTB_no fun h => absurd (HCm.out.1 h).2.2.2.1 (by decide)).symm, HBQ.out⟩
          · have t3 : (BM != M0) = true := by simpa using hA3
            have HT := Lib.hid (cmTB_no fun h => hA3 (HCm.out.1 h).2.2.1)
            clear hA1 hA2 hA3
            go_wp2_with fail
            go_ret
            exact ⟨ret_bool HT.out.symm, HBW.out⟩
        · have t2 : (AM != M2) = true := by simpa using hA2
          have HT := Lib.hid (cmTB_no fun h => hA2 (HCm.out.1 h).2.1)
          clear hA1 hA2
          go_wp2_with fail
          go_ret
          exact ⟨ret_bool HT.out.symm, HBW.out⟩
      · have t1 : (A != B) = true := by simpa using hA1
        have HT := Lib.hid (cmTB_no fun h => hA1 (HCm.out.1 h).1)
        clear hA1
        go_wp2_with fail
        go_ret
        exact ⟨ret_bool HT.out.symm, HBW.out⟩
    clear hK2
    go_region_held3 (fun w' => Below wf.heap.size wf w' ∧ w'.cell? ⟨w.heap.size, 0, none⟩ = some (.slice (some ⟨b, off, none⟩) k c) ∧ w'.cell? ⟨b5, 0, none⟩ = some (.int .i64 (r1 : Int)) ∧ w'.cell? ⟨b6, 0, none⟩ = some (.int .i64 (r2 : Int)) ∧ w'.cell? ⟨b, off + r1, none⟩ = some (.slice (some ⟨b3, o3, none⟩) 3 c3) ∧ w'.cell? ⟨b, off + r2, none⟩ = some (.slice (some ⟨b4, o4, none⟩) 3 c4) ∧ w'.cell? ⟨b3, o3 + 4, none⟩ = some (.int .i64 A) ∧ w'.cell? ⟨b3, o3 + 4 + 1, none⟩ = some (.int .i64 AM) ∧ w'.cell? ⟨b4, o4, none⟩ = some (.int .i64 B) ∧ w'.cell? ⟨b4, o4 + 1, none⟩ = some (.int .i64 BM))
      (first | exact HS.out _ (below_drew1 _) | exact HS.out _ (below_alloc1 _ _).drew | exact HS.out _ (below_alloc2 _ _ _).drew | exact HS.out _ (Below.alloc (And.left (by assumption)) (Below.size (And.left (by assumption))) _))
      (fail)
    all_goals first
      | exact tail2 wf.heap.size (wf.heap.size + 1) _ (below_alloc2 _ _ _).drew ((blk_at (w := wf) rfl).alloc _) (blk_at (by simp))
      | exact tail2 (wf.heap.size + 1) wf.heap.size _ (below_alloc2 _ _ _).drew (blk_at (by simp)) ((blk_at (w := wf) rfl).alloc _)
  clear hK
  go_region_held3 (fun w' => Below wr.heap.size wr w' ∧ w'.cell? ⟨w.heap.size, 0, none⟩ = some (.slice (some ⟨b, off, none⟩) k c) ∧ w'.cell? ⟨b, off + q, none⟩ = some (.slice (some ⟨b1, o1, none⟩) 3 c1) ∧ w'.cell? ⟨b1, o1, none⟩ = some (.int .i64 (r1 : Int)) ∧ w'.cell? ⟨b1, o1 + 1, none⟩ = some (.int .i64 M0) ∧ w'.cell? ⟨b1, o1 + 4, none⟩ = some (.int .i64 (r2 : Int)) ∧ w'.cell? ⟨b1, o1 + 4 + 1, none⟩ = some (.int .i64 M2))
    (first | exact HS.out _ (below_drew1 _) | exact HS.out _ (below_alloc1 _ _).drew | exact HS.out _ (below_alloc2 _ _ _).drew | exact HS.out _ (Below.alloc (And.left (by assumption)) (Below.size (And.left (by assumption))) _))
    (fail)
  all_goals first
    | exact tail wr.heap.size (wr.heap.size + 1) _ (below_alloc2 _ _ _).drew ((blk_at (w := wr) rfl).alloc _) (blk_at (by simp))
    | exact tail (wr.heap.size + 1) wr.heap.size _ (below_alloc2 _ _ _).drew (blk_at (by simp)) ((blk_at (w := wr) rfl).alloc _)
end Go.Proofs.Ytpognnifgcacnaa

/- The reference's test of a template. -/
namespace Go.Proofs.Ytpognnifgcacnaa
open Go.RowKit

set_option maxRecDepth 100000 in
set_option maxHeartbeats 3200000 in
theorem specTmp_any (ao : Option Addr) (n c : Nat) (d : List (List (Int × Int))) (w : World) (h : Tgtss w ao n d) :
    Calls Try.prog 82 #[.agg #[.slice ao n c]] w fun e w' => e = .returned (.bool (tmpB d)) ∧ Below w.heap.size w w' := by
  have hl := h.1
  have hbd := h.2.1
  by_cases hn1 : n < 1
  · have HT := Lib.hid (tmpB_no (d := d) fun t => by have := t.one; omega)
    obtain rfl : n = 0 := by omega
    clear h
    go_enter Try.func82, Try.ntmps82
    go_wp2
    go_ret
    exact ⟨ret_bool HT.out.symm, below_alloc1 _ _⟩
  by_cases hn12 : 12 < n
  · have HT := Lib.hid (tmpB_no (d := d) fun t => by have := t.few; omega)
    have g1 : decide ((n : Int) < 1) = false := by simp; omega
    have g2 : decide ((n : Int) > 12) = true := by simp; omega
    clear h
    go_enter Try.func82, Try.ntmps82
    go_wp2
    go_ret
    exact ⟨ret_bool HT.out.symm, below_alloc1 _ _⟩
  have g1 : decide ((n : Int) < 1) = false := by simp; omega
  have g2 : decide ((n : Int) > 12) = false := by simp; omega
  have HL := Lib.hid hl
  clear hl
  go_enter Try.func82, Try.ntmps82
  go_wp2_with fail
  obtain ⟨w1, hw1⟩ : ∃ w1, w1 = w.alloc (.cells #[.slice ao n c] 29) := ⟨_, rfl⟩
  have hB0 : Below w.heap.size w w1 := by rw [hw1]; exact below_alloc1 _ _
  have hbx : Blk w1 w.heap.size 29 #[.slice ao n c] := by rw [hw1]; exact blk_at rfl
  rw [← hw1]
  have h1 := h.below hB0
  obtain ⟨b, off, rfl, hrow⟩ : ∃ b off, ao = some ⟨b, off, none⟩ ∧ ∀ j, j < n → ∃ a' n' c', w1.cell? ⟨b, off + j, none⟩ = some (.slice a' n' c') ∧ Tgts w1 a' n' (lget d j) := by
    obtain ⟨b, off, e, hc⟩ := h1.2.2 (by omega)
    refine ⟨b, off, e, fun j hj => ?_⟩
    obtain ⟨u, h2, a', n', c', rfl, h3⟩ := hc j hj
    exact ⟨a', n', c', h2, h3⟩
  have H1 := Lib.hid hrow
  have HB0 := Lib.hid hB0
  have HX := Lib.hid hbx
  clear h h1 hB0 hbx hw1 hrow
  go_loopw [4] (fun i wr => ∃ k : Nat, i = .int .i64 k ∧ k ≤ n ∧ Below w1.heap.size w1 wr ∧ ∀ j, j < k → (lget d j).length = 3 ∧ ∀ i, i < 3 → RgT d j i ∧ ¬ FxT d j i) (fun i _ => n - (intOf i).toNat)
  case atStart => exact ⟨0, rfl, Nat.zero_le _, Below.refl _ _, fun j hj => absurd hj (by omega)⟩
  case round =>
    obtain ⟨k, rfl, hk, hb, hgood⟩ := hrel
    have HG := Lib.hid hgood
    have HB := Lib.hid hb
    have x0 := (HX.out.belowS hb).cell 0
    simp at x0
    clear hgood
    by_cases hlt : k < n
    · obtain ⟨a1, n1, c1, hc, hi⟩ := H1.out k hlt
      have hc' := (hb.cell (p := ⟨b, off + k, none⟩) (World.block_lt_of_cell? w1 _ hc)).trans hc
      have HC := Lib.hid hc
      have HI := Lib.hid hi
      have hr := hi.1
      have HR := Lib.hid hr
      clear hc hi hr hb
      by_cases h3 : n1 = 3
      · subst h3
        go_wp2_with fail
        go_loopw [5] (fun i wr => ∃ m : Nat, i = .int .i64 m ∧ m ≤ 3 ∧ Below w1.heap.size w1 wr ∧ ∀ i, i < m → RgT d k i ∧ ¬ FxT d k i) (fun i _ => 3 - (intOf i).toNat)
        case atStart => exact ⟨0, rfl, Nat.zero_le _, HB.out, fun j hj => absurd hj (by omega)⟩
        case round =>
          obtain ⟨m, rfl, hm, hb, hg2⟩ := hrel
          have HG2 := Lib.hid hg2
          have HBm := Lib.hid hb
          clear x0 hc'
          have x0 := (HX.out.belowS hb).cell 0
          simp at x0
          clear hg2
          by_cases hlt2 : m < 3
          · have hc' := (hb.cell (p := ⟨b, off + k, none⟩) (World.block_lt_of_cell? w1 _ HC.out)).trans HC.out
            obtain ⟨b1, o1, rfl, p1, p2⟩ := (HI.out.below hb).at_ hlt2
            have hTP : tP d k m = kA (lget d k) m := rfl
            have hTM : tM d k m = kB (lget d k) m := rfl
            generalize kA (lget d k) m = X at *
            generalize kB (lget d k) m = Y at *
            have HTP := Lib.hid hTP
            have HTM := Lib.hid hTM
            clear hTP hTM hb
            cases cP : inB X 0 ((n : Int) - 1) with
            | false =>
              have HP := Lib.hid cP
              have HT := Lib.hid (tmpB_no (d := d) fun t => by have h1 := t.rng k (by rw [HL.out]; exact hlt) m hlt2; unfold RgT at h1; rw [HTP.out, HL.out] at h1; have := inB_false.1 HP.out; omega)
              clear cP
              go_wp2_with (go_at_call 95; refine (specIn_any _ _ _ _).mono ?_; rintro e w' ⟨rfl, rfl⟩; rw [HP.out])
              go_ret
              exact ⟨ret_bool HT.out.symm, (below_tr HBm.out HB0.out).alloc (below_tr HBm.out HB0.out).size _⟩
            | true =>
              have HP := Lib.hid cP
              clear cP
              cases cM : inB Y (-1) 2 with
              | false =>
                have HM := Lib.hid cM
                have HT := Lib.hid (tmpB_no (d := d) fun t => by have h1 := t.rng k (by rw [HL.out]; exact hlt) m hlt2; unfold RgT at h1; rw [HTM.out] at h1; have := inB_false.1 HM.out; omega)
                clear cM
                go_wp2_with (go_at_call 95; refine (specIn_any _ _ _ _).mono ?_; rintro e w' ⟨rfl, rfl⟩; first | rw [HP.out] | rw [HM.out])
                go_ret
                exact ⟨ret_bool HT.out.symm, (below_tr HBm.out HB0.out).alloc (below_tr HBm.out HB0.out).size _⟩
              | true =>
                have HM := Lib.hid cM
                clear cM
                have HR1 : Hid (RgT d k m) := Lib.hid (by unfold RgT; rw [HTP.out, HTM.out, HL.out]; exact ⟨inB_true.1 HP.out, inB_true.1 HM.out⟩)
                by_cases hx : X = (k : Int)
                · have hxk : (X == (k : Int)) = true := by simpa using hx
                  by_cases hy : Y < 0
                  · have HT := Lib.hid (tmpB_no (d := d) fun t => by have h1 := t.fix k (by rw [HL.out]; exact hlt) m hlt2; unfold FxT at h1; rw [HTP.out, HTM.out] at h1; exact h1 ⟨hx, hy⟩)
                    have hy2 : decide (Y < 0) = true := by simpa using hy
                    clear hx
                    go_wp2_with (go_at_call 95; refine (specIn_any _ _ _ _).mono ?_; rintro e w' ⟨rfl, rfl⟩; first | rw [HP.out] | rw [HM.out])
                    go_ret
                    exact ⟨ret_bool HT.out.symm, (below_tr HBm.out HB0.out).alloc (below_tr HBm.out HB0.out).size _⟩
                  · have hy2 : decide (Y < 0) = false := by simpa using hy
                    have HF : Hid (¬ FxT d k m) := Lib.hid (by unfold FxT; rw [HTM.out]; omega)
                    clear hx
                    go_wp2_with (go_at_call 95; refine (specIn_any _ _ _ _).mono ?_; rintro e w' ⟨rfl, rfl⟩; first | rw [HP.out] | rw [HM.out])
                    go_roundw
                    case rel => exact ⟨m + 1, by go_num, by omega, HBm.out.alloc HBm.out.size _, fun i hi => by rcases Nat.lt_or_ge i m with h | h; exact HG2.out i h; obtain rfl : i = m := (by omega); exact ⟨HR1.out, HF.out⟩⟩
                    case measure => simp [intOf]; omega
                · have hxk : (X == (k : Int)) = false := by simpa using hx
                  have HF : Hid (¬ FxT d k m) := Lib.hid (by unfold FxT; rw [HTP.out]; exact fun h => hx h.1)
                  clear hx
                  go_wp2_with (go_at_call 95; refine (specIn_any _ _ _ _).mono ?_; rintro e w' ⟨rfl, rfl⟩; first | rw [HP.out] | rw [HM.out])
                  go_roundw
                  case rel => exact ⟨m + 1, by go_num, by omega, HBm.out.alloc HBm.out.size _, fun i hi => by rcases Nat.lt_or_ge i m with h | h; exact HG2.out i h; obtain rfl : i = m := (by omega); exact ⟨HR1.out, HF.out⟩⟩
                  case measure => simp [intOf]; omega
          · obtain rfl : m = 3 := by omega
            go_wp2_with fail
            go_roundw
            case rel => exact ⟨k + 1, by go_num, by omega, HBm.out, fun j hj => by rcases Nat.lt_or_ge j k with h | h; exact HG.out j h; obtain rfl : j = k := (by omega); exact ⟨HR.out, HG2.out⟩⟩
            case measure => simp [intOf]; omega
      · have HT := Lib.hid (tmpB_no (d := d) fun t => by have := t.three k (by rw [HL.out]; exact hlt); rw [HR.out] at this; exact h3 this)
        have h3' : ((n1 : Int) != 3) = true := by simp; omega
        go_wp2_with fail
        go_ret
        exact ⟨ret_bool HT.out.symm, below_tr HB.out HB0.out⟩
    · obtain rfl : k = n := by omega
      go_wp2_with fail
      clear x0 hlt hk
      have HG0 := Lib.hid HG.out
      go_loopw [7] (fun i wr => ∃ q : Nat, i = .int .i64 q ∧ q ≤ k ∧ Below w1.heap.size w1 wr ∧ ∀ j, j < q → (∀ i, i < 3 → BkT d j i) ∧ CmT d j) (fun i _ => k - (intOf i).toNat)
      case atStart => exact ⟨0, rfl, Nat.zero_le _, HB.out, fun j hj => absurd hj (by omega)⟩
      case round =>
        obtain ⟨q, rfl, hq, hb, hgood⟩ := hrel
        clear HB HG
        have HG := Lib.hid hgood
        have HB := Lib.hid hb
        clear hgood
        by_cases hlt : q < k
        · obtain ⟨a1, n1, c1, hc, hi⟩ := H1.out q hlt
          obtain rfl : n1 = 3 := by rw [← hi.1]; exact (HG0.out q hlt).1
          have HC := Lib.hid hc
          have HI := Lib.hid hi
          clear hc hi hb
          go_wp2_with fail
          go_loopw [8] (fun i wr => ∃ m : Nat, i = .int .i64 m ∧ m ≤ 3 ∧ Below w1.heap.size w1 wr ∧ ∀ i, i < m → BkT d q i) (fun i _ => 3 - (intOf i).toNat)
          case atStart => exact ⟨0, rfl, Nat.zero_le _, HB.out, fun j hj => absurd hj (by omega)⟩
          case round =>
            obtain ⟨m, rfl, hm, hb, hg2⟩ := hrel
            have HG2 := Lib.hid hg2
            have HBm := Lib.hid hb
            have x0 := (HX.out.belowS hb).cell 0
            simp at x0
            clear hg2
            by_cases hlt2 : m < 3
            · have hc' := (hb.cell (p := ⟨b, off + q, none⟩) (World.block_lt_of_cell? w1 _ HC.out)).trans HC.out
              obtain ⟨b1, o1, rfl, p1, p2⟩ := (HI.out.below hb).at_ hlt2
              have hTP : tP d q m = kA (lget d q) m := rfl
              have hTM : tM d q m = kB (lget d q) m := rfl
              have hrg := ((HG0.out q hlt).2 m hlt2).1
              unfold RgT at hrg
              rw [hTP, HL.out] at hrg
              obtain ⟨r, hr⟩ : ∃ r : Nat, kA (lget d q) m = (r : Int) := ⟨(kA (lget d q) m).toNat, by omega⟩
              have hrk : r < k := by omega
              rw [hr] at hTP p1
              generalize kB (lget d q) m = Y at *
              have HTP := Lib.hid hTP
              have HTM := Lib.hid hTM
              obtain ⟨a2, n2, c2, gc, gi⟩ := H1.out r hrk
              obtain rfl : n2 = 3 := by rw [← gi.1]; exact (HG0.out r hrk).1
              obtain ⟨b2, o2, rfl, p3, p4⟩ := (gi.below hb).at_ hlt2
              have gc' := (hb.cell (p := ⟨b, off + r, none⟩) (World.block_lt_of_cell? w1 _ gc)).trans gc
              have hTP2 : tP d r m = kA (lget d r) m := rfl
              have hTM2 : tM d r m = kB (lget d r) m := rfl
              generalize kA (lget d r) m = V at *
              generalize kB (lget d r) m = U at *
              have HTP2 := Lib.hid hTP2
              have HTM2 := Lib.hid hTM2
              have z1 := ((HX.out.belowS hb).alloc (.cells #[.int .i64 r, .int .i64 Y] 143)).cell 0
              have z2 := (hb.alloc hb.size (.cells #[.int .i64 r, .int .i64 Y] 143)).cell (p := ⟨b, off + r, none⟩) (World.block_lt_of_cell? w1 _ gc)
              rw [gc] at z2
              have z3 := ((below_alloc1 wr (.cells #[.int .i64 r, .int .i64 Y] 143)).cell (p := ⟨b2, o2 + m * 2, none⟩) (World.block_lt_of_cell? wr _ p3)).trans p3
              have z4 := ((below_alloc1 wr (.cells #[.int .i64 r, .int .i64 Y] 143)).cell (p := ⟨b2, o2 + m * 2 + 1, none⟩) (World.block_lt_of_cell? wr _ p4)).trans p4
              simp at z1
              clear hTP hTM hTP2 hTM2 hb hr gi gc hrg
              by_cases hv : V = (q : Int)
              · have hv2 : (V != (q : Int)) = false := by simpa using hv
                by_cases hu : U = Y
                · have hu2 : (U != Y) = false := by simpa using hu
                  have HK : Hid (BkT d q m) := Lib.hid (by unfold BkT; rw [HTP.out, HTM.out, show ((r : Int)).toNat = r by omega, HTP2.out, HTM2.out]; exact ⟨hv, hu⟩)
                  clear hv hu
                  go_wp2_with fail
                  go_roundw
                  case rel => exact ⟨m + 1, by go_num, by omega, ((HBm.out.alloc HBm.out.size _).alloc (by have := HBm.out.size; simp; omega) _), fun i hi => by rcases Nat.lt_or_ge i m with h | h; exact HG2.out i h; obtain rfl : i = m := (by omega); exact HK.out⟩
                  case measure => simp [intOf]; omega
                · have hu2 : (U != Y) = true := by simpa using hu
                  have HT := Lib.hid (tmpB_no (d := d) fun t => by have h1 := t.back q (by rw [HL.out]; exact hlt) m hlt2; unfold BkT at h1; rw [HTP.out, HTM.out, show ((r : Int)).toNat = r by omega, HTP2.out, HTM2.out] at h1; exact hu h1.2)
                  clear hv hu
                  go_wp2_with fail
                  go_ret
                  exact ⟨ret_bool HT.out.symm, ((below_tr HBm.out HB0.out).alloc (below_tr HBm.out HB0.out).size _).alloc (by have := (below_tr HBm.out HB0.out).size; simp; omega) _⟩
              · have hv2 : (V != (q : Int)) = true := by simpa using hv
                have HT := Lib.hid (tmpB_no (d := d) fun t => by have h1 := t.back q (by rw [HL.out]; exact hlt) m hlt2; unfold BkT at h1; rw [HTP.out, HTM.out, show ((r : Int)).toNat = r by omega, HTP2.out, HTM2.out] at h1; exact hv h1.1)
                clear hv
                go_wp2_with fail
                go_ret
                exact ⟨ret_bool HT.out.symm, ((below_tr HBm.out HB0.out).alloc (below_tr HBm.out HB0.out).size _).alloc (by have := (below_tr HBm.out HB0.out).size; simp; omega) _⟩
            · obtain rfl : m = 3 := by omega
              go_wp2_with fail
              have hc' := (hb.cell (p := ⟨b, off + q, none⟩) (World.block_lt_of_cell? w1 _ HC.out)).trans HC.out
              obtain ⟨b1, o1, rfl, p0, p1⟩ := (HI.out.below hb).at_ (k := 0) (by omega)
              obtain ⟨b1', o1', e1, p4, p5⟩ := (HI.out.below hb).at_ (k := 2) (by omega)
              injection e1 with e1; injection e1 with e1 e2 e3
              subst e1 e2
              clear e3
              have q0 : wr.cell? ⟨b1, o1, none⟩ = some (.int .i64 (kA (lget d q) 0)) := p0
              have q1 : wr.cell? ⟨b1, o1 + 1, none⟩ = some (.int .i64 (kB (lget d q) 0)) := by simpa using p1
              have q4 : wr.cell? ⟨b1, o1 + 4, none⟩ = some (.int .i64 (kA (lget d q) 2)) := p4
              have q5 : wr.cell? ⟨b1, o1 + 4 + 1, none⟩ = some (.int .i64 (kB (lget d q) 2)) := p5
              clear p0 p1 p4 p5
              have hrg0 := ((HG0.out q hlt).2 0 (by omega)).1
              have hrg2 := ((HG0.out q hlt).2 2 (by omega)).1
              unfold RgT at hrg0 hrg2
              have hT0 : tP d q 0 = kA (lget d q) 0 := rfl
              have hT2 : tP d q 2 = kA (lget d q) 2 := rfl
              have hN0 : tM d q 0 = kB (lget d q) 0 := rfl
              have hN2 : tM d q 2 = kB (lget d q) 2 := rfl
              rw [hT0, hN0, HL.out] at hrg0
              rw [hT2, hN2, HL.out] at hrg2
              obtain ⟨r1, hr1⟩ : ∃ r : Nat, kA (lget d q) 0 = (r : Int) := ⟨(kA (lget d q) 0).toNat, by omega⟩
              obtain ⟨r2, hr2⟩ : ∃ r : Nat, kA (lget d q) 2 = (r : Int) := ⟨(kA (lget d q) 2).toNat, by omega⟩
              have hr1k : r1 < k := by omega
              have hr2k : r2 < k := by omega
              have hM0 : -1 ≤ kB (lget d q) 0 ∧ kB (lget d q) 0 ≤ 2 := hrg0.2
              have hM2 : -1 ≤ kB (lget d q) 2 ∧ kB (lget d q) 2 ≤ 2 := hrg2.2
              rw [hr1] at q0 hT0
              rw [hr2] at q4 hT2
              clear hr1 hr2 hrg0 hrg2
              generalize kB (lget d q) 0 = M0 at *
              generalize kB (lget d q) 2 = M2 at *
              have HT0 := Lib.hid hT0
              have HT2 := Lib.hid hT2
              have HN0 := Lib.hid hN0
              have HN2 := Lib.hid hN2
              clear hT0 hT2 hN0 hN2
              have hS : ∀ w', Below wr.heap.size wr w' → (Below wr.heap.size wr w' ∧ w'.cell? ⟨w.heap.size, 0, none⟩ = some (.slice (some ⟨b, off, none⟩) k c) ∧ w'.cell? ⟨b, off + q, none⟩ = some (.slice (some ⟨b1, o1, none⟩) 3 c1) ∧ w'.cell? ⟨b1, o1, none⟩ = some (.int .i64 (r1 : Int)) ∧ w'.cell? ⟨b1, o1 + 1, none⟩ = some (.int .i64 M0) ∧ w'.cell? ⟨b1, o1 + 4, none⟩ = some (.int .i64 (r2 : Int)) ∧ w'.cell? ⟨b1, o1 + 4 + 1, none⟩ = some (.int .i64 M2)) := fun w' hb =>
                ⟨hb, (hb.cell (World.block_lt_of_cell? wr _ x0)).trans x0, (hb.cell (World.block_lt_of_cell? wr _ hc')).trans hc', (hb.cell (World.block_lt_of_cell? wr _ q0)).trans q0, (hb.cell (World.block_lt_of_cell? wr _ q1)).trans q1, (hb.cell (World.block_lt_of_cell? wr _ q4)).trans q4, (hb.cell (World.block_lt_of_cell? wr _ q5)).trans q5⟩
              have HS := Lib.hid hS
              clear hS x0 hc' q0 q1 q4 q5 hb
              rename_i K hK
              have tail : ∀ (b11 b12 : Nat) (wf : World), Below wr.heap.size wr wf → Blk wf b11 143 #[.int .i64 (r1 : Int), .int .i64 M0] → Blk wf b12 143 #[.int .i64 (r2 : Int), .int .i64 M2] → K { tmps := #[Value.agg #[Value.slice (some ⟨b, off, none⟩) k c], Value.pointer (some ⟨w.heap.size, 0, none⟩), u2, Value.int IntKind.i64 (k : Int), Value.int IntKind.i64 (k : Int), u5, u6, Value.int IntKind.i64 (q : Int), Value.int IntKind.i64 3, u9, u10, Value.pointer (some ⟨b11, 0, none⟩), Value.pointer (some ⟨b12, 0, none⟩), u13, u14, Value.pointer (some ⟨w.heap.size, 0, none⟩), Value.slice (some ⟨b, off, none⟩) k c, Value.int IntKind.i64 (k : Int), Value.int IntKind.i64 (k : Int), Value.bool false, Value.bool false, Value.int IntKind.i64 (k : Int), Value.bool false, Value.bool false, Value.int IntKind.i64 (k : Int), Value.int IntKind.i64 (k : Int), Value.bool false, u27, u28, u29, u30, u31, u32, u33, u34, u35, u36, u37, u38, u39, u40, u41, u42, u43, u44, u45, u46, u47, u48, u49, u50, u51, u52, u53, u54, u55, u56, u57, u58, u59, u60, u61, u62, u63, u64, u65, u66, u67, u68, u69, u70, Value.int IntKind.i64 (q : Int), Value.int IntKind.i64 (k : Int), Value.bool true, u74, u75, Value.int IntKind.i64 3, Value.bool false, u78, u79, u80, u81, u82, u83, u84, u85, u86, u87, u88, u89, u90, u91, u92, u93, u94, u95, u96, u97, u98, u99, u100, u101, u102, u103, u104, u105, u106, u107, Value.pointer (some ⟨w.heap.size, 0, none⟩), Value.slice (some ⟨b, off, none⟩) k c, Value.int IntKind.i64 (q : Int), Value.pointer (some ⟨b, off + q, none⟩), Value.slice (some ⟨b1, o1, none⟩) 3 c1, Value.pointer (some ⟨b1, o1, none⟩), Value.agg #[Value.int IntKind.i64 (r1 : Int), Value.int IntKind.i64 M0], Value.pointer (some ⟨w.heap.size, 0, none⟩), Value.slice (some ⟨b, off, none⟩) k c, Value.int IntKind.i64 (q : Int), Value.pointer (some ⟨b, off + q, none⟩), Value.slice (some ⟨b1, o1, none⟩) 3 c1, Value.pointer (some ⟨b1, o1 + 4, none⟩), Value.agg #[Value.int IntKind.i64 (r2 : Int), Value.int IntKind.i64 M2], u122, u123, u124, u125, u126, u127, u128, u129, u130, u131, u132, u133, u134, u135, u136, u137, u138, u139, u140, u141, u142, u143, u144, u145, u146, u147, u148, u149, u150, u151, u152, u153, u154, u155, u156, u157, u158, u159, u160, u161, u162, u163, u164, u165, u166, u167, u168, u169, u170, u171, u172, u173, u174, u175, u176, u177], defers := [] } wf := by
                intro b11 b12 wf hbf kb11 kb12
                refine hK _ _ ?_
                clear hK HS
                have hbf1 : Below w1.heap.size w1 wf := HBm.out.trans (hbf.mono HBm.out.size)
                obtain ⟨a3, n3, c3, gc1, gi1⟩ := H1.out r1 hr1k
                obtain rfl : n3 = 3 := by rw [← gi1.1]; exact (HG0.out r1 hr1k).1
                obtain ⟨b3, o3, rfl, s4, s5⟩ := (gi1.below hbf1).at_ (k := 2) (by omega)
                obtain ⟨a4, n4, c4, gc2, gi2⟩ := H1.out r2 hr2k
                obtain rfl : n4 = 3 := by rw [← gi2.1]; exact (HG0.out r2 hr2k).1
                obtain ⟨b4, o4, rfl, s0, s1⟩ := (gi2.below hbf1).at_ (k := 0) (by omega)
                have s4 : wf.cell? ⟨b3, o3 + 4, none⟩ = some (.int .i64 (kA (lget d r1) 2)) := s4
                have s5 : wf.cell? ⟨b3, o3 + 4 + 1, none⟩ = some (.int .i64 (kB (lget d r1) 2)) := s5
                have s0 : wf.cell? ⟨b4, o4, none⟩ = some (.int .i64 (kA (lget d r2) 0)) := s0
                have s1 : wf.cell? ⟨b4, o4 + 1, none⟩ = some (.int .i64 (kB (lget d r2) 0)) := by simpa using s1
                have gc1' := (hbf1.cell (World.block_lt_of_cell? w1 _ gc1)).trans gc1
                have gc2' := (hbf1.cell (World.block_lt_of_cell? w1 _ gc2)).trans gc2
                have hA : tP d r1 2 = kA (lget d r1) 2 := rfl
                have hAM : tM d r1 2 = kB (lget d r1) 2 := rfl
                have hB : tP d r2 0 = kA (lget d r2) 0 := rfl
                have hBM : tM d r2 0 = kB (lget d r2) 0 := rfl
                generalize kA (lget d r1) 2 = A at *
                generalize kB (lget d r1) 2 = AM at *
                generalize kA (lget d r2) 0 = B at *
                generalize kB (lget d r2) 0 = BM at *
                have HA := Lib.hid (And.intro hA (And.intro hAM (And.intro hB hBM)))
                have y0 := (HX.out.belowS hbf1).cell 0
                simp at y0
                have y1 := kb11.cell 0
                have y2 := kb12.cell 0
                simp at y1 y2
                have hS : ∀ w', Below wf.heap.size wf w' → (Below wf.heap.size wf w' ∧ w'.cell? ⟨w.heap.size, 0, none⟩ = some (.slice (some ⟨b, off, none⟩) k c) ∧ w'.cell? ⟨b11, 0, none⟩ = some (.int .i64 (r1 : Int)) ∧ w'.cell? ⟨b12, 0, none⟩ = some (.int .i64 (r2 : Int)) ∧ w'.cell? ⟨b, off + r1, none⟩ = some (.slice (some ⟨b3, o3, none⟩) 3 c3) ∧ w'.cell? ⟨b, off + r2, none⟩ = some (.slice (some ⟨b4, o4, none⟩) 3 c4) ∧ w'.cell? ⟨b3, o3 + 4, none⟩ = some (.int .i64 A) ∧ w'.cell? ⟨b3, o3 + 4 + 1, none⟩ = some (.int .i64 AM) ∧ w'.cell? ⟨b4, o4, none⟩ = some (.int .i64 B) ∧ w'.cell? ⟨b4, o4 + 1, none⟩ = some (.int .i64 BM)) := fun w' hb =>
                  ⟨hb, (hb.cell (World.block_lt_of_cell? wf _ y0)).trans y0, (hb.cell (World.block_lt_of_cell? wf _ y1)).trans y1, (hb.cell (World.block_lt_of_cell? wf _ y2)).trans y2, (hb.cell (World.block_lt_of_cell? wf _ gc1')).trans gc1', (hb.cell (World.block_lt_of_cell? wf _ gc2')).trans gc2', (hb.cell (World.block_lt_of_cell? wf _ s4)).trans s4, (hb.cell (World.block_lt_of_cell? wf _ s5)).trans s5, (hb.cell (World.block_lt_of_cell? wf _ s0)).trans s0, (hb.cell (World.block_lt_of_cell? wf _ s1)).trans s1⟩
                have HS := Lib.hid hS
                have HK11 := Lib.hid kb11
                have HK12 := Lib.hid kb12
                have HBF := Lib.hid (And.intro hbf hbf1)
                clear hS y0 y1 y2 gc1 gc2 gi1 gi2 gc1' gc2' s0 s1 s4 s5 hA hAM hB hBM kb11 kb12 hbf hbf1
                go_wp2_with fail
                rename_i K2 hK2
                have tail2 : ∀ (b13 b14 : Nat) (wg : World), Below wf.heap.size wf wg → Blk wg b13 143 #[.int .i64 A, .int .i64 AM] → Blk wg b14 143 #[.int .i64 B, .int .i64 BM] → K2 { tmps := #[Value.agg #[Value.slice (some ⟨b, off, none⟩) k c], Value.pointer (some ⟨w.heap.size, 0, none⟩), u2, Value.int IntKind.i64 (k : Int), Value.int IntKind.i64 (k : Int), u5, u6, Value.int IntKind.i64 (q : Int), Value.int IntKind.i64 3, u9, u10, Value.pointer (some ⟨b11, 0, none⟩), Value.pointer (some ⟨b12, 0, none⟩), Value.pointer (some ⟨b13, 0, none⟩), Value.pointer (some ⟨b14, 0, none⟩), Value.pointer (some ⟨w.heap.size, 0, none⟩), Value.slice (some ⟨b, off, none⟩) k c, Value.int IntKind.i64 (k : Int), Value.int IntKind.i64 (k : Int), Value.bool false, Value.bool false, Value.int IntKind.i64 (k : Int), Value.bool false, Value.bool false, Value.int IntKind.i64 (k : Int), Value.int IntKind.i64 (k : Int), Value.bool false, u27, u28, u29, u30, u31, u32, u33, u34, u35, u36, u37, u38, u39, u40, u41, u42, u43, u44, u45, u46, u47, u48, u49, u50, u51, u52, u53, u54, u55, u56, u57, u58, u59, u60, u61, u62, u63, u64, u65, u66, u67, u68, u69, u70, Value.int IntKind.i64 (q : Int), Value.int IntKind.i64 (k : Int), Value.bool true, u74, u75, Value.int IntKind.i64 3, Value.bool false, u78, u79, u80, u81, u82, u83, u84, u85, u86, u87, u88, u89, u90, u91, u92, u93, u94, u95, u96, u97, u98, u99, u100, u101, u102, u103, u104, u105, u106, u107, Value.pointer (some ⟨w.heap.size, 0, none⟩), Value.slice (some ⟨b, off, none⟩) k c, Value.int IntKind.i64 (q : Int), Value.pointer (some ⟨b, off + q, none⟩), Value.slice (some ⟨b1, o1, none⟩) 3 c1, Value.pointer (some ⟨b1, o1, none⟩), Value.agg #[Value.int IntKind.i64 (r1 : Int), Value.int IntKind.i64 M0], Value.pointer (some ⟨w.heap.size, 0, none⟩), Value.slice (some ⟨b, off, none⟩) k c, Value.int IntKind.i64 (q : Int), Value.pointer (some ⟨b, off + q, none⟩), Value.slice (some ⟨b1, o1, none⟩) 3 c1, Value.pointer (some ⟨b1, o1 + 4, none⟩), Value.agg #[Value.int IntKind.i64 (r2 : Int), Value.int IntKind.i64 M2], Value.pointer (some ⟨w.heap.size, 0, none⟩), Value.slice (some ⟨b, off, none⟩) k c, Value.pointer (some ⟨b11, 0, none⟩), Value.int IntKind.i64 (r1 : Int), Value.pointer (some ⟨b, off + r1, none⟩), Value.slice (some ⟨b3, o3, none⟩) 3 c3, Value.pointer (some ⟨b3, o3 + 4, none⟩), Value.agg #[Value.int IntKind.i64 A, Value.int IntKind.i64 AM], Value.pointer (some ⟨w.heap.size, 0, none⟩), Value.slice (some ⟨b, off, none⟩) k c, Value.pointer (some ⟨b12, 0, none⟩), Value.int IntKind.i64 (r2 : Int), Value.pointer (some ⟨b, off + r2, none⟩), Value.slice (some ⟨b4, o4, none⟩) 3 c4, Value.pointer (some ⟨b4, o4, none⟩), Value.agg #[Value.int IntKind.i64 B, Value.int IntKind.i64 BM], u138, u139, u140, u141, u142, u143, u144, u145, u146, u147, u148, u149, u150, u151, u152, u153, u154, u155, u156, u157, u158, u159, u160, u161, u162, u163, u164, u165, u166, u167, u168, u169, u170, u171, u172, u173, u174, u175, u176, u177], defers := [] } wg := by
                  intro b13 b14 wg hbg kb13 kb14
                  refine hK2 _ _ ?_
                  clear hK2 HS
                  have c0 := (HK11.out.belowS hbg).cell 0
                  have c1' := (HK11.out.belowS hbg).cell 1
                  have c2 := (HK12.out.belowS hbg).cell 0
                  have c3' := (HK12.out.belowS hbg).cell 1
                  have c4' := kb13.cell 0
                  have c5 := kb13.cell 1
                  have c6 := kb14.cell 0
                  have c7 := kb14.cell 1
                  simp at c0 c1' c2 c3' c4' c5 c6 c7
                  have hbw : Below w1.heap.size w1 wg := HBF.out.2.trans (hbg.mono HBF.out.2.size)
                  have HBW := Lib.hid (And.intro hbw (below_tr hbw HB0.out))
                  have HNo : Hid (¬ CmT d q → tmpB d = false) := Lib.hid fun hn => tmpB_no fun t => hn (t.comm q (by rw [HL.out]; exact hlt))
                  have HCm : Hid (CmT d q ↔ A = B ∧ AM = M2 ∧ BM = M0 ∧ cmM M0 M2 = true ∧ ¬ (M0 = M2 ∧ A = (q : Int))) := Lib.hid (by
                    unfold CmT
                    rw [HT0.out, HT2.out, HN0.out, HN2.out, show ((r1 : Int)).toNat = r1 by omega, show ((r2 : Int)).toNat = r2 by omega, HA.out.1, HA.out.2.1, HA.out.2.2.1, HA.out.2.2.2])
                  clear kb13 kb14 hbg hbw
                  by_cases hA1 : A = B
                  · have t1 : (A != B) = false := by simpa using hA1
                    by_cases hA2 : AM = M2
                    · have t2 : (AM != M2) = false := by simpa using hA2
                      by_cases hA3 : BM = M0
                      · have t3 : (BM != M0) = false := by simpa using hA3
                        cases hcm : cmM M0 M2 with
                        | false =>
                          have HT := Lib.hid (HNo.out fun h => by have := (HCm.out.1 h).2.2.2.1; rw [hcm] at this; cases this)
                          have HC := Lib.hid hcm
                          clear hA1 hA2 hA3 hcm
                          go_wp2_with (go_at_call 154; refine (specCm_any M0 M2 _ hM0 hM2).mono ?_; rintro e w' ⟨rfl, rfl⟩; rw [HC.out])
                          go_ret
                          exact ⟨ret_bool HT.out.symm, HBW.out.2⟩
                        | true =>
                          have HC := Lib.hid hcm
                          by_cases hA4 : M0 = M2
                          · have t4 : (M0 == M2) = true := by simpa using hA4
                            by_cases hA5 : A = (q : Int)
                            · have t5 : (A == (q : Int)) = true := by simpa using hA5
                              have HT := Lib.hid (HNo.out fun h => (HCm.out.1 h).2.2.2.2 ⟨hA4, hA5⟩)
                              clear hA1 hA2 hA3 hA4 hA5 hcm
                              go_wp2_with (go_at_call 154; refine (specCm_any M0 M2 _ hM0 hM2).mono ?_; rintro e w' ⟨rfl, rfl⟩; rw [HC.out])
                              go_ret
                              exact ⟨ret_bool HT.out.symm, HBW.out.2⟩
                            · have t5 : (A == (q : Int)) = false := by simpa using hA5
                              have HK := Lib.hid (HCm.out.2 ⟨hA1, hA2, hA3, hcm, fun h => hA5 h.2⟩)
                              clear hA1 hA2 hA3 hA4 hA5 hcm
                              go_wp2_with (go_at_call 154; refine (specCm_any M0 M2 _ hM0 hM2).mono ?_; rintro e w' ⟨rfl, rfl⟩; rw [HC.out])
                              go_roundw
                              case rel => exact ⟨q + 1, by go_num, by omega, HBW.out.1, fun j hj => by rcases Nat.lt_or_ge j q with h | h; exact HG.out j h; obtain rfl : j = q := (by omega); exact ⟨HG2.out, HK.out⟩⟩
                              case measure => simp [intOf]; omega
                          · have t4 : (M0 == M2) = false := by simpa using hA4
                            have HK := Lib.hid (HCm.out.2 ⟨hA1, hA2, hA3, hcm, fun h => hA4 h.1⟩)
                            clear hA1 hA2 hA3 hA4 hcm
                            go_wp2_with (go_at_call 154; refine (specCm_any M0 M2 _ hM0 hM2).mono ?_; rintro e w' ⟨rfl, rfl⟩; rw [HC.out])
                            go_roundw
                            case rel => exact ⟨q + 1, by go_num, by omega, HBW.out.1, fun j hj => by rcases Nat.lt_or_ge j q with h | h; exact HG.out j h; obtain rfl : j = q := (by omega); exact ⟨HG2.out, HK.out⟩⟩
                            case measure => simp [intOf]; omega
                      · have t3 : (BM != M0) = true := by simpa using hA3
                        have HT := Lib.hid (HNo.out fun h => hA3 (HCm.out.1 h).2.2.1)
                        clear hA1 hA2 hA3
                        go_wp2_with fail
                        go_ret
                        exact ⟨ret_bool HT.out.symm, HBW.out.2⟩
                    · have t2 : (AM != M2) = true := by simpa using hA2
                      have HT := Lib.hid (HNo.out fun h => hA2 (HCm.out.1 h).2.1)
                      clear hA1 hA2
                      go_wp2_with fail
                      go_ret
                      exact ⟨ret_bool HT.out.symm, HBW.out.2⟩
                  · have t1 : (A != B) = true := by simpa using hA1
                    have HT := Lib.hid (HNo.out fun h => hA1 (HCm.out.1 h).1)
                    clear hA1
                    go_wp2_with fail
                    go_ret
                    exact ⟨ret_bool HT.out.symm, HBW.out.2⟩
                clear hK2
                go_region_held3 (fun w' => Below wf.heap.size wf w' ∧ w'.cell? ⟨w.heap.size, 0, none⟩ = some (.slice (some ⟨b, off, none⟩) k c) ∧ w'.cell? ⟨b11, 0, none⟩ = some (.int .i64 (r1 : Int)) ∧ w'.cell? ⟨b12, 0, none⟩ = some (.int .i64 (r2 : Int)) ∧ w'.cell? ⟨b, off + r1, none⟩ = some (.slice (some ⟨b3, o3, none⟩) 3 c3) ∧ w'.cell? ⟨b, off + r2, none⟩ = some (.slice (some ⟨b4, o4, none⟩) 3 c4) ∧ w'.cell? ⟨b3, o3 + 4, none⟩ = some (.int .i64 A) ∧ w'.cell? ⟨b3, o3 + 4 + 1, none⟩ = some (.int .i64 AM) ∧ w'.cell? ⟨b4, o4, none⟩ = some (.int .i64 B) ∧ w'.cell? ⟨b4, o4 + 1, none⟩ = some (.int .i64 BM))
                  (first | exact HS.out _ (below_drew1 _) | exact HS.out _ (below_alloc1 _ _).drew | exact HS.out _ (below_alloc2 _ _ _).drew | exact HS.out _ (Below.alloc (And.left (by assumption)) (Below.size (And.left (by assumption))) _))
                  (fail)
                all_goals first
                  | exact tail2 wf.heap.size (wf.heap.size + 1) _ (below_alloc2 _ _ _).drew ((blk_at (w := wf) rfl).alloc _) (blk_at (by simp))
                  | exact tail2 (wf.heap.size + 1) wf.heap.size _ (below_alloc2 _ _ _).drew (blk_at (by simp)) ((blk_at (w := wf) rfl).alloc _)
              clear hK
              go_region_held3 (fun w' => Below wr.heap.size wr w' ∧ w'.cell? ⟨w.heap.size, 0, none⟩ = some (.slice (some ⟨b, off, none⟩) k c) ∧ w'.cell? ⟨b, off + q, none⟩ = some (.slice (some ⟨b1, o1, none⟩) 3 c1) ∧ w'.cell? ⟨b1, o1, none⟩ = some (.int .i64 (r1 : Int)) ∧ w'.cell? ⟨b1, o1 + 1, none⟩ = some (.int .i64 M0) ∧ w'.cell? ⟨b1, o1 + 4, none⟩ = some (.int .i64 (r2 : Int)) ∧ w'.cell? ⟨b1, o1 + 4 + 1, none⟩ = some (.int .i64 M2))
                (first | exact HS.out _ (below_drew1 _) | exact HS.out _ (below_alloc1 _ _).drew | exact HS.out _ (below_alloc2 _ _ _).drew | exact HS.out _ (Below.alloc (And.left (by assumption)) (Below.size (And.left (by assumption))) _))
                (fail)
              all_goals first
                | exact tail wr.heap.size (wr.heap.size + 1) _ (below_alloc2 _ _ _).drew ((blk_at (w := wr) rfl).alloc _) (blk_at (by simp))
                | exact tail (wr.heap.size + 1) wr.heap.size _ (below_alloc2 _ _ _).drew (blk_at (by simp)) ((blk_at (w := wr) rfl).alloc _)
        · obtain rfl : q = k := by omega
          have HT := Lib.hid (tmpB_yes (d := d) ⟨by rw [HL.out]; omega, by rw [HL.out]; omega, fun j hj => (HG0.out j (by rw [← HL.out]; exact hj)).1, fun j hj i hi => ((HG0.out j (by rw [← HL.out]; exact hj)).2 i hi).1, fun j hj i hi => ((HG0.out j (by rw [← HL.out]; exact hj)).2 i hi).2, fun j hj => (HG.out j (by rw [← HL.out]; exact hj)).1, fun j hj => (HG.out j (by rw [← HL.out]; exact hj)).2⟩)
          go_wp2_with fail
          go_ret
          exact ⟨ret_bool HT.out.symm, below_tr HB.out HB0.out⟩
end Go.Proofs.Ytpognnifgcacnaa

/- The program's test of a template; IsTemplate on both sides. -/
namespace Go.Proofs.Ytpognnifgcacnaa
open Go.RowKit

theorem any_rng {n : Int} {ks : List (Int × Int)} (h : ks.any (badTg n) = false) {i : Nat} (hi : i < ks.length) : (0 ≤ kA ks i ∧ kA ks i ≤ n - 1) ∧ -1 ≤ kB ks i ∧ kB ks i ≤ 2 := by
  have := (List.any_eq_false.1 h) (kA ks i, kB ks i) (by rw [kAB hi]; exact List.getElem_mem hi)
  unfold badTg at this
  simp at this
  exact ⟨inB_true.1 this.1, inB_true.1 this.2⟩
theorem any_bad {n : Int} {ks : List (Int × Int)} (h : ks.any (badTg n) = true) : ∃ i, i < ks.length ∧ ¬ ((0 ≤ kA ks i ∧ kA ks i ≤ n - 1) ∧ -1 ≤ kB ks i ∧ kB ks i ≤ 2) := by
  obtain ⟨x, hx, hp⟩ := List.any_eq_true.1 h
  obtain ⟨i, hi, rfl⟩ := List.mem_iff_getElem.1 hx
  refine ⟨i, hi, fun hg => ?_⟩
  rw [← kAB hi] at hp
  unfold badTg at hp
  rw [inB_true.2 hg.1, inB_true.2 hg.2] at hp
  cases hp

set_option maxRecDepth 100000 in
set_option maxHeartbeats 3200000 in
theorem implTmp_any (ao : Option Addr) (n c : Nat) (d : List (List (Int × Int))) (w : World) (h : Tgtss w ao n d) :
    Calls Try.prog 84 #[.agg #[.slice ao n c]] w fun e w' => e = .returned (.bool (tmpB d)) ∧ Below w.heap.size w w' := by
  have hl := h.1
  have hbd := h.2.1
  cases hcn : inB (n : Int) 1 12 with
  | false =>
    have HP := Lib.hid hcn
    have HT := Lib.hid (tmpB_no (d := d) fun t => by have h1 := t.one; have h2 := t.few; have := inB_false.1 hcn; omega)
    clear h hcn hl
    go_enter Try.func84, Try.ntmps84
    go_wp2_with (first | (go_at_call 87; refine (sizeT_any _ _ _ _).mono ?_; rintro e w' ⟨rfl, rfl⟩) | (go_at_call 97; refine (within_any _ _ _ _).mono ?_; rintro e w' ⟨rfl, rfl⟩; rw [HP.out]))
    go_ret
    exact ⟨ret_bool HT.out.symm, below_alloc2 _ _ _⟩
  | true =>
  have hn1 := inB_true.1 hcn
  have HP := Lib.hid hcn
  have HL := Lib.hid hl
  clear hl hcn
  go_enter Try.func84, Try.ntmps84
  go_wp2_with (first | (go_at_call 87; refine (sizeT_any _ _ _ _).mono ?_; rintro e w' ⟨rfl, rfl⟩) | (go_at_call 97; refine (within_any _ _ _ _).mono ?_; rintro e w' ⟨rfl, rfl⟩; rw [HP.out]))
  obtain ⟨w1, hw1⟩ : ∃ w1, w1 = (w.alloc (.cells #[.slice ao n c] 29)).alloc (.cells #[.int .i64 n] 2) := ⟨_, rfl⟩
  have hB0 : Below w.heap.size w w1 := by rw [hw1]; exact below_alloc2 _ _ _
  have hbx : Blk w1 w.heap.size 29 #[.slice ao n c] := by rw [hw1]; exact (blk_at rfl).alloc _
  have hby : Blk w1 (w.heap.size + 1) 2 #[.int .i64 n] := by rw [hw1]; exact blk_at (by simp)
  rw [← hw1]
  have h1 := h.below hB0
  have HH := Lib.hid h1
  obtain ⟨b, off, rfl, hrow⟩ : ∃ b off, ao = some ⟨b, off, none⟩ ∧ ∀ j, j < n → ∃ a' n' c', w1.cell? ⟨b, off + j, none⟩ = some (.slice a' n' c') ∧ Tgts w1 a' n' (lget d j) := by
    obtain ⟨b, off, e, hc⟩ := h1.2.2 (by omega)
    refine ⟨b, off, e, fun j hj => ?_⟩
    obtain ⟨u, h2, a', n', c', rfl, h3⟩ := hc j hj
    exact ⟨a', n', c', h2, h3⟩
  have H1 := Lib.hid hrow
  have HB0 := Lib.hid hB0
  have HX := Lib.hid hbx
  have HY := Lib.hid hby
  have x0 := hbx.cell 0
  simp at x0
  clear h h1 hB0 hbx hby hw1 hrow
  go_loopw [20] (fun i wr => ∃ k : Nat, i = .int .i64 k ∧ k ≤ n ∧ Below w1.heap.size w1 wr ∧ ∀ j, j < k → (lget d j).length = 3 ∧ ∀ i, i < 3 → RgT d j i) (fun i _ => n - (intOf i).toNat)
  case atStart => exact ⟨0, rfl, Nat.zero_le _, Below.refl _ _, fun j hj => absurd hj (by omega)⟩
  case round =>
    obtain ⟨k, rfl, hk, hb, hgood⟩ := hrel
    have HG := Lib.hid hgood
    have HB := Lib.hid hb
    clear x0
    have x0 := (HX.out.belowS hb).cell 0
    simp at x0
    clear hgood
    by_cases hlt : k < n
    · obtain ⟨a1, n1, c1, hc, hi⟩ := H1.out k hlt
      have hc' := (hb.cell (p := ⟨b, off + k, none⟩) (World.block_lt_of_cell? w1 _ hc)).trans hc
      have HC := Lib.hid hc
      have HI := Lib.hid (hi.below hb)
      have HR := Lib.hid hi.1
      clear hc hi hb
      by_cases h3 : n1 = 3
      · subst h3
        cases hA : (lget d k).any (badTg n) with
        | true =>
          have HA := Lib.hid hA
          have HT := Lib.hid (tmpB_no (d := d) fun t => by
            obtain ⟨i, hi, hbad⟩ := any_bad HA.out
            have h1 := t.rng k (by rw [HL.out]; exact hlt) i (by rw [HR.out] at hi; exact hi)
            unfold RgT tP tM at h1
            rw [HL.out] at h1
            exact hbad h1)
          clear hA
          go_wp2_with fail
          have hmf : ∀ (fn : Fn) (first cap : Array Value) (w : World), (Instr.makeFunc fn first cap).run Try.prog w = .ok (.func fn first cap) w := fun _ _ _ _ => rfl
          go_wp2_with (go_at_call 156; refine (containsFuncT_any 157 #[.pointer (some ⟨w.heap.size + 1, 0, none⟩)] (badTg n) _ _ _ _ _ HI.out (fun _ _ => by rfl) (fun j hj w' hb' => tmpFn_any (w.heap.size + 1) n _ _ w' (((HY.out.belowS HB.out).belowS hb').cell 0) (by omega))).mono ?_; rintro e w' ⟨rfl, hb'⟩; rw [HA.out])
          go_ret
          exact ⟨ret_bool HT.out.symm, below_tr (below_tr hb' HB.out) HB0.out⟩
        | false =>
          have HA := Lib.hid hA
          clear hA
          go_wp2_with fail
          have hmf : ∀ (fn : Fn) (first cap : Array Value) (w : World), (Instr.makeFunc fn first cap).run Try.prog w = .ok (.func fn first cap) w := fun _ _ _ _ => rfl
          go_wp2_with (go_at_call 156; refine (containsFuncT_any 157 #[.pointer (some ⟨w.heap.size + 1, 0, none⟩)] (badTg n) _ _ _ _ _ HI.out (fun _ _ => by rfl) (fun j hj w' hb' => tmpFn_any (w.heap.size + 1) n _ _ w' (((HY.out.belowS HB.out).belowS hb').cell 0) (by omega))).mono ?_; rintro e w' ⟨rfl, hb'⟩; rw [HA.out])
          go_roundw
          case rel => exact ⟨k + 1, by go_num, by omega, below_tr hb' HB.out, fun j hj => by
            rcases Nat.lt_or_ge j k with h | h
            · exact HG.out j h
            · obtain rfl : j = k := (by omega)
              refine ⟨HR.out, fun i hi => ?_⟩
              have := any_rng HA.out (i := i) (by rw [HR.out]; exact hi)
              unfold RgT tP tM
              rw [HL.out]; exact this⟩
          case measure => simp [intOf]; omega
      · have HT := Lib.hid (tmpB_no (d := d) fun t => by have := t.three k (by rw [HL.out]; exact hlt); rw [HR.out] at this; exact h3 this)
        have h3' : ((n1 : Int) != 3) = true := by simp; omega
        go_wp2_with fail
        go_ret
        exact ⟨ret_bool HT.out.symm, below_tr HB.out HB0.out⟩
    · obtain rfl : k = n := by omega
      have HG0 := Lib.hid HG.out
      go_wp2_with fail
      go_loopw [36] (fun i wr => ∃ q : Nat, i = .int .i64 q ∧ q ≤ k ∧ Below w1.heap.size w1 wr ∧ ∀ j, j < q → (∀ i, i < 3 → BkT d j i ∧ ¬ FxT d j i) ∧ CmT d j) (fun i _ => k - (intOf i).toNat)
      case atStart => exact ⟨0, rfl, Nat.zero_le _, HB.out, fun j hj => absurd hj (by omega)⟩
      case round =>
        obtain ⟨q, rfl, hq, hb, hgood⟩ := hrel
        clear HB HG x0
        have HG := Lib.hid hgood
        have HB := Lib.hid hb
        have x0 := (HX.out.belowS hb).cell 0
        simp at x0
        clear hgood
        by_cases hlt2 : q < k
        · obtain ⟨a1, n1, c1, hc, hi⟩ := H1.out q hlt2
          obtain rfl : n1 = 3 := by rw [← hi.1]; exact (HG0.out q hlt2).1
          have hc' := (hb.cell (p := ⟨b, off + q, none⟩) (World.block_lt_of_cell? w1 _ hc)).trans hc
          have HI := Lib.hid hi
          clear hc hi hb
          go_wp2_with fail
          go_loopw [44] (fun i wr => ∃ m : Nat, i = .int .i64 m ∧ m ≤ 3 ∧ Below w1.heap.size w1 wr ∧ ∀ i, i < m → BkT d q i ∧ ¬ FxT d q i) (fun i _ => 3 - (intOf i).toNat)
          case atStart => exact ⟨0, rfl, Nat.zero_le _, HB.out, fun j hj => absurd hj (by omega)⟩
          case round =>
            obtain ⟨m, rfl, hm, hb, hg2⟩ := hrel
            clear x0 hc'
            have HG2 := Lib.hid hg2
            have HBm := Lib.hid hb
            have x0 := (HX.out.belowS hb).cell 0
            simp at x0
            clear hg2
            by_cases hlt3 : m < 3
            · obtain ⟨b1, o1, rfl, p1, p2⟩ := (HI.out.below hb).at_ hlt3
              have hTP : tP d q m = kA (lget d q) m := rfl
              have hTM : tM d q m = kB (lget d q) m := rfl
              have hrg := (HG0.out q hlt2).2 m hlt3
              unfold RgT at hrg
              rw [hTP, HL.out, hTM] at hrg
              obtain ⟨r, hr⟩ : ∃ r : Nat, kA (lget d q) m = (r : Int) := ⟨(kA (lget d q) m).toNat, by omega⟩
              have hrk : r < k := by omega
              rw [hr] at hTP p1
              generalize kB (lget d q) m = Y at *
              have HY1 : Hid (-1 ≤ Y) := Lib.hid hrg.2.1
              have HTP := Lib.hid hTP
              have HTM := Lib.hid hTM
              obtain ⟨a2, n2, c2, gc, gi⟩ := H1.out r hrk
              obtain rfl : n2 = 3 := by rw [← gi.1]; exact (HG0.out r hrk).1
              obtain ⟨b2, o2, rfl, p3, p4⟩ := (gi.below hb).at_ hlt3
              have gc' := (hb.cell (p := ⟨b, off + r, none⟩) (World.block_lt_of_cell? w1 _ gc)).trans gc
              have hTP2 : tP d r m = kA (lget d r) m := rfl
              have hTM2 : tM d r m = kB (lget d r) m := rfl
              generalize kA (lget d r) m = V at *
              generalize kB (lget d r) m = U at *
              have HTP2 := Lib.hid hTP2
              have HTM2 := Lib.hid hTM2
              have HBk : Hid (BkT d q m ↔ V = (q : Int) ∧ U = Y) := Lib.hid (by unfold BkT; rw [HTP.out, HTM.out, show ((r : Int)).toNat = r by omega, HTP2.out, HTM2.out])
              have HFx : Hid (FxT d q m ↔ (r : Int) = (q : Int) ∧ Y < 0) := Lib.hid (by unfold FxT; rw [HTP.out, HTM.out])
              have HC0 := Lib.hid x0
              have HC1 := Lib.hid gc'
              have HC2 := Lib.hid p3
              have HC3 := Lib.hid p4
              have HBW := Lib.hid (below_alloc1 wr (.cells #[.int .i64 r, .int .i64 Y] 143))
              have HKx : Hid (Blk (wr.alloc (.cells #[.int .i64 r, .int .i64 Y] 143)) wr.heap.size 143 #[.int .i64 r, .int .i64 Y]) := Lib.hid (blk_at rfl)
              clear hTP hTM hTP2 hTM2 hr gi gc hrg x0 gc' p3 p4 hb
              have HCells : Hid (∀ w', Below (wr.alloc (.cells #[.int .i64 r, .int .i64 Y] 143)).heap.size (wr.alloc (.cells #[.int .i64 r, .int .i64 Y] 143)) w' →
                  w'.cell? ⟨w.heap.size, 0, none⟩ = some (.slice (some ⟨b, off, none⟩) k c) ∧ w'.cell? ⟨b, off + r, none⟩ = some (.slice (some ⟨b2, o2, none⟩) 3 c2) ∧ w'.cell? ⟨b2, o2 + m * 2, none⟩ = some (.int .i64 V) ∧ w'.cell? ⟨b2, o2 + m * 2 + 1, none⟩ = some (.int .i64 U) ∧ w'.cell? ⟨wr.heap.size, 0, none⟩ = some (.int .i64 r) ∧ w'.cell? ⟨wr.heap.size, 1, none⟩ = some (.int .i64 Y)) := Lib.hid (fun w' hb' => by
                have hb2 : Below wr.heap.size wr w' := HBW.out.trans (hb'.mono HBW.out.size)
                exact ⟨(hb2.cell (World.block_lt_of_cell? wr _ HC0.out)).trans HC0.out, (hb2.cell (World.block_lt_of_cell? wr _ HC1.out)).trans HC1.out, (hb2.cell (World.block_lt_of_cell? wr _ HC2.out)).trans HC2.out, (hb2.cell (World.block_lt_of_cell? wr _ HC3.out)).trans HC3.out, (HKx.out.belowS hb').cell 0, (HKx.out.belowS hb').cell 1⟩)
              have HZ := Lib.hid (below_tr HBm.out HB0.out)
              by_cases hbk : V = (q : Int) ∧ U = Y
              · obtain ⟨rfl, rfl⟩ := hbk
                have HK := Lib.hid (HBk.out.2 ⟨rfl, rfl⟩)
                by_cases hfx : (r : Int) = (q : Int) ∧ U = -1
                · obtain ⟨hrq, rfl⟩ := hfx
                  obtain rfl : r = q := by omega
                  have HT := Lib.hid (tmpB_no (d := d) fun t => t.fix r (by rw [HL.out]; exact hlt2) m hlt3 (HFx.out.2 ⟨rfl, by omega⟩))
                  clear HFx HBk hrq
                  go_wp2_with fail
                  (refine wp_region_calm (by kernel_rfl) (by kernel_rfl) ?_; (repeat (first | go_big_quiet_skip | (go_big_quiet_want; first | (go_big_quiet_op; go_big_quiet_on) | (apply quiet_val; (· (intro _ hw; obtain ⟨f0, f1, f2, f3, f4, f5⟩ := HCells.out _ hw; go_simp; exact rfl)); go_simp; go_big_quiet_on) | (apply quiet_call; (· (intro _ _; go_simp; exact ⟨rfl, rfl⟩)); (· (intro _ hw; fail)); go_simp; go_big_quiet_on)))); refine wpQuiet_nil ?_; intro wq bq)
                  have HBq := Lib.hid (below_tr bq (below_tr HBW.out HZ.out))
                  clear bq
                  go_wp2_with fail
                  go_ret
                  exact ⟨ret_bool HT.out.symm, HBq.out⟩
                · have HF : Hid (¬ FxT d q m) := Lib.hid (fun h => hfx ⟨(HFx.out.1 h).1, by have := (HFx.out.1 h).2; have := HY1.out; omega⟩)
                  clear HFx HBk
                  by_cases hrq : (r : Int) = (q : Int)
                  · have hu : ¬ U = -1 := fun e => hfx ⟨hrq, e⟩
                    obtain rfl : r = q := by omega
                    clear hfx hrq
                    go_wp2_with fail
                    (refine wp_region_calm (by kernel_rfl) (by kernel_rfl) ?_; (repeat (first | go_big_quiet_skip | (go_big_quiet_want; first | (go_big_quiet_op; go_big_quiet_on) | (apply quiet_val; (· (intro _ hw; obtain ⟨f0, f1, f2, f3, f4, f5⟩ := HCells.out _ hw; go_simp; exact rfl)); go_simp; go_big_quiet_on) | (apply quiet_call; (· (intro _ _; go_simp; exact ⟨rfl, rfl⟩)); (· (intro _ hw; fail)); go_simp; go_big_quiet_on)))); refine wpQuiet_nil ?_; intro wq bq)
                    have HBq := Lib.hid (below_tr bq (below_tr HBW.out HBm.out))
                    clear bq
                    go_wp2_with fail
                    go_roundw
                    case rel => exact ⟨m + 1, by go_num, by omega, HBq.out, fun i hi => by rcases Nat.lt_or_ge i m with h | h; exact HG2.out i h; obtain rfl : i = m := (by omega); exact ⟨HK.out, HF.out⟩⟩
                    case measure => simp [intOf]; omega
                  · clear hfx
                    go_wp2_with fail
                    (refine wp_region_calm (by kernel_rfl) (by kernel_rfl) ?_; (repeat (first | go_big_quiet_skip | (go_big_quiet_want; first | (go_big_quiet_op; go_big_quiet_on) | (apply quiet_val; (· (intro _ hw; obtain ⟨f0, f1, f2, f3, f4, f5⟩ := HCells.out _ hw; go_simp; exact rfl)); go_simp; go_big_quiet_on) | (apply quiet_call; (· (intro _ _; go_simp; exact ⟨rfl, rfl⟩)); (· (intro _ hw; fail)); go_simp; go_big_quiet_on)))); refine wpQuiet_nil ?_; intro wq bq)
                    have HBq := Lib.hid (below_tr bq (below_tr HBW.out HBm.out))
                    clear bq
                    go_wp2_with fail
                    go_roundw
                    case rel => exact ⟨m + 1, by go_num, by omega, HBq.out, fun i hi => by rcases Nat.lt_or_ge i m with h | h; exact HG2.out i h; obtain rfl : i = m := (by omega); exact ⟨HK.out, HF.out⟩⟩
                    case measure => simp [intOf]; omega
              · have HT := Lib.hid (tmpB_no (d := d) fun t => hbk (HBk.out.1 (t.back q (by rw [HL.out]; exact hlt2) m hlt3)))
                clear HFx HBk
                by_cases hv : V = (q : Int)
                · have hu : ¬ U = Y := fun e => hbk ⟨hv, e⟩
                  subst hv
                  clear hbk
                  go_wp2_with fail
                  (refine wp_region_calm (by kernel_rfl) (by kernel_rfl) ?_; (repeat (first | go_big_quiet_skip | (go_big_quiet_want; first | (go_big_quiet_op; go_big_quiet_on) | (apply quiet_val; (· (intro _ hw; obtain ⟨f0, f1, f2, f3, f4, f5⟩ := HCells.out _ hw; go_simp; exact rfl)); go_simp; go_big_quiet_on) | (apply quiet_call; (· (intro _ _; go_simp; exact ⟨rfl, rfl⟩)); (· (intro _ hw; fail)); go_simp; go_big_quiet_on)))); refine wpQuiet_nil ?_; intro wq bq)
                  have HBq := Lib.hid (below_tr bq (below_tr HBW.out HZ.out))
                  clear bq
                  go_wp2_with fail
                  go_ret
                  exact ⟨ret_bool HT.out.symm, HBq.out⟩
                · clear hbk
                  go_wp2_with fail
                  (refine wp_region_calm (by kernel_rfl) (by kernel_rfl) ?_; (repeat (first | go_big_quiet_skip | (go_big_quiet_want; first | (go_big_quiet_op; go_big_quiet_on) | (apply quiet_val; (· (intro _ hw; obtain ⟨f0, f1, f2, f3, f4, f5⟩ := HCells.out _ hw; go_simp; exact rfl)); go_simp; go_big_quiet_on) | (apply quiet_call; (· (intro _ _; go_simp; exact ⟨rfl, rfl⟩)); (· (intro _ hw; fail)); go_simp; go_big_quiet_on)))); refine wpQuiet_nil ?_; intro wq bq)
                  have HBq := Lib.hid (below_tr bq (below_tr HBW.out HZ.out))
                  clear bq
                  go_wp2_with fail
                  go_ret
                  exact ⟨ret_bool HT.out.symm, HBq.out⟩
            · obtain rfl : m = 3 := by omega
              have hg := HG0.out
              have HTg := Lib.hid (HH.out.below hb)
              have HZ := Lib.hid (below_tr hb HB0.out)
              clear hb
              cases hcm : cmTB d q with
              | true =>
                have HCm := Lib.hid hcm
                clear hcm
                go_wp2_with (go_at_call 158; refine (commutes_any _ k c q d _ HTg.out (by omega) hlt2 HG0.out).mono ?_; rintro e w' ⟨rfl, hb'⟩; rw [HCm.out])
                go_roundw
                case rel => exact ⟨q + 1, by go_num, by omega, below_tr hb' HBm.out, fun j hj => by
                  rcases Nat.lt_or_ge j q with h | h
                  · exact HG.out j h
                  · obtain rfl : j = q := (by omega)
                    exact ⟨HG2.out, cmTB_is HCm.out⟩⟩
                case measure => simp [intOf]; omega
              | false =>
                have HCm := Lib.hid hcm
                have HT := Lib.hid (tmpB_no (d := d) fun t => by have h2 := cmTB_yes (t.comm q (by rw [HL.out]; exact hlt2)); rw [HCm.out] at h2; cases h2)
                clear hcm
                go_wp2_with (go_at_call 158; refine (commutes_any _ k c q d _ HTg.out (by omega) hlt2 HG0.out).mono ?_; rintro e w' ⟨rfl, hb'⟩; rw [HCm.out])
                go_ret
                exact ⟨ret_bool HT.out.symm, below_tr hb' HZ.out⟩
        · obtain rfl : q = k := by omega
          have HT := Lib.hid (tmpB_yes (d := d) ⟨by rw [HL.out]; omega, by rw [HL.out]; omega, fun j hj => (HG0.out j (by rw [← HL.out]; exact hj)).1, fun j hj i hi => (HG0.out j (by rw [← HL.out]; exact hj)).2 i hi, fun j hj i hi => ((HG.out j (by rw [← HL.out]; exact hj)).1 i hi).2, fun j hj i hi => ((HG.out j (by rw [← HL.out]; exact hj)).1 i hi).1, fun j hj => (HG.out j (by rw [← HL.out]; exact hj)).2⟩)
          go_wp2_with fail
          go_ret
          exact ⟨ret_bool HT.out.symm, below_tr HB.out HB0.out⟩
theorem api_specTmp {v : Value} {d : List (List (Int × Int))} (w : World) (h : RdT w v d) :
    Calls Try.prog 16 #[v] w fun e w' => e = .returned (.bool (tmpB d)) ∧ Below w.heap.size w w' := by
  obtain ⟨ao, n, c, rfl, hi⟩ := h
  have hb := below_alloc1 w (.cells #[.slice ao n c] 29)
  go_enter Try.func16, Try.ntmps16
  go_wp2_with fail
  refine (specTmp_any ao n c d _ (hi.below hb)).mono ?_
  rintro e w1 ⟨rfl, hb1⟩
  go_wp2
  go_ret
  exact ⟨rfl, hb.trans (hb1.mono hb.size)⟩
theorem api_implTmp {v : Value} {d : List (List (Int × Int))} (w : World) (h : RdT w v d) :
    Calls Try.prog 18 #[v] w fun e w' => e = .returned (.bool (tmpB d)) ∧ Below w.heap.size w w' := by
  obtain ⟨ao, n, c, rfl, hi⟩ := h
  have hb := below_alloc1 w (.cells #[.slice ao n c] 29)
  go_enter Try.func18, Try.ntmps18
  go_wp2_with fail
  refine (implTmp_any ao n c d _ (hi.below hb)).mono ?_
  rintro e w1 ⟨rfl, hb1⟩
  go_wp2
  go_ret
  exact ⟨rfl, hb.trans (hb1.mono hb.size)⟩
end Go.Proofs.Ytpognnifgcacnaa

/- The walk of FnExactIsTemplate: true, whatever the arguments. Written by genwalk.py. -/
namespace Go.Proofs.Ytpognnifgcacnaa
open Go.RowKit

set_option maxHeartbeats 3200000 in
theorem walkIsTemplate {v0 : Value} {d : List (List (Int × Int))} (w : World) (h0 : RdT w v0 d) :
    Calls Try.prog 3 #[v0] w fun e w' => e = .returned (.bool true) ∧ Below w.heap.size w w' := by
  obtain ⟨a0, n0, c0, rfl, hi0⟩ := h0
  have h0 : RdT w (.agg #[.slice a0 n0 c0]) d := ⟨a0, n0, c0, rfl, hi0⟩
  clear hi0
  have B0 : Below w.heap.size w (w.alloc (.cells #[.slice a0 n0 c0] 24)) := below_alloc1 w _
  have kb0_0 : Blk (w.alloc (.cells #[.slice a0 n0 c0] 24)) (w.heap.size) 24 #[.slice a0 n0 c0] := (blk_at rfl)
  by_cases hx0 : budget1 1048576 (d.length + lenTT0 d) < 0
  · go_enter Try.func3, Try.ntmps3
    go_wp2_with fail
    refine (law_usT (1048576) _ (h0.below B0) (by omega) (by omega)).mono ?_
    rintro e w1 ⟨rfl, b1⟩
    have s1 := b1.size
    have B1 : Below w.heap.size w w1 := B0.trans (b1.mono B0.size)
    have kb0_1 : Blk w1 (w.heap.size) 24 #[.slice a0 n0 c0] := (kb0_0.belowS b1)
    have xkb0_1_0 : w1.cell? ⟨w.heap.size, 0, none⟩ = some (.slice a0 n0 c0) := kb0_1.cell 0
    have lkb0_1 : w.heap.size < w1.heap.size := kb0_1.lt
    go_wp2
    go_ret
    exact ⟨rfl, B1⟩
  · obtain ⟨ht0, he0⟩ := budget1_at hx0
    have hn0 : 0 ≤ budget1 1048576 (d.length + lenTT0 d) := by omega
    have hm0 : budget1 1048576 (d.length + lenTT0 d) ≤ 1048576 := by omega
    have HE0 := Lib.hid he0
    clear he0 hx0
    go_enter Try.func3, Try.ntmps3
    go_wp2_with fail
    refine (law_usT (1048576) _ (h0.below B0) (by omega) (by omega)).mono ?_
    rintro e w1 ⟨rfl, b1⟩
    have s1 := b1.size
    have B1 : Below w.heap.size w w1 := B0.trans (b1.mono B0.size)
    have kb0_1 : Blk w1 (w.heap.size) 24 #[.slice a0 n0 c0] := (kb0_0.belowS b1)
    have xkb0_1_0 : w1.cell? ⟨w.heap.size, 0, none⟩ = some (.slice a0 n0 c0) := kb0_1.cell 0
    have lkb0_1 : w.heap.size < w1.heap.size := kb0_1.lt
    go_wp2_with fail
    refine (law_toT _ (h0.below B1) (by omega)).mono ?_
    rintro e w2 ⟨u2, rfl, o2, b2⟩
    have s2 := b2.size
    have B2 : Below w.heap.size w w2 := B1.trans (b2.mono B1.size)
    have kb0_2 : Blk w2 (w.heap.size) 24 #[.slice a0 n0 c0] := (kb0_1.belowS b2)
    have xkb0_2_0 : w2.cell? ⟨w.heap.size, 0, none⟩ = some (.slice a0 n0 c0) := kb0_2.cell 0
    have lkb0_2 : w.heap.size < w2.heap.size := kb0_2.lt
    clear xkb0_1_0
    go_wp2_with fail
    refine (api_specTmp  _ o2.rd ).mono ?_
    rintro e w3 ⟨rfl, b3⟩
    have s3 := b3.size
    have B3 : Below w.heap.size w w3 := B2.trans (b3.mono B2.size)
    have kb0_3 : Blk w3 (w.heap.size) 24 #[.slice a0 n0 c0] := (kb0_2.belowS b3)
    have xkb0_3_0 : w3.cell? ⟨w.heap.size, 0, none⟩ = some (.slice a0 n0 c0) := kb0_3.cell 0
    have lkb0_3 : w.heap.size < w3.heap.size := kb0_3.lt
    clear xkb0_2_0
    go_wp2_with fail
    refine (law_toT _ (h0.below B3) (by omega)).mono ?_
    rintro e w4 ⟨u4, rfl, o4, b4⟩
    obtain ⟨au4, nu4, cu4, rfl⟩ := o4.form
    have s4 := b4.size
    have B4 : Below w.heap.size w w4 := B3.trans (b4.mono B3.size)
    have kb0_4 : Blk w4 (w.heap.size) 24 #[.slice a0 n0 c0] := (kb0_3.belowS b4)
    have xkb0_4_0 : w4.cell? ⟨w.heap.size, 0, none⟩ = some (.slice a0 n0 c0) := kb0_4.cell 0
    have lkb0_4 : w.heap.size < w4.heap.size := kb0_4.lt
    clear xkb0_3_0
    go_wp2_with fail
    have bx5 := below_alloc1 w4 (.cells #[.slice au4 nu4 cu4] 29)
    have kbx0_5 : Blk (w4.alloc (.cells #[.slice au4 nu4 cu4] 29)) w4.heap.size 29 #[.slice au4 nu4 cu4] := blk_at rfl
    generalize w4.alloc (.cells #[.slice au4 nu4 cu4] 29) = w5 at *
    have s5 := bx5.size
    have B5 : Below w.heap.size w w5 := B4.trans (bx5.mono B4.size)
    have kb0_5 : Blk w5 (w.heap.size) 24 #[.slice a0 n0 c0] := (kb0_4.belowS bx5)
    have xkb0_5_0 : w5.cell? ⟨w.heap.size, 0, none⟩ = some (.slice a0 n0 c0) := kb0_5.cell 0
    have lkb0_5 : w.heap.size < w5.heap.size := kb0_5.lt
    have xkbx0_5_0 : w5.cell? ⟨w4.heap.size, 0, none⟩ = some (.slice au4 nu4 cu4) := kbx0_5.cell 0
    have lkbx0_5 : w4.heap.size < w5.heap.size := kbx0_5.lt
    clear xkb0_4_0
    refine (api_implTmp  _ (o4.below bx5).rd ).mono ?_
    rintro e w6 ⟨rfl, b6⟩
    have s6 := b6.size
    have B6 : Below w.heap.size w w6 := B5.trans (b6.mono B5.size)
    have kb0_6 : Blk w6 (w.heap.size) 24 #[.slice a0 n0 c0] := (kb0_5.belowS b6)
    have xkb0_6_0 : w6.cell? ⟨w.heap.size, 0, none⟩ = some (.slice a0 n0 c0) := kb0_6.cell 0
    have lkb0_6 : w.heap.size < w6.heap.size := kb0_6.lt
    have kbx0_6 : Blk w6 (w4.heap.size) 29 #[.slice au4 nu4 cu4] := (kbx0_5.belowS b6)
    have xkbx0_6_0 : w6.cell? ⟨w4.heap.size, 0, none⟩ = some (.slice au4 nu4 cu4) := kbx0_6.cell 0
    have lkbx0_6 : w4.heap.size < w6.heap.size := kbx0_6.lt
    clear xkb0_5_0 xkbx0_5_0
    go_wp2_with fail
    have hS6 : ∀ w', Below w6.heap.size w6 w' → (Below w6.heap.size w6 w' ∧ w'.cell? ⟨w.heap.size, 0, none⟩ = some (.slice a0 n0 c0) ∧ w'.cell? ⟨w4.heap.size, 0, none⟩ = some (.slice au4 nu4 cu4)) := fun w' hb => ⟨hb, (kb0_6.belowS hb).cell 0, (kbx0_6.belowS hb).cell 0⟩
    have HS6 := Lib.hid hS6
    clear hS6 xkb0_6_0 xkbx0_6_0
    go_region_held3 (fun w' => Below w6.heap.size w6 w' ∧ w'.cell? ⟨w.heap.size, 0, none⟩ = some (.slice a0 n0 c0) ∧ w'.cell? ⟨w4.heap.size, 0, none⟩ = some (.slice au4 nu4 cu4))
      (first | exact HS6.out _ (below_drew1 _) | exact HS6.out _ (below_tr (by assumption) (And.left (by assumption))))
      (first | (go_at_call 17; refine (law_toT _ (h0.below ?_) (by omega)).mono ?_; (exact below_tr (And.left (by assumption)) B6); rintro e w906 ⟨u906, rfl, o906, bt906⟩) | (go_at_call 19; refine (law_eqT _ (((o4.below bx5).below b6).below (And.left (by assumption))).rd (OwT.rd (by assumption))).mono ?_; rintro e w7 ⟨rfl, be7⟩))
    have b7 : Below w6.heap.size w6 w7 := And.left (by assumption)
    have s7 := b7.size
    have B7 : Below w.heap.size w w7 := B6.trans (b7.mono B6.size)
    have kb0_7 : Blk w7 (w.heap.size) 24 #[.slice a0 n0 c0] := (kb0_6.belowS b7)
    have xkb0_7_0 : w7.cell? ⟨w.heap.size, 0, none⟩ = some (.slice a0 n0 c0) := kb0_7.cell 0
    have lkb0_7 : w.heap.size < w7.heap.size := kb0_7.lt
    have kbx0_7 : Blk w7 (w4.heap.size) 29 #[.slice au4 nu4 cu4] := (kbx0_6.belowS b7)
    have xkbx0_7_0 : w7.cell? ⟨w4.heap.size, 0, none⟩ = some (.slice au4 nu4 cu4) := kbx0_7.cell 0
    have lkbx0_7 : w4.heap.size < w7.heap.size := kbx0_7.lt
    go_wp2
    go_ret
    exact ⟨rfl, B7⟩
end Go.Proofs.Ytpognnifgcacnaa
