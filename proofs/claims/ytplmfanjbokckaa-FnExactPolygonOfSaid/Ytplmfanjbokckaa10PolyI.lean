/- polygonOf, the program's; PolygonOf, both. -/
import Derived.Test.Ytplmfanjbokckaa10Poly
import Derived.Laws.BitsAllLaws
import Derived.Laws.BitsLemmas
namespace Go.Proofs.Ytplmfanjbokckaa
open Go.RowKit

theorem ofInt_i64 (a : Nat) (ha : a < 9223372036854775808) : (BitVec.ofInt 64 (a : Int)).toNat = a := by
  rw [BitVec.ofInt_natCast, BitVec.toNat_ofNat]; exact Nat.mod_eq_of_lt (by omega)
theorem i64_xor_nat (a b : Nat) (ha : a < 9223372036854775808) (hb : b < 9223372036854775808) : bits .xor .i64 (a : Int) (b : Int) = ((a ^^^ b : Nat) : Int) := by
  have hx : a ^^^ b < 2 ^ 63 := Nat.xor_lt_two_pow (by omega) (by omega)
  show IntKind.i64.wrap ((BitVec.ofInt 64 (a : Int) ^^^ BitVec.ofInt 64 (b : Int)).toNat : Int) = _
  rw [BitVec.toNat_xor, ofInt_i64 a ha, ofInt_i64 b hb, IntKind.wrap_i64]
  omega
theorem xor_one_div (k : Nat) : (k ^^^ 1) / 2 = k / 2 := by rw [Nat.xor_div_two]; simp
theorem xor_one_mod (k : Nat) : (k ^^^ 1) % 2 = (k + 1) % 2 := by
  have h := Nat.xor_mod_two_pow (a := k) (b := 1) (n := 1)
  rw [Nat.pow_one] at h
  rcases Nat.mod_two_eq_zero_or_one k with e | e
  · rw [h, e]; have : (0 ^^^ 1 % 2) = 1 := by decide
    omega
  · rw [h, e]; have : (1 ^^^ 1 % 2) = 0 := by decide
    omega
theorem xor_one_even {k : Nat} (h : k % 2 = 0) : k ^^^ 1 = k + 1 := by
  have h1 := xor_one_div k
  have h2 := xor_one_mod k
  omega
theorem xor_one_odd {k : Nat} (h : k % 2 = 1) : k ^^^ 1 = k - 1 := by
  have h1 := xor_one_div k
  have h2 := xor_one_mod k
  omega
theorem xor1_even {k : Nat} (h : k % 2 = 0) (hk : k ≤ 1048576) : bits .xor .i64 (k : Int) 1 = (k : Int) + 1 := by
  have := i64_xor_nat k 1 (by omega) (by omega)
  rw [xor_one_even h] at this
  simpa using this
theorem xor1_odd {k : Nat} (h : k % 2 = 1) (hk : k ≤ 1048576) : bits .xor .i64 (k : Int) 1 = (k : Int) - 1 := by
  have := i64_xor_nat k 1 (by omega) (by omega)
  rw [xor_one_odd h] at this
  have e : ((k - 1 : Nat) : Int) = (k : Int) - 1 := by omega
  rw [e] at this
  simpa using this

set_option maxHeartbeats 1600000 in
theorem implPolygon_any (m : Nat) (w : World) (h1 : 1 ≤ m) (h2 : m ≤ 200) :
    Calls Try.prog 38 #[.int .i64 m] w fun e w' => ∃ v, e = .returned v ∧ OwM 2 22 w' w.heap.size w'.heap.size v [polyL polyA (2 * m), polyL (polyB (2 * m)) (2 * m)] ∧ Below w.heap.size w w' := by
  have hmk := run_mk etI .i64 .i64 (2 * (m : Int)) (2 * m) (by omega) (by omega)
  have HMK := Lib.hid hmk
  clear hmk
  go_enter Try.func38, Try.ntmps38
  go_upto_region 1 with fail
  go_cut [3] (fun s3 wx => ∃ g0 g1 g2 : Nat, s3 = .slice (some ⟨g0, 0, none⟩) 2 2 ∧ g1 ≠ g2 ∧ g0 ≠ g1 ∧ g0 ≠ g2 ∧ Own wx (w.heap.size + 1) 22 (some ⟨g0, 0, none⟩) 2 2 [.slice (some ⟨g1, 0, none⟩) (2 * m) (2 * m), .slice (some ⟨g2, 0, none⟩) (2 * m) (2 * m)] ∧ Own wx (w.heap.size + 1) 2 (some ⟨g1, 0, none⟩) (2 * m) (2 * m) (List.replicate (2 * m) (.int .i64 0)) ∧ Own wx (w.heap.size + 1) 2 (some ⟨g2, 0, none⟩) (2 * m) (2 * m) (List.replicate (2 * m) (.int .i64 0)) ∧ Blk wx w.heap.size 31 #[.slice none 0 0] ∧ Below w.heap.size w wx)
  case first =>
    have hmk := HMK.out
    go_region
    all_goals go_wp2_with fail
    all_goals go_meet
    · have o1 := own_made etI (w := w.alloc (.cells #[.slice none 0 0] 31)) (base := w.heap.size + 1) (n := 2 * m) (g := w.heap.size + 1) (by simp) (by omega) (by simp)
      have o2 := own_made etI (w := (w.alloc (.cells #[.slice none 0 0] 31)).alloc (.cells (madeCells #[.int .i64 0] (2 * m)) 2)) (base := w.heap.size + 1) (n := 2 * m) (g := w.heap.size + 1 + 1) (by simp) (by omega) (by simp)
      have o0 := own_lit (E := 22) (w := ((w.alloc (.cells #[.slice none 0 0] 31)).alloc (.cells (madeCells #[.int .i64 0] (2 * m)) 2)).alloc (.cells (madeCells #[.int .i64 0] (2 * m)) 2)) (base := w.heap.size + 1) (g := w.heap.size + 1 + 1 + 1) (us := [.slice (some ⟨w.heap.size + 1, 0, none⟩) (2 * m) (2 * m), .slice (some ⟨w.heap.size + 1 + 1, 0, none⟩) (2 * m) (2 * m)]) (by simp) (by simp; try omega) (by simp)
      exact ⟨_, _, _, rfl, by omega, by omega, by omega, o0, (o1.alloc _).alloc _, o2.alloc _, (((blk_at rfl).alloc _).alloc _).alloc _, ((below_alloc3 w _ _ _).alloc (by simp; omega) _).drew⟩
    · have o1 := own_made etI (w := w.alloc (.cells #[.slice none 0 0] 31)) (base := w.heap.size + 1) (n := 2 * m) (g := w.heap.size + 1) (by simp) (by omega) (by simp)
      have o2 := own_made etI (w := (w.alloc (.cells #[.slice none 0 0] 31)).alloc (.cells (madeCells #[.int .i64 0] (2 * m)) 2)) (base := w.heap.size + 1) (n := 2 * m) (g := w.heap.size + 1 + 1) (by simp) (by omega) (by simp)
      have o0 := own_lit (E := 22) (w := ((w.alloc (.cells #[.slice none 0 0] 31)).alloc (.cells (madeCells #[.int .i64 0] (2 * m)) 2)).alloc (.cells (madeCells #[.int .i64 0] (2 * m)) 2)) (base := w.heap.size + 1) (g := w.heap.size + 1 + 1 + 1) (us := [.slice (some ⟨w.heap.size + 1 + 1, 0, none⟩) (2 * m) (2 * m), .slice (some ⟨w.heap.size + 1, 0, none⟩) (2 * m) (2 * m)]) (by simp) (by simp; try omega) (by simp)
      exact ⟨_, _, _, rfl, by omega, by omega, by omega, o0, o2.alloc _, (o1.alloc _).alloc _, (((blk_at rfl).alloc _).alloc _).alloc _, ((below_alloc3 w _ _ _).alloc (by simp; omega) _).drew⟩
  case rest =>
    obtain ⟨g0, g1, g2, rfl, hne, hn1, hn2, o0, o1, o2, kb, hb⟩ := hcut
    clear HMK
    go_wp2
    go_loopw [14] (fun i wr => ∃ k : Nat, k ≤ 2 * m ∧ i = .int .i64 k ∧ Own wr (w.heap.size + 1) 22 (some ⟨g0, 0, none⟩) 2 2 [.slice (some ⟨g1, 0, none⟩) (2 * m) (2 * m), .slice (some ⟨g2, 0, none⟩) (2 * m) (2 * m)] ∧ Own wr (w.heap.size + 1) 2 (some ⟨g1, 0, none⟩) (2 * m) (2 * m) ((polyL polyA k ++ List.replicate (2 * m - k) 0).map (Value.int .i64)) ∧ Own wr (w.heap.size + 1) 2 (some ⟨g2, 0, none⟩) (2 * m) (2 * m) ((polyL (polyB (2 * m)) k ++ List.replicate (2 * m - k) 0).map (Value.int .i64)) ∧ Blk wr w.heap.size 31 #[.slice none 0 0] ∧ Below w.heap.size w wr) (fun i _ => 2 * m - (intOf i).toNat)
    case atStart => exact ⟨0, by omega, rfl, o0, by simpa [polyL] using o1, by simpa [polyL] using o2, kb, hb⟩
    case round =>
      obtain ⟨k, hk, rfl, p0, p1, p2, kb', hb'⟩ := hrel
      clear o0 o1 o2 kb hb
      have hg0 := (p0.lt g0 rfl)
      have hg1 := (p1.lt g1 rfl)
      have hg2 := (p2.lt g2 rfl)
      by_cases hlt : k < 2 * m
      · have hc1 : wr.cell? ⟨g1, k, none⟩ = some (.int .i64 0) := by
          obtain ⟨g', e, -, -, -, hc, -⟩ := p1.form (by omega)
          injection e with e; injection e with e; subst e
          rw [hc k hlt]; exact get_pad (length_polyL _ _) hlt
        have hc2 : wr.cell? ⟨g2, k, none⟩ = some (.int .i64 0) := by
          obtain ⟨g', e, -, -, -, hc, -⟩ := p2.form (by omega)
          injection e with e; injection e with e; subst e
          rw [hc k hlt]; exact get_pad (length_polyL _ _) hlt
        obtain ⟨hd0, hd1⟩ : wr.cell? ⟨g0, 0, none⟩ = some (.slice (some ⟨g1, 0, none⟩) (2 * m) (2 * m)) ∧ wr.cell? ⟨g0, 1, none⟩ = some (.slice (some ⟨g2, 0, none⟩) (2 * m) (2 * m)) := by
          obtain ⟨g', e, -, -, -, hc, -⟩ := p0.form (by omega)
          injection e with e; injection e with e; subst e
          exact ⟨hc 0 (by omega), hc 1 (by omega)⟩
        have hf1 := p1.1.frozenAt k
        have hf2 := p2.1.frozenAt k
        have st : ∀ x y : Int, x = polyA k → y = polyB (2 * m) k → ∀ j, (∃ wn, wn = ((wr.setCell ⟨g1, k, none⟩ (.int .i64 x)).drewN j).setCell ⟨g2, k, none⟩ (.int .i64 y) ∧ Own wn (w.heap.size + 1) 22 (some ⟨g0, 0, none⟩) 2 2 [.slice (some ⟨g1, 0, none⟩) (2 * m) (2 * m), .slice (some ⟨g2, 0, none⟩) (2 * m) (2 * m)] ∧ Own wn (w.heap.size + 1) 2 (some ⟨g1, 0, none⟩) (2 * m) (2 * m) ((polyL polyA (k + 1) ++ List.replicate (2 * m - (k + 1)) 0).map (Value.int .i64)) ∧ Own wn (w.heap.size + 1) 2 (some ⟨g2, 0, none⟩) (2 * m) (2 * m) ((polyL (polyB (2 * m)) (k + 1) ++ List.replicate (2 * m - (k + 1)) 0).map (Value.int .i64)) ∧ Blk wn w.heap.size 31 #[.slice none 0 0] ∧ Below w.heap.size w wn) := by
          rintro x y rfl rfl j
          obtain ⟨s1, t1⟩ := p1.stored k (.int .i64 (polyA k))
          have p2' := (p2.kept t1 (.inr (by simp [bk]; omega))).drewN j
          obtain ⟨s2, t2⟩ := p2'.stored k (.int .i64 (polyB (2 * m) k))
          have s1' := (s1.drewN j).kept t2 (.inr (by simp [bk]; omega))
          have p0' := ((p0.kept t1 (.inr (by simp [bk]; omega))).drewN j).kept t2 (.inr (by simp [bk]; omega))
          rw [← List.map_set, set_pad (length_polyL _ _) hlt, ← polyL_succ] at s1' s2
          exact ⟨_, rfl, p0', s1', s2, ((kb'.far (by simp; omega) _).drewN j).far (by simp; omega) _, (below_drewN (hb'.setCell (by simp; omega) _) j).setCell (by simp; omega) _⟩
        have ST := Lib.hid st
        clear st p0 p1 p2 kb' hb'
        by_cases hev : k % 2 = 0
        · have x1 := xor1_even hev (by omega)
          have x2 := xor1_odd (k := k + 1) (by omega) (by omega)
          rw [show ((k + 1 : Nat) : Int) = (k : Int) + 1 by omega, show (k : Int) + 1 - 1 = k by omega] at x2
          have hA : (k : Int) + 1 = polyA k := by unfold polyA; rw [if_pos hev]
          have hB : ((k : Int) + 2 * m - 1) % (2 * m) = polyB (2 * m) k := by unfold polyB; rw [if_pos hev]; congr 1 <;> omega
          have HA := Lib.hid hA
          have HB := Lib.hid hB
          have hdv : 0 ≤ (k : Int) + 2 * m - 1 := by omega
          clear hA hB hev
          go_wp2
          go_region
          go_wp2
          go_roundw
          case rel =>
            obtain ⟨wn, rfl, q0, q1, q2, q3, q4⟩ := ST.out _ _ HA.out HB.out 1
            exact ⟨k + 1, by omega, by go_num, q0, q1, q2, q3, q4⟩
          case measure => simp [intOf]; omega
        · have x1 := xor1_odd (k := k) (by omega) (by omega)
          have x2 := xor1_even (k := k + 1) (by omega) (by omega)
          rw [show ((k + 1 : Nat) : Int) = (k : Int) + 1 by omega] at x2
          have hA : (k : Int) - 1 = polyA k := by unfold polyA; rw [if_neg hev]
          have hB : ((k : Int) + 1 + 1 + 2 * m - 1) % (2 * m) = polyB (2 * m) k := by
            unfold polyB; rw [if_neg hev, show (k : Int) + 1 + 1 + 2 * m - 1 = (k : Int) + 1 + 2 * m by omega, show ((2 * m : Nat) : Int) = 2 * (m : Int) by omega, Int.add_emod_right]
          have HA := Lib.hid hA
          have HB := Lib.hid hB
          have hdv : 0 ≤ (k : Int) + 1 + 1 + 2 * m - 1 := by omega
          have hk1 : 1 ≤ k := by omega
          clear hA hB hev
          go_wp2
          go_region
          go_wp2
          go_roundw
          case rel =>
            obtain ⟨wn, rfl, q0, q1, q2, q3, q4⟩ := ST.out _ _ HA.out HB.out 1
            exact ⟨k + 1, by omega, by go_num, q0, q1, q2, q3, q4⟩
          case measure => simp [intOf]; omega
      · obtain rfl : k = 2 * m := by omega
        rw [Nat.sub_self, List.replicate_zero, List.append_nil] at p1 p2
        have c0 : wr.cell? ⟨w.heap.size, 0, none⟩ = some (.slice none 0 0) := kb'.cell 0
        have f0 := kb'.frozen 0
        have hbs := hb'.size
        have hset : ∀ g, w.heap.size + 1 ≤ g → (wr.setCell ⟨w.heap.size, 0, none⟩ (.slice (some ⟨g0, 0, none⟩) 2 2)).heap[g]? = wr.heap[g]? := fun g hg => Below.heap_setCell _ _ _ _ (by simp; omega)
        have q0 : Own (wr.setCell ⟨w.heap.size, 0, none⟩ (.slice (some ⟨g0, 0, none⟩) 2 2)) _ _ _ _ _ _ := p0.same fun g hg => hset g (p0.lt g hg).1
        have q1 : Own (wr.setCell ⟨w.heap.size, 0, none⟩ (.slice (some ⟨g0, 0, none⟩) 2 2)) _ _ _ _ _ _ := p1.same fun g hg => hset g (p1.lt g hg).1
        have q2 : Own (wr.setCell ⟨w.heap.size, 0, none⟩ (.slice (some ⟨g0, 0, none⟩) 2 2)) _ _ _ _ _ _ := p2.same fun g hg => hset g (p2.lt g hg).1
        have q3 : Blk (wr.setCell ⟨w.heap.size, 0, none⟩ (.slice (some ⟨g0, 0, none⟩) 2 2)) w.heap.size 31 #[.slice (some ⟨g0, 0, none⟩) 2 2] := kb'.set_ 0 _
        have q4 : Below w.heap.size w (wr.setCell ⟨w.heap.size, 0, none⟩ (.slice (some ⟨g0, 0, none⟩) 2 2)) := hb'.setCell (Nat.le_refl _) _
        have Q0 := Lib.hid q0
        have Q1 := Lib.hid q1
        have Q2 := Lib.hid q2
        clear q0 q1 q2 hset p0 p1 p2
        go_wp2
        generalize wr.setCell ⟨w.heap.size, 0, none⟩ (.slice (some ⟨g0, 0, none⟩) 2 2) = ws at *
        have e0 : ws.cell? ⟨w.heap.size, 0, none⟩ = some (.slice (some ⟨g0, 0, none⟩) 2 2) := q3.cell 0
        have w1 := OwR.of2 (hi := ws.heap.size) (innerS 2) (d0 := polyL polyA (2 * m)) (d1 := polyL (polyB (2 * m)) (2 * m)) Q0.out (fun g hg => (Q0.out.lt g hg).2) ⟨_, _, _, rfl, Q1.out.mono (Nat.zero_le _)⟩ ⟨_, _, _, rfl, Q2.out.mono (Nat.zero_le _)⟩ (in_slice Q1.out.lt) (in_slice Q2.out.lt) (by intro g hg; rw [ownBlock_slice] at hg ⊢; simp [bk] at hg ⊢; omega) (by intro g hg; rw [ownBlock_slice, ownBlock_slice]; simp [bk] at hg ⊢; omega)
        refine bodyPost_ret (v := .agg #[.slice (some ⟨g0, 0, none⟩) 2 2]) (by simp [results, Try.f38, go_sem, e0]) rfl ⟨_, rfl, ⟨_, _, _, _, rfl, w1.mono (by omega) (Nat.le_refl _)⟩, q4⟩

def polyR (p : Int) : List (List Int) := if inB p 1 200 = true then [polyL polyA (2 * p.toNat), polyL (polyB (2 * p.toNat)) (2 * p.toNat)] else []
theorem lenSS_polyR (p : Int) : lenSS (polyR p) ≤ 800 := by
  unfold polyR
  split
  · rename_i h
    have := inB_true.1 h
    simp [lenSS, length_polyL]; omega
  · simp [lenSS]
def polyC (p : Int) : Int := if inB p 1 200 = true then 0 else 2

set_option maxHeartbeats 400000 in
theorem api_specPolygonOf (p : Int) (w : World) :
    Calls Try.prog 18 #[.int .i64 p] w fun e w' => ∃ v, e = .returned (.tuple #[v, .int .i64 (polyC p)]) ∧ OwM 2 22 w' w.heap.size w'.heap.size v (polyR p) ∧ Below w.heap.size w w' := by
  have hb := below_alloc1 w (.cells #[.slice none 0 0] 31)
  have kb : Blk (w.alloc (.cells #[.slice none 0 0] 31)) w.heap.size 31 #[.slice none 0 0] := blk_at rfl
  cases hp : inB p 1 200 with
  | true =>
    have hp' := inB_true.1 hp
    obtain ⟨m, rfl⟩ := Int.eq_ofNat_of_zero_le (a := p) (by omega)
    have hR : polyR (m : Int) = [polyL polyA (2 * m), polyL (polyB (2 * m)) (2 * m)] := by unfold polyR; rw [if_pos hp]; rfl
    have hC : polyC (m : Int) = 0 := by unfold polyC; rw [if_pos hp]
    have HX := Lib.hid hp
    rw [hR, hC]
    clear hp hR hC
    go_enter Try.func18, Try.ntmps18
    go_wp2_with (go_at_call 35; refine (specIn_any _ _ _ _).mono ?_; rintro e w' ⟨rfl, rfl⟩; rw [HX.out])
    refine (specPolygon_any m _ (by omega) (by omega)).mono ?_
    rintro e w1 ⟨v1, rfl, ⟨a1, n1, c1, us, rfl, o1⟩, b1⟩
    have k1 := kb.belowS b1
    have c0 : w1.cell? ⟨w.heap.size, 0, none⟩ = some (.slice none 0 0) := k1.cell 0
    have f0 := k1.frozen 0
    go_wp2
    have k2 := k1.set_ 0 (.slice a1 n1 c1)
    have z2 : w1.heap.size = (w1.setCell ⟨w.heap.size, 0, none⟩ (.slice a1 n1 c1)).heap.size := by simp [World.setCell]
    have o2 := o1.same (innerS _) (w' := w1.setCell ⟨w.heap.size, 0, none⟩ (.slice a1 n1 c1)) (fun g h1 _ _ => Below.heap_setCell _ _ _ _ (by simp at h1 ⊢; omega))
    have b2 := (hb.trans (b1.mono hb.size)).setCell (p := ⟨w.heap.size, 0, none⟩) (Nat.le_refl _) (.slice a1 n1 c1)
    generalize w1.setCell ⟨w.heap.size, 0, none⟩ (.slice a1 n1 c1) = w2 at *
    have e0 : w2.cell? ⟨w.heap.size, 0, none⟩ = some (.slice a1 n1 c1) := k2.cell 0
    exact bodyPost_ret (v := .tuple #[.agg #[.slice a1 n1 c1], .int .i64 0]) (by simp [results, Try.f18, go_sem, e0]) rfl ⟨_, rfl, ⟨_, _, _, us, rfl, o2.mono hb.size (by omega)⟩, b2⟩
  | false =>
    have hR : polyR p = [] := by unfold polyR; rw [if_neg (by simp [hp])]
    have hC : polyC p = 2 := by unfold polyC; rw [if_neg (by simp [hp])]
    have HX := Lib.hid hp
    rw [hR, hC]
    clear hp hR hC
    go_enter Try.func18, Try.ntmps18
    go_wp2_with (go_at_call 35; refine (specIn_any _ _ _ _).mono ?_; rintro e w' ⟨rfl, rfl⟩; rw [HX.out])
    exact bodyPost_ret (v := .tuple #[.agg #[.slice none 0 0], .int .i64 2]) (by simp [results, Try.f18, go_sem]) rfl ⟨_, rfl, ⟨_, _, _, [], rfl, OwR.empty_ (Own.nil_ _ _ _) (by simp [bk])⟩, hb⟩

set_option maxHeartbeats 400000 in
theorem api_implPolygonOf (p : Int) (w : World) :
    Calls Try.prog 19 #[.int .i64 p] w fun e w' => ∃ v, e = .returned (.tuple #[v, .int .i64 (polyC p)]) ∧ OwM 2 22 w' w.heap.size w'.heap.size v (polyR p) ∧ Below w.heap.size w w' := by
  have hb := below_alloc1 w (.cells #[.slice none 0 0] 31)
  have kb : Blk (w.alloc (.cells #[.slice none 0 0] 31)) w.heap.size 31 #[.slice none 0 0] := blk_at rfl
  cases hp : inB p 1 200 with
  | true =>
    have hp' := inB_true.1 hp
    obtain ⟨m, rfl⟩ := Int.eq_ofNat_of_zero_le (a := p) (by omega)
    have hR : polyR (m : Int) = [polyL polyA (2 * m), polyL (polyB (2 * m)) (2 * m)] := by unfold polyR; rw [if_pos hp]; rfl
    have hC : polyC (m : Int) = 0 := by unfold polyC; rw [if_pos hp]
    have HX := Lib.hid hp
    rw [hR, hC]
    clear hp hR hC
    go_enter Try.func19, Try.ntmps19
    go_wp2_with (go_at_call 37; refine (within_any _ _ _ _).mono ?_; rintro e w' ⟨rfl, rfl⟩; rw [HX.out])
    refine (implPolygon_any m _ (by omega) (by omega)).mono ?_
    rintro e w1 ⟨v1, rfl, ⟨a1, n1, c1, us, rfl, o1⟩, b1⟩
    have k1 := kb.belowS b1
    have c0 : w1.cell? ⟨w.heap.size, 0, none⟩ = some (.slice none 0 0) := k1.cell 0
    have f0 := k1.frozen 0
    go_wp2
    have k2 := k1.set_ 0 (.slice a1 n1 c1)
    have z2 : w1.heap.size = (w1.setCell ⟨w.heap.size, 0, none⟩ (.slice a1 n1 c1)).heap.size := by simp [World.setCell]
    have o2 := o1.same (innerS _) (w' := w1.setCell ⟨w.heap.size, 0, none⟩ (.slice a1 n1 c1)) (fun g h1 _ _ => Below.heap_setCell _ _ _ _ (by simp at h1 ⊢; omega))
    have b2 := (hb.trans (b1.mono hb.size)).setCell (p := ⟨w.heap.size, 0, none⟩) (Nat.le_refl _) (.slice a1 n1 c1)
    generalize w1.setCell ⟨w.heap.size, 0, none⟩ (.slice a1 n1 c1) = w2 at *
    have e0 : w2.cell? ⟨w.heap.size, 0, none⟩ = some (.slice a1 n1 c1) := k2.cell 0
    exact bodyPost_ret (v := .tuple #[.agg #[.slice a1 n1 c1], .int .i64 0]) (by simp [results, Try.f19, go_sem, e0]) rfl ⟨_, rfl, ⟨_, _, _, us, rfl, o2.mono hb.size (by omega)⟩, b2⟩
  | false =>
    have hR : polyR p = [] := by unfold polyR; rw [if_neg (by simp [hp])]
    have hC : polyC p = 2 := by unfold polyC; rw [if_neg (by simp [hp])]
    have HX := Lib.hid hp
    rw [hR, hC]
    clear hp hR hC
    go_enter Try.func19, Try.ntmps19
    go_wp2_with (go_at_call 37; refine (within_any _ _ _ _).mono ?_; rintro e w' ⟨rfl, rfl⟩; rw [HX.out])
    exact bodyPost_ret (v := .tuple #[.agg #[.slice none 0 0], .int .i64 2]) (by simp [results, Try.f19, go_sem]) rfl ⟨_, rfl, ⟨_, _, _, [], rfl, OwR.empty_ (Own.nil_ _ _ _) (by simp [bk])⟩, hb⟩
end Go.Proofs.Ytplmfanjbokckaa
