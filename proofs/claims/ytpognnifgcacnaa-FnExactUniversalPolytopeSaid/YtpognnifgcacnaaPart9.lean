/- UniversalPolytope, both sides. Written by gen_uni.py. -/
import Derived.Test.YtpognnifgcacnaaPart8
import Derived.Test.YtpognnifgcacnaaPart1
namespace Go.Proofs.Ytpognnifgcacnaa
open Go.RowKit

theorem uniR_small (zs : List Int) (ws : List (List Int)) : (uniR zs ws).length ≤ 5 ∧ lenSS (uniR zs ws) ≤ 2000 := by
  unfold uniR
  split
  · rename_i h
    unfold uniC at h
    split at h
    · split at h
      · rename_i h2
        split at h
        · rename_i h3
          have hp := isPres_wr h2
          obtain ⟨h4, h5, h6, h7⟩ := cosTab_small (d := uniD zs ws) hp h3
          have hc : cosN (uniD zs ws) [] ≤ 400 := by unfold smallOk at h3; simp at h3; exact h3.2
          refine ⟨h6, ?_⟩
          have := lenSS_upto (zss := cosTab (uniD zs ws) []) (k := 400) (fun z hz => by
            obtain ⟨j, hj, rfl⟩ := List.getElem_of_mem hz
            have h8 := h7 j hj
            rw [lget_lt hj] at h8
            omega)
          have h9 : (cosTab (uniD zs ws) []).length * 400 ≤ 5 * 400 := Nat.mul_le_mul_right _ h6
          omega
        · cases h
      · rename_i h2; exact absurd h h2
    · cases h
  · simp [lenSS]

set_option maxRecDepth 100000 in
set_option maxHeartbeats 6400000 in
theorem specUni_any (ao bo : Option Addr) (n c m c2 : Nat) (zs : List Int) (ws : List (List Int)) (w : World) (h : Ints w ao n zs) (h' : Intss w bo m ws) :
    Calls Try.prog 39 #[.slice ao n c, .slice bo m c2] w fun e w' => ∃ v, e = .returned (.tuple #[v, .int .i64 (uniC zs ws)]) ∧ OwM 2 49 w' w.heap.size w'.heap.size v (uniR zs ws) ∧ Below w.heap.size w w' := by
  have k0 : Blk (w.alloc (.cells #[.slice none 0 0] 41)) w.heap.size 41 #[.slice none 0 0] := blk_at rfl
  have hb0 := below_alloc1 w (.cells #[.slice none 0 0] 41)
  have h1 := h.below hb0
  have h2 := h'.below hb0
  cases hD : isDiag zs with
  | false =>
    have HC := Lib.hid (uni_1 (ws := ws) hD)
    have HD := Lib.hid hD
    clear hD
    go_enter Try.func39, Try.ntmps39
    go_wp2_with fail
    refine (specIsB_any ao n c zs _ h1).mono ?_
    rintro e w1 ⟨rfl, b1⟩
    rw [HD.out]
    have k9 := k0.belowS b1
    have B9 := below_tr b1 hb0
    clear h h' h1 h2 k0 b1
    have f9 := k9.frozen 0
    have x9 := k9.cell 0
    simp at x9
    go_wp2_with fail
    have kf := k9.set_ 0 (.slice none 0 0)
    have Bf := B9.setCell (p := ⟨w.heap.size, 0, none⟩) (by simp) (.slice none 0 0)
    generalize w1.setCell ⟨w.heap.size, 0, none⟩ (.slice none 0 0) = wf at *
    simp at kf
    have e0 := kf.cell 0
    simp at e0
    refine bodyPost_ret (v := .tuple #[.agg #[.slice none 0 0], .int .i64 1]) (by simp [results, Try.f39, go_sem, e0]) rfl ⟨_, by rw [HC.out.1], ?_, Bf⟩
    rw [HC.out.2]
    exact ⟨none, 0, 0, [], rfl, OwR.empty_ (Own.nil_ _ _ _) (fun g hg => by cases hg)⟩
  | true =>
    obtain ⟨hd1, hd2⟩ := isDiag_in hD
    rw [h.1] at hd1 hd2
    have HDB := Lib.hid (And.intro hd1 hd2)
    have HH := Lib.hid (And.intro h1 h2)
    have HK0 := Lib.hid (And.intro k0 hb0)
    have HD := Lib.hid hD
    clear h h' h1 h2 k0 hb0 hD hd1 hd2
    by_cases hw : wrC (coxPres zs) ws = 0
    · have hp := isPres_wr hw
      have HW := Lib.hid hw
      by_cases hs : smallOk (uniD zs ws) [] = true
      · have HT := Lib.hid (cosTab_small (d := uniD zs ws) hp hs)
        have HN : Hid (cosN (uniD zs ws) [] ≤ 400) := Lib.hid (by unfold smallOk at hs; simp at hs; exact hs.2)
        cases hM : manB (cosTab (uniD zs ws) []) with
        | true =>
          have HC := Lib.hid (uni_5 HD.out hw hs hM)
          have HX := Lib.hid (And.intro hp (And.intro hs hM))
          clear hw hp hs hM
          go_enter Try.func39, Try.ntmps39
          go_wp2_with fail
          refine (specIsB_any ao n c zs _ HH.out.1).mono ?_
          rintro e w1 ⟨rfl, b1⟩
          rw [HD.out]
          have K1 := Lib.hid (HK0.out.1.belowS b1)
          have B1 := Lib.hid (below_tr b1 HK0.out.2)
          have I1 := Lib.hid (And.intro (HH.out.1.below b1) (HH.out.2.below b1))
          clear b1
          go_wp2_with fail
          refine (specCox_any ao n c zs _ I1.out.1 HDB.out.2 HDB.out.1).mono ?_
          rintro e w2 ⟨v2, rfl, o2, b2⟩
          have K2 := Lib.hid (K1.out.belowS b2)
          have B2 := Lib.hid (below_tr b2 B1.out)
          have I2 := Lib.hid (I1.out.2.below b2)
          clear b2
          go_wp2_with fail
          refine (withS_any bo m c2 ws _ o2.rd I2.out).mono ?_
          rintro e w3 ⟨v3, rfl, o3, b3⟩
          obtain ⟨a3, n3, c3, rfl⟩ := o3.form
          have k9 := (K2.out.belowS b3).alloc (.cells #[.int .i64 (wrR (coxPres zs) ws).1, .slice a3 n3 c3] 72)
          have B9 := (below_tr b3 B2.out).alloc (below_tr b3 B2.out).size (.cells #[.int .i64 (wrR (coxPres zs) ws).1, .slice a3 n3 c3] 72)
          have O3 := Lib.hid (o3.below (below_alloc1 w3 (.cells #[.int .i64 (wrR (coxPres zs) ws).1, .slice a3 n3 c3] 72)))
          clear b3 o2
          rw [HW.out]
          clear o3
          go_wp2_with fail
          generalize w3.alloc (.cells #[.int .i64 (wrR (coxPres zs) ws).1, .slice a3 n3 c3] 72) = w4 at *
          have hw4 := k9.lt
          refine (specSmallW_yes (d := uniD zs ws) w4 O3.out HX.out.1 HX.out.2.1).mono ?_
          rintro e w5 ⟨v5, rfl, ⟨a5, n5, c5, us5, rfl, o5⟩, b5⟩
          have k9 := k9.belowS b5
          have B9 := below_tr b5 B9
          have hs5 := b5.size
          have hlt9 := k9.lt
          have hl5 := o5.len
          have hpos : 0 < n5 := by have := HT.out.2.1; omega
          obtain ⟨g5, rfl, -, -, -, -, -⟩ := o5.own.form hpos
          obtain ⟨u0, d0, hu0, hd0, ⟨a6, n6, c6, rfl, o6⟩, -⟩ := o5.get hpos
          have x6 := o5.cell hu0
          have hn6 : n6 ≤ 400 := by
            have h1 := o6.len
            have h2 := HT.out.2.2.2 0 HT.out.2.1
            rw [lget_get? hd0] at h2
            have h3 := HN.out
            simp at h1
            omega
          have hg6 : decide ((n6 : Int) > 400) = false := by simp; omega
          have hp0 : (0 : Int) < (n5 : Int) := by omega
          have O5 := Lib.hid o5
          have HL5 := Lib.hid hl5
          have hkb := below_alloc1 w5 (.cells #[.slice (some ⟨g5, 0, none⟩) n5 c5] 41)
          have HKB := Lib.hid hkb
          clear b5 O3 o5 o6 hu0 hd0 hn6 hkb hl5
          go_wp2_with fail
          refine (specManW (d := cosTab (uniD zs ws) []) _ (⟨some ⟨g5, 0, none⟩, n5, c5, us5, rfl, (O5.out.below (innerS _) HKB.out)⟩ : OwM 2 49 _ w4.heap.size w5.heap.size _ _) (by have := HT.out.2.2.1; omega) (fun i hi => by have h1 := HT.out.2.2.2 i hi; have h2 := HN.out; omega)).mono ?_
          rintro e w7 ⟨rfl, b7⟩
          rw [HX.out.2.2]
          have k9 := (k9.alloc (.cells #[.slice (some ⟨g5, 0, none⟩) n5 c5] 41)).belowS b7
          have B9 := below_tr b7 (below_tr HKB.out B9)
          have xb := ((blk_at (w := w5) (t := 41) (cs := #[.slice (some ⟨g5, 0, none⟩) n5 c5]) rfl).belowS b7).cell 0
          have O7 := Lib.hid (O5.out.below (innerS _) (below_tr b7 HKB.out))
          have hs7 := (below_tr b7 HKB.out).size
          have f9 := k9.frozen 0
          have x9 := k9.cell 0
          simp at x9 xb
          clear b7 x6
          go_wp2_with fail
          have kf := k9.set_ 0 (.slice (some ⟨g5, 0, none⟩) n5 c5)
          have Bf := B9.setCell (p := ⟨w.heap.size, 0, none⟩) (by simp) (.slice (some ⟨g5, 0, none⟩) n5 c5)
          have hh : (w7.setCell ⟨w.heap.size, 0, none⟩ (.slice (some ⟨g5, 0, none⟩) n5 c5)).heap.size = w7.heap.size := by simp [World.setCell]
          have of : OwR (OwS 2) (w7.setCell ⟨w.heap.size, 0, none⟩ (.slice (some ⟨g5, 0, none⟩) n5 c5)) w4.heap.size (w7.setCell ⟨w.heap.size, 0, none⟩ (.slice (some ⟨g5, 0, none⟩) n5 c5)).heap.size 49 (some ⟨g5, 0, none⟩) n5 c5 us5 (cosTab (uniD zs ws) []) := by
            rw [hh]
            exact (O7.out.same (innerS _) fun g h1 _ _ => Below.heap_setCell _ _ _ _ (by simp; omega)).mono (Nat.le_refl _) hs7
          clear hh
          generalize w7.setCell ⟨w.heap.size, 0, none⟩ (.slice (some ⟨g5, 0, none⟩) n5 c5) = wf at *
          simp at kf
          have e0 := kf.cell 0
          simp at e0
          refine bodyPost_ret (v := .tuple #[.agg #[.slice (some ⟨g5, 0, none⟩) n5 c5], .int .i64 0]) (by simp [results, Try.f39, go_sem, e0]) rfl ⟨_, by rw [HC.out.1], ?_, Bf⟩
          rw [HC.out.2]
          exact ⟨_, n5, c5, us5, rfl, of.mono (by omega) (Nat.le_refl _)⟩
        | false =>
          have HC := Lib.hid (uni_4 HD.out hw hs hM)
          have HX := Lib.hid (And.intro hp (And.intro hs hM))
          clear hw hp hs hM
          go_enter Try.func39, Try.ntmps39
          go_wp2_with fail
          refine (specIsB_any ao n c zs _ HH.out.1).mono ?_
          rintro e w1 ⟨rfl, b1⟩
          rw [HD.out]
          have K1 := Lib.hid (HK0.out.1.belowS b1)
          have B1 := Lib.hid (below_tr b1 HK0.out.2)
          have I1 := Lib.hid (And.intro (HH.out.1.below b1) (HH.out.2.below b1))
          clear b1
          go_wp2_with fail
          refine (specCox_any ao n c zs _ I1.out.1 HDB.out.2 HDB.out.1).mono ?_
          rintro e w2 ⟨v2, rfl, o2, b2⟩
          have K2 := Lib.hid (K1.out.belowS b2)
          have B2 := Lib.hid (below_tr b2 B1.out)
          have I2 := Lib.hid (I1.out.2.below b2)
          clear b2
          go_wp2_with fail
          refine (withS_any bo m c2 ws _ o2.rd I2.out).mono ?_
          rintro e w3 ⟨v3, rfl, o3, b3⟩
          obtain ⟨a3, n3, c3, rfl⟩ := o3.form
          have k9 := (K2.out.belowS b3).alloc (.cells #[.int .i64 (wrR (coxPres zs) ws).1, .slice a3 n3 c3] 72)
          have B9 := (below_tr b3 B2.out).alloc (below_tr b3 B2.out).size (.cells #[.int .i64 (wrR (coxPres zs) ws).1, .slice a3 n3 c3] 72)
          have O3 := Lib.hid (o3.below (below_alloc1 w3 (.cells #[.int .i64 (wrR (coxPres zs) ws).1, .slice a3 n3 c3] 72)))
          clear b3 o2
          rw [HW.out]
          clear o3
          go_wp2_with fail
          generalize w3.alloc (.cells #[.int .i64 (wrR (coxPres zs) ws).1, .slice a3 n3 c3] 72) = w4 at *
          have hw4 := k9.lt
          refine (specSmallW_yes (d := uniD zs ws) w4 O3.out HX.out.1 HX.out.2.1).mono ?_
          rintro e w5 ⟨v5, rfl, ⟨a5, n5, c5, us5, rfl, o5⟩, b5⟩
          have k9 := k9.belowS b5
          have B9 := below_tr b5 B9
          have hs5 := b5.size
          have hlt9 := k9.lt
          have hl5 := o5.len
          have hpos : 0 < n5 := by have := HT.out.2.1; omega
          obtain ⟨g5, rfl, -, -, -, -, -⟩ := o5.own.form hpos
          obtain ⟨u0, d0, hu0, hd0, ⟨a6, n6, c6, rfl, o6⟩, -⟩ := o5.get hpos
          have x6 := o5.cell hu0
          have hn6 : n6 ≤ 400 := by
            have h1 := o6.len
            have h2 := HT.out.2.2.2 0 HT.out.2.1
            rw [lget_get? hd0] at h2
            have h3 := HN.out
            simp at h1
            omega
          have hg6 : decide ((n6 : Int) > 400) = false := by simp; omega
          have hp0 : (0 : Int) < (n5 : Int) := by omega
          have O5 := Lib.hid o5
          have HL5 := Lib.hid hl5
          have hkb := below_alloc1 w5 (.cells #[.slice (some ⟨g5, 0, none⟩) n5 c5] 41)
          have HKB := Lib.hid hkb
          clear b5 O3 o5 o6 hu0 hd0 hn6 hkb hl5
          go_wp2_with fail
          refine (specManW (d := cosTab (uniD zs ws) []) _ (⟨some ⟨g5, 0, none⟩, n5, c5, us5, rfl, (O5.out.below (innerS _) HKB.out)⟩ : OwM 2 49 _ w4.heap.size w5.heap.size _ _) (by have := HT.out.2.2.1; omega) (fun i hi => by have h1 := HT.out.2.2.2 i hi; have h2 := HN.out; omega)).mono ?_
          rintro e w7 ⟨rfl, b7⟩
          rw [HX.out.2.2]
          have k9 := (k9.alloc (.cells #[.slice (some ⟨g5, 0, none⟩) n5 c5] 41)).belowS b7
          have B9 := below_tr b7 (below_tr HKB.out B9)
          have xb := ((blk_at (w := w5) (t := 41) (cs := #[.slice (some ⟨g5, 0, none⟩) n5 c5]) rfl).belowS b7).cell 0
          have O7 := Lib.hid (O5.out.below (innerS _) (below_tr b7 HKB.out))
          have hs7 := (below_tr b7 HKB.out).size
          have f9 := k9.frozen 0
          have x9 := k9.cell 0
          simp at x9 xb
          clear b7 x6
          go_wp2_with fail
          have kf := k9.set_ 0 (.slice none 0 0)
          have Bf := B9.setCell (p := ⟨w.heap.size, 0, none⟩) (by simp) (.slice none 0 0)
          generalize w7.setCell ⟨w.heap.size, 0, none⟩ (.slice none 0 0) = wf at *
          simp at kf
          have e0 := kf.cell 0
          simp at e0
          refine bodyPost_ret (v := .tuple #[.agg #[.slice none 0 0], .int .i64 5]) (by simp [results, Try.f39, go_sem, e0]) rfl ⟨_, by rw [HC.out.1], ?_, Bf⟩
          rw [HC.out.2]
          exact ⟨none, 0, 0, [], rfl, OwR.empty_ (Own.nil_ _ _ _) (fun g hg => by cases hg)⟩
      · have HC := Lib.hid (uni_3 HD.out hw hs)
        have HX := Lib.hid (And.intro hp hs)
        clear hw hp hs
        go_enter Try.func39, Try.ntmps39
        go_wp2_with fail
        refine (specIsB_any ao n c zs _ HH.out.1).mono ?_
        rintro e w1 ⟨rfl, b1⟩
        rw [HD.out]
        have K1 := Lib.hid (HK0.out.1.belowS b1)
        have B1 := Lib.hid (below_tr b1 HK0.out.2)
        have I1 := Lib.hid (And.intro (HH.out.1.below b1) (HH.out.2.below b1))
        clear b1
        go_wp2_with fail
        refine (specCox_any ao n c zs _ I1.out.1 HDB.out.2 HDB.out.1).mono ?_
        rintro e w2 ⟨v2, rfl, o2, b2⟩
        have K2 := Lib.hid (K1.out.belowS b2)
        have B2 := Lib.hid (below_tr b2 B1.out)
        have I2 := Lib.hid (I1.out.2.below b2)
        clear b2
        go_wp2_with fail
        refine (withS_any bo m c2 ws _ o2.rd I2.out).mono ?_
        rintro e w3 ⟨v3, rfl, o3, b3⟩
        obtain ⟨a3, n3, c3, rfl⟩ := o3.form
        have k9 := (K2.out.belowS b3).alloc (.cells #[.int .i64 (wrR (coxPres zs) ws).1, .slice a3 n3 c3] 72)
        have B9 := (below_tr b3 B2.out).alloc (below_tr b3 B2.out).size (.cells #[.int .i64 (wrR (coxPres zs) ws).1, .slice a3 n3 c3] 72)
        have O3 := Lib.hid (o3.below (below_alloc1 w3 (.cells #[.int .i64 (wrR (coxPres zs) ws).1, .slice a3 n3 c3] 72)))
        clear b3 o2
        rw [HW.out]
        clear o3
        go_wp2_with fail
        generalize w3.alloc (.cells #[.int .i64 (wrR (coxPres zs) ws).1, .slice a3 n3 c3] 72) = w4 at *
        refine (specSmallW_no (d := uniD zs ws) w4 O3.out HX.out.1 HX.out.2).mono ?_
        rintro e w5 ⟨rfl, b5⟩
        have k9 := k9.belowS b5
        have B9 := below_tr b5 B9
        have f9 := k9.frozen 0
        have x9 := k9.cell 0
        simp at x9
        clear b5 O3
        go_wp2_with fail
        have kf := k9.set_ 0 (.slice none 0 0)
        have Bf := B9.setCell (p := ⟨w.heap.size, 0, none⟩) (by simp) (.slice none 0 0)
        generalize w5.setCell ⟨w.heap.size, 0, none⟩ (.slice none 0 0) = wf at *
        simp at kf
        have e0 := kf.cell 0
        simp at e0
        refine bodyPost_ret (v := .tuple #[.agg #[.slice none 0 0], .int .i64 3]) (by simp [results, Try.f39, go_sem, e0]) rfl ⟨_, by rw [HC.out.1], ?_, Bf⟩
        rw [HC.out.2]
        exact ⟨none, 0, 0, [], rfl, OwR.empty_ (Own.nil_ _ _ _) (fun g hg => by cases hg)⟩
    · have HC := Lib.hid (uni_2 HD.out hw)
      have hne : (wrC (coxPres zs) ws != 0) = true := by simp; exact hw
      clear hw
      go_enter Try.func39, Try.ntmps39
      go_wp2_with fail
      refine (specIsB_any ao n c zs _ HH.out.1).mono ?_
      rintro e w1 ⟨rfl, b1⟩
      rw [HD.out]
      have K1 := Lib.hid (HK0.out.1.belowS b1)
      have B1 := Lib.hid (below_tr b1 HK0.out.2)
      have I1 := Lib.hid (And.intro (HH.out.1.below b1) (HH.out.2.below b1))
      clear b1
      go_wp2_with fail
      refine (specCox_any ao n c zs _ I1.out.1 HDB.out.2 HDB.out.1).mono ?_
      rintro e w2 ⟨v2, rfl, o2, b2⟩
      have K2 := Lib.hid (K1.out.belowS b2)
      have B2 := Lib.hid (below_tr b2 B1.out)
      have I2 := Lib.hid (I1.out.2.below b2)
      clear b2
      go_wp2_with fail
      refine (withS_any bo m c2 ws _ o2.rd I2.out).mono ?_
      rintro e w3 ⟨v3, rfl, o3, b3⟩
      obtain ⟨a3, n3, c3, rfl⟩ := o3.form
      have k9 := (K2.out.belowS b3).alloc (.cells #[.int .i64 (wrR (coxPres zs) ws).1, .slice a3 n3 c3] 72)
      have B9 := (below_tr b3 B2.out).alloc (below_tr b3 B2.out).size (.cells #[.int .i64 (wrR (coxPres zs) ws).1, .slice a3 n3 c3] 72)
      have O3 := Lib.hid (o3.below (below_alloc1 w3 (.cells #[.int .i64 (wrR (coxPres zs) ws).1, .slice a3 n3 c3] 72)))
      clear b3 o2
      clear o3 O3
      have f9 := k9.frozen 0
      have x9 := k9.cell 0
      simp at x9
      go_wp2_with fail
      have kf := k9.set_ 0 (.slice none 0 0)
      have Bf := B9.setCell (p := ⟨w.heap.size, 0, none⟩) (by simp) (.slice none 0 0)
      generalize (w3.alloc (.cells #[.int .i64 (wrR (coxPres zs) ws).1, .slice a3 n3 c3] 72)).setCell ⟨w.heap.size, 0, none⟩ (.slice none 0 0) = wf at *
      simp at kf
      have e0 := kf.cell 0
      simp at e0
      refine bodyPost_ret (v := .tuple #[.agg #[.slice none 0 0], .int .i64 (wrC (coxPres zs) ws)]) (by simp [results, Try.f39, go_sem, e0]) rfl ⟨_, by rw [HC.out.1], ?_, Bf⟩
      rw [HC.out.2]
      exact ⟨none, 0, 0, [], rfl, OwR.empty_ (Own.nil_ _ _ _) (fun g hg => by cases hg)⟩

set_option maxRecDepth 100000 in
set_option maxHeartbeats 6400000 in
theorem implUni_any (ao bo : Option Addr) (n c m c2 : Nat) (zs : List Int) (ws : List (List Int)) (w : World) (h : Ints w ao n zs) (h' : Intss w bo m ws) :
    Calls Try.prog 42 #[.slice ao n c, .slice bo m c2] w fun e w' => ∃ v, e = .returned (.tuple #[v, .int .i64 (uniC zs ws)]) ∧ OwM 2 49 w' w.heap.size w'.heap.size v (uniR zs ws) ∧ Below w.heap.size w w' := by
  have k0 : Blk (w.alloc (.cells #[.slice none 0 0] 41)) w.heap.size 41 #[.slice none 0 0] := blk_at rfl
  have hb0 := below_alloc1 w (.cells #[.slice none 0 0] 41)
  have h1 := h.below hb0
  have h2 := h'.below hb0
  cases hD : isDiag zs with
  | false =>
    have HC := Lib.hid (uni_1 (ws := ws) hD)
    have HD := Lib.hid hD
    clear hD
    go_enter Try.func42, Try.ntmps42
    go_wp2_with fail
    refine (isDiagramImpl_any ao n c zs _ h1).mono ?_
    rintro e w1 ⟨rfl, b1⟩
    rw [HD.out]
    have k9 := k0.belowS b1
    have B9 := below_tr b1 hb0
    clear h h' h1 h2 k0 b1
    have f9 := k9.frozen 0
    have x9 := k9.cell 0
    simp at x9
    go_wp2_with fail
    have kf := k9.set_ 0 (.slice none 0 0)
    have Bf := B9.setCell (p := ⟨w.heap.size, 0, none⟩) (by simp) (.slice none 0 0)
    generalize w1.setCell ⟨w.heap.size, 0, none⟩ (.slice none 0 0) = wf at *
    simp at kf
    have e0 := kf.cell 0
    simp at e0
    refine bodyPost_ret (v := .tuple #[.agg #[.slice none 0 0], .int .i64 1]) (by simp [results, Try.f42, go_sem, e0]) rfl ⟨_, by rw [HC.out.1], ?_, Bf⟩
    rw [HC.out.2]
    exact ⟨none, 0, 0, [], rfl, OwR.empty_ (Own.nil_ _ _ _) (fun g hg => by cases hg)⟩
  | true =>
    obtain ⟨hd1, hd2⟩ := isDiag_in hD
    rw [h.1] at hd1 hd2
    have HDB := Lib.hid (And.intro hd1 hd2)
    have HH := Lib.hid (And.intro h1 h2)
    have HK0 := Lib.hid (And.intro k0 hb0)
    have HD := Lib.hid hD
    clear h h' h1 h2 k0 hb0 hD hd1 hd2
    cases hok : withOk (coxPres zs) ws with
    | false =>
      have hw1 : wrC (coxPres zs) ws = 1 := by unfold wrC; rw [hok]; rfl
      have HC := Lib.hid (uni_2 HD.out (by rw [hw1]; decide))
      rw [hw1] at HC
      have HWC : Hid (withC (coxPres zs) ws = 1) := Lib.hid (by unfold withC; rw [hok]; rfl)
      clear hok hw1
      go_enter Try.func42, Try.ntmps42
      go_wp2_with fail
      refine (isDiagramImpl_any ao n c zs _ HH.out.1).mono ?_
      rintro e w1 ⟨rfl, b1⟩
      rw [HD.out]
      have K1 := Lib.hid (HK0.out.1.belowS b1)
      have B1 := Lib.hid (below_tr b1 HK0.out.2)
      have I1 := Lib.hid (And.intro (HH.out.1.below b1) (HH.out.2.below b1))
      clear b1
      go_wp2_with fail
      refine (implCox_any ao n c zs _ I1.out.1 HDB.out.2 HDB.out.1).mono ?_
      rintro e w2 ⟨v2, rfl, o2, b2⟩
      have K2 := Lib.hid (K1.out.belowS b2)
      have B2 := Lib.hid (below_tr b2 B1.out)
      have I2 := Lib.hid (I1.out.2.below b2)
      obtain ⟨a2, n2, c2', rfl⟩ := o2.form
      have kp := (blk_at (w := w2) (t := 72) (cs := #[.int .i64 (coxPres zs).1, .slice a2 n2 c2']) rfl)
      have hba := below_alloc1 w2 (.cells #[.int .i64 (coxPres zs).1, .slice a2 n2 c2'] 72)
      have RP := Lib.hid (o2.rd.below hba)
      have KP := Lib.hid kp
      have K9 := Lib.hid ((K2.out).alloc (.cells #[.int .i64 (coxPres zs).1, .slice a2 n2 c2'] 72))
      have B9 := Lib.hid ((B2.out).alloc (B2.out).size (.cells #[.int .i64 (coxPres zs).1, .slice a2 n2 c2'] 72))
      have I9 := Lib.hid (I2.out.below hba)
      clear b2 o2 kp hba
      go_wp2_with fail
      refine (implCode_any bo m c2 ws _ RP.out I9.out).mono ?_
      rintro e w5 ⟨rfl, b5⟩
      rw [HWC.out]
      have k9 := K9.out.belowS b5
      have B9 := below_tr b5 B9.out
      have f9 := k9.frozen 0
      have x9 := k9.cell 0
      simp at x9
      clear b5
      go_wp2_with fail
      have kf := k9.set_ 0 (.slice none 0 0)
      have Bf := B9.setCell (p := ⟨w.heap.size, 0, none⟩) (by simp) (.slice none 0 0)
      generalize w5.setCell ⟨w.heap.size, 0, none⟩ (.slice none 0 0) = wf at *
      simp at kf
      have e0 := kf.cell 0
      simp at e0
      refine bodyPost_ret (v := .tuple #[.agg #[.slice none 0 0], .int .i64 1]) (by simp [results, Try.f42, go_sem, e0]) rfl ⟨_, by rw [HC.out.1], ?_, Bf⟩
      rw [HC.out.2]
      exact ⟨none, 0, 0, [], rfl, OwR.empty_ (Own.nil_ _ _ _) (fun g hg => by cases hg)⟩
    | true =>
      have HWC : Hid (withC (coxPres zs) ws = 0) := Lib.hid (by unfold withC; rw [hok]; rfl)
      have HOK := Lib.hid hok
      have hwk : wrC (coxPres zs) ws = wrK ((coxPres zs).2 ++ ws) := by unfold wrC; rw [if_pos hok]
      have HQ : Hid (zs.length + 1 ≤ 5 ∧ (coxPres zs).2.length ≤ 24 ∧ ws.length ≤ 24 ∧ ∀ z ∈ (coxPres zs).2 ++ ws, z.length ≤ 1000) := Lib.hid (by
        obtain ⟨hp1, hp2⟩ := withOk_pres hok
        obtain ⟨q1, q2, q3⟩ := isPres_few hp1
        obtain ⟨q4, q5⟩ := wordsTo_few hp2
        have hd := (isDiag_in HD.out).1
        refine ⟨by omega, q1, q4, fun z hz => ?_⟩
        rcases List.mem_append.1 hz with h | h
        · have := q3 z h; omega
        · have := q5 z h; omega)
      clear hok
      by_cases hw : wrC (coxPres zs) ws = 0
      · have hp := isPres_wr hw
        have HKV : Hid (wrK ((coxPres zs).2 ++ ws) = 0) := Lib.hid (by rw [← hwk]; exact hw)
        clear hwk
        by_cases hs : smallOk (uniD zs ws) [] = true
        · have HT := Lib.hid (cosTab_small (d := uniD zs ws) hp hs)
          have HN : Hid (cosN (uniD zs ws) [] ≤ 400) := Lib.hid (by unfold smallOk at hs; simp at hs; exact hs.2)
          cases hM : manB (cosTab (uniD zs ws) []) with
          | true =>
            have HC := Lib.hid (uni_5 HD.out hw hs hM)
            have HX := Lib.hid (And.intro hp (And.intro hs hM))
            clear hw hp hs hM
            go_enter Try.func42, Try.ntmps42
            go_wp2_with fail
            refine (isDiagramImpl_any ao n c zs _ HH.out.1).mono ?_
            rintro e w1 ⟨rfl, b1⟩
            rw [HD.out]
            have K1 := Lib.hid (HK0.out.1.belowS b1)
            have B1 := Lib.hid (below_tr b1 HK0.out.2)
            have I1 := Lib.hid (And.intro (HH.out.1.below b1) (HH.out.2.below b1))
            clear b1
            go_wp2_with fail
            refine (implCox_any ao n c zs _ I1.out.1 HDB.out.2 HDB.out.1).mono ?_
            rintro e w2 ⟨v2, rfl, o2, b2⟩
            have K2 := Lib.hid (K1.out.belowS b2)
            have B2 := Lib.hid (below_tr b2 B1.out)
            have I2 := Lib.hid (I1.out.2.below b2)
            obtain ⟨a2, n2, c2', rfl⟩ := o2.form
            have kp := (blk_at (w := w2) (t := 72) (cs := #[.int .i64 (coxPres zs).1, .slice a2 n2 c2']) rfl)
            have hba := below_alloc1 w2 (.cells #[.int .i64 (coxPres zs).1, .slice a2 n2 c2'] 72)
            have RP := Lib.hid (o2.rd.below hba)
            have KP := Lib.hid kp
            have K9 := Lib.hid ((K2.out).alloc (.cells #[.int .i64 (coxPres zs).1, .slice a2 n2 c2'] 72))
            have B9 := Lib.hid ((B2.out).alloc (B2.out).size (.cells #[.int .i64 (coxPres zs).1, .slice a2 n2 c2'] 72))
            have I9 := Lib.hid (I2.out.below hba)
            clear b2 o2 kp hba
            go_wp2_with fail
            refine (implCode_any bo m c2 ws _ RP.out I9.out).mono ?_
            rintro e w5 ⟨rfl, b5⟩
            rw [HWC.out]
            have K5 := Lib.hid (K9.out.belowS b5)
            have kp5 := KP.out.belowS b5
            have z0 := kp5.cell 0
            have z1 := kp5.cell 1
            simp at z0 z1
            have KP5 := Lib.hid kp5
            have B5 := Lib.hid (below_tr b5 B9.out)
            have R5 := Lib.hid (And.intro (RP.out.below b5) (I9.out.below b5))
            clear b5 kp5
            go_wp2_with fail
            obtain ⟨ar, nr, cr, er, hr⟩ := R5.out.1
            simp at er
            obtain ⟨rfl, rfl, rfl⟩ := er
            have hrl := hr.1
            have hil := R5.out.2.1
            have hN : (coxPres zs).1 = ((zs.length + 1 : Nat) : Int) := rfl
            rw [hN]
            refine (withI_any (zs.length + 1) HQ.out.1 a2 bo n2 c2' m c2 (coxPres zs).2 ws _ hr R5.out.2 (by have := HQ.out.2.1; omega) (by have := HQ.out.2.2.1; omega) HQ.out.2.2.2).mono ?_
            rintro e w6 ⟨v6, rfl, ⟨a6, n6', c6', us6, rfl, o6⟩, b6⟩
            rw [HKV.out]
            have k6 := K5.out.belowS b6
            have kp6 := KP5.out.belowS b6
            have y0 := kp6.cell 0
            have y1 := kp6.cell 1
            have g0 := kp6.frozen 0
            have g1 := kp6.frozen 1
            simp at y0 y1
            have hlt6 := K5.out.lt
            have hltp := KP5.out.lt
            have hwp : w.heap.size < w2.heap.size := K2.out.lt
            have hs6 := b6.size
            have B6 := below_tr b6 B5.out
            obtain ⟨D, hD2⟩ : ∃ D, D = wrV ((zs.length + 1 : Nat) : Int) ((coxPres zs).2 ++ ws) := ⟨_, rfl⟩
            rw [← hD2] at o6 ⊢
            have HDD := Lib.hid hD2
            have f6 := k6.frozen 0
            have x6r := k6.cell 0
            simp at x6r
            clear b6 hD2 hr hN hrl hil z0 z1
            have k9 := (k6.far (p := ⟨w2.heap.size, 0, none⟩) (by simp; omega) (.int .i64 D.1)).far (p := ⟨w2.heap.size, 1, none⟩) (by simp; omega) (.slice a6 n6' c6')
            have B9 := (B6.setCell (p := ⟨w2.heap.size, 0, none⟩) (by simp; omega) (.int .i64 D.1)).setCell (p := ⟨w2.heap.size, 1, none⟩) (by simp; omega) (.slice a6 n6' c6')
            have ho : OwR (OwS 2) ((w6.setCell ⟨w2.heap.size, 0, none⟩ (.int .i64 D.1)).setCell ⟨w2.heap.size, 1, none⟩ (.slice a6 n6' c6')) w5.heap.size w6.heap.size 49 a6 n6' c6' us6 D.2 := o6.same (innerS _) fun g h1 _ _ => by rw [Below.heap_setCell _ _ _ _ (by simp; omega), Below.heap_setCell _ _ _ _ (by simp; omega)]
            have O3 : Hid (OwP 2 49 ((w6.setCell ⟨w2.heap.size, 0, none⟩ (.int .i64 D.1)).setCell ⟨w2.heap.size, 1, none⟩ (.slice a6 n6' c6')) w5.heap.size w6.heap.size (.agg #[.int .i64 D.1, .slice a6 n6' c6']) (uniD zs ws)) := Lib.hid (by
              have e : uniD zs ws = D := by unfold uniD wrR; rw [if_pos HOK.out, HDD.out]; rfl
              rw [e]; exact ⟨a6, n6', c6', us6, rfl, ho⟩)
            clear ho o6
            go_wp2_with fail
            clear k6 kp6 y0 y1 g0 g1 f6 x6r B6 hlt6 hs6
            generalize (w6.setCell ⟨w2.heap.size, 0, none⟩ (.int .i64 D.1)).setCell ⟨w2.heap.size, 1, none⟩ (.slice a6 n6' c6') = w4 at *
            have hw4 := k9.lt
            refine (implSmallW_yes (d := uniD zs ws) w4 O3.out HX.out.1 HX.out.2.1).mono ?_
            rintro e w5 ⟨v5, rfl, ⟨a5, n5, c5, us5, rfl, o5⟩, b5⟩
            have k9 := k9.belowS b5
            have B9 := below_tr b5 B9
            have hs5 := b5.size
            have hlt9 := k9.lt
            have hl5 := o5.len
            have hpos : 0 < n5 := by have := HT.out.2.1; omega
            obtain ⟨g5, rfl, -, -, -, -, -⟩ := o5.own.form hpos
            obtain ⟨u0, d0, hu0, hd0, ⟨a6, n6, c6, rfl, o6⟩, -⟩ := o5.get hpos
            have x6 := o5.cell hu0
            have hn6 : n6 ≤ 400 := by
              have h1 := o6.len
              have h2 := HT.out.2.2.2 0 HT.out.2.1
              rw [lget_get? hd0] at h2
              have h3 := HN.out
              simp at h1
              omega
            have hg6 : decide ((n6 : Int) > 400) = false := by simp; omega
            have hp0 : (0 : Int) < (n5 : Int) := by omega
            have O5 := Lib.hid o5
            have HL5 := Lib.hid hl5
            have hkb := below_alloc1 w5 (.cells #[.slice (some ⟨g5, 0, none⟩) n5 c5] 41)
            have HKB := Lib.hid hkb
            clear b5 O3 o5 o6 hu0 hd0 hn6 hkb hl5
            go_wp2_with fail
            refine (implManW (d := cosTab (uniD zs ws) []) _ (⟨some ⟨g5, 0, none⟩, n5, c5, us5, rfl, (O5.out.below (innerS _) HKB.out)⟩ : OwM 2 49 _ w4.heap.size w5.heap.size _ _) (by have := HT.out.2.2.1; omega) (fun i hi => by have h1 := HT.out.2.2.2 i hi; have h2 := HN.out; omega)).mono ?_
            rintro e w7 ⟨rfl, b7⟩
            rw [HX.out.2.2]
            have k9 := (k9.alloc (.cells #[.slice (some ⟨g5, 0, none⟩) n5 c5] 41)).belowS b7
            have B9 := below_tr b7 (below_tr HKB.out B9)
            have xb := ((blk_at (w := w5) (t := 41) (cs := #[.slice (some ⟨g5, 0, none⟩) n5 c5]) rfl).belowS b7).cell 0
            have O7 := Lib.hid (O5.out.below (innerS _) (below_tr b7 HKB.out))
            have hs7 := (below_tr b7 HKB.out).size
            have f9 := k9.frozen 0
            have x9 := k9.cell 0
            simp at x9 xb
            clear b7 x6
            go_wp2_with fail
            have kf := k9.set_ 0 (.slice (some ⟨g5, 0, none⟩) n5 c5)
            have Bf := B9.setCell (p := ⟨w.heap.size, 0, none⟩) (by simp) (.slice (some ⟨g5, 0, none⟩) n5 c5)
            have hh : (w7.setCell ⟨w.heap.size, 0, none⟩ (.slice (some ⟨g5, 0, none⟩) n5 c5)).heap.size = w7.heap.size := by simp [World.setCell]
            have of : OwR (OwS 2) (w7.setCell ⟨w.heap.size, 0, none⟩ (.slice (some ⟨g5, 0, none⟩) n5 c5)) w4.heap.size (w7.setCell ⟨w.heap.size, 0, none⟩ (.slice (some ⟨g5, 0, none⟩) n5 c5)).heap.size 49 (some ⟨g5, 0, none⟩) n5 c5 us5 (cosTab (uniD zs ws) []) := by
              rw [hh]
              exact (O7.out.same (innerS _) fun g h1 _ _ => Below.heap_setCell _ _ _ _ (by simp; omega)).mono (Nat.le_refl _) hs7
            clear hh
            generalize w7.setCell ⟨w.heap.size, 0, none⟩ (.slice (some ⟨g5, 0, none⟩) n5 c5) = wf at *
            simp at kf
            have e0 := kf.cell 0
            simp at e0
            refine bodyPost_ret (v := .tuple #[.agg #[.slice (some ⟨g5, 0, none⟩) n5 c5], .int .i64 0]) (by simp [results, Try.f42, go_sem, e0]) rfl ⟨_, by rw [HC.out.1], ?_, Bf⟩
            rw [HC.out.2]
            exact ⟨_, n5, c5, us5, rfl, of.mono (by omega) (Nat.le_refl _)⟩
          | false =>
            have HC := Lib.hid (uni_4 HD.out hw hs hM)
            have HX := Lib.hid (And.intro hp (And.intro hs hM))
            clear hw hp hs hM
            go_enter Try.func42, Try.ntmps42
            go_wp2_with fail
            refine (isDiagramImpl_any ao n c zs _ HH.out.1).mono ?_
            rintro e w1 ⟨rfl, b1⟩
            rw [HD.out]
            have K1 := Lib.hid (HK0.out.1.belowS b1)
            have B1 := Lib.hid (below_tr b1 HK0.out.2)
            have I1 := Lib.hid (And.intro (HH.out.1.below b1) (HH.out.2.below b1))
            clear b1
            go_wp2_with fail
            refine (implCox_any ao n c zs _ I1.out.1 HDB.out.2 HDB.out.1).mono ?_
            rintro e w2 ⟨v2, rfl, o2, b2⟩
            have K2 := Lib.hid (K1.out.belowS b2)
            have B2 := Lib.hid (below_tr b2 B1.out)
            have I2 := Lib.hid (I1.out.2.below b2)
            obtain ⟨a2, n2, c2', rfl⟩ := o2.form
            have kp := (blk_at (w := w2) (t := 72) (cs := #[.int .i64 (coxPres zs).1, .slice a2 n2 c2']) rfl)
            have hba := below_alloc1 w2 (.cells #[.int .i64 (coxPres zs).1, .slice a2 n2 c2'] 72)
            have RP := Lib.hid (o2.rd.below hba)
            have KP := Lib.hid kp
            have K9 := Lib.hid ((K2.out).alloc (.cells #[.int .i64 (coxPres zs).1, .slice a2 n2 c2'] 72))
            have B9 := Lib.hid ((B2.out).alloc (B2.out).size (.cells #[.int .i64 (coxPres zs).1, .slice a2 n2 c2'] 72))
            have I9 := Lib.hid (I2.out.below hba)
            clear b2 o2 kp hba
            go_wp2_with fail
            refine (implCode_any bo m c2 ws _ RP.out I9.out).mono ?_
            rintro e w5 ⟨rfl, b5⟩
            rw [HWC.out]
            have K5 := Lib.hid (K9.out.belowS b5)
            have kp5 := KP.out.belowS b5
            have z0 := kp5.cell 0
            have z1 := kp5.cell 1
            simp at z0 z1
            have KP5 := Lib.hid kp5
            have B5 := Lib.hid (below_tr b5 B9.out)
            have R5 := Lib.hid (And.intro (RP.out.below b5) (I9.out.below b5))
            clear b5 kp5
            go_wp2_with fail
            obtain ⟨ar, nr, cr, er, hr⟩ := R5.out.1
            simp at er
            obtain ⟨rfl, rfl, rfl⟩ := er
            have hrl := hr.1
            have hil := R5.out.2.1
            have hN : (coxPres zs).1 = ((zs.length + 1 : Nat) : Int) := rfl
            rw [hN]
            refine (withI_any (zs.length + 1) HQ.out.1 a2 bo n2 c2' m c2 (coxPres zs).2 ws _ hr R5.out.2 (by have := HQ.out.2.1; omega) (by have := HQ.out.2.2.1; omega) HQ.out.2.2.2).mono ?_
            rintro e w6 ⟨v6, rfl, ⟨a6, n6', c6', us6, rfl, o6⟩, b6⟩
            rw [HKV.out]
            have k6 := K5.out.belowS b6
            have kp6 := KP5.out.belowS b6
            have y0 := kp6.cell 0
            have y1 := kp6.cell 1
            have g0 := kp6.frozen 0
            have g1 := kp6.frozen 1
            simp at y0 y1
            have hlt6 := K5.out.lt
            have hltp := KP5.out.lt
            have hwp : w.heap.size < w2.heap.size := K2.out.lt
            have hs6 := b6.size
            have B6 := below_tr b6 B5.out
            obtain ⟨D, hD2⟩ : ∃ D, D = wrV ((zs.length + 1 : Nat) : Int) ((coxPres zs).2 ++ ws) := ⟨_, rfl⟩
            rw [← hD2] at o6 ⊢
            have HDD := Lib.hid hD2
            have f6 := k6.frozen 0
            have x6r := k6.cell 0
            simp at x6r
            clear b6 hD2 hr hN hrl hil z0 z1
            have k9 := (k6.far (p := ⟨w2.heap.size, 0, none⟩) (by simp; omega) (.int .i64 D.1)).far (p := ⟨w2.heap.size, 1, none⟩) (by simp; omega) (.slice a6 n6' c6')
            have B9 := (B6.setCell (p := ⟨w2.heap.size, 0, none⟩) (by simp; omega) (.int .i64 D.1)).setCell (p := ⟨w2.heap.size, 1, none⟩) (by simp; omega) (.slice a6 n6' c6')
            have ho : OwR (OwS 2) ((w6.setCell ⟨w2.heap.size, 0, none⟩ (.int .i64 D.1)).setCell ⟨w2.heap.size, 1, none⟩ (.slice a6 n6' c6')) w5.heap.size w6.heap.size 49 a6 n6' c6' us6 D.2 := o6.same (innerS _) fun g h1 _ _ => by rw [Below.heap_setCell _ _ _ _ (by simp; omega), Below.heap_setCell _ _ _ _ (by simp; omega)]
            have O3 : Hid (OwP 2 49 ((w6.setCell ⟨w2.heap.size, 0, none⟩ (.int .i64 D.1)).setCell ⟨w2.heap.size, 1, none⟩ (.slice a6 n6' c6')) w5.heap.size w6.heap.size (.agg #[.int .i64 D.1, .slice a6 n6' c6']) (uniD zs ws)) := Lib.hid (by
              have e : uniD zs ws = D := by unfold uniD wrR; rw [if_pos HOK.out, HDD.out]; rfl
              rw [e]; exact ⟨a6, n6', c6', us6, rfl, ho⟩)
            clear ho o6
            go_wp2_with fail
            clear k6 kp6 y0 y1 g0 g1 f6 x6r B6 hlt6 hs6
            generalize (w6.setCell ⟨w2.heap.size, 0, none⟩ (.int .i64 D.1)).setCell ⟨w2.heap.size, 1, none⟩ (.slice a6 n6' c6') = w4 at *
            have hw4 := k9.lt
            refine (implSmallW_yes (d := uniD zs ws) w4 O3.out HX.out.1 HX.out.2.1).mono ?_
            rintro e w5 ⟨v5, rfl, ⟨a5, n5, c5, us5, rfl, o5⟩, b5⟩
            have k9 := k9.belowS b5
            have B9 := below_tr b5 B9
            have hs5 := b5.size
            have hlt9 := k9.lt
            have hl5 := o5.len
            have hpos : 0 < n5 := by have := HT.out.2.1; omega
            obtain ⟨g5, rfl, -, -, -, -, -⟩ := o5.own.form hpos
            obtain ⟨u0, d0, hu0, hd0, ⟨a6, n6, c6, rfl, o6⟩, -⟩ := o5.get hpos
            have x6 := o5.cell hu0
            have hn6 : n6 ≤ 400 := by
              have h1 := o6.len
              have h2 := HT.out.2.2.2 0 HT.out.2.1
              rw [lget_get? hd0] at h2
              have h3 := HN.out
              simp at h1
              omega
            have hg6 : decide ((n6 : Int) > 400) = false := by simp; omega
            have hp0 : (0 : Int) < (n5 : Int) := by omega
            have O5 := Lib.hid o5
            have HL5 := Lib.hid hl5
            have hkb := below_alloc1 w5 (.cells #[.slice (some ⟨g5, 0, none⟩) n5 c5] 41)
            have HKB := Lib.hid hkb
            clear b5 O3 o5 o6 hu0 hd0 hn6 hkb hl5
            go_wp2_with fail
            refine (implManW (d := cosTab (uniD zs ws) []) _ (⟨some ⟨g5, 0, none⟩, n5, c5, us5, rfl, (O5.out.below (innerS _) HKB.out)⟩ : OwM 2 49 _ w4.heap.size w5.heap.size _ _) (by have := HT.out.2.2.1; omega) (fun i hi => by have h1 := HT.out.2.2.2 i hi; have h2 := HN.out; omega)).mono ?_
            rintro e w7 ⟨rfl, b7⟩
            rw [HX.out.2.2]
            have k9 := (k9.alloc (.cells #[.slice (some ⟨g5, 0, none⟩) n5 c5] 41)).belowS b7
            have B9 := below_tr b7 (below_tr HKB.out B9)
            have xb := ((blk_at (w := w5) (t := 41) (cs := #[.slice (some ⟨g5, 0, none⟩) n5 c5]) rfl).belowS b7).cell 0
            have O7 := Lib.hid (O5.out.below (innerS _) (below_tr b7 HKB.out))
            have hs7 := (below_tr b7 HKB.out).size
            have f9 := k9.frozen 0
            have x9 := k9.cell 0
            simp at x9 xb
            clear b7 x6
            go_wp2_with fail
            have kf := k9.set_ 0 (.slice none 0 0)
            have Bf := B9.setCell (p := ⟨w.heap.size, 0, none⟩) (by simp) (.slice none 0 0)
            generalize w7.setCell ⟨w.heap.size, 0, none⟩ (.slice none 0 0) = wf at *
            simp at kf
            have e0 := kf.cell 0
            simp at e0
            refine bodyPost_ret (v := .tuple #[.agg #[.slice none 0 0], .int .i64 5]) (by simp [results, Try.f42, go_sem, e0]) rfl ⟨_, by rw [HC.out.1], ?_, Bf⟩
            rw [HC.out.2]
            exact ⟨none, 0, 0, [], rfl, OwR.empty_ (Own.nil_ _ _ _) (fun g hg => by cases hg)⟩
        · have HC := Lib.hid (uni_3 HD.out hw hs)
          have HX := Lib.hid (And.intro hp hs)
          clear hw hp hs
          go_enter Try.func42, Try.ntmps42
          go_wp2_with fail
          refine (isDiagramImpl_any ao n c zs _ HH.out.1).mono ?_
          rintro e w1 ⟨rfl, b1⟩
          rw [HD.out]
          have K1 := Lib.hid (HK0.out.1.belowS b1)
          have B1 := Lib.hid (below_tr b1 HK0.out.2)
          have I1 := Lib.hid (And.intro (HH.out.1.below b1) (HH.out.2.below b1))
          clear b1
          go_wp2_with fail
          refine (implCox_any ao n c zs _ I1.out.1 HDB.out.2 HDB.out.1).mono ?_
          rintro e w2 ⟨v2, rfl, o2, b2⟩
          have K2 := Lib.hid (K1.out.belowS b2)
          have B2 := Lib.hid (below_tr b2 B1.out)
          have I2 := Lib.hid (I1.out.2.below b2)
          obtain ⟨a2, n2, c2', rfl⟩ := o2.form
          have kp := (blk_at (w := w2) (t := 72) (cs := #[.int .i64 (coxPres zs).1, .slice a2 n2 c2']) rfl)
          have hba := below_alloc1 w2 (.cells #[.int .i64 (coxPres zs).1, .slice a2 n2 c2'] 72)
          have RP := Lib.hid (o2.rd.below hba)
          have KP := Lib.hid kp
          have K9 := Lib.hid ((K2.out).alloc (.cells #[.int .i64 (coxPres zs).1, .slice a2 n2 c2'] 72))
          have B9 := Lib.hid ((B2.out).alloc (B2.out).size (.cells #[.int .i64 (coxPres zs).1, .slice a2 n2 c2'] 72))
          have I9 := Lib.hid (I2.out.below hba)
          clear b2 o2 kp hba
          go_wp2_with fail
          refine (implCode_any bo m c2 ws _ RP.out I9.out).mono ?_
          rintro e w5 ⟨rfl, b5⟩
          rw [HWC.out]
          have K5 := Lib.hid (K9.out.belowS b5)
          have kp5 := KP.out.belowS b5
          have z0 := kp5.cell 0
          have z1 := kp5.cell 1
          simp at z0 z1
          have KP5 := Lib.hid kp5
          have B5 := Lib.hid (below_tr b5 B9.out)
          have R5 := Lib.hid (And.intro (RP.out.below b5) (I9.out.below b5))
          clear b5 kp5
          go_wp2_with fail
          obtain ⟨ar, nr, cr, er, hr⟩ := R5.out.1
          simp at er
          obtain ⟨rfl, rfl, rfl⟩ := er
          have hrl := hr.1
          have hil := R5.out.2.1
          have hN : (coxPres zs).1 = ((zs.length + 1 : Nat) : Int) := rfl
          rw [hN]
          refine (withI_any (zs.length + 1) HQ.out.1 a2 bo n2 c2' m c2 (coxPres zs).2 ws _ hr R5.out.2 (by have := HQ.out.2.1; omega) (by have := HQ.out.2.2.1; omega) HQ.out.2.2.2).mono ?_
          rintro e w6 ⟨v6, rfl, ⟨a6, n6', c6', us6, rfl, o6⟩, b6⟩
          rw [HKV.out]
          have k6 := K5.out.belowS b6
          have kp6 := KP5.out.belowS b6
          have y0 := kp6.cell 0
          have y1 := kp6.cell 1
          have g0 := kp6.frozen 0
          have g1 := kp6.frozen 1
          simp at y0 y1
          have hlt6 := K5.out.lt
          have hltp := KP5.out.lt
          have hwp : w.heap.size < w2.heap.size := K2.out.lt
          have hs6 := b6.size
          have B6 := below_tr b6 B5.out
          obtain ⟨D, hD2⟩ : ∃ D, D = wrV ((zs.length + 1 : Nat) : Int) ((coxPres zs).2 ++ ws) := ⟨_, rfl⟩
          rw [← hD2] at o6 ⊢
          have HDD := Lib.hid hD2
          have f6 := k6.frozen 0
          have x6r := k6.cell 0
          simp at x6r
          clear b6 hD2 hr hN hrl hil z0 z1
          have k9 := (k6.far (p := ⟨w2.heap.size, 0, none⟩) (by simp; omega) (.int .i64 D.1)).far (p := ⟨w2.heap.size, 1, none⟩) (by simp; omega) (.slice a6 n6' c6')
          have B9 := (B6.setCell (p := ⟨w2.heap.size, 0, none⟩) (by simp; omega) (.int .i64 D.1)).setCell (p := ⟨w2.heap.size, 1, none⟩) (by simp; omega) (.slice a6 n6' c6')
          have ho : OwR (OwS 2) ((w6.setCell ⟨w2.heap.size, 0, none⟩ (.int .i64 D.1)).setCell ⟨w2.heap.size, 1, none⟩ (.slice a6 n6' c6')) w5.heap.size w6.heap.size 49 a6 n6' c6' us6 D.2 := o6.same (innerS _) fun g h1 _ _ => by rw [Below.heap_setCell _ _ _ _ (by simp; omega), Below.heap_setCell _ _ _ _ (by simp; omega)]
          have O3 : Hid (OwP 2 49 ((w6.setCell ⟨w2.heap.size, 0, none⟩ (.int .i64 D.1)).setCell ⟨w2.heap.size, 1, none⟩ (.slice a6 n6' c6')) w5.heap.size w6.heap.size (.agg #[.int .i64 D.1, .slice a6 n6' c6']) (uniD zs ws)) := Lib.hid (by
            have e : uniD zs ws = D := by unfold uniD wrR; rw [if_pos HOK.out, HDD.out]; rfl
            rw [e]; exact ⟨a6, n6', c6', us6, rfl, ho⟩)
          clear ho o6
          go_wp2_with fail
          clear k6 kp6 y0 y1 g0 g1 f6 x6r B6 hlt6 hs6
          generalize (w6.setCell ⟨w2.heap.size, 0, none⟩ (.int .i64 D.1)).setCell ⟨w2.heap.size, 1, none⟩ (.slice a6 n6' c6') = w4 at *
          refine (implSmallW_no (d := uniD zs ws) w4 O3.out HX.out.1 HX.out.2).mono ?_
          rintro e w5 ⟨rfl, b5⟩
          have k9 := (k9.belowS b5).alloc (.cells #[.slice none 0 0] 41)
          have B9 := (below_tr b5 B9).alloc (below_tr b5 B9).size (.cells #[.slice none 0 0] 41)
          have f9 := k9.frozen 0
          have x9 := k9.cell 0
          simp at x9
          clear b5 O3
          go_wp2_with fail
          have kf := k9.set_ 0 (.slice none 0 0)
          have Bf := B9.setCell (p := ⟨w.heap.size, 0, none⟩) (by simp) (.slice none 0 0)
          generalize (w5.alloc (.cells #[.slice none 0 0] 41)).setCell ⟨w.heap.size, 0, none⟩ (.slice none 0 0) = wf at *
          simp at kf
          have e0 := kf.cell 0
          simp at e0
          refine bodyPost_ret (v := .tuple #[.agg #[.slice none 0 0], .int .i64 3]) (by simp [results, Try.f42, go_sem, e0]) rfl ⟨_, by rw [HC.out.1], ?_, Bf⟩
          rw [HC.out.2]
          exact ⟨none, 0, 0, [], rfl, OwR.empty_ (Own.nil_ _ _ _) (fun g hg => by cases hg)⟩
      · have HK3 : wrK ((coxPres zs).2 ++ ws) = 3 := by rw [hwk] at hw; unfold wrK at hw ⊢; split at hw; exact absurd rfl hw; rename_i h24; rw [if_neg h24]
        have HC := Lib.hid (uni_2 HD.out hw)
        rw [hwk, HK3] at HC
        have HKV := Lib.hid HK3
        clear hw hwk HK3
        go_enter Try.func42, Try.ntmps42
        go_wp2_with fail
        refine (isDiagramImpl_any ao n c zs _ HH.out.1).mono ?_
        rintro e w1 ⟨rfl, b1⟩
        rw [HD.out]
        have K1 := Lib.hid (HK0.out.1.belowS b1)
        have B1 := Lib.hid (below_tr b1 HK0.out.2)
        have I1 := Lib.hid (And.intro (HH.out.1.below b1) (HH.out.2.below b1))
        clear b1
        go_wp2_with fail
        refine (implCox_any ao n c zs _ I1.out.1 HDB.out.2 HDB.out.1).mono ?_
        rintro e w2 ⟨v2, rfl, o2, b2⟩
        have K2 := Lib.hid (K1.out.belowS b2)
        have B2 := Lib.hid (below_tr b2 B1.out)
        have I2 := Lib.hid (I1.out.2.below b2)
        obtain ⟨a2, n2, c2', rfl⟩ := o2.form
        have kp := (blk_at (w := w2) (t := 72) (cs := #[.int .i64 (coxPres zs).1, .slice a2 n2 c2']) rfl)
        have hba := below_alloc1 w2 (.cells #[.int .i64 (coxPres zs).1, .slice a2 n2 c2'] 72)
        have RP := Lib.hid (o2.rd.below hba)
        have KP := Lib.hid kp
        have K9 := Lib.hid ((K2.out).alloc (.cells #[.int .i64 (coxPres zs).1, .slice a2 n2 c2'] 72))
        have B9 := Lib.hid ((B2.out).alloc (B2.out).size (.cells #[.int .i64 (coxPres zs).1, .slice a2 n2 c2'] 72))
        have I9 := Lib.hid (I2.out.below hba)
        clear b2 o2 kp hba
        go_wp2_with fail
        refine (implCode_any bo m c2 ws _ RP.out I9.out).mono ?_
        rintro e w5 ⟨rfl, b5⟩
        rw [HWC.out]
        have K5 := Lib.hid (K9.out.belowS b5)
        have kp5 := KP.out.belowS b5
        have z0 := kp5.cell 0
        have z1 := kp5.cell 1
        simp at z0 z1
        have KP5 := Lib.hid kp5
        have B5 := Lib.hid (below_tr b5 B9.out)
        have R5 := Lib.hid (And.intro (RP.out.below b5) (I9.out.below b5))
        clear b5 kp5
        go_wp2_with fail
        obtain ⟨ar, nr, cr, er, hr⟩ := R5.out.1
        simp at er
        obtain ⟨rfl, rfl, rfl⟩ := er
        have hrl := hr.1
        have hil := R5.out.2.1
        have hN : (coxPres zs).1 = ((zs.length + 1 : Nat) : Int) := rfl
        rw [hN]
        refine (withI_any (zs.length + 1) HQ.out.1 a2 bo n2 c2' m c2 (coxPres zs).2 ws _ hr R5.out.2 (by have := HQ.out.2.1; omega) (by have := HQ.out.2.2.1; omega) HQ.out.2.2.2).mono ?_
        rintro e w6 ⟨v6, rfl, ⟨a6, n6', c6', us6, rfl, o6⟩, b6⟩
        rw [HKV.out]
        have k6 := K5.out.belowS b6
        have kp6 := KP5.out.belowS b6
        have y0 := kp6.cell 0
        have y1 := kp6.cell 1
        have g0 := kp6.frozen 0
        have g1 := kp6.frozen 1
        simp at y0 y1
        have hlt6 := K5.out.lt
        have hltp := KP5.out.lt
        have hwp : w.heap.size < w2.heap.size := K2.out.lt
        have hs6 := b6.size
        have B6 := below_tr b6 B5.out
        obtain ⟨D, hD2⟩ : ∃ D, D = wrV ((zs.length + 1 : Nat) : Int) ((coxPres zs).2 ++ ws) := ⟨_, rfl⟩
        rw [← hD2] at o6 ⊢
        have HDD := Lib.hid hD2
        have f6 := k6.frozen 0
        have x6r := k6.cell 0
        simp at x6r
        clear b6 hD2 hr hN hrl hil z0 z1
        have k9 := (k6.far (p := ⟨w2.heap.size, 0, none⟩) (by simp; omega) (.int .i64 D.1)).far (p := ⟨w2.heap.size, 1, none⟩) (by simp; omega) (.slice a6 n6' c6')
        have B9 := (B6.setCell (p := ⟨w2.heap.size, 0, none⟩) (by simp; omega) (.int .i64 D.1)).setCell (p := ⟨w2.heap.size, 1, none⟩) (by simp; omega) (.slice a6 n6' c6')
        have f9 := k9.frozen 0
        have x9 := k9.cell 0
        simp at x9
        clear o6
        go_wp2_with fail
        have kf := k9.set_ 0 (.slice none 0 0)
        have Bf := B9.setCell (p := ⟨w.heap.size, 0, none⟩) (by simp) (.slice none 0 0)
        generalize ((w6.setCell ⟨w2.heap.size, 0, none⟩ (.int .i64 D.1)).setCell ⟨w2.heap.size, 1, none⟩ (.slice a6 n6' c6')).setCell ⟨w.heap.size, 0, none⟩ (.slice none 0 0) = wf at *
        simp at kf
        have e0 := kf.cell 0
        simp at e0
        refine bodyPost_ret (v := .tuple #[.agg #[.slice none 0 0], .int .i64 3]) (by simp [results, Try.f42, go_sem, e0]) rfl ⟨_, by rw [HC.out.1], ?_, Bf⟩
        rw [HC.out.2]
        exact ⟨none, 0, 0, [], rfl, OwR.empty_ (Own.nil_ _ _ _) (fun g hg => by cases hg)⟩
end Go.Proofs.Ytpognnifgcacnaa

/- UniversalPolytope: the contracts that the law calls. -/
namespace Go.Proofs.Ytpognnifgcacnaa
open Go.RowKit

theorem api_specUni {v v' : Value} {zs : List Int} {ws : List (List Int)} (w : World) (h : RdS w v zs) (h' : RdSS w v' ws) :
    Calls Try.prog 39 #[v, v'] w fun e w' => ∃ v, e = .returned (.tuple #[v, .int .i64 (uniC zs ws)]) ∧ OwM 2 49 w' w.heap.size w'.heap.size v (uniR zs ws) ∧ Below w.heap.size w w' := by
  obtain ⟨ao, n, c, rfl, hi⟩ := h
  obtain ⟨bo, m, c2, rfl, hi'⟩ := h'
  exact specUni_any ao bo n c m c2 zs ws w hi hi'
theorem api_implUni {v v' : Value} {zs : List Int} {ws : List (List Int)} (w : World) (h : RdS w v zs) (h' : RdSS w v' ws) :
    Calls Try.prog 42 #[v, v'] w fun e w' => ∃ v, e = .returned (.tuple #[v, .int .i64 (uniC zs ws)]) ∧ OwM 2 49 w' w.heap.size w'.heap.size v (uniR zs ws) ∧ Below w.heap.size w w' := by
  obtain ⟨ao, n, c, rfl, hi⟩ := h
  obtain ⟨bo, m, c2, rfl, hi'⟩ := h'
  exact implUni_any ao bo n c m c2 zs ws w hi hi'
end Go.Proofs.Ytpognnifgcacnaa

/- The walk of FnExactUniversalPolytope: true, whatever the arguments. Written by genwalk.py. -/
namespace Go.Proofs.Ytpognnifgcacnaa
open Go.RowKit

set_option maxHeartbeats 3200000 in
theorem walkUniversalPolytope {a0 : Option Addr} {n0 c0 : Nat} {zs : List Int} {v1 : Value} {qs : List (List Int)} (w : World) (h0 : Ints w a0 n0 zs) (h1 : RdSS w v1 qs) :
    Calls Try.prog 8 #[.slice a0 n0 c0, v1] w fun e w' => e = .returned (.bool true) ∧ Below w.heap.size w w' := by
  have hsz := uniR_small zs qs
  have B0 : Below w.heap.size w w := Below.refl _ _
  have hb0 := h0.2.1
  by_cases hs0 : n0 ≤ 1048576
  · have g0 : decide ((1048576 : Int) < n0) = false := by simp; omega
    have hl0 : zs.length = n0 := h0.1
    have HL0 := Lib.hid hl0
    clear hl0
    by_cases hx0 : budget1 1048576 (qs.length + lenSS qs) < 0
    · go_enter Try.func8, Try.ntmps8
      go_wp2_with fail
      refine (law_usSS (1048576) _ (h1.below B0) (by omega) (by omega)).mono ?_
      rintro e w1 ⟨rfl, b1⟩
      have s1 := b1.size
      have B1 : Below w.heap.size w w1 := B0.trans (b1.mono B0.size)
      go_wp2
      go_ret
      exact ⟨rfl, B1⟩
    · obtain ⟨ht1, he0⟩ := budget1_at hx0
      have hn0 : 0 ≤ budget1 1048576 (qs.length + lenSS qs) := by omega
      have hm0 : budget1 1048576 (qs.length + lenSS qs) ≤ 1048576 := by omega
      have HE0 := Lib.hid he0
      clear he0 hx0
      have hzl : zs.length ≤ 1048576 := by rw [HL0.out]; omega
      go_enter Try.func8, Try.ntmps8
      go_wp2_with fail
      refine (law_usSS (1048576) _ (h1.below B0) (by omega) (by omega)).mono ?_
      rintro e w1 ⟨rfl, b1⟩
      have s1 := b1.size
      have B1 : Below w.heap.size w w1 := B0.trans (b1.mono B0.size)
      go_wp2_with fail
      refine (law_toS _ (show RdS _ _ _ from ⟨_, _, _, rfl, (h0.below B1)⟩) (by rw [HL0.out]; omega)).mono ?_
      rintro e w2 ⟨u2, rfl, o2, b2⟩
      have s2 := b2.size
      have B2 : Below w.heap.size w w2 := B1.trans (b2.mono B1.size)
      go_wp2_with fail
      refine (law_toSS _ (h1.below B2) (by omega)).mono ?_
      rintro e w3 ⟨u3, rfl, o3, b3⟩
      have s3 := b3.size
      have B3 : Below w.heap.size w w3 := B2.trans (b3.mono B2.size)
      go_wp2_with fail
      refine (api_specUni  _ (o2.below b3).rd o3.rd ).mono ?_
      rintro e w4 ⟨u4_0, rfl, o4_0, b4⟩
      obtain ⟨au4_0, nu4_0, cu4_0, rfl⟩ := o4_0.form
      have s4 := b4.size
      have B4 : Below w.heap.size w w4 := B3.trans (b4.mono B3.size)
      go_wp2_with fail
      have bx5 := below_alloc1 w4 (.cells #[.slice au4_0 nu4_0 cu4_0] 41)
      have kbw0_5 : Blk (w4.alloc (.cells #[.slice au4_0 nu4_0 cu4_0] 41)) w4.heap.size 41 #[.slice au4_0 nu4_0 cu4_0] := blk_at rfl
      generalize w4.alloc (.cells #[.slice au4_0 nu4_0 cu4_0] 41) = w5 at *
      have s5 := bx5.size
      have B5 : Below w.heap.size w w5 := B4.trans (bx5.mono B4.size)
      have xkbw0_5_0 : w5.cell? ⟨w4.heap.size, 0, none⟩ = some (.slice au4_0 nu4_0 cu4_0) := kbw0_5.cell 0
      have lkbw0_5 : w4.heap.size < w5.heap.size := kbw0_5.lt
      refine (law_toS _ (show RdS _ _ _ from ⟨_, _, _, rfl, (h0.below B5)⟩) (by rw [HL0.out]; omega)).mono ?_
      rintro e w6 ⟨u6, rfl, o6, b6⟩
      have s6 := b6.size
      have B6 : Below w.heap.size w w6 := B5.trans (b6.mono B5.size)
      have kbw0_6 : Blk w6 (w4.heap.size) 41 #[.slice au4_0 nu4_0 cu4_0] := (kbw0_5.belowS b6)
      have xkbw0_6_0 : w6.cell? ⟨w4.heap.size, 0, none⟩ = some (.slice au4_0 nu4_0 cu4_0) := kbw0_6.cell 0
      have lkbw0_6 : w4.heap.size < w6.heap.size := kbw0_6.lt
      clear xkbw0_5_0
      go_wp2_with fail
      refine (law_toSS _ (h1.below B6) (by omega)).mono ?_
      rintro e w7 ⟨u7, rfl, o7, b7⟩
      have s7 := b7.size
      have B7 : Below w.heap.size w w7 := B6.trans (b7.mono B6.size)
      have kbw0_7 : Blk w7 (w4.heap.size) 41 #[.slice au4_0 nu4_0 cu4_0] := (kbw0_6.belowS b7)
      have xkbw0_7_0 : w7.cell? ⟨w4.heap.size, 0, none⟩ = some (.slice au4_0 nu4_0 cu4_0) := kbw0_7.cell 0
      have lkbw0_7 : w4.heap.size < w7.heap.size := kbw0_7.lt
      clear xkbw0_6_0
      go_wp2_with fail
      refine (api_implUni  _ (o6.below b7).rd o7.rd ).mono ?_
      rintro e w8 ⟨u8_0, rfl, o8_0, b8⟩
      obtain ⟨au8_0, nu8_0, cu8_0, rfl⟩ := o8_0.form
      have s8 := b8.size
      have B8 : Below w.heap.size w w8 := B7.trans (b8.mono B7.size)
      have kbw0_8 : Blk w8 (w4.heap.size) 41 #[.slice au4_0 nu4_0 cu4_0] := (kbw0_7.belowS b8)
      have xkbw0_8_0 : w8.cell? ⟨w4.heap.size, 0, none⟩ = some (.slice au4_0 nu4_0 cu4_0) := kbw0_8.cell 0
      have lkbw0_8 : w4.heap.size < w8.heap.size := kbw0_8.lt
      clear xkbw0_7_0
      go_wp2_with fail
      have bx9 := below_alloc1 w8 (.cells #[.slice au8_0 nu8_0 cu8_0] 41)
      have kbg0_9 : Blk (w8.alloc (.cells #[.slice au8_0 nu8_0 cu8_0] 41)) w8.heap.size 41 #[.slice au8_0 nu8_0 cu8_0] := blk_at rfl
      generalize w8.alloc (.cells #[.slice au8_0 nu8_0 cu8_0] 41) = w9 at *
      have s9 := bx9.size
      have B9 : Below w.heap.size w w9 := B8.trans (bx9.mono B8.size)
      have kbw0_9 : Blk w9 (w4.heap.size) 41 #[.slice au4_0 nu4_0 cu4_0] := (kbw0_8.belowS bx9)
      have xkbw0_9_0 : w9.cell? ⟨w4.heap.size, 0, none⟩ = some (.slice au4_0 nu4_0 cu4_0) := kbw0_9.cell 0
      have lkbw0_9 : w4.heap.size < w9.heap.size := kbw0_9.lt
      have xkbg0_9_0 : w9.cell? ⟨w8.heap.size, 0, none⟩ = some (.slice au8_0 nu8_0 cu8_0) := kbg0_9.cell 0
      have lkbg0_9 : w8.heap.size < w9.heap.size := kbg0_9.lt
      clear xkbw0_8_0
      refine (law_eqM _ (o8_0.below bx9).rd (((((o4_0.below bx5).below b6).below b7).below b8).below bx9).rd).mono ?_
      rintro e w10 ⟨rfl, b10⟩
      have s10 := b10.size
      have B10 : Below w.heap.size w w10 := B9.trans (b10.mono B9.size)
      have kbw0_10 : Blk w10 (w4.heap.size) 41 #[.slice au4_0 nu4_0 cu4_0] := (kbw0_9.belowS b10)
      have xkbw0_10_0 : w10.cell? ⟨w4.heap.size, 0, none⟩ = some (.slice au4_0 nu4_0 cu4_0) := kbw0_10.cell 0
      have lkbw0_10 : w4.heap.size < w10.heap.size := kbw0_10.lt
      have kbg0_10 : Blk w10 (w8.heap.size) 41 #[.slice au8_0 nu8_0 cu8_0] := (kbg0_9.belowS b10)
      have xkbg0_10_0 : w10.cell? ⟨w8.heap.size, 0, none⟩ = some (.slice au8_0 nu8_0 cu8_0) := kbg0_10.cell 0
      have lkbg0_10 : w8.heap.size < w10.heap.size := kbg0_10.lt
      clear xkbw0_9_0 xkbg0_9_0
      go_wp2_with fail
      refine (law_toS _ (show RdS _ _ _ from ⟨_, _, _, rfl, (h0.below B10)⟩) (by rw [HL0.out]; omega)).mono ?_
      rintro e w11 ⟨u11, rfl, o11, b11⟩
      have s11 := b11.size
      have B11 : Below w.heap.size w w11 := B10.trans (b11.mono B10.size)
      have kbw0_11 : Blk w11 (w4.heap.size) 41 #[.slice au4_0 nu4_0 cu4_0] := (kbw0_10.belowS b11)
      have xkbw0_11_0 : w11.cell? ⟨w4.heap.size, 0, none⟩ = some (.slice au4_0 nu4_0 cu4_0) := kbw0_11.cell 0
      have lkbw0_11 : w4.heap.size < w11.heap.size := kbw0_11.lt
      have kbg0_11 : Blk w11 (w8.heap.size) 41 #[.slice au8_0 nu8_0 cu8_0] := (kbg0_10.belowS b11)
      have xkbg0_11_0 : w11.cell? ⟨w8.heap.size, 0, none⟩ = some (.slice au8_0 nu8_0 cu8_0) := kbg0_11.cell 0
      have lkbg0_11 : w8.heap.size < w11.heap.size := kbg0_11.lt
      clear xkbw0_10_0 xkbg0_10_0
      go_wp2_with fail
      refine (law_eqS _ (((((o6.below b7).below b8).below bx9).below b10).below b11).rd o11.rd).mono ?_
      rintro e w12 ⟨rfl, b12⟩
      have s12 := b12.size
      have B12 : Below w.heap.size w w12 := B11.trans (b12.mono B11.size)
      have kbw0_12 : Blk w12 (w4.heap.size) 41 #[.slice au4_0 nu4_0 cu4_0] := (kbw0_11.belowS b12)
      have xkbw0_12_0 : w12.cell? ⟨w4.heap.size, 0, none⟩ = some (.slice au4_0 nu4_0 cu4_0) := kbw0_12.cell 0
      have lkbw0_12 : w4.heap.size < w12.heap.size := kbw0_12.lt
      have kbg0_12 : Blk w12 (w8.heap.size) 41 #[.slice au8_0 nu8_0 cu8_0] := (kbg0_11.belowS b12)
      have xkbg0_12_0 : w12.cell? ⟨w8.heap.size, 0, none⟩ = some (.slice au8_0 nu8_0 cu8_0) := kbg0_12.cell 0
      have lkbg0_12 : w8.heap.size < w12.heap.size := kbg0_12.lt
      clear xkbw0_11_0 xkbg0_11_0
      go_wp2_with fail
      refine (law_toSS _ (h1.below B12) (by omega)).mono ?_
      rintro e w13 ⟨u13, rfl, o13, b13⟩
      have s13 := b13.size
      have B13 : Below w.heap.size w w13 := B12.trans (b13.mono B12.size)
      have kbw0_13 : Blk w13 (w4.heap.size) 41 #[.slice au4_0 nu4_0 cu4_0] := (kbw0_12.belowS b13)
      have xkbw0_13_0 : w13.cell? ⟨w4.heap.size, 0, none⟩ = some (.slice au4_0 nu4_0 cu4_0) := kbw0_13.cell 0
      have lkbw0_13 : w4.heap.size < w13.heap.size := kbw0_13.lt
      have kbg0_13 : Blk w13 (w8.heap.size) 41 #[.slice au8_0 nu8_0 cu8_0] := (kbg0_12.belowS b13)
      have xkbg0_13_0 : w13.cell? ⟨w8.heap.size, 0, none⟩ = some (.slice au8_0 nu8_0 cu8_0) := kbg0_13.cell 0
      have lkbg0_13 : w8.heap.size < w13.heap.size := kbg0_13.lt
      clear xkbw0_12_0 xkbg0_12_0
      go_wp2_with fail
      refine (law_eqSS _ ((((((o7.below b8).below bx9).below b10).below b11).below b12).below b13).rd o13.rd).mono ?_
      rintro e w14 ⟨rfl, b14⟩
      have s14 := b14.size
      have B14 : Below w.heap.size w w14 := B13.trans (b14.mono B13.size)
      have kbw0_14 : Blk w14 (w4.heap.size) 41 #[.slice au4_0 nu4_0 cu4_0] := (kbw0_13.belowS b14)
      have xkbw0_14_0 : w14.cell? ⟨w4.heap.size, 0, none⟩ = some (.slice au4_0 nu4_0 cu4_0) := kbw0_14.cell 0
      have lkbw0_14 : w4.heap.size < w14.heap.size := kbw0_14.lt
      have kbg0_14 : Blk w14 (w8.heap.size) 41 #[.slice au8_0 nu8_0 cu8_0] := (kbg0_13.belowS b14)
      have xkbg0_14_0 : w14.cell? ⟨w8.heap.size, 0, none⟩ = some (.slice au8_0 nu8_0 cu8_0) := kbg0_14.cell 0
      have lkbg0_14 : w8.heap.size < w14.heap.size := kbg0_14.lt
      clear xkbw0_13_0 xkbg0_13_0
      go_wp2_with fail
      refine (law_markS (1) _ ((((((((o6.below b7).below b8).below bx9).below b10).below b11).below b12).below b13).below b14) (by omega) (by omega)).mono ?_
      rintro e w15 ⟨rfl, o15, q15⟩
      have s15 := q15.size
      have B15 : Below w.heap.size w w15 := B14.trans (q15.below (by omega) B14.size)
      have kbw0_15 : Blk w15 (w4.heap.size) 41 #[.slice au4_0 nu4_0 cu4_0] := (kbw0_14.only q15 (by omega))
      have xkbw0_15_0 : w15.cell? ⟨w4.heap.size, 0, none⟩ = some (.slice au4_0 nu4_0 cu4_0) := kbw0_15.cell 0
      have lkbw0_15 : w4.heap.size < w15.heap.size := kbw0_15.lt
      have kbg0_15 : Blk w15 (w8.heap.size) 41 #[.slice au8_0 nu8_0 cu8_0] := (kbg0_14.only q15 (by omega))
      have xkbg0_15_0 : w15.cell? ⟨w8.heap.size, 0, none⟩ = some (.slice au8_0 nu8_0 cu8_0) := kbg0_15.cell 0
      have lkbg0_15 : w8.heap.size < w15.heap.size := kbg0_15.lt
      clear xkbw0_14_0 xkbg0_14_0
      go_wp2_with fail
      refine (law_markSS (1 + (zs.length : Nat)) _ ((((((((o7.below b8).below bx9).below b10).below b11).below b12).below b13).below b14).only q15 (by omega)) (by omega) (by omega)).mono ?_
      rintro e w16 ⟨rfl, o16, q16⟩
      have s16 := q16.size
      have B16 : Below w.heap.size w w16 := B15.trans (q16.below (by omega) B15.size)
      have kbw0_16 : Blk w16 (w4.heap.size) 41 #[.slice au4_0 nu4_0 cu4_0] := (kbw0_15.only q16 (by omega))
      have xkbw0_16_0 : w16.cell? ⟨w4.heap.size, 0, none⟩ = some (.slice au4_0 nu4_0 cu4_0) := kbw0_16.cell 0
      have lkbw0_16 : w4.heap.size < w16.heap.size := kbw0_16.lt
      have kbg0_16 : Blk w16 (w8.heap.size) 41 #[.slice au8_0 nu8_0 cu8_0] := (kbg0_15.only q16 (by omega))
      have xkbg0_16_0 : w16.cell? ⟨w8.heap.size, 0, none⟩ = some (.slice au8_0 nu8_0 cu8_0) := kbg0_16.cell 0
      have lkbg0_16 : w8.heap.size < w16.heap.size := kbg0_16.lt
      clear xkbw0_15_0 xkbg0_15_0
      go_wp2_with fail
      refine (law_eqM _ ((((((((o8_0.below bx9).below b10).below b11).below b12).below b13).below b14).only q15 (by omega)).only q16 (by omega)).rd ((((((((((((o4_0.below bx5).below b6).below b7).below b8).below bx9).below b10).below b11).below b12).below b13).below b14).only q15 (by omega)).only q16 (by omega)).rd).mono ?_
      rintro e w17 ⟨rfl, b17⟩
      have s17 := b17.size
      have B17 : Below w.heap.size w w17 := B16.trans (b17.mono B16.size)
      have kbw0_17 : Blk w17 (w4.heap.size) 41 #[.slice au4_0 nu4_0 cu4_0] := (kbw0_16.belowS b17)
      have xkbw0_17_0 : w17.cell? ⟨w4.heap.size, 0, none⟩ = some (.slice au4_0 nu4_0 cu4_0) := kbw0_17.cell 0
      have lkbw0_17 : w4.heap.size < w17.heap.size := kbw0_17.lt
      have kbg0_17 : Blk w17 (w8.heap.size) 41 #[.slice au8_0 nu8_0 cu8_0] := (kbg0_16.belowS b17)
      have xkbg0_17_0 : w17.cell? ⟨w8.heap.size, 0, none⟩ = some (.slice au8_0 nu8_0 cu8_0) := kbg0_17.cell 0
      have lkbg0_17 : w8.heap.size < w17.heap.size := kbg0_17.lt
      clear xkbw0_16_0 xkbg0_16_0
      go_wp2_with fail
      refine (law_markM (1) _ (((((((((o8_0.below bx9).below b10).below b11).below b12).below b13).below b14).only q15 (by omega)).only q16 (by omega)).below b17) (by omega) (by omega)).mono ?_
      rintro e w18 ⟨rfl, o18, q18⟩
      have s18 := q18.size
      have B18 : Below w.heap.size w w18 := B17.trans (q18.below (by omega) B17.size)
      have kbw0_18 : Blk w18 (w4.heap.size) 41 #[.slice au4_0 nu4_0 cu4_0] := (kbw0_17.only q18 (by omega))
      have xkbw0_18_0 : w18.cell? ⟨w4.heap.size, 0, none⟩ = some (.slice au4_0 nu4_0 cu4_0) := kbw0_18.cell 0
      have lkbw0_18 : w4.heap.size < w18.heap.size := kbw0_18.lt
      have kbg0_18 : Blk w18 (w8.heap.size) 41 #[.slice au8_0 nu8_0 cu8_0] := (kbg0_17.only q18 (by omega))
      have xkbg0_18_0 : w18.cell? ⟨w8.heap.size, 0, none⟩ = some (.slice au8_0 nu8_0 cu8_0) := kbg0_18.cell 0
      have lkbg0_18 : w8.heap.size < w18.heap.size := kbg0_18.lt
      clear xkbw0_17_0 xkbg0_17_0
      go_wp2_with fail
      refine (law_heldM (1) _ o18.rd (by omega) (by omega)).mono ?_
      rintro e w19 ⟨rfl, b19⟩
      have s19 := b19.size
      have B19 : Below w.heap.size w w19 := B18.trans (b19.mono B18.size)
      have kbw0_19 : Blk w19 (w4.heap.size) 41 #[.slice au4_0 nu4_0 cu4_0] := (kbw0_18.belowS b19)
      have xkbw0_19_0 : w19.cell? ⟨w4.heap.size, 0, none⟩ = some (.slice au4_0 nu4_0 cu4_0) := kbw0_19.cell 0
      have lkbw0_19 : w4.heap.size < w19.heap.size := kbw0_19.lt
      have kbg0_19 : Blk w19 (w8.heap.size) 41 #[.slice au8_0 nu8_0 cu8_0] := (kbg0_18.belowS b19)
      have xkbg0_19_0 : w19.cell? ⟨w8.heap.size, 0, none⟩ = some (.slice au8_0 nu8_0 cu8_0) := kbg0_19.cell 0
      have lkbg0_19 : w8.heap.size < w19.heap.size := kbg0_19.lt
      clear xkbw0_18_0 xkbg0_18_0
      go_wp2_with fail
      refine (law_toS _ (show RdS _ _ _ from ⟨_, _, _, rfl, (h0.below B19)⟩) (by rw [HL0.out]; omega)).mono ?_
      rintro e w20 ⟨u20, rfl, o20, b20⟩
      have s20 := b20.size
      have B20 : Below w.heap.size w w20 := B19.trans (b20.mono B19.size)
      have kbw0_20 : Blk w20 (w4.heap.size) 41 #[.slice au4_0 nu4_0 cu4_0] := (kbw0_19.belowS b20)
      have xkbw0_20_0 : w20.cell? ⟨w4.heap.size, 0, none⟩ = some (.slice au4_0 nu4_0 cu4_0) := kbw0_20.cell 0
      have lkbw0_20 : w4.heap.size < w20.heap.size := kbw0_20.lt
      have kbg0_20 : Blk w20 (w8.heap.size) 41 #[.slice au8_0 nu8_0 cu8_0] := (kbg0_19.belowS b20)
      have xkbg0_20_0 : w20.cell? ⟨w8.heap.size, 0, none⟩ = some (.slice au8_0 nu8_0 cu8_0) := kbg0_20.cell 0
      have lkbg0_20 : w8.heap.size < w20.heap.size := kbg0_20.lt
      clear xkbw0_19_0 xkbg0_19_0
      go_wp2_with fail
      refine (law_toSS _ (h1.below B20) (by omega)).mono ?_
      rintro e w21 ⟨u21, rfl, o21, b21⟩
      have s21 := b21.size
      have B21 : Below w.heap.size w w21 := B20.trans (b21.mono B20.size)
      have kbw0_21 : Blk w21 (w4.heap.size) 41 #[.slice au4_0 nu4_0 cu4_0] := (kbw0_20.belowS b21)
      have xkbw0_21_0 : w21.cell? ⟨w4.heap.size, 0, none⟩ = some (.slice au4_0 nu4_0 cu4_0) := kbw0_21.cell 0
      have lkbw0_21 : w4.heap.size < w21.heap.size := kbw0_21.lt
      have kbg0_21 : Blk w21 (w8.heap.size) 41 #[.slice au8_0 nu8_0 cu8_0] := (kbg0_20.belowS b21)
      have xkbg0_21_0 : w21.cell? ⟨w8.heap.size, 0, none⟩ = some (.slice au8_0 nu8_0 cu8_0) := kbg0_21.cell 0
      have lkbg0_21 : w8.heap.size < w21.heap.size := kbg0_21.lt
      clear xkbw0_20_0 xkbg0_20_0
      go_wp2_with fail
      refine (api_implUni  _ (o20.below b21).rd o21.rd ).mono ?_
      rintro e w22 ⟨u22_0, rfl, o22_0, b22⟩
      obtain ⟨au22_0, nu22_0, cu22_0, rfl⟩ := o22_0.form
      have s22 := b22.size
      have B22 : Below w.heap.size w w22 := B21.trans (b22.mono B21.size)
      have kbw0_22 : Blk w22 (w4.heap.size) 41 #[.slice au4_0 nu4_0 cu4_0] := (kbw0_21.belowS b22)
      have xkbw0_22_0 : w22.cell? ⟨w4.heap.size, 0, none⟩ = some (.slice au4_0 nu4_0 cu4_0) := kbw0_22.cell 0
      have lkbw0_22 : w4.heap.size < w22.heap.size := kbw0_22.lt
      have kbg0_22 : Blk w22 (w8.heap.size) 41 #[.slice au8_0 nu8_0 cu8_0] := (kbg0_21.belowS b22)
      have xkbg0_22_0 : w22.cell? ⟨w8.heap.size, 0, none⟩ = some (.slice au8_0 nu8_0 cu8_0) := kbg0_22.cell 0
      have lkbg0_22 : w8.heap.size < w22.heap.size := kbg0_22.lt
      clear xkbw0_21_0 xkbg0_21_0
      go_wp2_with fail
      have bx23 := below_alloc1 w22 (.cells #[.slice au22_0 nu22_0 cu22_0] 41)
      have kbh0_23 : Blk (w22.alloc (.cells #[.slice au22_0 nu22_0 cu22_0] 41)) w22.heap.size 41 #[.slice au22_0 nu22_0 cu22_0] := blk_at rfl
      generalize w22.alloc (.cells #[.slice au22_0 nu22_0 cu22_0] 41) = w23 at *
      have s23 := bx23.size
      have B23 : Below w.heap.size w w23 := B22.trans (bx23.mono B22.size)
      have kbw0_23 : Blk w23 (w4.heap.size) 41 #[.slice au4_0 nu4_0 cu4_0] := (kbw0_22.belowS bx23)
      have xkbw0_23_0 : w23.cell? ⟨w4.heap.size, 0, none⟩ = some (.slice au4_0 nu4_0 cu4_0) := kbw0_23.cell 0
      have lkbw0_23 : w4.heap.size < w23.heap.size := kbw0_23.lt
      have kbg0_23 : Blk w23 (w8.heap.size) 41 #[.slice au8_0 nu8_0 cu8_0] := (kbg0_22.belowS bx23)
      have xkbg0_23_0 : w23.cell? ⟨w8.heap.size, 0, none⟩ = some (.slice au8_0 nu8_0 cu8_0) := kbg0_23.cell 0
      have lkbg0_23 : w8.heap.size < w23.heap.size := kbg0_23.lt
      have xkbh0_23_0 : w23.cell? ⟨w22.heap.size, 0, none⟩ = some (.slice au22_0 nu22_0 cu22_0) := kbh0_23.cell 0
      have lkbh0_23 : w22.heap.size < w23.heap.size := kbh0_23.lt
      clear xkbw0_22_0 xkbg0_22_0
      refine (law_eqM _ (o22_0.below bx23).rd (((((((((((((((((((o4_0.below bx5).below b6).below b7).below b8).below bx9).below b10).below b11).below b12).below b13).below b14).only q15 (by omega)).only q16 (by omega)).below b17).only q18 (by omega)).below b19).below b20).below b21).below b22).below bx23).rd).mono ?_
      rintro e w24 ⟨rfl, b24⟩
      have s24 := b24.size
      have B24 : Below w.heap.size w w24 := B23.trans (b24.mono B23.size)
      have kbw0_24 : Blk w24 (w4.heap.size) 41 #[.slice au4_0 nu4_0 cu4_0] := (kbw0_23.belowS b24)
      have xkbw0_24_0 : w24.cell? ⟨w4.heap.size, 0, none⟩ = some (.slice au4_0 nu4_0 cu4_0) := kbw0_24.cell 0
      have lkbw0_24 : w4.heap.size < w24.heap.size := kbw0_24.lt
      have kbg0_24 : Blk w24 (w8.heap.size) 41 #[.slice au8_0 nu8_0 cu8_0] := (kbg0_23.belowS b24)
      have xkbg0_24_0 : w24.cell? ⟨w8.heap.size, 0, none⟩ = some (.slice au8_0 nu8_0 cu8_0) := kbg0_24.cell 0
      have lkbg0_24 : w8.heap.size < w24.heap.size := kbg0_24.lt
      have kbh0_24 : Blk w24 (w22.heap.size) 41 #[.slice au22_0 nu22_0 cu22_0] := (kbh0_23.belowS b24)
      have xkbh0_24_0 : w24.cell? ⟨w22.heap.size, 0, none⟩ = some (.slice au22_0 nu22_0 cu22_0) := kbh0_24.cell 0
      have lkbh0_24 : w22.heap.size < w24.heap.size := kbh0_24.lt
      clear xkbw0_23_0 xkbg0_23_0 xkbh0_23_0
      go_wp2_with fail
      refine (law_heldM (1) _ ((((((o18.below b19).below b20).below b21).below b22).below bx23).below b24).rd (by omega) (by omega)).mono ?_
      rintro e w25 ⟨rfl, b25⟩
      have s25 := b25.size
      have B25 : Below w.heap.size w w25 := B24.trans (b25.mono B24.size)
      have kbw0_25 : Blk w25 (w4.heap.size) 41 #[.slice au4_0 nu4_0 cu4_0] := (kbw0_24.belowS b25)
      have xkbw0_25_0 : w25.cell? ⟨w4.heap.size, 0, none⟩ = some (.slice au4_0 nu4_0 cu4_0) := kbw0_25.cell 0
      have lkbw0_25 : w4.heap.size < w25.heap.size := kbw0_25.lt
      have kbg0_25 : Blk w25 (w8.heap.size) 41 #[.slice au8_0 nu8_0 cu8_0] := (kbg0_24.belowS b25)
      have xkbg0_25_0 : w25.cell? ⟨w8.heap.size, 0, none⟩ = some (.slice au8_0 nu8_0 cu8_0) := kbg0_25.cell 0
      have lkbg0_25 : w8.heap.size < w25.heap.size := kbg0_25.lt
      have kbh0_25 : Blk w25 (w22.heap.size) 41 #[.slice au22_0 nu22_0 cu22_0] := (kbh0_24.belowS b25)
      have xkbh0_25_0 : w25.cell? ⟨w22.heap.size, 0, none⟩ = some (.slice au22_0 nu22_0 cu22_0) := kbh0_25.cell 0
      have lkbh0_25 : w22.heap.size < w25.heap.size := kbh0_25.lt
      clear xkbw0_24_0 xkbg0_24_0 xkbh0_24_0
      go_wp2
      go_ret
      exact ⟨rfl, B25⟩
  · have g0 : decide ((1048576 : Int) < n0) = true := by simp; omega
    go_enter Try.func8, Try.ntmps8
    go_wp2
    go_ret
    exact ⟨rfl, B0⟩
end Go.Proofs.Ytpognnifgcacnaa
