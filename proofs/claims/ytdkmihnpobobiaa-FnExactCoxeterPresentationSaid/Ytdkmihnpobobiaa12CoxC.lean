/- The presentation of a diagram: the program's walk. -/
import Derived.Test.Ytdkmihnpobobiaa12CoxB
import Derived.Test.YtdkmihnpobobiaaPerm
namespace Go.Proofs.Ytdkmihnpobobiaa
open Go.RowKit

set_option maxRecDepth 100000 in
set_option maxHeartbeats 1600000 in
theorem implCox_any (ao : Option Addr) (n c : Nat) (zs : List Int) (w : World) (h : Ints w ao n zs) (hz : ∀ j, j < n → 0 ≤ iget zs j ∧ iget zs j ≤ 32) (hn : n < 5) :
    Calls Try.prog 62 #[.slice ao n c] w fun e w' => ∃ v, e = .returned v ∧ OwP 2 22 w' w.heap.size w'.heap.size v (coxPres zs) ∧ Below w.heap.size w w' := by
  have HL := Lib.hid h.1
  obtain ⟨N, hN⟩ : ∃ N, n + 1 = N := ⟨_, rfl⟩
  have hN5 : N ≤ 5 := by omega
  go_enter Try.func62, Try.ntmps62
  go_wp2_with (go_at_call 119; refine (size_any ao n c _).mono ?_; rintro e w1 ⟨rfl, rfl⟩)
  rw [show ((n : Int) + 1) = (N : Int) by omega]
  have r0 : Blk ((w.alloc (.cells #[.int .i64 0, .slice none 0 0] 25)).alloc (.cells #[.int .i64 N, .slice none 0 0] 25)) w.heap.size 25 #[.int .i64 0, .slice none 0 0] := (blk_at rfl).alloc _
  have r1 : Blk ((w.alloc (.cells #[.int .i64 0, .slice none 0 0] 25)).alloc (.cells #[.int .i64 N, .slice none 0 0] 25)) (w.heap.size + 1) 25 #[.int .i64 N, .slice none 0 0] := blk_at (by simp)
  go_loopw [14] (fun i wr => ∃ (k m : Nat) (ao' : Option Addr) (c' : Nat) (us : List Value), i = .int .i64 k ∧ k ≤ N ∧ CoxSt w wr N ao' m c' us (coxUp zs N k)) (fun i _ => N - (intOf i).toNat)
  case atStart => exact ⟨0, 0, none, 0, [], rfl, Nat.zero_le _, r0, r1, OwR.empty_ (Own.nil_ _ _ _) (fun g hg => by cases hg), by simp, below_alloc2 _ _ _, by omega⟩
  case round =>
    obtain ⟨k, m, ao', c', us, rfl, hk, st⟩ := hrel
    by_cases hlt : k < N
    · have x0 := st.box.cell 0
      simp at x0
      have ST := Lib.hid st
      clear st r0 r1
      go_wp2_with fail
      go_loopw [6] (fun i wr => ∃ (j m : Nat) (ao' : Option Addr) (c' : Nat) (us : List Value), i = .int .i64 j ∧ k < j ∧ j ≤ N ∧ CoxSt w wr N ao' m c' us (coxUp zs N k ++ coxRow zs k (j - (k + 1)))) (fun i _ => N - (intOf i).toNat)
      case atStart => exact ⟨k + 1, m, ao', c', us, by simp, by omega, by omega, by simpa [coxRow] using ST.out⟩
      case round =>
        obtain ⟨j, m, ao', c', us, rfl, hkj, hj, st⟩ := hrel
        clear ST x0
        have x0 := st.box.cell 0
        have x1 := st.box.cell 1
        have f1 := st.box.frozen 1
        simp at x0 x1
        have ST := Lib.hid st
        clear st
        by_cases hlt2 : j < N
        · by_cases hjk : j = k + 1
          · subst hjk
            obtain ⟨L, hL⟩ : ∃ L : Nat, iget zs k = (L : Int) := ⟨(iget zs k).toNat, by have := hz k (by omega); omega⟩
            have hL2 : L ≤ 32 := by have := hz k (by omega); omega
            have hlab : coxLab zs k (k + 1) = (L : Int) := by unfold coxLab; rw [if_pos rfl, hL]
            have HLAB := Lib.hid hlab
            clear hlab
            obtain ⟨b, off, rfl, hc⟩ := (h.below ST.out.below).at_ (k := k) (by omega)
            rw [hL] at hc
            by_cases hL0 : 0 < L
            · have hm : m + 1 ≤ 1000 := by have h1 := ST.out.row.len; have h2 := coxUp_len zs N k; have h3 := coxRow_len zs k ((k + 1) - (k + 1)); have h4 : N * k ≤ 5 * 5 := Nat.mul_le_mul hN5 (by omega); rw [List.length_append] at h1; omega
              have hP : Ints (wr.alloc (.cells #[.int .i64 k, .int .i64 ((k : Int) + 1)] 2)).drew (some ⟨wr.heap.size, 0, none⟩) 2 [(k : Int), ((k : Int) + 1)] := Own.ints (zs := [(k : Int), ((k : Int) + 1)]) (own_lit (us := [.int .i64 k, .int .i64 ((k : Int) + 1)]) rfl (Nat.le_refl _) (by simp))
              have bP : Below wr.heap.size wr (wr.alloc (.cells #[.int .i64 k, .int .i64 ((k : Int) + 1)] 2)) := below_alloc1 _ _
              have HP := Lib.hid hP
              have BP := Lib.hid bP
              have HM := Lib.hid hm
              have hsz := ST.out.size
              have HO : Hid (coxOne zs k (k + 1) = [repL [(k : Int), ((k : Int) + 1)] L]) := Lib.hid (by unfold coxOne; rw [HLAB.out, if_pos (by omega)]; rfl)
              clear hP bP hm
              go_wp2_with fail
              have xP : (wr.alloc (.cells #[.int .i64 k, .int .i64 ((k : Int) + 1)] 2)).cell? ⟨w.heap.size + 1, 1, none⟩ = some (.slice ao' m c') := (ST.out.box.alloc _).cell 1
              go_region_law (first | (refine step_ap1 (o := ⟨some 42, _, _, _, _, _⟩) etSS rfl (.tmp 35) (.tmp 41) rfl (w.heap.size + 2) ao' m c' us rfl (ST.out.row.own.below B3) (.slice a1 (2 * L) c1) w2.heap.size 1 rfl ((blk_at rfl).cell 0) rfl (by have := HM.out; omega) (by have := B3.size; simp at *; omega) ?_; intro ao2 c2 w4 o4 g4 hat; have B4S : Below (w.heap.size + 2) wr w4 := (B3S.grown g4 (by have := B3.size; omega) (fun g hg => (ST.out.row.own.lt g hg).1)); have x4 : w4.cell? ⟨w.heap.size + 1, 1, none⟩ = some (.slice ao' m c') := (ST.out.box.below B4S (by omega)).cell 1; have f4 : w4.frozen? ⟨w.heap.size + 1, 1, none⟩ = false := (ST.out.box.below B4S (by omega)).frozen 1) | (go_simp; go_at_call 120; refine (repeat_any _ 2 2 L [(k : Int), ((k : Int) + 1)] _ HP.out (by omega) (by omega) (by omega) (by omega)).mono ?_; rintro e w2 ⟨a1, c1, rfl, o1, b1⟩; have B2 : Below wr.heap.size wr w2 := below_tr b1 BP.out.drew; have B2S := B2.mono hsz; have B3 : Below wr.heap.size wr (w2.alloc (.cells #[.slice a1 (2 * L) c1] 22)) := B2.alloc B2.size _; have B3S := B3.mono hsz; have x2 : w2.cell? ⟨w.heap.size + 1, 1, none⟩ = some (.slice ao' m c') := (ST.out.box.below B2S (by omega)).cell 1; have x3 : (w2.alloc (.cells #[.slice a1 (2 * L) c1] 22)).cell? ⟨w.heap.size + 1, 1, none⟩ = some (.slice ao' m c') := (ST.out.box.below B3S (by omega)).cell 1))
              all_goals
                have st2 := ST.out.push HM.out B2 (o1.mono (by simp [World.drew])) (below_alloc1 _ _) o4 g4 hat
                have hs4 := B4S.size
                generalize w4.setCell ⟨w.heap.size + 1, 1, none⟩ (.slice ao2 (m + 1) c2) = wf at *
                clear B2 B2S B3 B3S B4S x0 x1 x2 x3 x4 xP f1 f4 o1 b1 o4 g4 hat ST HP BP
                go_wp2_with fail
                go_roundw
                case rel => exact ⟨(k + 1) + 1, m + 1, ao2, c2, _, by go_num, by omega, by omega, by rw [coxRow_one (by omega), ← List.append_assoc, HO.out]; exact st2⟩
                case measure => simp [intOf]; omega
            · obtain rfl : L = 0 := by omega
              have HO : Hid (coxOne zs k (k + 1) = []) := Lib.hid (by unfold coxOne; rw [HLAB.out, if_neg (by omega)])
              go_wp2_with fail
              go_roundw
              case rel => exact ⟨k + 1 + 1, m, ao', c', us, by go_num, by omega, by omega, by rw [coxRow_one (by omega), ← List.append_assoc, HO.out, List.append_nil]; exact ST.out⟩
              case measure => simp [intOf]; omega
          · have hm : m + 1 ≤ 1000 := by have h1 := ST.out.row.len; have h2 := coxUp_len zs N k; have h3 := coxRow_len zs k (j - (k + 1)); have h4 : N * k ≤ 5 * 5 := Nat.mul_le_mul hN5 (by omega); rw [List.length_append] at h1; omega
            have hP : Ints (wr.alloc (.cells #[.int .i64 k, .int .i64 (j : Int)] 2)).drew (some ⟨wr.heap.size, 0, none⟩) 2 [(k : Int), (j : Int)] := Own.ints (zs := [(k : Int), (j : Int)]) (own_lit (us := [.int .i64 k, .int .i64 (j : Int)]) rfl (Nat.le_refl _) (by simp))
            have bP : Below wr.heap.size wr (wr.alloc (.cells #[.int .i64 k, .int .i64 (j : Int)] 2)) := below_alloc1 _ _
            have HP := Lib.hid hP
            have BP := Lib.hid bP
            have HM := Lib.hid hm
            have hsz := ST.out.size
            have HO : Hid (coxOne zs k j = [repL [(k : Int), (j : Int)] 2]) := Lib.hid (by unfold coxOne coxLab; rw [if_neg hjk, if_pos (by omega)]; rfl)
            clear hP bP hm
            go_wp2_with fail
            have xP : (wr.alloc (.cells #[.int .i64 k, .int .i64 (j : Int)] 2)).cell? ⟨w.heap.size + 1, 1, none⟩ = some (.slice ao' m c') := (ST.out.box.alloc _).cell 1
            go_region_law (first | (refine step_ap1 (o := ⟨some 42, _, _, _, _, _⟩) etSS rfl (.tmp 35) (.tmp 41) rfl (w.heap.size + 2) ao' m c' us rfl (ST.out.row.own.below B3) (.slice a1 (2 * 2) c1) w2.heap.size 1 rfl ((blk_at rfl).cell 0) rfl (by have := HM.out; omega) (by have := B3.size; simp at *; omega) ?_; intro ao2 c2 w4 o4 g4 hat; have B4S : Below (w.heap.size + 2) wr w4 := (B3S.grown g4 (by have := B3.size; omega) (fun g hg => (ST.out.row.own.lt g hg).1)); have x4 : w4.cell? ⟨w.heap.size + 1, 1, none⟩ = some (.slice ao' m c') := (ST.out.box.below B4S (by omega)).cell 1; have f4 : w4.frozen? ⟨w.heap.size + 1, 1, none⟩ = false := (ST.out.box.below B4S (by omega)).frozen 1) | (go_simp; go_at_call 120; refine (repeat_any _ 2 2 2 [(k : Int), (j : Int)] _ HP.out (by omega) (by omega) (by omega) (by omega)).mono ?_; rintro e w2 ⟨a1, c1, rfl, o1, b1⟩; have B2 : Below wr.heap.size wr w2 := below_tr b1 BP.out.drew; have B2S := B2.mono hsz; have B3 : Below wr.heap.size wr (w2.alloc (.cells #[.slice a1 (2 * 2) c1] 22)) := B2.alloc B2.size _; have B3S := B3.mono hsz; have x2 : w2.cell? ⟨w.heap.size + 1, 1, none⟩ = some (.slice ao' m c') := (ST.out.box.below B2S (by omega)).cell 1; have x3 : (w2.alloc (.cells #[.slice a1 (2 * 2) c1] 22)).cell? ⟨w.heap.size + 1, 1, none⟩ = some (.slice ao' m c') := (ST.out.box.below B3S (by omega)).cell 1))
            all_goals
              have st2 := ST.out.push HM.out B2 (o1.mono (by simp [World.drew])) (below_alloc1 _ _) o4 g4 hat
              have hs4 := B4S.size
              generalize w4.setCell ⟨w.heap.size + 1, 1, none⟩ (.slice ao2 (m + 1) c2) = wf at *
              clear B2 B2S B3 B3S B4S x0 x1 x2 x3 x4 xP f1 f4 o1 b1 o4 g4 hat ST HP BP
              go_wp2_with fail
              go_roundw
              case rel => exact ⟨j + 1, m + 1, ao2, c2, _, by go_num, by omega, by omega, by rw [coxRow_one (by omega), ← List.append_assoc, HO.out]; exact st2⟩
              case measure => simp [intOf]; omega
        · obtain rfl : j = N := by omega
          go_wp2_with fail
          go_roundw
          case rel => exact ⟨k + 1, m, ao', c', us, by go_num, by omega, ST.out⟩
          case measure => simp [intOf]; omega
    · obtain rfl : k = N := by omega
      have x0 := st.box.cell 0
      have x1 := st.box.cell 1
      have y0 := st.res.cell 0
      have y1 := st.res.cell 1
      have f0 := st.res.frozen 0
      have f1 := st.res.frozen 1
      simp at x0 x1 y0 y1
      have ST := Lib.hid st
      clear st r0 r1
      go_wp2_with fail
      have st2 := ST.out.done
      generalize (wr.setCell ⟨w.heap.size, 0, none⟩ (.int .i64 k)).setCell ⟨w.heap.size, 1, none⟩ (.slice ao' m c') = wf at *
      have e0 := st2.1.cell 0
      have e1 := st2.1.cell 1
      simp at e0 e1
      refine bodyPost_ret (v := .agg #[.int .i64 k, .slice ao' m c']) (by simp [results, Try.f62, go_sem, e0, e1]) rfl ⟨_, rfl, ⟨ao', m, c', us, ?_, ?_⟩, st2.2.2⟩
      · unfold coxPres; rw [HL.out, hN]
      · unfold coxPres; rw [HL.out, hN]; exact st2.2.1.mono (by omega) (Nat.le_refl _)
end Go.Proofs.Ytdkmihnpobobiaa
