/- The laws' helpers on [][]int64. -/
import Derived.Test.YtdkmihnpobobiaaLawS
namespace Go.Proofs.Ytdkmihnpobobiaa
open Go.RowKit

theorem etSS : ET Try.prog 23 22 (.slice none 0 0) 24 := ⟨Try.underlying23, by kernel_rfl, rfl, by omega⟩

set_option maxHeartbeats 800000 in
theorem toIntss_any (ao : Option Addr) (n c : Nat) (zss : List (List Int)) (w : World) (h : Intss w ao n zss) (hn : n ≤ 1048576) (hle : lenSS zss ≤ 1048576) :
    Calls Try.prog 31 #[.slice ao n c] w fun e w' => ∃ ao' c' us, e = .returned (.slice ao' n c') ∧ OwR (OwS 2) w' w.heap.size w'.heap.size 22 ao' n c' us zss ∧ Below w.heap.size w w' := by
  have hl := h.1
  have HL := Lib.hid hl
  clear hl
  go_enter Try.func31, Try.ntmps31
  go_wp2_with (at_make; refine wpList_mk etSS _ rfl _ _ rfl w.heap.size _ _ _ _ n rfl rfl rfl rfl (by omega) (Nat.le_refl _) ?_; intro w1 hown hgrow hsz)
  have hb1 : Below w.heap.size w w1 := (Below.refl _ _).grown hgrow (Nat.le_refl _) (by simp)
  clear hgrow
  go_loopw [4] (fun i wr => ∃ (k : Nat) (us : List Value), k ≤ n ∧ i = .int .i64 k ∧ OwR (OwS 2) wr w.heap.size wr.heap.size 22 (some ⟨w.heap.size, 0, none⟩) n n us (zss.take k ++ List.replicate (n - k) []) ∧ Below w.heap.size w wr) (fun i _ => n - (intOf i).toNat)
  case atStart =>
    refine ⟨0, List.replicate n (.slice none 0 0), Nat.zero_le _, rfl, ?_, hb1⟩
    have := OwR.blank (Ow1 := OwS 2) (dz := ([] : List Int)) (hi := w1.heap.size) rfl hown ⟨none, 0, 0, rfl, Own.nil_ _ _ _⟩ (fun g hg => (hown.lt g hg).2)
    simpa using this
  case round =>
    obtain ⟨k, us, hk, rfl, ho, hb⟩ := hrel
    clear hown hb1 hsz
    by_cases hlt : k < n
    · obtain ⟨b, off, a', n', c', rfl, hc, hin⟩ := (h.below hb).at_ hlt
      obtain ⟨u, d, hu, hd, hou, hru⟩ := ho.get hlt
      have hn' : n' ≤ 1048576 := by have := hin.1; have := len_le_lenSS (zss := zss) (k := k) (by rw [HL.out]; exact hlt); omega
      go_wp2_with fail
      refine (toInts_any a' n' c' _ wr hin (by omega)).mono ?_
      rintro e w2 ⟨a2, c2, rfl, o2, b2⟩
      have o3 := ho.below (innerS _) b2
      have hc2 := o3.cell hu
      have hf2 := o3.own.1.frozenAt k
      have HP := ho.put (innerS _) (w' := w2) (u' := .slice a2 n' c2) (d' := lget zss k) hu (grown_of_below b2 _) ⟨a2, n', c2, rfl, o2.mono (Nat.zero_le _)⟩
        (by
          cases hbk : bk a2 with
          | none => exact .inl (by rw [ownBlock_slice]; exact hbk)
          | some g => exact .inr (.inr ⟨g, by rw [ownBlock_slice]; exact hbk, (o2.lt g hbk).1⟩)) (Nat.le_refl _) hb.size
      have HP2 := Lib.hid HP
      have HB2 : Below w.heap.size w (w2.setCell ⟨w.heap.size, k, none⟩ (.slice a2 n' c2)) := (hb.trans (b2.mono hb.size)).setCell (Nat.le_refl _) _
      have HB := Lib.hid HB2
      have hsz2 : (w2.setCell ⟨w.heap.size, k, none⟩ (.slice a2 n' c2)).heap.size = w2.heap.size := by simp [World.setCell]
      have HZ := Lib.hid hsz2
      clear HP HB2 hsz2 hu hd hou hru o3 o2 ho
      go_wp2
      go_roundw
      case rel =>
        refine ⟨k + 1, us.set k (.slice a2 n' c2), by omega, by go_num, ?_, HB.out⟩
        rw [HZ.out, take_lget (by rw [HL.out]; exact hlt), ← set_padL (by simp [HL.out]; omega) hlt]
        exact HP2.out
      case measure => simp [intOf]; omega
    · obtain rfl : k = n := by omega
      go_wp2
      go_ret
      refine ⟨_, _, us, rfl, ?_, hb⟩
      simpa [List.take_of_length_le (Nat.le_of_eq HL.out)] using ho

theorem law_toSS {v : Value} {zss : List (List Int)} (w : World) (h : RdSS w v zss) (hn : zss.length + lenSS zss ≤ 1048576) :
    Calls Try.prog 31 #[v] w fun e w' => ∃ v', e = .returned v' ∧ OwSS 2 22 w' w.heap.size w'.heap.size v' zss ∧ Below w.heap.size w w' := by
  obtain ⟨ao, n, c, rfl, hi⟩ := h
  have hl := hi.1
  refine (toIntss_any ao n c zss w hi (by omega) (by omega)).mono ?_
  rintro e w' ⟨a', c', us, rfl, ho, hb⟩
  exact ⟨_, rfl, ⟨a', n, c', us, rfl, ho⟩, hb⟩

set_option maxHeartbeats 400000 in
theorem law_eqSS {v v' : Value} {zss : List (List Int)} (w : World) (h : RdSS w v zss) (h' : RdSS w v' zss) :
    Calls Try.prog 33 #[v, v'] w fun e w' => e = .returned (.bool true) ∧ Below w.heap.size w w' := by
  obtain ⟨ao, n, c, rfl, hi⟩ := h
  obtain ⟨ao', n', c', rfl, hi'⟩ := h'
  obtain rfl : n = n' := by rw [← hi.1, ← hi'.1]
  have hbd := hi.2.1
  have hl' : ((n : Int) != (n:Int)) = false := by simp
  go_enter Try.func33, Try.ntmps33
  go_wp2
  go_loopw [5] (fun i wr => ∃ k : Nat, k ≤ n ∧ i = .int .i64 k ∧ Below w.heap.size w wr) (fun i _ => n - (intOf i).toNat)
  case atStart => exact ⟨0, Nat.zero_le _, rfl, Below.refl _ _⟩
  case round =>
    obtain ⟨k, hk, rfl, hb⟩ := hrel
    by_cases hlt : k < n
    · obtain ⟨b1, o1, a1, n1, c1, rfl, hc1, hin1⟩ := (hi.below hb).at_ hlt
      obtain ⟨b2, o2, a2, n2, c2, rfl, hc2, hin2⟩ := (hi'.below hb).at_ hlt
      have HH := Lib.hid hi
      have HH' := Lib.hid hi'
      clear hi hi'
      go_wp2_with fail
      go_quiet ((go_at_call 18; exact Calls.quiet_of (eqInts_any a1 a2 n1 n2 c1 c2 (lget zss k) (lget zss k) _ (hin1.drewN _) (hin2.drewN _))))
      go_wp2
      go_roundw
      case rel => exact ⟨k + 1, by omega, by go_num, below_drewN hb _⟩
      case measure => simp [intOf]; omega
    · obtain rfl : k = n := by omega
      go_wp2
      go_ret
      exact ⟨rfl, hb⟩

set_option maxHeartbeats 800000 in
theorem law_markSS {v : Value} {zss : List (List Int)} {lo hi : Nat} (k0 : Int) (w : World) (h : OwSS 2 22 w lo hi v zss) (hk0 : 0 ≤ k0) (hk1 : k0 + lenSS zss ≤ 1125899906842624) :
    Calls Try.prog 41 #[v, .int .i64 k0] w fun e w' => e = .returned (.int .i64 (k0 + lenSS zss)) ∧ OwSS 2 22 w' lo hi v (marksSS k0 zss) ∧ Only lo hi w w' := by
  obtain ⟨ao, n, c, us, rfl, ho⟩ := h
  have hl := ho.len
  have hn := ho.own.2
  have HL := Lib.hid hl
  clear hl
  go_enter Try.func41, Try.ntmps41
  go_wp2
  go_loopw [1, 5] (fun m i wr => ∃ k : Nat, k ≤ n ∧ i = .int .i64 k ∧ m = .int .i64 (k0 + lenSS (zss.take k)) ∧ OwR (OwS 2) wr lo hi 22 ao n c us ((marksSS k0 zss).take k ++ zss.drop k) ∧ Only lo hi w wr) (fun _ i _ => n - (intOf i).toNat)
  case atStart => exact ⟨0, Nat.zero_le _, rfl, by simp [lenSS], by simpa using ho, Only.refl _ _ _⟩
  case round =>
    obtain ⟨k, hk, rfl, rfl, h1, hon⟩ := hrel
    have hle := lenSS_take_le zss k
    by_cases hlt : k < n
    · have hkz : k < zss.length := by rw [HL.out]; exact hlt
      have HK := Lib.hid hkz
      obtain ⟨u, d, hu, hd, hou, hru⟩ := h1.get hlt
      have hdz : d = lget zss k := by
        rw [List.getElem?_append_right (by simp [length_marksSS]; omega)] at hd
        rw [show k - ((marksSS k0 zss).take k).length = 0 by simp [length_marksSS]; omega, drop_lget hkz] at hd
        simpa using hd.symm
      subst hdz
      obtain ⟨a', n', c', rfl, ho'⟩ := hou
      obtain ⟨g, rfl, -, -, -, -, -⟩ := ho.own.form (by omega)
      have hc := h1.cell hu
      have hsum := lenSS_take hkz
      have hle2 := lenSS_take_le zss (k + 1)
      have HS := Lib.hid hsum
      have HD := Lib.hid hd
      have HU := Lib.hid hu
      have HR := Lib.hid hru
      have hk2 : k0 + (lenSS (zss.take k) : Int) ≤ 1125899906842624 := by omega
      have hk3 : 0 ≤ k0 + (lenSS (zss.take k) : Int) := by omega
      clear hsum hle2 hd hu hru hkz
      go_wp2_with fail
      refine (markInts_any a' n' c' (lget zss k) _ wr 0 ho' hk3 hk2).mono ?_
      rintro e w2 ⟨rfl, o2, g2, z2⟩
      have hn' : (lget zss k).length = n' := by have := ho'.len; simpa using this
      have HN := Lib.hid hn'
      have hup := h1.upd (innerS _) (d' := marks (k0 + lenSS (zss.take k)) n') HU.out (by rw [ownBlock_slice]; exact g2) ⟨a', n', c', rfl, o2⟩
      have HP := Lib.hid hup
      have hon2 : Only lo hi w w2 := hon.trans (Only.of_grown g2 (fun g hg => HR.out g (by rw [ownBlock_slice]; exact hg)))
      clear hup hn' h1 o2 g2 z2 ho'
      go_wp2
      go_roundw
      case rel =>
        refine ⟨k + 1, by omega, by go_num, ?_, ?_, hon2⟩
        · congr 1
          rw [HS.out, HN.out]; omega
        · have := HP.out
          rw [List.set_append_right _ _ (by simp [length_marksSS]; omega), show k - ((marksSS k0 zss).take k).length = 0 by simp [length_marksSS, HL.out]; omega, drop_lget HK.out] at this
          rw [marksSS_take HK.out, HN.out, List.append_assoc]
          exact this
      case measure => simp [intOf]; omega
    · obtain rfl : k = n := by omega
      go_wp2
      go_ret
      refine ⟨ret_int (by rw [List.take_of_length_le (Nat.le_of_eq HL.out)]), ⟨_, _, _, us, rfl, ?_⟩, hon⟩
      simpa [List.take_of_length_le, List.drop_of_length_le, length_marksSS, HL.out] using h1

set_option maxHeartbeats 800000 in
theorem law_heldSS {v : Value} {zss : List (List Int)} (k0 : Int) (w : World) (h : RdSS w v (marksSS k0 zss)) (hk0 : 0 ≤ k0) (hk1 : k0 + lenSS zss ≤ 1125899906842624) :
    Calls Try.prog 63 #[v, .int .i64 k0] w fun e w' => e = .returned (.int .i64 (k0 + lenSS zss)) ∧ Below w.heap.size w w' := by
  obtain ⟨ao, n, c, rfl, hi⟩ := h
  have hbd := hi.2.1
  have hl : zss.length = n := by rw [← hi.1, length_marksSS]
  have HL := Lib.hid hl
  clear hl
  go_enter Try.func63, Try.ntmps63
  go_wp2
  go_loopw [1, 5] (fun m i wr => ∃ k : Nat, k ≤ n ∧ i = .int .i64 k ∧ m = .int .i64 (k0 + lenSS (zss.take k)) ∧ Below w.heap.size w wr) (fun _ i _ => n - (intOf i).toNat)
  case atStart => exact ⟨0, Nat.zero_le _, rfl, by simp [lenSS], Below.refl _ _⟩
  case round =>
    obtain ⟨k, hk, rfl, rfl, hb⟩ := hrel
    have hle := lenSS_take_le zss k
    by_cases hlt : k < n
    · obtain ⟨b1, o1, a1, n1, c1, rfl, hc1, hin1⟩ := (hi.below hb).at_ hlt
      have hkz : k < zss.length := by rw [HL.out]; exact hlt
      rw [lget_marksSS hkz] at hin1
      have hn1 : (lget zss k).length = n1 := by have := hin1.1; rwa [length_marks] at this
      have hsum := lenSS_take hkz
      have hle2 := lenSS_take_le zss (k + 1)
      rw [hn1] at hin1 hsum
      have HS := Lib.hid hsum
      have HH := Lib.hid hi
      have hk2 : k0 + (lenSS (zss.take k) : Int) ≤ 1125899906842624 := by omega
      have hk3 : 0 ≤ k0 + (lenSS (zss.take k) : Int) := by omega
      have hk4 : 0 ≤ k0 + (lenSS (zss.take k) : Int) + n1 := by omega
      clear hsum hle2 hkz hn1 hi
      go_wp2_with fail
      refine (heldInts_any a1 n1 c1 _ wr hin1 hk3 hk2).mono ?_
      rintro e w2 ⟨rfl, rfl⟩
      go_wp2
      go_roundw
      case rel => exact ⟨k + 1, by omega, by go_num, by congr 1; rw [HS.out]; omega, hb⟩
      case measure => simp [intOf]; omega
    · obtain rfl : k = n := by omega
      go_wp2
      go_ret
      exact ⟨ret_int (by rw [List.take_of_length_le (Nat.le_of_eq HL.out)]), hb⟩

/-- what is left of a budget behind n, -1 if it does not reach -/
def budget1 (left : Int) (n : Nat) : Int := if (n : Int) ≤ left then left - n else -1
theorem budget1_yes {left : Int} {n : Nat} (h : (n : Int) ≤ left) : budget1 left n = left - n := if_pos h
theorem budget1_no {left : Int} {n : Nat} (h : ¬ (n : Int) ≤ left) : budget1 left n = -1 := if_neg h

set_option maxHeartbeats 400000 in
theorem law_szS (ao : Option Addr) (n c : Nat) (zs : List Int) (left : Int) (w : World) (h : Ints w ao n zs) (h0 : 0 ≤ left) (h1 : left ≤ 1048576) :
    Calls Try.prog 68 #[.slice ao n c, .int .i64 left] w fun e w' => e = .returned (.int .i64 (budget1 left zs.length)) ∧ w' = w := by
  have hl := h.1
  have hn := h.2.1
  have HL := Lib.hid hl
  clear hl
  by_cases hle : (n : Int) ≤ left
  · have h3 : 0 ≤ left - n := by omega
    go_enter Try.func68, Try.ntmps68
    go_wp2
    go_ret
    exact ⟨ret_int (by rw [HL.out, budget1_yes hle]), rfl⟩
  · have h3 : left - n < 0 := by omega
    go_enter Try.func68, Try.ntmps68
    go_wp2
    go_ret
    exact ⟨ret_int (by rw [HL.out, budget1_no (by omega)]), rfl⟩

/-- what is left of a budget behind lists of lists, -1 if it does not reach -/
def budget (left : Int) (zss : List (List Int)) : Int := if (zss.length : Int) + lenSS zss ≤ left then left - zss.length - lenSS zss else -1

set_option maxHeartbeats 800000 in
theorem law_szSS {v : Value} {zss : List (List Int)} (left : Int) (w : World) (h : RdSS w v zss) (h0 : 0 ≤ left) (h1 : left ≤ 1048576) :
    Calls Try.prog 28 #[v, .int .i64 left] w fun e w' => e = .returned (.int .i64 (budget left zss)) ∧ w' = w := by
  obtain ⟨ao, n, c, rfl, hi⟩ := h
  have hbd := hi.2.1
  have hl := hi.1
  have HL := Lib.hid hl
  clear hl
  by_cases hle : (n : Int) ≤ left
  · have h3 : 0 ≤ left - n := by omega
    go_enter Try.func28, Try.ntmps28
    go_wp2
    go_loop [1, 5] (fun m i => ∃ (k : Nat) (l : Int), k ≤ n ∧ i = .int .i64 k ∧ m = .int .i64 l ∧ l = left - n - lenSS (zss.take k) ∧ 0 ≤ l ∧ l ≤ 1048576) (fun _ i => n - (intOf i).toNat)
    case atStart => exact ⟨0, _, Nat.zero_le _, rfl, rfl, by simp [lenSS], by omega, by omega⟩
    case round =>
      obtain ⟨k, l, hk, rfl, rfl, hl, hl0, hl1⟩ := hrel
      have HLL := Lib.hid hl
      clear hl
      by_cases hlt : k < n
      · obtain ⟨b1, o1, a1, n1, c1, rfl, hc1, hin1⟩ := hi.at_ hlt
        have hkz : k < zss.length := by rw [HL.out]; exact hlt
        have hsum := lenSS_take hkz
        have hle2 := lenSS_take_le zss (k + 1)
        have hn1 := hin1.1
        rw [hn1] at hsum
        have HS := Lib.hid hsum
        have HN := Lib.hid hn1
        have HH := Lib.hid hi
        clear hsum hn1 hkz hi
        by_cases hle1 : (n1 : Int) ≤ l
        · have h5 : 0 ≤ l - n1 := by omega
          go_wp2_with (go_at_call 68; refine (law_szS a1 n1 c1 (lget zss k) l w hin1 hl0 hl1).mono ?_; rintro e w2 ⟨rfl, rfl⟩; rw [HN.out, budget1_yes hle1])
          go_round
          case rel => exact ⟨k + 1, l - n1, by omega, by go_num, rfl, by rw [HS.out, HLL.out]; omega, by omega, by omega⟩
          case measure => simp [intOf]; omega
        · go_wp2_with (go_at_call 68; refine (law_szS a1 n1 c1 (lget zss k) l w hin1 hl0 hl1).mono ?_; rintro e w2 ⟨rfl, rfl⟩; rw [HN.out, budget1_no (by omega)])
          go_ret
          refine ⟨ret_int ?_, rfl⟩
          have e1 := HS.out
          have e2 := HLL.out
          unfold budget
          rw [if_neg (by rw [HL.out]; omega)]
      · obtain rfl : k = n := by omega
        go_wp2
        go_ret
        refine ⟨ret_int ?_, rfl⟩
        have e2 := HLL.out
        rw [List.take_of_length_le (Nat.le_of_eq HL.out)] at e2
        unfold budget
        rw [if_pos (by rw [HL.out]; omega), HL.out, e2]
  · have h3 : left - n < 0 := by omega
    go_enter Try.func28, Try.ntmps28
    go_wp2
    go_ret
    exact ⟨ret_int (by unfold budget; rw [if_neg (by rw [HL.out]; omega)]), rfl⟩

theorem budget_is (left : Int) (zss : List (List Int)) : budget left zss = budget1 left (zss.length + lenSS zss) := by
  unfold budget budget1
  by_cases h : (zss.length : Int) + lenSS zss ≤ left
  · rw [if_pos h, if_pos (by omega)]; omega
  · rw [if_neg h, if_neg (by omega)]
theorem budget1_at {left : Int} {n : Nat} (h : ¬ budget1 left n < 0) : (n : Int) ≤ left ∧ budget1 left n = left - n := by
  unfold budget1 at h ⊢
  by_cases hx : (n : Int) ≤ left
  · exact ⟨hx, if_pos hx⟩
  · rw [if_neg hx] at h; omega

/-- the sizes, in one form for every type -/
theorem law_usS {v : Value} {zs : List Int} (left : Int) (w : World) (h : RdS w v zs) (h0 : 0 ≤ left) (h1 : left ≤ 1048576) :
    Calls Try.prog 68 #[v, .int .i64 left] w fun e w' => e = .returned (.int .i64 (budget1 left zs.length)) ∧ Below w.heap.size w w' := by
  obtain ⟨ao, n, c, rfl, hi⟩ := h
  refine (law_szS ao n c zs left w hi h0 h1).mono ?_
  rintro e w' ⟨rfl, rfl⟩
  exact ⟨rfl, Below.refl _ _⟩
theorem law_usSS {v : Value} {zss : List (List Int)} (left : Int) (w : World) (h : RdSS w v zss) (h0 : 0 ≤ left) (h1 : left ≤ 1048576) :
    Calls Try.prog 28 #[v, .int .i64 left] w fun e w' => e = .returned (.int .i64 (budget1 left (zss.length + lenSS zss))) ∧ Below w.heap.size w w' := by
  refine (law_szSS left w h h0 h1).mono ?_
  rintro e w' ⟨rfl, rfl⟩
  exact ⟨ret_int (budget_is _ _), Below.refl _ _⟩
end Go.Proofs.Ytdkmihnpobobiaa
