/- Permutations: the program's isPermutation and the reference's l01Perm compute one Bool. -/
import Derived.Test.YtdkmihnpobobiaaProg
import Derived.Test.YtdkmihnpobobiaaBase
import Derived.Test.YtdkmihnpobobiaaFind
namespace Go.Proofs.Ytdkmihnpobobiaa
open Go.RowKit

theorem etB : ET Try.prog 127 4 (.bool false) 1 := ⟨Try.underlying127, by kernel_rfl, rfl, by omega⟩

/-- the numbers that are still to come are within 0 to n - 1, and none of them has been seen, nor comes twice -/
def permGo (n : Nat) : List Bool → List Int → Bool
  | _, [] => true
  | seen, z :: r => inB z 0 ((n : Int) - 1) && !(seen.getD z.toNat false) && permGo n (seen.set z.toNat true) r
/-- a permutation of at most 400 points -/
def isPerm (zs : List Int) : Bool := decide (zs.length ≤ 400) && permGo zs.length (List.replicate zs.length false) zs

theorem permGo_step {n : Nat} {seen : List Bool} {zs : List Int} {k : Nat} (hk : k < zs.length) :
    permGo n seen (zs.drop k) = (inB (iget zs k) 0 ((n : Int) - 1) && !(seen.getD (iget zs k).toNat false) && permGo n (seen.set (iget zs k).toNat true) (zs.drop (k + 1))) := by
  rw [List.drop_eq_getElem_cons hk, ← iget_lt hk]; rfl

/-- a slice of bools, k of them looked up -/
def bget (bs : List Bool) (k : Nat) : Bool := bs.getD k false
theorem permGo_out {n : Nat} {seen : List Bool} {zs : List Int} {k : Nat} (hk : k < zs.length) (hx : inB (iget zs k) 0 ((n : Int) - 1) = false) : permGo n seen (zs.drop k) = false := by
  rw [permGo_step hk, hx]; rfl
theorem permGo_met {n : Nat} {seen : List Bool} {zs : List Int} {k m : Nat} (hk : k < zs.length) (hm : iget zs k = m) (hb : bget seen m = true) : permGo n seen (zs.drop k) = false := by
  unfold bget at hb
  rw [permGo_step hk, hm, Int.toNat_natCast, hb]; simp
theorem permGo_on {n : Nat} {seen : List Bool} {zs : List Int} {k m : Nat} (hk : k < zs.length) (hm : iget zs k = m) (hx : inB m 0 ((n : Int) - 1) = true) (hb : bget seen m = false) : permGo n seen (zs.drop k) = permGo n (seen.set m true) (zs.drop (k + 1)) := by
  unfold bget at hb
  rw [permGo_step hk, hm, Int.toNat_natCast, hb, hx]; simp
theorem own_bget {w : World} {base E : Nat} {g n c : Nat} {bs : List Bool} (h : Own w base E (some ⟨g, 0, none⟩) n c (bs.map Value.bool)) {k : Nat} (hk : k < n) : w.cell? ⟨g, k, none⟩ = some (.bool (bget bs k)) := by
  obtain ⟨g', hg, _, _, _, hc, _⟩ := h.form (by omega)
  obtain rfl : g = g' := by injection hg with hg; injection hg
  have hl : bs.length = n := by have := h.len; simpa using this
  rw [hc k hk, List.getElem?_map, List.getElem?_eq_getElem (by omega)]
  simp [bget, List.getD, List.getElem?_eq_getElem (show k < bs.length by omega)]
theorem own_frozen {w : World} {base E : Nat} {g n c : Nat} {xs : List Value} (h : Own w base E (some ⟨g, 0, none⟩) n c xs) (k : Nat) : w.frozen? ⟨g, k, none⟩ = false := h.1.frozenAt k

set_option maxHeartbeats 800000 in
theorem specPerm_any (ao : Option Addr) (n c : Nat) (zs : List Int) (w : World) (h : Ints w ao n zs) :
    Calls Try.prog 70 #[.slice ao n c] w fun e w' => e = .returned (.bool (isPerm zs)) ∧ Below w.heap.size w w' := by
  have hn := h.2.1
  have hl := h.1
  have HL := Lib.hid hl
  clear hl
  by_cases hs : n ≤ 400
  · have h1 : decide ((400 : Int) < n) = false := by simp; omega
    have hp : isPerm zs = permGo n (List.replicate n false) zs := by unfold isPerm; rw [HL.out]; simp [hs]
    have HP := Lib.hid hp
    clear hp
    go_enter Try.func70, Try.ntmps70
    go_wp2_with (at_make; refine wpList_mk etB _ rfl _ _ rfl w.heap.size _ _ _ _ n rfl rfl rfl rfl (by omega) (Nat.le_refl _) ?_; intro w1 hown hgrow hsz)
    have hb1 : Below w.heap.size w w1 := (Below.refl _ _).grown hgrow (Nat.le_refl _) (by simp)
    clear hgrow
    go_loopw [4] (fun i wr => ∃ (k : Nat) (seen : List Bool), k ≤ n ∧ i = .int .i64 k ∧ Own wr w.heap.size 4 (some ⟨w.heap.size, 0, none⟩) n n (seen.map Value.bool) ∧ isPerm zs = permGo n seen (zs.drop k) ∧ Below w.heap.size w wr) (fun i _ => n - (intOf i).toNat)
    case atStart => exact ⟨0, _, Nat.zero_le _, rfl, by rw [List.map_replicate]; exact hown, HP.out, hb1⟩
    case round =>
      obtain ⟨k, seen, hk, rfl, ho, hinv, hb⟩ := hrel
      clear hown hb1 hsz
      have HI := Lib.hid hinv
      clear hinv
      by_cases hlt : k < n
      · obtain ⟨b, off, rfl, hc⟩ := (h.below hb).at_ hlt
        have HK : Hid (k < zs.length) := by have := HL.out; show k < zs.length; omega
        have HH := Lib.hid h
        clear h
        cases hin : inB (iget zs k) 0 ((n : Int) - 1) with
        | false =>
          have HX := Lib.hid hin
          clear hin
          go_wp2_with (go_at_call 64; refine (specIn_any _ _ _ _).mono ?_; rintro e w' ⟨rfl, rfl⟩; rw [HX.out])
          go_ret
          exact ⟨ret_bool (HI.out.trans (permGo_out HK.out HX.out)).symm, hb⟩
        | true =>
          have HX := Lib.hid hin
          obtain ⟨hz0, hz1⟩ := inB_true.1 hin
          obtain ⟨m, hm⟩ := Int.eq_ofNat_of_zero_le hz0
          rw [hm] at hc hz1
          have HM := Lib.hid hm
          have hmn : m < n := by omega
          have hsc := own_bget ho hmn
          have hfr := own_frozen ho m
          have HXm : Hid (inB (m : Int) 0 ((n : Int) - 1) = true) := by have := HX.out; rwa [HM.out] at this
          clear hin hz0 hz1 hm
          cases hsb : bget seen m with
          | true =>
            rw [hsb] at hsc
            have HB := Lib.hid hsb
            clear hsb
            go_wp2_with (go_at_call 64; refine (specIn_any _ _ _ _).mono ?_; rintro e w' ⟨rfl, rfl⟩; rw [HXm.out])
            go_ret
            exact ⟨ret_bool (HI.out.trans (permGo_met HK.out HM.out HB.out)).symm, hb⟩
          | false =>
            rw [hsb] at hsc
            obtain ⟨st1, st2⟩ := ho.stored m (.bool true)
            have HB := Lib.hid hsb
            have HS1 := Lib.hid st1
            have HS2 := Lib.hid st2
            clear hsb st1 st2
            go_wp2_with (go_at_call 64; refine (specIn_any _ _ _ _).mono ?_; rintro e w' ⟨rfl, rfl⟩; rw [HXm.out])
            go_roundw
            case rel =>
              exact ⟨k + 1, seen.set m true, by omega, by go_num, by rw [List.map_set]; exact HS1.out, HI.out.trans (permGo_on HK.out HM.out HXm.out HB.out), hb.grown HS2.out hb.size (by intro g hg; injection hg with hg; omega)⟩
            case measure => simp [intOf]; omega
      · obtain rfl : k = n := by omega
        go_wp2
        go_ret
        exact ⟨ret_bool (by rw [HI.out, List.drop_of_length_le (Nat.le_of_eq HL.out)]; rfl), hb⟩
  · have h1 : decide ((400 : Int) < n) = true := by simp; omega
    go_enter Try.func70, Try.ntmps70
    go_wp2
    go_ret
    exact ⟨ret_bool (by unfold isPerm; rw [HL.out]; simp; intro; omega), Below.refl _ _⟩

theorem size_any (ao : Option Addr) (n c : Nat) (w : World) : Calls Try.prog 119 #[.slice ao n c] w fun e w' => e = .returned (.int .i64 n) ∧ w' = w := by
  go_enter Try.func119, Try.ntmps119
  go_wp2
  go_ret
  exact ⟨rfl, rfl⟩

set_option maxHeartbeats 800000 in
theorem implPerm_any (ao : Option Addr) (n c : Nat) (zs : List Int) (w : World) (h : Ints w ao n zs) :
    Calls Try.prog 131 #[.slice ao n c] w fun e w' => e = .returned (.bool (isPerm zs)) ∧ Below w.heap.size w w' := by
  have hn := h.2.1
  have hl := h.1
  have HL := Lib.hid hl
  clear hl
  by_cases hs : n ≤ 400
  · have h1 : decide ((400 : Int) < n) = false := by simp; omega
    have hp : isPerm zs = permGo n (List.replicate n false) zs := by unfold isPerm; rw [HL.out]; simp [hs]
    have HP := Lib.hid hp
    clear hp
    go_enter Try.func131, Try.ntmps131
    go_wp2_with (at_make; refine wpList_mk etB _ rfl _ _ rfl w.heap.size _ _ _ _ n rfl rfl rfl rfl (by omega) (Nat.le_refl _) ?_; intro w1 hown hgrow hsz)
    have hb1 : Below w.heap.size w w1 := (Below.refl _ _).grown hgrow (Nat.le_refl _) (by simp)
    clear hgrow
    go_loopw [14] (fun i wr => ∃ (k : Nat) (seen : List Bool), k ≤ n ∧ i = .int .i64 k ∧ Own wr w.heap.size 4 (some ⟨w.heap.size, 0, none⟩) n n (seen.map Value.bool) ∧ isPerm zs = permGo n seen (zs.drop k) ∧ Below w.heap.size w wr) (fun i _ => n - (intOf i).toNat)
    case atStart => exact ⟨0, _, Nat.zero_le _, rfl, by rw [List.map_replicate]; exact hown, HP.out, hb1⟩
    case round =>
      obtain ⟨k, seen, hk, rfl, ho, hinv, hb⟩ := hrel
      clear hown hb1 hsz
      have HI := Lib.hid hinv
      clear hinv
      by_cases hlt : k < n
      · obtain ⟨b, off, rfl, hc⟩ := (h.below hb).at_ hlt
        have HK : Hid (k < zs.length) := by have := HL.out; show k < zs.length; omega
        have HH := Lib.hid h
        clear h
        cases hin : inB (iget zs k) 0 ((n : Int) - 1) with
        | false =>
          have HX := Lib.hid hin
          clear hin
          go_wp2_with (first | (go_at_call 119; refine (size_any _ _ _ _).mono ?_; rintro e w' ⟨rfl, rfl⟩) | (go_at_call 66; refine (within_any _ _ _ _).mono ?_; rintro e w' ⟨rfl, rfl⟩; rw [HX.out]))
          go_ret
          exact ⟨ret_bool (HI.out.trans (permGo_out HK.out HX.out)).symm, hb⟩
        | true =>
          have HX := Lib.hid hin
          obtain ⟨hz0, hz1⟩ := inB_true.1 hin
          obtain ⟨m, hm⟩ := Int.eq_ofNat_of_zero_le hz0
          rw [hm] at hc hz1
          have HM := Lib.hid hm
          have hmn : m < n := by omega
          have hsc := own_bget ho hmn
          have hfr := own_frozen ho m
          have HXm : Hid (inB (m : Int) 0 ((n : Int) - 1) = true) := by have := HX.out; rwa [HM.out] at this
          clear hin hz0 hz1 hm
          cases hsb : bget seen m with
          | true =>
            rw [hsb] at hsc
            have HB := Lib.hid hsb
            clear hsb
            go_wp2_with (first | (go_at_call 119; refine (size_any _ _ _ _).mono ?_; rintro e w' ⟨rfl, rfl⟩) | (go_at_call 66; refine (within_any _ _ _ _).mono ?_; rintro e w' ⟨rfl, rfl⟩; rw [HXm.out]))
            go_ret
            exact ⟨ret_bool (HI.out.trans (permGo_met HK.out HM.out HB.out)).symm, hb⟩
          | false =>
            rw [hsb] at hsc
            obtain ⟨st1, st2⟩ := ho.stored m (.bool true)
            have HB := Lib.hid hsb
            have HS1 := Lib.hid st1
            have HS2 := Lib.hid st2
            clear hsb st1 st2
            go_wp2_with (first | (go_at_call 119; refine (size_any _ _ _ _).mono ?_; rintro e w' ⟨rfl, rfl⟩) | (go_at_call 66; refine (within_any _ _ _ _).mono ?_; rintro e w' ⟨rfl, rfl⟩; rw [HXm.out]))
            go_roundw
            case rel =>
              exact ⟨k + 1, seen.set m true, by omega, by go_num, by rw [List.map_set]; exact HS1.out, HI.out.trans (permGo_on HK.out HM.out HXm.out HB.out), hb.grown HS2.out hb.size (by intro g hg; injection hg with hg; omega)⟩
            case measure => simp [intOf]; omega
      · obtain rfl : k = n := by omega
        go_wp2
        go_ret
        exact ⟨ret_bool (by rw [HI.out, List.drop_of_length_le (Nat.le_of_eq HL.out)]; rfl), hb⟩
  · have h1 : decide ((400 : Int) < n) = true := by simp; omega
    go_enter Try.func131, Try.ntmps131
    go_wp2
    go_ret
    exact ⟨ret_bool (by unfold isPerm; rw [HL.out]; simp; intro; omega), Below.refl _ _⟩
end Go.Proofs.Ytdkmihnpobobiaa
