/- IsPresentation: words, presentations, the program's and the reference's. -/
import Derived.Test.YtdkmihnpobobiaaNest
import Derived.Test.YtdkmihnpobobiaaFind
namespace Go.Proofs.Ytdkmihnpobobiaa
open Go.RowKit

/-- a word with letters 0 to hi: at most 64 of them -/
def isWordTo (hi : Int) (zs : List Int) : Bool := decide (zs.length ≤ 64) && zs.all (fun z => inB z 0 hi)
/-- a presentation -/
def isPres (d : PresD) : Bool := inB d.1 1 5 && decide (d.2.length ≤ 24) && d.2.all (fun zs => isWordTo (d.1 - 1) zs && decide (1 ≤ zs.length))

set_option maxHeartbeats 400000 in
theorem spec11Word_any (g : Int) (ao : Option Addr) (n c : Nat) (zs : List Int) (w : World) (h : Ints w ao n zs) (hg0 : 0 ≤ g) (hg1 : g ≤ 1000) :
    Calls Try.prog 167 #[.int .i64 g, .slice ao n c] w fun e w' => e = .returned (.bool (isWordTo (g - 1) zs)) ∧ w' = w := by
  have hn := h.2.1
  have hl := h.1
  have HL := Lib.hid hl
  clear hl
  go_enter Try.func167, Try.ntmps167
  go_wp2
  go_loop [5] (fun i => ∃ k : Nat, k ≤ n ∧ i = .int .i64 k ∧ (zs.take k).all (fun z => inB z 0 (g - 1)) = true) (fun i => n - (intOf i).toNat)
  case atStart => exact ⟨0, Nat.zero_le _, rfl, by simp⟩
  case round =>
    obtain ⟨k, hk, rfl, hpre⟩ := hrel
    have HP := Lib.hid hpre
    clear hpre
    by_cases hlt : k < n
    · obtain ⟨b, off, rfl, hc⟩ := h.at_ hlt
      have HH := Lib.hid h
      clear h
      cases hp : inB (iget zs k) 0 (g - 1) with
      | true =>
        have HX := Lib.hid hp
        clear hp
        go_wp2_with (go_at_call 64; refine (specIn_any _ _ _ _).mono ?_; rintro e w' ⟨rfl, rfl⟩; rw [HX.out])
        go_round
        case rel => exact ⟨k + 1, by omega, by go_num, by rw [all_take_iget (by rw [HL.out]; exact hlt), HP.out, HX.out]; rfl⟩
        case measure => simp [intOf]; omega
      | false =>
        have HX := Lib.hid hp
        clear hp
        go_wp2_with (go_at_call 64; refine (specIn_any _ _ _ _).mono ?_; rintro e w' ⟨rfl, rfl⟩; rw [HX.out])
        go_ret
        exact ⟨ret_bool (by unfold isWordTo; rw [all_false_at (by rw [HL.out]; exact hlt) HX.out]; simp), rfl⟩
    · obtain rfl : k = n := by omega
      go_wp2
      go_ret
      exact ⟨ret_bool (by have := HP.out; rw [List.take_of_length_le (Nat.le_of_eq HL.out)] at this; unfold isWordTo; rw [this, HL.out]; simp; omega), rfl⟩

theorem all_take_lget {zss : List (List Int)} {p : List Int → Bool} {k : Nat} (h : k < zss.length) : (zss.take (k + 1)).all p = ((zss.take k).all p && p (lget zss k)) := by
  rw [take_lget h, List.all_append]; simp
theorem any_take_lget {zss : List (List Int)} {p : List Int → Bool} {k : Nat} (h : k < zss.length) : (zss.take (k + 1)).any p = ((zss.take k).any p || p (lget zss k)) := by
  rw [take_lget h, List.any_append]; simp
theorem all_false_lget {zss : List (List Int)} {p : List Int → Bool} {k : Nat} (h : k < zss.length) (hp : p (lget zss k) = false) : zss.all p = false := by
  rw [List.all_eq_false]; exact ⟨_, lget_mem h, by simp [hp]⟩

/-- words with letters below g, each of at least a number of letters, at most 24 -/
def wordsTo (g : Int) (least : Nat) (zss : List (List Int)) : Bool := decide (zss.length ≤ 24) && zss.all (fun zs => isWordTo (g - 1) zs && decide (least ≤ zs.length))

set_option maxHeartbeats 800000 in
theorem spec11Words_any (g : Int) (least : Nat) (ao : Option Addr) (n c : Nat) (zss : List (List Int)) (w : World) (h : Intss w ao n zss) (hg0 : 0 ≤ g) (hg1 : g ≤ 1000) :
    Calls Try.prog 127 #[.int .i64 g, .slice ao n c, .int .i64 (least : Int)] w fun e w' => e = .returned (.bool (wordsTo g least zss)) ∧ w' = w := by
  have hn := h.2.1
  have hl := h.1
  have HL := Lib.hid hl
  clear hl
  go_enter Try.func127, Try.ntmps127
  go_wp2
  go_loop [7] (fun i => ∃ k : Nat, k ≤ n ∧ i = .int .i64 k ∧ (zss.take k).all (fun zs => isWordTo (g - 1) zs && decide (least ≤ zs.length)) = true) (fun i => n - (intOf i).toNat)
  case atStart => exact ⟨0, Nat.zero_le _, rfl, by simp⟩
  case round =>
    obtain ⟨k, hk, rfl, hpre⟩ := hrel
    have HP := Lib.hid hpre
    clear hpre
    by_cases hlt : k < n
    · obtain ⟨b, off, a1, n1, c1, rfl, hc, hin⟩ := h.at_ hlt
      have hn1 := hin.2.1
      have HN := Lib.hid hin.1
      have HH := Lib.hid h
      clear h
      cases hp : isWordTo (g - 1) (lget zss k) with
      | true =>
        have HX := Lib.hid hp
        clear hp
        by_cases hz : least ≤ n1
        · have hd : decide ((n1 : Int) < least) = false := by simp; omega
          go_wp2_with (go_at_call 167; refine (spec11Word_any g a1 n1 c1 _ _ hin hg0 hg1).mono ?_; rintro e w' ⟨rfl, rfl⟩; rw [HX.out])
          go_round
          case rel => exact ⟨k + 1, by omega, by go_num, by rw [all_take_lget (by rw [HL.out]; exact hlt), HP.out, HX.out, HN.out]; simp [hz]⟩
          case measure => simp [intOf]; omega
        · have hd : decide ((n1 : Int) < least) = true := by simp; omega
          go_wp2_with (go_at_call 167; refine (spec11Word_any g a1 n1 c1 _ _ hin hg0 hg1).mono ?_; rintro e w' ⟨rfl, rfl⟩; rw [HX.out])
          go_ret
          exact ⟨ret_bool (by unfold wordsTo; rw [all_false_lget (k := k) (by rw [HL.out]; exact hlt) (by rw [HX.out, HN.out]; simp; omega)]; simp), rfl⟩
      | false =>
        have HX := Lib.hid hp
        clear hp
        go_wp2_with (go_at_call 167; refine (spec11Word_any g a1 n1 c1 _ _ hin hg0 hg1).mono ?_; rintro e w' ⟨rfl, rfl⟩; rw [HX.out])
        go_ret
        exact ⟨ret_bool (by unfold wordsTo; rw [all_false_lget (k := k) (by rw [HL.out]; exact hlt) (by rw [HX.out]; rfl)]; simp), rfl⟩
    · obtain rfl : k = n := by omega
      go_wp2
      go_ret
      exact ⟨ret_bool (by have := HP.out; rw [List.take_of_length_le (Nat.le_of_eq HL.out)] at this; unfold wordsTo; rw [this, HL.out]; simp; omega), rfl⟩

theorem isPres_out {d : PresD} (h : inB d.1 1 5 = false) : isPres d = false := by unfold isPres; rw [h]; rfl
theorem isPres_in {d : PresD} (h : inB d.1 1 5 = true) : isPres d = wordsTo d.1 1 d.2 := by unfold isPres wordsTo; rw [h]; simp

set_option maxHeartbeats 400000 in
theorem spec11Is_any {v : Value} {d : PresD} (w : World) (h : RdP w v d) :
    Calls Try.prog 69 #[v] w fun e w' => e = .returned (.bool (isPres d)) ∧ Below w.heap.size w w' := by
  obtain ⟨ao, n, c, rfl, hi⟩ := h
  have hb := below_alloc1 w (.cells #[.int .i64 d.1, .slice ao n c] 25)
  cases hg : inB d.1 1 5 with
  | true =>
    have HX := Lib.hid hg
    have hg' := inB_true.1 hg
    clear hg
    go_enter Try.func69, Try.ntmps69
    go_wp2_with (go_at_call 64; refine (specIn_any _ _ _ _).mono ?_; rintro e w' ⟨rfl, rfl⟩; rw [HX.out])
    refine (spec11Words_any d.1 1 ao n c d.2 _ (hi.below hb) (by omega) (by omega)).mono ?_
    rintro e w1 ⟨rfl, rfl⟩
    go_wp2
    go_ret
    exact ⟨ret_bool (isPres_in HX.out).symm, hb⟩
  | false =>
    have HX := Lib.hid hg
    clear hg
    go_enter Try.func69, Try.ntmps69
    go_wp2_with (go_at_call 64; refine (specIn_any _ _ _ _).mono ?_; rintro e w' ⟨rfl, rfl⟩; rw [HX.out])
    go_ret
    exact ⟨ret_bool (isPres_out HX.out).symm, hb⟩
end Go.Proofs.Ytdkmihnpobobiaa
