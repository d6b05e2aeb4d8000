/- IsDiagram, the program's and the reference's. -/
import Derived.Test.YtdkmihnpobobiaaProg
import Derived.Test.YtdkmihnpobobiaaBase
import Derived.Test.YtdkmihnpobobiaaFind
namespace Go.Proofs.Ytdkmihnpobobiaa
open Go.RowKit

/-- a label: 0, or 2 to 32 -/
def isLabel (z : Int) : Bool := z == 0 || inB z 2 32
/-- a diagram: fewer than 5 labels -/
def isDiag (zs : List Int) : Bool := zs.all isLabel && decide (zs.length < 5)

set_option maxHeartbeats 400000 in
theorem spec12Is_any (ao : Option Addr) (n c : Nat) (zs : List Int) (w : World) (h : Ints w ao n zs) :
    Calls Try.prog 59 #[.slice ao n c] w fun e w' => e = .returned (.bool (isDiag zs)) ∧ w' = w := by
  have hn := h.2.1
  go_enter Try.func59, Try.ntmps59
  go_wp2
  go_loop [3] (fun i => ∃ k : Nat, k ≤ n ∧ i = .int .i64 k ∧ (zs.take k).all isLabel = true) (fun i => n - (intOf i).toNat)
  case atStart => exact ⟨0, Nat.zero_le _, rfl, by simp⟩
  case round =>
    obtain ⟨k, hk, rfl, hpre⟩ := hrel
    have HP := Lib.hid hpre
    clear hpre
    by_cases hlt : k < n
    · obtain ⟨b, off, rfl, hc⟩ := h.at_ hlt
      have hl := h.1
      have HL := Lib.hid hl
      clear hl h
      cases hp : isLabel (iget zs k) with
      | true =>
        have HX := Lib.hid hp
        by_cases h0 : iget zs k = 0
        · have h1 : (iget zs k != 0) = false := by simp [h0]
          clear hp h0
          go_wp2
          go_round
          case rel => exact ⟨k + 1, by omega, by go_num, by rw [all_take_iget (by rw [HL.out]; exact hlt), HP.out, HX.out]; rfl⟩
          case measure => simp [intOf]; omega
        · have h1 : (iget zs k != 0) = true := by simp [h0]
          have h2 : inB (iget zs k) 2 32 = true := by unfold isLabel at hp; simpa [h0] using hp
          have H2 := Lib.hid h2
          clear hp h0 h2
          go_wp2_with (go_at_call 64; refine (specIn_any _ _ _ _).mono ?_; rintro e w' ⟨rfl, rfl⟩; rw [H2.out])
          go_round
          case rel => exact ⟨k + 1, by omega, by go_num, by rw [all_take_iget (by rw [HL.out]; exact hlt), HP.out, HX.out]; rfl⟩
          case measure => simp [intOf]; omega
      | false =>
        have HX := Lib.hid hp
        have h1 : (iget zs k != 0) = true := by
          rw [bne_iff_ne]; intro e; unfold isLabel at hp; simp [e] at hp
        have h2 : inB (iget zs k) 2 32 = false := by unfold isLabel at hp; simp only [Bool.or_eq_false_iff] at hp; exact hp.2
        have H2 := Lib.hid h2
        clear hp h2
        go_wp2_with (go_at_call 64; refine (specIn_any _ _ _ _).mono ?_; rintro e w' ⟨rfl, rfl⟩; rw [H2.out])
        go_ret
        exact ⟨ret_bool (by unfold isDiag; rw [all_false_at (by rw [HL.out]; exact hlt) HX.out]; rfl), rfl⟩
    · obtain rfl : k = n := by omega
      have hl := h.1
      have HL := Lib.hid hl
      clear hl
      go_wp2
      go_ret
      exact ⟨ret_bool (by have := HP.out; rw [List.take_of_length_le (Nat.le_of_eq HL.out)] at this; unfold isDiag; rw [this, HL.out]; simp; omega), rfl⟩

theorem isDiagramFn_any (z : Int) (w : World) :
    Calls Try.prog 118 #[.int .i64 z] w fun e w' => e = .returned (.bool (!isLabel z)) ∧ w' = w := by
  by_cases h0 : z = 0
  · have h1 : (z != 0) = false := by simp [h0]
    have h2 : isLabel z = true := by simp [isLabel, h0]
    have H2 := Lib.hid h2
    clear h0 h2
    go_enter Try.func118, Try.ntmps118
    go_wp2
    go_ret
    exact ⟨ret_bool (by rw [H2.out]; rfl), rfl⟩
  · have h1 : (z != 0) = true := by simp [h0]
    have h2 : isLabel z = inB z 2 32 := by simp [isLabel, h0]
    have H2 := Lib.hid h2
    clear h0 h2
    go_enter Try.func118, Try.ntmps118
    go_wp2_with (go_at_call 66; refine (within_any _ _ _ _).mono ?_; rintro e w' ⟨rfl, rfl⟩)
    go_ret
    exact ⟨ret_bool (by rw [H2.out]), rfl⟩

set_option maxRecDepth 100000 in
theorem isDiagramImpl_any (ao : Option Addr) (n c : Nat) (zs : List Int) (w : World) (h : Ints w ao n zs) :
    Calls Try.prog 61 #[.slice ao n c] w fun e w' => e = .returned (.bool (isDiag zs)) ∧ Below w.heap.size w w' := by
  have hl := h.1
  have HL := Lib.hid hl
  clear hl
  have hany : zs.any (fun z => !isLabel z) = !(zs.all isLabel) := by rw [List.any_eq_not_all_not]; simp
  have HA := Lib.hid hany
  clear hany
  by_cases hs : n < 5
  · have h1 : decide ((n : Int) < 5) = true := by simp; omega
    go_enter Try.func61, Try.ntmps61
    go_wp2_with fail
    refine (containsFunc_any 118 #[] (fun z => !isLabel z) ao n c zs w h (fun _ _ => by rfl) (fun j hj w' hb => (isDiagramFn_any _ w').mono ?_)).mono ?_
    · rintro e w1 ⟨rfl, rfl⟩; exact ⟨rfl, Below.refl _ _⟩
    rintro e w1 ⟨rfl, hb⟩
    go_wp2
    go_ret
    exact ⟨ret_bool (by rw [HA.out]; unfold isDiag; rw [HL.out]; simp [hs]), hb⟩
  · have h1 : decide ((n : Int) < 5) = false := by simp; omega
    go_enter Try.func61, Try.ntmps61
    go_wp2
    go_ret
    exact ⟨ret_bool (by unfold isDiag; rw [HL.out]; simp; intro _; omega), Below.refl _ _⟩

end Go.Proofs.Ytdkmihnpobobiaa
