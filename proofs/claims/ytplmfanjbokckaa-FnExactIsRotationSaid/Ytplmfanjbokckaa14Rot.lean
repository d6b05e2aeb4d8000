/- IsRotation, the program's and the reference's. -/
import Derived.Test.YtplmfanjbokckaaPerm
import Derived.Test.YtplmfanjbokckaaNest
namespace Go.Proofs.Ytplmfanjbokckaa
open Go.RowKit

/-- a rotation: 2 to 200 darts, an even number, and a permutation -/
def isRot (zs : List Int) : Bool := decide (2 ≤ zs.length) && decide (zs.length % 2 = 0) && decide (zs.length ≤ 200) && isPerm zs

theorem isRot_of {zs : List Int} {n : Nat} (hl : zs.length = n) (h : ¬ (2 ≤ n ∧ n % 2 = 0 ∧ n ≤ 200)) : isRot zs = false := by
  unfold isRot; rw [hl]; simp; omega
theorem isRot_to {zs : List Int} {n : Nat} (hl : zs.length = n) (h1 : 2 ≤ n) (h2 : n % 2 = 0) (h3 : n ≤ 200) : isRot zs = isPerm zs := by
  unfold isRot; rw [hl]; simp [h1, h2, h3]

theorem specIsRotation_any (ao : Option Addr) (n c : Nat) (zs : List Int) (w : World) (h : Ints w ao n zs) :
    Calls Try.prog 12 #[.slice ao n c] w fun e w' => e = .returned (.bool (isRot zs)) ∧ Below w.heap.size w w' := by
  have hn := h.2.1
  have hl := h.1
  have HL := Lib.hid hl
  clear hl
  by_cases h1 : 2 ≤ n
  · have e1 : decide ((2 : Int) ≤ n) = true := by simp; omega
    by_cases h2 : n % 2 = 0
    · have e2 : ((n : Int) % 2 == 0) = true := by simp; omega
      by_cases h3 : n ≤ 200
      · have e3 : decide ((n : Int) ≤ 200) = true := by simp; omega
        go_enter Try.func12, Try.ntmps12
        go_wp2_with fail
        refine (specPerm_any _ _ _ zs _ h).mono ?_
        rintro e w1 ⟨rfl, hb⟩
        go_wp2
        go_ret
        exact ⟨ret_bool (isRot_to HL.out h1 h2 h3).symm, hb⟩
      · have e3 : decide ((n : Int) ≤ 200) = false := by simp; omega
        go_enter Try.func12, Try.ntmps12
        go_wp2
        go_ret
        exact ⟨ret_bool (isRot_of HL.out (by omega)).symm, Below.refl _ _⟩
    · have e2 : ((n : Int) % 2 == 0) = false := by simp; omega
      go_enter Try.func12, Try.ntmps12
      go_wp2
      go_ret
      exact ⟨ret_bool (isRot_of HL.out (by omega)).symm, Below.refl _ _⟩
  · have e1 : decide ((2 : Int) ≤ n) = false := by simp; omega
    go_enter Try.func12, Try.ntmps12
    go_wp2
    go_ret
    exact ⟨ret_bool (isRot_of HL.out (by omega)).symm, Below.refl _ _⟩

theorem isRotation_any (ao : Option Addr) (n c : Nat) (zs : List Int) (w : World) (h : Ints w ao n zs) :
    Calls Try.prog 31 #[.slice ao n c] w fun e w' => e = .returned (.bool (isRot zs)) ∧ Below w.heap.size w w' := by
  have hn := h.2.1
  have hl := h.1
  have HL := Lib.hid hl
  clear hl
  by_cases h1 : 2 ≤ n ∧ n ≤ 200
  · have e1 : inB (n : Int) 2 200 = true := inB_true.2 (by omega)
    have E1 := Lib.hid e1
    clear e1
    by_cases h2 : n % 2 = 0
    · have e2 : ((n : Int) % 2 == 0) = true := by simp; omega
      go_enter Try.func31, Try.ntmps31
      go_wp2_with (first | (go_at_call 48; refine (size_any _ _ _ _).mono ?_; rintro e w' ⟨rfl, rfl⟩) | (go_at_call 37; refine (within_any _ _ _ _).mono ?_; rintro e w' ⟨rfl, rfl⟩; rw [E1.out]))
      refine (implPerm_any _ _ _ zs _ h).mono ?_
      rintro e w1 ⟨rfl, hb⟩
      go_wp2
      go_ret
      exact ⟨ret_bool (isRot_to HL.out h1.1 h2 h1.2).symm, hb⟩
    · have e2 : ((n : Int) % 2 == 0) = false := by simp; omega
      go_enter Try.func31, Try.ntmps31
      go_wp2_with (first | (go_at_call 48; refine (size_any _ _ _ _).mono ?_; rintro e w' ⟨rfl, rfl⟩) | (go_at_call 37; refine (within_any _ _ _ _).mono ?_; rintro e w' ⟨rfl, rfl⟩; rw [E1.out]))
      go_ret
      exact ⟨ret_bool (isRot_of HL.out (by omega)).symm, Below.refl _ _⟩
  · have e1 : inB (n : Int) 2 200 = false := inB_false.2 (by omega)
    have E1 := Lib.hid e1
    clear e1
    go_enter Try.func31, Try.ntmps31
    go_wp2_with (first | (go_at_call 48; refine (size_any _ _ _ _).mono ?_; rintro e w' ⟨rfl, rfl⟩) | (go_at_call 37; refine (within_any _ _ _ _).mono ?_; rintro e w' ⟨rfl, rfl⟩; rw [E1.out]))
    go_ret
    exact ⟨ret_bool (isRot_of HL.out (by omega)).symm, Below.refl _ _⟩

theorem implIsRotation_any (ao : Option Addr) (n c : Nat) (zs : List Int) (w : World) (h : Ints w ao n zs) :
    Calls Try.prog 13 #[.slice ao n c] w fun e w' => e = .returned (.bool (isRot zs)) ∧ Below w.heap.size w w' := by
  go_enter Try.func13, Try.ntmps13
  go_wp2_with fail
  refine (isRotation_any ao n c zs w h).mono ?_
  rintro e w1 ⟨rfl, hb⟩
  go_wp2
  go_ret
  exact ⟨rfl, hb⟩

theorem api_specIsRotation {v : Value} {zs : List Int} (w : World) (h : RdS w v zs) :
    Calls Try.prog 12 #[v] w fun e w' => e = .returned (.bool (isRot zs)) ∧ Below w.heap.size w w' := by
  obtain ⟨ao, n, c, rfl, hi⟩ := h
  exact specIsRotation_any ao n c zs w hi
theorem api_implIsRotation {v : Value} {zs : List Int} (w : World) (h : RdS w v zs) :
    Calls Try.prog 13 #[v] w fun e w' => e = .returned (.bool (isRot zs)) ∧ Below w.heap.size w w' := by
  obtain ⟨ao, n, c, rfl, hi⟩ := h
  exact implIsRotation_any ao n c zs w hi
end Go.Proofs.Ytplmfanjbokckaa
