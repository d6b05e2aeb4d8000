/- The walk of FnExactIsRotation: true, whatever the arguments. Written by genwalk.py. -/
import Derived.Test.YtplmfanjbokckaaLawS
import Derived.Test.Ytplmfanjbokckaa14Rot
namespace Go.Proofs.Ytplmfanjbokckaa
open Go.RowKit

set_option maxHeartbeats 1600000 in
theorem walkIsRotation {a0 : Option Addr} {n0 c0 : Nat} {zs : List Int} (w : World) (h0 : Ints w a0 n0 zs) :
    Calls Try.prog 4 #[.slice a0 n0 c0] w fun e w' => e = .returned (.bool true) ∧ Below w.heap.size w w' := by
  have hb0 := h0.2.1
  by_cases hs0 : n0 ≤ 1048576
  · have g0 : decide ((1048576 : Int) < n0) = false := by simp; omega
    have hl0 : (zs).length = n0 := h0.1
    have HL0 := Lib.hid hl0
    clear hl0
    have B0 : Below w.heap.size w w := Below.refl _ _
    go_enter Try.func4, Try.ntmps4
    go_wp2_with fail
    refine (law_toS _ (show RdS _ _ _ from ⟨_, _, _, rfl, (h0.below B0)⟩) (by rw [HL0.out]; omega)).mono ?_
    rintro e w1 ⟨u1, rfl, o1, b1⟩
    have s1 := b1.size
    have B1 : Below w.heap.size w w1 := B0.trans (b1.mono B0.size)
    go_wp2_with fail
    refine (api_specIsRotation  _ o1.rd ).mono ?_
    rintro e w2 ⟨rfl, b2⟩
    have s2 := b2.size
    have B2 : Below w.heap.size w w2 := B1.trans (b2.mono B1.size)
    go_wp2_with fail
    refine (law_toS _ (show RdS _ _ _ from ⟨_, _, _, rfl, (h0.below B2)⟩) (by rw [HL0.out]; omega)).mono ?_
    rintro e w3 ⟨u3, rfl, o3, b3⟩
    have s3 := b3.size
    have B3 : Below w.heap.size w w3 := B2.trans (b3.mono B2.size)
    go_wp2_with fail
    refine (api_implIsRotation  _ o3.rd ).mono ?_
    rintro e w4 ⟨rfl, b4⟩
    have s4 := b4.size
    have B4 : Below w.heap.size w w4 := B3.trans (b4.mono B3.size)
    go_wp2_with fail
    refine (law_toS _ (show RdS _ _ _ from ⟨_, _, _, rfl, (h0.below B4)⟩) (by rw [HL0.out]; omega)).mono ?_
    rintro e w5 ⟨u5, rfl, o5, b5⟩
    have s5 := b5.size
    have B5 : Below w.heap.size w w5 := B4.trans (b5.mono B4.size)
    go_wp2_with fail
    refine (law_eqS _ ((o3.below b4).below b5).rd o5.rd).mono ?_
    rintro e w6 ⟨rfl, b6⟩
    have s6 := b6.size
    have B6 : Below w.heap.size w w6 := B5.trans (b6.mono B5.size)
    go_wp2
    go_ret
    exact ⟨rfl, B6⟩
  · have g0 : decide ((1048576 : Int) < n0) = true := by simp; omega
    go_enter Try.func4, Try.ntmps4
    go_wp2
    go_ret
    exact ⟨rfl, Below.refl _ _⟩
end Go.Proofs.Ytplmfanjbokckaa
