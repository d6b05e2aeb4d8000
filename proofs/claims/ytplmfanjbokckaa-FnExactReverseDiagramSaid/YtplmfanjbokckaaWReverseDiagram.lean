/- The walk of FnExactReverseDiagram: true, whatever the arguments. Written by genwalk.py. -/
import Derived.Test.YtplmfanjbokckaaLawS
import Derived.Test.Ytplmfanjbokckaa12RevD
namespace Go.Proofs.Ytplmfanjbokckaa
open Go.RowKit

set_option maxHeartbeats 1600000 in
theorem walkReverseDiagram {a0 : Option Addr} {n0 c0 : Nat} {zs : List Int} (w : World) (h0 : Ints w a0 n0 zs) :
    Calls Try.prog 5 #[.slice a0 n0 c0] w fun e w' => e = .returned (.bool true) ∧ Below w.heap.size w w' := by
  have hb0 := h0.2.1
  by_cases hs0 : n0 ≤ 1048576
  · have g0 : decide ((1048576 : Int) < n0) = false := by simp; omega
    have hl0 : (zs).length = n0 := h0.1
    have HL0 := Lib.hid hl0
    clear hl0
    have B0 : Below w.heap.size w w := Below.refl _ _
    go_enter Try.func5, Try.ntmps5
    go_wp2_with fail
    refine (law_toS _ (show RdS _ _ _ from ⟨_, _, _, rfl, (h0.below B0)⟩) (by rw [HL0.out]; omega)).mono ?_
    rintro e w1 ⟨u1, rfl, o1, b1⟩
    have s1 := b1.size
    have B1 : Below w.heap.size w w1 := B0.trans (b1.mono B0.size)
    go_wp2_with fail
    refine (api_specReverse  _ o1.rd (by rw [HL0.out]; omega)).mono ?_
    rintro e w2 ⟨u2_0, rfl, o2_0, b2⟩
    have s2 := b2.size
    have B2 : Below w.heap.size w w2 := B1.trans (b2.mono B1.size)
    go_wp2_with fail
    refine (law_toS _ (show RdS _ _ _ from ⟨_, _, _, rfl, (h0.below B2)⟩) (by rw [HL0.out]; omega)).mono ?_
    rintro e w3 ⟨u3, rfl, o3, b3⟩
    have s3 := b3.size
    have B3 : Below w.heap.size w w3 := B2.trans (b3.mono B2.size)
    go_wp2_with fail
    refine (api_implReverse  _ o3.rd (by rw [HL0.out]; omega)).mono ?_
    rintro e w4 ⟨u4_0, rfl, o4_0, b4⟩
    have s4 := b4.size
    have B4 : Below w.heap.size w w4 := B3.trans (b4.mono B3.size)
    go_wp2_with fail
    refine (law_eqS _ o4_0.rd ((o2_0.below b3).below b4).rd).mono ?_
    rintro e w5 ⟨rfl, b5⟩
    have s5 := b5.size
    have B5 : Below w.heap.size w w5 := B4.trans (b5.mono B4.size)
    go_wp2_with fail
    refine (law_toS _ (show RdS _ _ _ from ⟨_, _, _, rfl, (h0.below B5)⟩) (by rw [HL0.out]; omega)).mono ?_
    rintro e w6 ⟨u6, rfl, o6, b6⟩
    have s6 := b6.size
    have B6 : Below w.heap.size w w6 := B5.trans (b6.mono B5.size)
    go_wp2_with fail
    refine (law_eqS _ (((o3.below b4).below b5).below b6).rd o6.rd).mono ?_
    rintro e w7 ⟨rfl, b7⟩
    have s7 := b7.size
    have B7 : Below w.heap.size w w7 := B6.trans (b7.mono B6.size)
    go_wp2_with fail
    refine (law_markS 1 _ ((((o3.below b4).below b5).below b6).below b7) (by omega) (by omega)).mono ?_
    rintro e w8 ⟨rfl, o8, q8⟩
    have s8 := q8.size
    have B8 : Below w.heap.size w w8 := B7.trans (q8.below (by omega) B7.size)
    go_wp2_with fail
    refine (law_eqS _ ((((o4_0.below b5).below b6).below b7).only q8 (by omega)).rd ((((((o2_0.below b3).below b4).below b5).below b6).below b7).only q8 (by omega)).rd).mono ?_
    rintro e w9 ⟨rfl, b9⟩
    have s9 := b9.size
    have B9 : Below w.heap.size w w9 := B8.trans (b9.mono B8.size)
    go_wp2_with fail
    refine (law_markS 1 _ (((((o4_0.below b5).below b6).below b7).only q8 (by omega)).below b9) (by omega) (by omega)).mono ?_
    rintro e w10 ⟨rfl, o10, q10⟩
    have s10 := q10.size
    have B10 : Below w.heap.size w w10 := B9.trans (q10.below (by omega) B9.size)
    go_wp2_with fail
    refine (law_heldS 1 _ o10.rd (by omega) (by omega)).mono ?_
    rintro e w11 ⟨rfl, b11⟩
    have s11 := b11.size
    have B11 : Below w.heap.size w w11 := B10.trans (b11.mono B10.size)
    go_wp2_with fail
    refine (law_toS _ (show RdS _ _ _ from ⟨_, _, _, rfl, (h0.below B11)⟩) (by rw [HL0.out]; omega)).mono ?_
    rintro e w12 ⟨u12, rfl, o12, b12⟩
    have s12 := b12.size
    have B12 : Below w.heap.size w w12 := B11.trans (b12.mono B11.size)
    go_wp2_with fail
    refine (api_implReverse  _ o12.rd (by rw [HL0.out]; omega)).mono ?_
    rintro e w13 ⟨u13_0, rfl, o13_0, b13⟩
    have s13 := b13.size
    have B13 : Below w.heap.size w w13 := B12.trans (b13.mono B12.size)
    go_wp2_with fail
    refine (law_eqS _ o13_0.rd (((((((((((o2_0.below b3).below b4).below b5).below b6).below b7).only q8 (by omega)).below b9).only q10 (by omega)).below b11).below b12).below b13).rd).mono ?_
    rintro e w14 ⟨rfl, b14⟩
    have s14 := b14.size
    have B14 : Below w.heap.size w w14 := B13.trans (b14.mono B13.size)
    go_wp2_with fail
    refine (law_heldS 1 _ ((((o10.below b11).below b12).below b13).below b14).rd (by omega) (by omega)).mono ?_
    rintro e w15 ⟨rfl, b15⟩
    have s15 := b15.size
    have B15 : Below w.heap.size w w15 := B14.trans (b15.mono B14.size)
    go_wp2
    go_ret
    exact ⟨rfl, B15⟩
  · have g0 : decide ((1048576 : Int) < n0) = true := by simp; omega
    go_enter Try.func5, Try.ntmps5
    go_wp2
    go_ret
    exact ⟨rfl, Below.refl _ _⟩
end Go.Proofs.Ytplmfanjbokckaa
