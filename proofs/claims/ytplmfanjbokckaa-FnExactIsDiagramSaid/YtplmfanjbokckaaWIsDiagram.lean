/- The walk of FnExactIsDiagram: true, whatever the labels. -/
import Derived.Test.YtplmfanjbokckaaLawI
import Derived.Test.Ytplmfanjbokckaa12Is
namespace Go.Proofs.Ytplmfanjbokckaa
open Go.RowKit

set_option maxHeartbeats 400000 in
theorem walkIsDiagram (ao : Option Addr) (n c : Nat) (zs : List Int) (w : World) (h : Ints w ao n zs) :
    Calls Try.prog 3 #[.slice ao n c] w fun e w' => e = .returned (.bool true) ∧ Below w.heap.size w w' := by
  have hn := h.2.1
  by_cases hs : n ≤ 1048576
  · have h1 : decide ((1048576 : Int) < n) = false := by simp; omega
    go_enter Try.func3, Try.ntmps3
    go_wp2_with fail
    refine (toInts_any ao n c zs w h (by omega)).mono ?_
    rintro e w1 ⟨a1, c1, rfl, o1, b1⟩
    go_wp2_with fail
    refine (specIsDiagram_any a1 n c1 zs w1 o1.ints).mono ?_
    rintro e w2 ⟨rfl, rfl⟩
    go_wp2_with fail
    refine (toInts_any ao n c zs w2 (h.below b1) (by omega)).mono ?_
    rintro e w3 ⟨a3, c3, rfl, o3, b3⟩
    go_wp2_with fail
    refine (implIsDiagram_any a3 n c3 zs w3 o3.ints).mono ?_
    rintro e w4 ⟨rfl, b4⟩
    have he : (isDiag zs != isDiag zs) = false := by simp
    go_wp2_with fail
    have B4 : Below w.heap.size w w4 := b1.trans ((b3.mono b1.size).trans (b4.mono (b1.trans (b3.mono b1.size)).size))
    refine (toInts_any ao n c zs w4 (h.below B4) (by omega)).mono ?_
    rintro e w5 ⟨a5, c5, rfl, o5, b5⟩
    go_wp2_with fail
    refine (eqInts_any a3 a5 n n c3 c5 zs zs w5 ((o3.below b4).below b5).ints o5.ints).mono ?_
    rintro e w6 ⟨rfl, m, rfl⟩
    go_wp2
    go_ret
    exact ⟨by simp, below_drewN (B4.trans (b5.mono B4.size)) m⟩
  · have h1 : decide ((1048576 : Int) < n) = true := by simp; omega
    go_enter Try.func3, Try.ntmps3
    go_wp2
    go_ret
    exact ⟨rfl, Below.refl _ _⟩
end Go.Proofs.Ytplmfanjbokckaa
