/- The walk of FnExactIsPresentation: true, whatever the presentation. -/
import Derived.Test.YtplmfanjbokckaaLawP
import Derived.Test.Ytplmfanjbokckaa11IsB
import Derived.Deep.RegionHeld3
namespace Go.Proofs.Ytplmfanjbokckaa
open Go.RowKit

theorem budget_neg {zss : List (List Int)} (h : budget 1048576 zss < 0) : budget 1048576 zss = -1 := by
  unfold budget at h ⊢; split at h
  · omega
  · rw [if_neg (by omega)]
theorem budget_small {zss : List (List Int)} (h : ¬ budget 1048576 zss < 0) : zss.length + lenSS zss ≤ 1048576 := by
  unfold budget at h; split at h
  · omega
  · omega

set_option maxHeartbeats 1600000 in
theorem walkIsPresentation {v0 : Value} {d : PresD} (w : World) (h0 : RdP w v0 d) :
    Calls Try.prog 7 #[v0] w fun e w' => e = .returned (.bool true) ∧ Below w.heap.size w w' := by
  obtain ⟨a0, n0, c0, rfl, hi0⟩ := h0
  have r0 : RdP w (.agg #[.int .i64 d.1, .slice a0 n0 c0]) d := ⟨a0, n0, c0, rfl, hi0⟩
  have b0 := below_alloc1 w (.cells #[.int .i64 d.1, .slice a0 n0 c0] 38)
  have k0 : Blk (w.alloc (.cells #[.int .i64 d.1, .slice a0 n0 c0] 38)) w.heap.size 38 #[.int .i64 d.1, .slice a0 n0 c0] := blk_at rfl
  by_cases hx : budget 1048576 d.2 < 0
  · go_enter Try.func7, Try.ntmps7
    go_wp2_with fail
    refine (law_szP 1048576 _ (r0.below b0) (by omega) (by omega)).mono ?_
    rintro e w1 ⟨rfl, b1⟩
    go_wp2
    go_ret
    exact ⟨rfl, b0.trans (b1.mono b0.size)⟩
  · have hsm := budget_small hx
    go_enter Try.func7, Try.ntmps7
    go_wp2_with fail
    refine (law_szP 1048576 _ (r0.below b0) (by omega) (by omega)).mono ?_
    rintro e w1 ⟨rfl, b1⟩
    have B1 := b0.trans (b1.mono b0.size)
    have k1 := k0.belowS b1
    have c10 : w1.cell? ⟨w.heap.size, 0, none⟩ = some (.int .i64 d.1) := k1.cell 0
    have c11 : w1.cell? ⟨w.heap.size, 1, none⟩ = some (.slice a0 n0 c0) := k1.cell 1
    go_wp2_with fail
    refine (law_toP _ (r0.below B1) hsm).mono ?_
    rintro e w2 ⟨u2, rfl, o2, b2⟩
    go_wp2_with fail
    refine (api_specIsPresentation _ o2.rd).mono ?_
    rintro e w3 ⟨rfl, b3⟩
    have B3 := (B1.trans (b2.mono B1.size)).trans (b3.mono (B1.trans (b2.mono B1.size)).size)
    have k3 := (k1.belowS b2).belowS b3
    have c30 : w3.cell? ⟨w.heap.size, 0, none⟩ = some (.int .i64 d.1) := k3.cell 0
    have c31 : w3.cell? ⟨w.heap.size, 1, none⟩ = some (.slice a0 n0 c0) := k3.cell 1
    clear c10 c11
    go_wp2_with fail
    refine (law_toP _ (r0.below B3) hsm).mono ?_
    rintro e w4 ⟨u4, rfl, o4, b4⟩
    obtain ⟨a4, n4, c4, rfl⟩ := o4.form
    have B4 := B3.trans (b4.mono B3.size)
    go_wp2_with fail
    have bx4 := below_alloc1 w4 (.cells #[.int .i64 d.1, .slice a4 n4 c4] 41)
    have kx4 : Blk (w4.alloc (.cells #[.int .i64 d.1, .slice a4 n4 c4] 41)) w4.heap.size 41 #[.int .i64 d.1, .slice a4 n4 c4] := blk_at rfl
    generalize w4.alloc (.cells #[.int .i64 d.1, .slice a4 n4 c4] 41) = w5 at *
    refine (api_implIsPresentation _ (o4.below bx4).rd).mono ?_
    rintro e w6 ⟨rfl, b6⟩
    have B5 := B4.trans (bx4.mono B4.size)
    have B6 := B5.trans (b6.mono B5.size)
    have k6 := ((k3.belowS b4).belowS bx4).belowS b6
    have kx6 := kx4.belowS b6
    have o6 := (o4.below bx4).below b6
    have c60 : w6.cell? ⟨w.heap.size, 0, none⟩ = some (.int .i64 d.1) := k6.cell 0
    have c61 : w6.cell? ⟨w.heap.size, 1, none⟩ = some (.slice a0 n0 c0) := k6.cell 1
    have x60 : w6.cell? ⟨w4.heap.size, 0, none⟩ = some (.int .i64 d.1) := kx6.cell 0
    have x61 : w6.cell? ⟨w4.heap.size, 1, none⟩ = some (.slice a4 n4 c4) := kx6.cell 1
    clear c30 c31
    go_wp2_with fail
    have hS : ∀ w', Below w6.heap.size w6 w' → (Below w6.heap.size w6 w' ∧ w'.cell? ⟨w.heap.size, 0, none⟩ = some (.int .i64 d.1) ∧ w'.cell? ⟨w.heap.size, 1, none⟩ = some (.slice a0 n0 c0) ∧ w'.cell? ⟨w4.heap.size, 0, none⟩ = some (.int .i64 d.1) ∧ w'.cell? ⟨w4.heap.size, 1, none⟩ = some (.slice a4 n4 c4)) :=
      fun w' hb => ⟨hb, (k6.belowS hb).cell 0, (k6.belowS hb).cell 1, (kx6.belowS hb).cell 0, (kx6.belowS hb).cell 1⟩
    have HS := Lib.hid hS
    clear hS c60 c61 x60 x61
    go_region_held3 (fun w' => Below w6.heap.size w6 w' ∧ w'.cell? ⟨w.heap.size, 0, none⟩ = some (.int .i64 d.1) ∧ w'.cell? ⟨w.heap.size, 1, none⟩ = some (.slice a0 n0 c0) ∧ w'.cell? ⟨w4.heap.size, 0, none⟩ = some (.int .i64 d.1) ∧ w'.cell? ⟨w4.heap.size, 1, none⟩ = some (.slice a4 n4 c4))
      (first | exact HS.out _ (below_drew1 _) | exact HS.out _ (below_tr (by assumption) (And.left (by assumption))))
      (first | (go_at_call 25; refine (law_toP _ (r0.below ?_) hsm).mono ?_; (exact below_tr (And.left (by assumption)) B6); rintro e w7 ⟨u7, rfl, o7, b7⟩) | (go_at_call 27; refine (law_eqP _ (o6.below (And.left (by assumption))).rd (OwP.rd (by assumption))).mono ?_; rintro e w8 ⟨rfl, b8⟩))
    have q8 : Below w6.heap.size w6 w8 := And.left (by assumption)
    go_wp2
    go_ret
    exact ⟨rfl, below_tr q8 B6⟩
end Go.Proofs.Ytplmfanjbokckaa
