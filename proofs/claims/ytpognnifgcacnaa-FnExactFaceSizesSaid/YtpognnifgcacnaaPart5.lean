/- The walk of FnExactFaceSizes: true, whatever the arguments. Written by genwalk.py. -/
import Derived.Test.YtpognnifgcacnaaPart1
import Derived.Test.YtpognnifgcacnaaPart4
import Derived.Deep.RegionHeld3
namespace Go.Proofs.Ytpognnifgcacnaa
open Go.RowKit

set_option maxHeartbeats 3200000 in
theorem walkFaceSizes {v0 : Value} {d : List (List Int)} (w : World) (h0 : RdM w v0 d) :
    Calls Try.prog 7 #[v0] w fun e w' => e = .returned (.bool true) ∧ Below w.heap.size w w' := by
  have hsz := fsR_small d
  obtain ⟨a0, n0, c0, rfl, hi0⟩ := h0
  have h0 : RdM w (.agg #[.slice a0 n0 c0]) d := ⟨a0, n0, c0, rfl, hi0⟩
  clear hi0
  have B0 : Below w.heap.size w (w.alloc (.cells #[.slice a0 n0 c0] 47)) := below_alloc1 w _
  have kb0_0 : Blk (w.alloc (.cells #[.slice a0 n0 c0] 47)) (w.heap.size) 47 #[.slice a0 n0 c0] := (blk_at rfl)
  by_cases hx0 : budget1 1048576 (d.length + lenSS d) < 0
  · go_enter Try.func7, Try.ntmps7
    go_wp2_with fail
    refine (law_usM (1048576) _ (h0.below B0) (by omega) (by omega)).mono ?_
    rintro e w1 ⟨rfl, b1⟩
    have s1 := b1.size
    have B1 : Below w.heap.size w w1 := B0.trans (b1.mono B0.size)
    have kb0_1 : Blk w1 (w.heap.size) 47 #[.slice a0 n0 c0] := (kb0_0.belowS b1)
    have xkb0_1_0 : w1.cell? ⟨w.heap.size, 0, none⟩ = some (.slice a0 n0 c0) := kb0_1.cell 0
    have lkb0_1 : w.heap.size < w1.heap.size := kb0_1.lt
    go_wp2
    go_ret
    exact ⟨rfl, B1⟩
  · obtain ⟨ht0, he0⟩ := budget1_at hx0
    have hn0 : 0 ≤ budget1 1048576 (d.length + lenSS d) := by omega
    have hm0 : budget1 1048576 (d.length + lenSS d) ≤ 1048576 := by omega
    have HE0 := Lib.hid he0
    clear he0 hx0
    go_enter Try.func7, Try.ntmps7
    go_wp2_with fail
    refine (law_usM (1048576) _ (h0.below B0) (by omega) (by omega)).mono ?_
    rintro e w1 ⟨rfl, b1⟩
    have s1 := b1.size
    have B1 : Below w.heap.size w w1 := B0.trans (b1.mono B0.size)
    have kb0_1 : Blk w1 (w.heap.size) 47 #[.slice a0 n0 c0] := (kb0_0.belowS b1)
    have xkb0_1_0 : w1.cell? ⟨w.heap.size, 0, none⟩ = some (.slice a0 n0 c0) := kb0_1.cell 0
    have lkb0_1 : w.heap.size < w1.heap.size := kb0_1.lt
    go_wp2_with fail
    refine (law_toM _ (h0.below B1) (by omega)).mono ?_
    rintro e w2 ⟨u2, rfl, o2, b2⟩
    have s2 := b2.size
    have B2 : Below w.heap.size w w2 := B1.trans (b2.mono B1.size)
    have kb0_2 : Blk w2 (w.heap.size) 47 #[.slice a0 n0 c0] := (kb0_1.belowS b2)
    have xkb0_2_0 : w2.cell? ⟨w.heap.size, 0, none⟩ = some (.slice a0 n0 c0) := kb0_2.cell 0
    have lkb0_2 : w.heap.size < w2.heap.size := kb0_2.lt
    clear xkb0_1_0
    go_wp2_with fail
    refine (api_specFs  _ o2 (by omega)).mono ?_
    rintro e w3 ⟨u3_0, rfl, o3_0, b3⟩
    have s3 := b3.size
    have B3 : Below w.heap.size w w3 := B2.trans (b3.mono B2.size)
    have kb0_3 : Blk w3 (w.heap.size) 47 #[.slice a0 n0 c0] := (kb0_2.belowS b3)
    have xkb0_3_0 : w3.cell? ⟨w.heap.size, 0, none⟩ = some (.slice a0 n0 c0) := kb0_3.cell 0
    have lkb0_3 : w.heap.size < w3.heap.size := kb0_3.lt
    clear xkb0_2_0
    go_wp2_with fail
    refine (law_toM _ (h0.below B3) (by omega)).mono ?_
    rintro e w4 ⟨u4, rfl, o4, b4⟩
    obtain ⟨au4, nu4, cu4, rfl⟩ := o4.form
    have s4 := b4.size
    have B4 : Below w.heap.size w w4 := B3.trans (b4.mono B3.size)
    have kb0_4 : Blk w4 (w.heap.size) 47 #[.slice a0 n0 c0] := (kb0_3.belowS b4)
    have xkb0_4_0 : w4.cell? ⟨w.heap.size, 0, none⟩ = some (.slice a0 n0 c0) := kb0_4.cell 0
    have lkb0_4 : w.heap.size < w4.heap.size := kb0_4.lt
    clear xkb0_3_0
    go_wp2_with fail
    have bx5 := below_alloc1 w4 (.cells #[.slice au4 nu4 cu4] 41)
    have kbx0_5 : Blk (w4.alloc (.cells #[.slice au4 nu4 cu4] 41)) w4.heap.size 41 #[.slice au4 nu4 cu4] := blk_at rfl
    generalize w4.alloc (.cells #[.slice au4 nu4 cu4] 41) = w5 at *
    have s5 := bx5.size
    have B5 : Below w.heap.size w w5 := B4.trans (bx5.mono B4.size)
    have kb0_5 : Blk w5 (w.heap.size) 47 #[.slice a0 n0 c0] := (kb0_4.belowS bx5)
    have xkb0_5_0 : w5.cell? ⟨w.heap.size, 0, none⟩ = some (.slice a0 n0 c0) := kb0_5.cell 0
    have lkb0_5 : w.heap.size < w5.heap.size := kb0_5.lt
    have xkbx0_5_0 : w5.cell? ⟨w4.heap.size, 0, none⟩ = some (.slice au4 nu4 cu4) := kbx0_5.cell 0
    have lkbx0_5 : w4.heap.size < w5.heap.size := kbx0_5.lt
    clear xkb0_4_0
    refine (api_implFs  _ (o4.below bx5) (by omega)).mono ?_
    rintro e w6 ⟨u6_0, rfl, o6_0, b6⟩
    have s6 := b6.size
    have B6 : Below w.heap.size w w6 := B5.trans (b6.mono B5.size)
    have kb0_6 : Blk w6 (w.heap.size) 47 #[.slice a0 n0 c0] := (kb0_5.belowS b6)
    have xkb0_6_0 : w6.cell? ⟨w.heap.size, 0, none⟩ = some (.slice a0 n0 c0) := kb0_6.cell 0
    have lkb0_6 : w.heap.size < w6.heap.size := kb0_6.lt
    have kbx0_6 : Blk w6 (w4.heap.size) 41 #[.slice au4 nu4 cu4] := (kbx0_5.belowS b6)
    have xkbx0_6_0 : w6.cell? ⟨w4.heap.size, 0, none⟩ = some (.slice au4 nu4 cu4) := kbx0_6.cell 0
    have lkbx0_6 : w4.heap.size < w6.heap.size := kbx0_6.lt
    clear xkb0_5_0 xkbx0_5_0
    go_wp2_with fail
    refine (law_eqS _ o6_0.rd (((o3_0.below b4).below bx5).below b6).rd).mono ?_
    rintro e w7 ⟨rfl, b7⟩
    have s7 := b7.size
    have B7 : Below w.heap.size w w7 := B6.trans (b7.mono B6.size)
    have kb0_7 : Blk w7 (w.heap.size) 47 #[.slice a0 n0 c0] := (kb0_6.belowS b7)
    have xkb0_7_0 : w7.cell? ⟨w.heap.size, 0, none⟩ = some (.slice a0 n0 c0) := kb0_7.cell 0
    have lkb0_7 : w.heap.size < w7.heap.size := kb0_7.lt
    have kbx0_7 : Blk w7 (w4.heap.size) 41 #[.slice au4 nu4 cu4] := (kbx0_6.belowS b7)
    have xkbx0_7_0 : w7.cell? ⟨w4.heap.size, 0, none⟩ = some (.slice au4 nu4 cu4) := kbx0_7.cell 0
    have lkbx0_7 : w4.heap.size < w7.heap.size := kbx0_7.lt
    clear xkb0_6_0 xkbx0_6_0
    go_wp2_with fail
    have hS7 : ∀ w', Below w7.heap.size w7 w' → (Below w7.heap.size w7 w' ∧ w'.cell? ⟨w.heap.size, 0, none⟩ = some (.slice a0 n0 c0) ∧ w'.cell? ⟨w4.heap.size, 0, none⟩ = some (.slice au4 nu4 cu4)) := fun w' hb => ⟨hb, (kb0_7.belowS hb).cell 0, (kbx0_7.belowS hb).cell 0⟩
    have HS7 := Lib.hid hS7
    clear hS7 xkb0_7_0 xkbx0_7_0
    go_region_held3 (fun w' => Below w7.heap.size w7 w' ∧ w'.cell? ⟨w.heap.size, 0, none⟩ = some (.slice a0 n0 c0) ∧ w'.cell? ⟨w4.heap.size, 0, none⟩ = some (.slice au4 nu4 cu4))
      (first | exact HS7.out _ (below_drew1 _) | exact HS7.out _ (below_tr (by assumption) (And.left (by assumption))))
      (first | (go_at_call 33; refine (law_toM _ (h0.below ?_) (by omega)).mono ?_; (exact below_tr (And.left (by assumption)) B7); rintro e w907 ⟨u907, rfl, o907, bt907⟩) | (go_at_call 28; refine (law_eqM _ ((((o4.below bx5).below b6).below b7).below (And.left (by assumption))).rd (OwM.rd (by assumption))).mono ?_; rintro e w8 ⟨rfl, be8⟩))
    have b8 : Below w7.heap.size w7 w8 := And.left (by assumption)
    have s8 := b8.size
    have B8 : Below w.heap.size w w8 := B7.trans (b8.mono B7.size)
    have kb0_8 : Blk w8 (w.heap.size) 47 #[.slice a0 n0 c0] := (kb0_7.belowS b8)
    have xkb0_8_0 : w8.cell? ⟨w.heap.size, 0, none⟩ = some (.slice a0 n0 c0) := kb0_8.cell 0
    have lkb0_8 : w.heap.size < w8.heap.size := kb0_8.lt
    have kbx0_8 : Blk w8 (w4.heap.size) 41 #[.slice au4 nu4 cu4] := (kbx0_7.belowS b8)
    have xkbx0_8_0 : w8.cell? ⟨w4.heap.size, 0, none⟩ = some (.slice au4 nu4 cu4) := kbx0_8.cell 0
    have lkbx0_8 : w4.heap.size < w8.heap.size := kbx0_8.lt
    go_wp2_with fail
    refine (law_markM (1) _ ((((o4.below bx5).below b6).below b7).below b8) (by omega) (by omega)).mono ?_
    rintro e w9 ⟨rfl, o9, q9⟩
    have s9 := q9.size
    have B9 : Below w.heap.size w w9 := B8.trans (q9.below (by omega) B8.size)
    have kb0_9 : Blk w9 (w.heap.size) 47 #[.slice a0 n0 c0] := (kb0_8.only q9 (by omega))
    have xkb0_9_0 : w9.cell? ⟨w.heap.size, 0, none⟩ = some (.slice a0 n0 c0) := kb0_9.cell 0
    have lkb0_9 : w.heap.size < w9.heap.size := kb0_9.lt
    have kbx0_9 : Blk w9 (w4.heap.size) 41 #[.slice au4 nu4 cu4] := (kbx0_8.only q9 (by omega))
    have xkbx0_9_0 : w9.cell? ⟨w4.heap.size, 0, none⟩ = some (.slice au4 nu4 cu4) := kbx0_9.cell 0
    have lkbx0_9 : w4.heap.size < w9.heap.size := kbx0_9.lt
    clear xkb0_8_0 xkbx0_8_0
    go_wp2_with fail
    refine (law_eqS _ (((o6_0.below b7).below b8).only q9 (by omega)).rd ((((((o3_0.below b4).below bx5).below b6).below b7).below b8).only q9 (by omega)).rd).mono ?_
    rintro e w10 ⟨rfl, b10⟩
    have s10 := b10.size
    have B10 : Below w.heap.size w w10 := B9.trans (b10.mono B9.size)
    have kb0_10 : Blk w10 (w.heap.size) 47 #[.slice a0 n0 c0] := (kb0_9.belowS b10)
    have xkb0_10_0 : w10.cell? ⟨w.heap.size, 0, none⟩ = some (.slice a0 n0 c0) := kb0_10.cell 0
    have lkb0_10 : w.heap.size < w10.heap.size := kb0_10.lt
    have kbx0_10 : Blk w10 (w4.heap.size) 41 #[.slice au4 nu4 cu4] := (kbx0_9.belowS b10)
    have xkbx0_10_0 : w10.cell? ⟨w4.heap.size, 0, none⟩ = some (.slice au4 nu4 cu4) := kbx0_10.cell 0
    have lkbx0_10 : w4.heap.size < w10.heap.size := kbx0_10.lt
    clear xkb0_9_0 xkbx0_9_0
    go_wp2_with fail
    refine (law_markS (1) _ ((((o6_0.below b7).below b8).only q9 (by omega)).below b10) (by omega) (by omega)).mono ?_
    rintro e w11 ⟨rfl, o11, q11⟩
    have s11 := q11.size
    have B11 : Below w.heap.size w w11 := B10.trans (q11.below (by omega) B10.size)
    have kb0_11 : Blk w11 (w.heap.size) 47 #[.slice a0 n0 c0] := (kb0_10.only q11 (by omega))
    have xkb0_11_0 : w11.cell? ⟨w.heap.size, 0, none⟩ = some (.slice a0 n0 c0) := kb0_11.cell 0
    have lkb0_11 : w.heap.size < w11.heap.size := kb0_11.lt
    have kbx0_11 : Blk w11 (w4.heap.size) 41 #[.slice au4 nu4 cu4] := (kbx0_10.only q11 (by omega))
    have xkbx0_11_0 : w11.cell? ⟨w4.heap.size, 0, none⟩ = some (.slice au4 nu4 cu4) := kbx0_11.cell 0
    have lkbx0_11 : w4.heap.size < w11.heap.size := kbx0_11.lt
    clear xkb0_10_0 xkbx0_10_0
    go_wp2_with fail
    refine (law_heldS (1) _ o11.rd (by omega) (by omega)).mono ?_
    rintro e w12 ⟨rfl, b12⟩
    have s12 := b12.size
    have B12 : Below w.heap.size w w12 := B11.trans (b12.mono B11.size)
    have kb0_12 : Blk w12 (w.heap.size) 47 #[.slice a0 n0 c0] := (kb0_11.belowS b12)
    have xkb0_12_0 : w12.cell? ⟨w.heap.size, 0, none⟩ = some (.slice a0 n0 c0) := kb0_12.cell 0
    have lkb0_12 : w.heap.size < w12.heap.size := kb0_12.lt
    have kbx0_12 : Blk w12 (w4.heap.size) 41 #[.slice au4 nu4 cu4] := (kbx0_11.belowS b12)
    have xkbx0_12_0 : w12.cell? ⟨w4.heap.size, 0, none⟩ = some (.slice au4 nu4 cu4) := kbx0_12.cell 0
    have lkbx0_12 : w4.heap.size < w12.heap.size := kbx0_12.lt
    clear xkb0_11_0 xkbx0_11_0
    go_wp2_with fail
    refine (law_toM _ (h0.below B12) (by omega)).mono ?_
    rintro e w13 ⟨u13, rfl, o13, b13⟩
    have s13 := b13.size
    have B13 : Below w.heap.size w w13 := B12.trans (b13.mono B12.size)
    have kb0_13 : Blk w13 (w.heap.size) 47 #[.slice a0 n0 c0] := (kb0_12.belowS b13)
    have xkb0_13_0 : w13.cell? ⟨w.heap.size, 0, none⟩ = some (.slice a0 n0 c0) := kb0_13.cell 0
    have lkb0_13 : w.heap.size < w13.heap.size := kb0_13.lt
    have kbx0_13 : Blk w13 (w4.heap.size) 41 #[.slice au4 nu4 cu4] := (kbx0_12.belowS b13)
    have xkbx0_13_0 : w13.cell? ⟨w4.heap.size, 0, none⟩ = some (.slice au4 nu4 cu4) := kbx0_13.cell 0
    have lkbx0_13 : w4.heap.size < w13.heap.size := kbx0_13.lt
    clear xkb0_12_0 xkbx0_12_0
    go_wp2_with fail
    refine (api_implFs  _ o13 (by omega)).mono ?_
    rintro e w14 ⟨u14_0, rfl, o14_0, b14⟩
    have s14 := b14.size
    have B14 : Below w.heap.size w w14 := B13.trans (b14.mono B13.size)
    have kb0_14 : Blk w14 (w.heap.size) 47 #[.slice a0 n0 c0] := (kb0_13.belowS b14)
    have xkb0_14_0 : w14.cell? ⟨w.heap.size, 0, none⟩ = some (.slice a0 n0 c0) := kb0_14.cell 0
    have lkb0_14 : w.heap.size < w14.heap.size := kb0_14.lt
    have kbx0_14 : Blk w14 (w4.heap.size) 41 #[.slice au4 nu4 cu4] := (kbx0_13.belowS b14)
    have xkbx0_14_0 : w14.cell? ⟨w4.heap.size, 0, none⟩ = some (.slice au4 nu4 cu4) := kbx0_14.cell 0
    have lkbx0_14 : w4.heap.size < w14.heap.size := kbx0_14.lt
    clear xkb0_13_0 xkbx0_13_0
    go_wp2_with fail
    refine (law_eqS _ o14_0.rd (((((((((((o3_0.below b4).below bx5).below b6).below b7).below b8).only q9 (by omega)).below b10).only q11 (by omega)).below b12).below b13).below b14).rd).mono ?_
    rintro e w15 ⟨rfl, b15⟩
    have s15 := b15.size
    have B15 : Below w.heap.size w w15 := B14.trans (b15.mono B14.size)
    have kb0_15 : Blk w15 (w.heap.size) 47 #[.slice a0 n0 c0] := (kb0_14.belowS b15)
    have xkb0_15_0 : w15.cell? ⟨w.heap.size, 0, none⟩ = some (.slice a0 n0 c0) := kb0_15.cell 0
    have lkb0_15 : w.heap.size < w15.heap.size := kb0_15.lt
    have kbx0_15 : Blk w15 (w4.heap.size) 41 #[.slice au4 nu4 cu4] := (kbx0_14.belowS b15)
    have xkbx0_15_0 : w15.cell? ⟨w4.heap.size, 0, none⟩ = some (.slice au4 nu4 cu4) := kbx0_15.cell 0
    have lkbx0_15 : w4.heap.size < w15.heap.size := kbx0_15.lt
    clear xkb0_14_0 xkbx0_14_0
    go_wp2_with fail
    refine (law_heldS (1) _ ((((o11.below b12).below b13).below b14).below b15).rd (by omega) (by omega)).mono ?_
    rintro e w16 ⟨rfl, b16⟩
    have s16 := b16.size
    have B16 : Below w.heap.size w w16 := B15.trans (b16.mono B15.size)
    have kb0_16 : Blk w16 (w.heap.size) 47 #[.slice a0 n0 c0] := (kb0_15.belowS b16)
    have xkb0_16_0 : w16.cell? ⟨w.heap.size, 0, none⟩ = some (.slice a0 n0 c0) := kb0_16.cell 0
    have lkb0_16 : w.heap.size < w16.heap.size := kb0_16.lt
    have kbx0_16 : Blk w16 (w4.heap.size) 41 #[.slice au4 nu4 cu4] := (kbx0_15.belowS b16)
    have xkbx0_16_0 : w16.cell? ⟨w4.heap.size, 0, none⟩ = some (.slice au4 nu4 cu4) := kbx0_16.cell 0
    have lkbx0_16 : w4.heap.size < w16.heap.size := kbx0_16.lt
    clear xkb0_15_0 xkbx0_15_0
    go_wp2
    go_ret
    exact ⟨rfl, B16⟩
end Go.Proofs.Ytpognnifgcacnaa
