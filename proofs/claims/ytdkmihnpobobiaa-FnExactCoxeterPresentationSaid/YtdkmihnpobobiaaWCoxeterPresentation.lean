/- The walk of FnExactCoxeterPresentation: true, whatever the arguments. Written by genwalk.py. -/
import Derived.Test.YtdkmihnpobobiaaLawS
import Derived.Test.YtdkmihnpobobiaaLawPM
import Derived.Test.Ytdkmihnpobobiaa12CoxD
namespace Go.Proofs.Ytdkmihnpobobiaa
open Go.RowKit

set_option maxHeartbeats 3200000 in
theorem walkCoxeterPresentation {a0 : Option Addr} {n0 c0 : Nat} {zs : List Int} (w : World) (h0 : Ints w a0 n0 zs) :
    Calls Try.prog 3 #[.slice a0 n0 c0] w fun e w' => e = .returned (.bool true) ∧ Below w.heap.size w w' := by
  have hsz := coxR_small zs
  have B0 : Below w.heap.size w w := Below.refl _ _
  have hb0 := h0.2.1
  by_cases hs0 : n0 ≤ 1048576
  · have g0 : decide ((1048576 : Int) < n0) = false := by simp; omega
    have hl0 : zs.length = n0 := h0.1
    have HL0 := Lib.hid hl0
    clear hl0
    go_enter Try.func3, Try.ntmps3
    go_wp2_with fail
    refine (law_toS _ (show RdS _ _ _ from ⟨_, _, _, rfl, (h0.below B0)⟩) (by rw [HL0.out]; omega)).mono ?_
    rintro e w1 ⟨u1, rfl, o1, b1⟩
    have s1 := b1.size
    have B1 : Below w.heap.size w w1 := B0.trans (b1.mono B0.size)
    go_wp2_with fail
    refine (api_specCoxeter  _ o1.rd ).mono ?_
    rintro e w2 ⟨u2_0, rfl, o2_0, b2⟩
    obtain ⟨au2_0, nu2_0, cu2_0, rfl⟩ := o2_0.form
    have s2 := b2.size
    have B2 : Below w.heap.size w w2 := B1.trans (b2.mono B1.size)
    go_wp2_with fail
    have bx3 := below_alloc1 w2 (.cells #[.int .i64 (coxR zs).1, .slice au2_0 nu2_0 cu2_0] 25)
    have kbw0_3 : Blk (w2.alloc (.cells #[.int .i64 (coxR zs).1, .slice au2_0 nu2_0 cu2_0] 25)) w2.heap.size 25 #[.int .i64 (coxR zs).1, .slice au2_0 nu2_0 cu2_0] := blk_at rfl
    generalize w2.alloc (.cells #[.int .i64 (coxR zs).1, .slice au2_0 nu2_0 cu2_0] 25) = w3 at *
    have s3 := bx3.size
    have B3 : Below w.heap.size w w3 := B2.trans (bx3.mono B2.size)
    have xkbw0_3_0 : w3.cell? ⟨w2.heap.size, 0, none⟩ = some (.int .i64 (coxR zs).1) := kbw0_3.cell 0
    have xkbw0_3_1 : w3.cell? ⟨w2.heap.size, 1, none⟩ = some (.slice au2_0 nu2_0 cu2_0) := kbw0_3.cell 1
    have lkbw0_3 : w2.heap.size < w3.heap.size := kbw0_3.lt
    refine (law_toS _ (show RdS _ _ _ from ⟨_, _, _, rfl, (h0.below B3)⟩) (by rw [HL0.out]; omega)).mono ?_
    rintro e w4 ⟨u4, rfl, o4, b4⟩
    have s4 := b4.size
    have B4 : Below w.heap.size w w4 := B3.trans (b4.mono B3.size)
    have kbw0_4 : Blk w4 (w2.heap.size) 25 #[.int .i64 (coxR zs).1, .slice au2_0 nu2_0 cu2_0] := (kbw0_3.belowS b4)
    have xkbw0_4_0 : w4.cell? ⟨w2.heap.size, 0, none⟩ = some (.int .i64 (coxR zs).1) := kbw0_4.cell 0
    have xkbw0_4_1 : w4.cell? ⟨w2.heap.size, 1, none⟩ = some (.slice au2_0 nu2_0 cu2_0) := kbw0_4.cell 1
    have lkbw0_4 : w2.heap.size < w4.heap.size := kbw0_4.lt
    clear xkbw0_3_0 xkbw0_3_1
    go_wp2_with fail
    refine (api_implCoxeter  _ o4.rd ).mono ?_
    rintro e w5 ⟨u5_0, rfl, o5_0, b5⟩
    obtain ⟨au5_0, nu5_0, cu5_0, rfl⟩ := o5_0.form
    have s5 := b5.size
    have B5 : Below w.heap.size w w5 := B4.trans (b5.mono B4.size)
    have kbw0_5 : Blk w5 (w2.heap.size) 25 #[.int .i64 (coxR zs).1, .slice au2_0 nu2_0 cu2_0] := (kbw0_4.belowS b5)
    have xkbw0_5_0 : w5.cell? ⟨w2.heap.size, 0, none⟩ = some (.int .i64 (coxR zs).1) := kbw0_5.cell 0
    have xkbw0_5_1 : w5.cell? ⟨w2.heap.size, 1, none⟩ = some (.slice au2_0 nu2_0 cu2_0) := kbw0_5.cell 1
    have lkbw0_5 : w2.heap.size < w5.heap.size := kbw0_5.lt
    clear xkbw0_4_0 xkbw0_4_1
    go_wp2_with fail
    have bx6 := below_alloc1 w5 (.cells #[.int .i64 (coxR zs).1, .slice au5_0 nu5_0 cu5_0] 25)
    have kbg0_6 : Blk (w5.alloc (.cells #[.int .i64 (coxR zs).1, .slice au5_0 nu5_0 cu5_0] 25)) w5.heap.size 25 #[.int .i64 (coxR zs).1, .slice au5_0 nu5_0 cu5_0] := blk_at rfl
    generalize w5.alloc (.cells #[.int .i64 (coxR zs).1, .slice au5_0 nu5_0 cu5_0] 25) = w6 at *
    have s6 := bx6.size
    have B6 : Below w.heap.size w w6 := B5.trans (bx6.mono B5.size)
    have kbw0_6 : Blk w6 (w2.heap.size) 25 #[.int .i64 (coxR zs).1, .slice au2_0 nu2_0 cu2_0] := (kbw0_5.belowS bx6)
    have xkbw0_6_0 : w6.cell? ⟨w2.heap.size, 0, none⟩ = some (.int .i64 (coxR zs).1) := kbw0_6.cell 0
    have xkbw0_6_1 : w6.cell? ⟨w2.heap.size, 1, none⟩ = some (.slice au2_0 nu2_0 cu2_0) := kbw0_6.cell 1
    have lkbw0_6 : w2.heap.size < w6.heap.size := kbw0_6.lt
    have xkbg0_6_0 : w6.cell? ⟨w5.heap.size, 0, none⟩ = some (.int .i64 (coxR zs).1) := kbg0_6.cell 0
    have xkbg0_6_1 : w6.cell? ⟨w5.heap.size, 1, none⟩ = some (.slice au5_0 nu5_0 cu5_0) := kbg0_6.cell 1
    have lkbg0_6 : w5.heap.size < w6.heap.size := kbg0_6.lt
    clear xkbw0_5_0 xkbw0_5_1
    refine (law_eqP _ (o5_0.below bx6).rd ((((o2_0.below bx3).below b4).below b5).below bx6).rd).mono ?_
    rintro e w7 ⟨rfl, b7⟩
    have s7 := b7.size
    have B7 : Below w.heap.size w w7 := B6.trans (b7.mono B6.size)
    have kbw0_7 : Blk w7 (w2.heap.size) 25 #[.int .i64 (coxR zs).1, .slice au2_0 nu2_0 cu2_0] := (kbw0_6.belowS b7)
    have xkbw0_7_0 : w7.cell? ⟨w2.heap.size, 0, none⟩ = some (.int .i64 (coxR zs).1) := kbw0_7.cell 0
    have xkbw0_7_1 : w7.cell? ⟨w2.heap.size, 1, none⟩ = some (.slice au2_0 nu2_0 cu2_0) := kbw0_7.cell 1
    have lkbw0_7 : w2.heap.size < w7.heap.size := kbw0_7.lt
    have kbg0_7 : Blk w7 (w5.heap.size) 25 #[.int .i64 (coxR zs).1, .slice au5_0 nu5_0 cu5_0] := (kbg0_6.belowS b7)
    have xkbg0_7_0 : w7.cell? ⟨w5.heap.size, 0, none⟩ = some (.int .i64 (coxR zs).1) := kbg0_7.cell 0
    have xkbg0_7_1 : w7.cell? ⟨w5.heap.size, 1, none⟩ = some (.slice au5_0 nu5_0 cu5_0) := kbg0_7.cell 1
    have lkbg0_7 : w5.heap.size < w7.heap.size := kbg0_7.lt
    clear xkbw0_6_0 xkbw0_6_1 xkbg0_6_0 xkbg0_6_1
    go_wp2_with fail
    refine (law_toS _ (show RdS _ _ _ from ⟨_, _, _, rfl, (h0.below B7)⟩) (by rw [HL0.out]; omega)).mono ?_
    rintro e w8 ⟨u8, rfl, o8, b8⟩
    have s8 := b8.size
    have B8 : Below w.heap.size w w8 := B7.trans (b8.mono B7.size)
    have kbw0_8 : Blk w8 (w2.heap.size) 25 #[.int .i64 (coxR zs).1, .slice au2_0 nu2_0 cu2_0] := (kbw0_7.belowS b8)
    have xkbw0_8_0 : w8.cell? ⟨w2.heap.size, 0, none⟩ = some (.int .i64 (coxR zs).1) := kbw0_8.cell 0
    have xkbw0_8_1 : w8.cell? ⟨w2.heap.size, 1, none⟩ = some (.slice au2_0 nu2_0 cu2_0) := kbw0_8.cell 1
    have lkbw0_8 : w2.heap.size < w8.heap.size := kbw0_8.lt
    have kbg0_8 : Blk w8 (w5.heap.size) 25 #[.int .i64 (coxR zs).1, .slice au5_0 nu5_0 cu5_0] := (kbg0_7.belowS b8)
    have xkbg0_8_0 : w8.cell? ⟨w5.heap.size, 0, none⟩ = some (.int .i64 (coxR zs).1) := kbg0_8.cell 0
    have xkbg0_8_1 : w8.cell? ⟨w5.heap.size, 1, none⟩ = some (.slice au5_0 nu5_0 cu5_0) := kbg0_8.cell 1
    have lkbg0_8 : w5.heap.size < w8.heap.size := kbg0_8.lt
    clear xkbw0_7_0 xkbw0_7_1 xkbg0_7_0 xkbg0_7_1
    go_wp2_with fail
    refine (law_eqS _ ((((o4.below b5).below bx6).below b7).below b8).rd o8.rd).mono ?_
    rintro e w9 ⟨rfl, b9⟩
    have s9 := b9.size
    have B9 : Below w.heap.size w w9 := B8.trans (b9.mono B8.size)
    have kbw0_9 : Blk w9 (w2.heap.size) 25 #[.int .i64 (coxR zs).1, .slice au2_0 nu2_0 cu2_0] := (kbw0_8.belowS b9)
    have xkbw0_9_0 : w9.cell? ⟨w2.heap.size, 0, none⟩ = some (.int .i64 (coxR zs).1) := kbw0_9.cell 0
    have xkbw0_9_1 : w9.cell? ⟨w2.heap.size, 1, none⟩ = some (.slice au2_0 nu2_0 cu2_0) := kbw0_9.cell 1
    have lkbw0_9 : w2.heap.size < w9.heap.size := kbw0_9.lt
    have kbg0_9 : Blk w9 (w5.heap.size) 25 #[.int .i64 (coxR zs).1, .slice au5_0 nu5_0 cu5_0] := (kbg0_8.belowS b9)
    have xkbg0_9_0 : w9.cell? ⟨w5.heap.size, 0, none⟩ = some (.int .i64 (coxR zs).1) := kbg0_9.cell 0
    have xkbg0_9_1 : w9.cell? ⟨w5.heap.size, 1, none⟩ = some (.slice au5_0 nu5_0 cu5_0) := kbg0_9.cell 1
    have lkbg0_9 : w5.heap.size < w9.heap.size := kbg0_9.lt
    clear xkbw0_8_0 xkbw0_8_1 xkbg0_8_0 xkbg0_8_1
    go_wp2_with fail
    refine (law_markS (1) _ (((((o4.below b5).below bx6).below b7).below b8).below b9) (by omega) (by omega)).mono ?_
    rintro e w10 ⟨rfl, o10, q10⟩
    have s10 := q10.size
    have B10 : Below w.heap.size w w10 := B9.trans (q10.below (by omega) B9.size)
    have kbw0_10 : Blk w10 (w2.heap.size) 25 #[.int .i64 (coxR zs).1, .slice au2_0 nu2_0 cu2_0] := (kbw0_9.only q10 (by omega))
    have xkbw0_10_0 : w10.cell? ⟨w2.heap.size, 0, none⟩ = some (.int .i64 (coxR zs).1) := kbw0_10.cell 0
    have xkbw0_10_1 : w10.cell? ⟨w2.heap.size, 1, none⟩ = some (.slice au2_0 nu2_0 cu2_0) := kbw0_10.cell 1
    have lkbw0_10 : w2.heap.size < w10.heap.size := kbw0_10.lt
    have kbg0_10 : Blk w10 (w5.heap.size) 25 #[.int .i64 (coxR zs).1, .slice au5_0 nu5_0 cu5_0] := (kbg0_9.only q10 (by omega))
    have xkbg0_10_0 : w10.cell? ⟨w5.heap.size, 0, none⟩ = some (.int .i64 (coxR zs).1) := kbg0_10.cell 0
    have xkbg0_10_1 : w10.cell? ⟨w5.heap.size, 1, none⟩ = some (.slice au5_0 nu5_0 cu5_0) := kbg0_10.cell 1
    have lkbg0_10 : w5.heap.size < w10.heap.size := kbg0_10.lt
    clear xkbw0_9_0 xkbw0_9_1 xkbg0_9_0 xkbg0_9_1
    go_wp2_with fail
    refine (law_eqP _ (((((o5_0.below bx6).below b7).below b8).below b9).only q10 (by omega)).rd ((((((((o2_0.below bx3).below b4).below b5).below bx6).below b7).below b8).below b9).only q10 (by omega)).rd).mono ?_
    rintro e w11 ⟨rfl, b11⟩
    have s11 := b11.size
    have B11 : Below w.heap.size w w11 := B10.trans (b11.mono B10.size)
    have kbw0_11 : Blk w11 (w2.heap.size) 25 #[.int .i64 (coxR zs).1, .slice au2_0 nu2_0 cu2_0] := (kbw0_10.belowS b11)
    have xkbw0_11_0 : w11.cell? ⟨w2.heap.size, 0, none⟩ = some (.int .i64 (coxR zs).1) := kbw0_11.cell 0
    have xkbw0_11_1 : w11.cell? ⟨w2.heap.size, 1, none⟩ = some (.slice au2_0 nu2_0 cu2_0) := kbw0_11.cell 1
    have lkbw0_11 : w2.heap.size < w11.heap.size := kbw0_11.lt
    have kbg0_11 : Blk w11 (w5.heap.size) 25 #[.int .i64 (coxR zs).1, .slice au5_0 nu5_0 cu5_0] := (kbg0_10.belowS b11)
    have xkbg0_11_0 : w11.cell? ⟨w5.heap.size, 0, none⟩ = some (.int .i64 (coxR zs).1) := kbg0_11.cell 0
    have xkbg0_11_1 : w11.cell? ⟨w5.heap.size, 1, none⟩ = some (.slice au5_0 nu5_0 cu5_0) := kbg0_11.cell 1
    have lkbg0_11 : w5.heap.size < w11.heap.size := kbg0_11.lt
    clear xkbw0_10_0 xkbw0_10_1 xkbg0_10_0 xkbg0_10_1
    go_wp2_with fail
    refine (law_markP (1) _ ((((((o5_0.below bx6).below b7).below b8).below b9).only q10 (by omega)).below b11) (by omega) (by omega)).mono ?_
    rintro e w12 ⟨rfl, o12, q12⟩
    have s12 := q12.size
    have B12 : Below w.heap.size w w12 := B11.trans (q12.below (by omega) B11.size)
    have kbw0_12 : Blk w12 (w2.heap.size) 25 #[.int .i64 (coxR zs).1, .slice au2_0 nu2_0 cu2_0] := (kbw0_11.only q12 (by omega))
    have xkbw0_12_0 : w12.cell? ⟨w2.heap.size, 0, none⟩ = some (.int .i64 (coxR zs).1) := kbw0_12.cell 0
    have xkbw0_12_1 : w12.cell? ⟨w2.heap.size, 1, none⟩ = some (.slice au2_0 nu2_0 cu2_0) := kbw0_12.cell 1
    have lkbw0_12 : w2.heap.size < w12.heap.size := kbw0_12.lt
    have kbg0_12 : Blk w12 (w5.heap.size) 25 #[.int .i64 (coxR zs).1, .slice au5_0 nu5_0 cu5_0] := (kbg0_11.only q12 (by omega))
    have xkbg0_12_0 : w12.cell? ⟨w5.heap.size, 0, none⟩ = some (.int .i64 (coxR zs).1) := kbg0_12.cell 0
    have xkbg0_12_1 : w12.cell? ⟨w5.heap.size, 1, none⟩ = some (.slice au5_0 nu5_0 cu5_0) := kbg0_12.cell 1
    have lkbg0_12 : w5.heap.size < w12.heap.size := kbg0_12.lt
    clear xkbw0_11_0 xkbw0_11_1 xkbg0_11_0 xkbg0_11_1
    go_wp2_with fail
    refine (law_heldP (1) _ o12.rd (by omega) (by omega)).mono ?_
    rintro e w13 ⟨rfl, b13⟩
    have s13 := b13.size
    have B13 : Below w.heap.size w w13 := B12.trans (b13.mono B12.size)
    have kbw0_13 : Blk w13 (w2.heap.size) 25 #[.int .i64 (coxR zs).1, .slice au2_0 nu2_0 cu2_0] := (kbw0_12.belowS b13)
    have xkbw0_13_0 : w13.cell? ⟨w2.heap.size, 0, none⟩ = some (.int .i64 (coxR zs).1) := kbw0_13.cell 0
    have xkbw0_13_1 : w13.cell? ⟨w2.heap.size, 1, none⟩ = some (.slice au2_0 nu2_0 cu2_0) := kbw0_13.cell 1
    have lkbw0_13 : w2.heap.size < w13.heap.size := kbw0_13.lt
    have kbg0_13 : Blk w13 (w5.heap.size) 25 #[.int .i64 (coxR zs).1, .slice au5_0 nu5_0 cu5_0] := (kbg0_12.belowS b13)
    have xkbg0_13_0 : w13.cell? ⟨w5.heap.size, 0, none⟩ = some (.int .i64 (coxR zs).1) := kbg0_13.cell 0
    have xkbg0_13_1 : w13.cell? ⟨w5.heap.size, 1, none⟩ = some (.slice au5_0 nu5_0 cu5_0) := kbg0_13.cell 1
    have lkbg0_13 : w5.heap.size < w13.heap.size := kbg0_13.lt
    clear xkbw0_12_0 xkbw0_12_1 xkbg0_12_0 xkbg0_12_1
    go_wp2_with fail
    refine (law_toS _ (show RdS _ _ _ from ⟨_, _, _, rfl, (h0.below B13)⟩) (by rw [HL0.out]; omega)).mono ?_
    rintro e w14 ⟨u14, rfl, o14, b14⟩
    have s14 := b14.size
    have B14 : Below w.heap.size w w14 := B13.trans (b14.mono B13.size)
    have kbw0_14 : Blk w14 (w2.heap.size) 25 #[.int .i64 (coxR zs).1, .slice au2_0 nu2_0 cu2_0] := (kbw0_13.belowS b14)
    have xkbw0_14_0 : w14.cell? ⟨w2.heap.size, 0, none⟩ = some (.int .i64 (coxR zs).1) := kbw0_14.cell 0
    have xkbw0_14_1 : w14.cell? ⟨w2.heap.size, 1, none⟩ = some (.slice au2_0 nu2_0 cu2_0) := kbw0_14.cell 1
    have lkbw0_14 : w2.heap.size < w14.heap.size := kbw0_14.lt
    have kbg0_14 : Blk w14 (w5.heap.size) 25 #[.int .i64 (coxR zs).1, .slice au5_0 nu5_0 cu5_0] := (kbg0_13.belowS b14)
    have xkbg0_14_0 : w14.cell? ⟨w5.heap.size, 0, none⟩ = some (.int .i64 (coxR zs).1) := kbg0_14.cell 0
    have xkbg0_14_1 : w14.cell? ⟨w5.heap.size, 1, none⟩ = some (.slice au5_0 nu5_0 cu5_0) := kbg0_14.cell 1
    have lkbg0_14 : w5.heap.size < w14.heap.size := kbg0_14.lt
    clear xkbw0_13_0 xkbw0_13_1 xkbg0_13_0 xkbg0_13_1
    go_wp2_with fail
    refine (api_implCoxeter  _ o14.rd ).mono ?_
    rintro e w15 ⟨u15_0, rfl, o15_0, b15⟩
    obtain ⟨au15_0, nu15_0, cu15_0, rfl⟩ := o15_0.form
    have s15 := b15.size
    have B15 : Below w.heap.size w w15 := B14.trans (b15.mono B14.size)
    have kbw0_15 : Blk w15 (w2.heap.size) 25 #[.int .i64 (coxR zs).1, .slice au2_0 nu2_0 cu2_0] := (kbw0_14.belowS b15)
    have xkbw0_15_0 : w15.cell? ⟨w2.heap.size, 0, none⟩ = some (.int .i64 (coxR zs).1) := kbw0_15.cell 0
    have xkbw0_15_1 : w15.cell? ⟨w2.heap.size, 1, none⟩ = some (.slice au2_0 nu2_0 cu2_0) := kbw0_15.cell 1
    have lkbw0_15 : w2.heap.size < w15.heap.size := kbw0_15.lt
    have kbg0_15 : Blk w15 (w5.heap.size) 25 #[.int .i64 (coxR zs).1, .slice au5_0 nu5_0 cu5_0] := (kbg0_14.belowS b15)
    have xkbg0_15_0 : w15.cell? ⟨w5.heap.size, 0, none⟩ = some (.int .i64 (coxR zs).1) := kbg0_15.cell 0
    have xkbg0_15_1 : w15.cell? ⟨w5.heap.size, 1, none⟩ = some (.slice au5_0 nu5_0 cu5_0) := kbg0_15.cell 1
    have lkbg0_15 : w5.heap.size < w15.heap.size := kbg0_15.lt
    clear xkbw0_14_0 xkbw0_14_1 xkbg0_14_0 xkbg0_14_1
    go_wp2_with fail
    have bx16 := below_alloc1 w15 (.cells #[.int .i64 (coxR zs).1, .slice au15_0 nu15_0 cu15_0] 25)
    have kbh0_16 : Blk (w15.alloc (.cells #[.int .i64 (coxR zs).1, .slice au15_0 nu15_0 cu15_0] 25)) w15.heap.size 25 #[.int .i64 (coxR zs).1, .slice au15_0 nu15_0 cu15_0] := blk_at rfl
    generalize w15.alloc (.cells #[.int .i64 (coxR zs).1, .slice au15_0 nu15_0 cu15_0] 25) = w16 at *
    have s16 := bx16.size
    have B16 : Below w.heap.size w w16 := B15.trans (bx16.mono B15.size)
    have kbw0_16 : Blk w16 (w2.heap.size) 25 #[.int .i64 (coxR zs).1, .slice au2_0 nu2_0 cu2_0] := (kbw0_15.belowS bx16)
    have xkbw0_16_0 : w16.cell? ⟨w2.heap.size, 0, none⟩ = some (.int .i64 (coxR zs).1) := kbw0_16.cell 0
    have xkbw0_16_1 : w16.cell? ⟨w2.heap.size, 1, none⟩ = some (.slice au2_0 nu2_0 cu2_0) := kbw0_16.cell 1
    have lkbw0_16 : w2.heap.size < w16.heap.size := kbw0_16.lt
    have kbg0_16 : Blk w16 (w5.heap.size) 25 #[.int .i64 (coxR zs).1, .slice au5_0 nu5_0 cu5_0] := (kbg0_15.belowS bx16)
    have xkbg0_16_0 : w16.cell? ⟨w5.heap.size, 0, none⟩ = some (.int .i64 (coxR zs).1) := kbg0_16.cell 0
    have xkbg0_16_1 : w16.cell? ⟨w5.heap.size, 1, none⟩ = some (.slice au5_0 nu5_0 cu5_0) := kbg0_16.cell 1
    have lkbg0_16 : w5.heap.size < w16.heap.size := kbg0_16.lt
    have xkbh0_16_0 : w16.cell? ⟨w15.heap.size, 0, none⟩ = some (.int .i64 (coxR zs).1) := kbh0_16.cell 0
    have xkbh0_16_1 : w16.cell? ⟨w15.heap.size, 1, none⟩ = some (.slice au15_0 nu15_0 cu15_0) := kbh0_16.cell 1
    have lkbh0_16 : w15.heap.size < w16.heap.size := kbh0_16.lt
    clear xkbw0_15_0 xkbw0_15_1 xkbg0_15_0 xkbg0_15_1
    refine (law_eqP _ (o15_0.below bx16).rd ((((((((((((((o2_0.below bx3).below b4).below b5).below bx6).below b7).below b8).below b9).only q10 (by omega)).below b11).only q12 (by omega)).below b13).below b14).below b15).below bx16).rd).mono ?_
    rintro e w17 ⟨rfl, b17⟩
    have s17 := b17.size
    have B17 : Below w.heap.size w w17 := B16.trans (b17.mono B16.size)
    have kbw0_17 : Blk w17 (w2.heap.size) 25 #[.int .i64 (coxR zs).1, .slice au2_0 nu2_0 cu2_0] := (kbw0_16.belowS b17)
    have xkbw0_17_0 : w17.cell? ⟨w2.heap.size, 0, none⟩ = some (.int .i64 (coxR zs).1) := kbw0_17.cell 0
    have xkbw0_17_1 : w17.cell? ⟨w2.heap.size, 1, none⟩ = some (.slice au2_0 nu2_0 cu2_0) := kbw0_17.cell 1
    have lkbw0_17 : w2.heap.size < w17.heap.size := kbw0_17.lt
    have kbg0_17 : Blk w17 (w5.heap.size) 25 #[.int .i64 (coxR zs).1, .slice au5_0 nu5_0 cu5_0] := (kbg0_16.belowS b17)
    have xkbg0_17_0 : w17.cell? ⟨w5.heap.size, 0, none⟩ = some (.int .i64 (coxR zs).1) := kbg0_17.cell 0
    have xkbg0_17_1 : w17.cell? ⟨w5.heap.size, 1, none⟩ = some (.slice au5_0 nu5_0 cu5_0) := kbg0_17.cell 1
    have lkbg0_17 : w5.heap.size < w17.heap.size := kbg0_17.lt
    have kbh0_17 : Blk w17 (w15.heap.size) 25 #[.int .i64 (coxR zs).1, .slice au15_0 nu15_0 cu15_0] := (kbh0_16.belowS b17)
    have xkbh0_17_0 : w17.cell? ⟨w15.heap.size, 0, none⟩ = some (.int .i64 (coxR zs).1) := kbh0_17.cell 0
    have xkbh0_17_1 : w17.cell? ⟨w15.heap.size, 1, none⟩ = some (.slice au15_0 nu15_0 cu15_0) := kbh0_17.cell 1
    have lkbh0_17 : w15.heap.size < w17.heap.size := kbh0_17.lt
    clear xkbw0_16_0 xkbw0_16_1 xkbg0_16_0 xkbg0_16_1 xkbh0_16_0 xkbh0_16_1
    go_wp2_with fail
    refine (law_heldP (1) _ (((((o12.below b13).below b14).below b15).below bx16).below b17).rd (by omega) (by omega)).mono ?_
    rintro e w18 ⟨rfl, b18⟩
    have s18 := b18.size
    have B18 : Below w.heap.size w w18 := B17.trans (b18.mono B17.size)
    have kbw0_18 : Blk w18 (w2.heap.size) 25 #[.int .i64 (coxR zs).1, .slice au2_0 nu2_0 cu2_0] := (kbw0_17.belowS b18)
    have xkbw0_18_0 : w18.cell? ⟨w2.heap.size, 0, none⟩ = some (.int .i64 (coxR zs).1) := kbw0_18.cell 0
    have xkbw0_18_1 : w18.cell? ⟨w2.heap.size, 1, none⟩ = some (.slice au2_0 nu2_0 cu2_0) := kbw0_18.cell 1
    have lkbw0_18 : w2.heap.size < w18.heap.size := kbw0_18.lt
    have kbg0_18 : Blk w18 (w5.heap.size) 25 #[.int .i64 (coxR zs).1, .slice au5_0 nu5_0 cu5_0] := (kbg0_17.belowS b18)
    have xkbg0_18_0 : w18.cell? ⟨w5.heap.size, 0, none⟩ = some (.int .i64 (coxR zs).1) := kbg0_18.cell 0
    have xkbg0_18_1 : w18.cell? ⟨w5.heap.size, 1, none⟩ = some (.slice au5_0 nu5_0 cu5_0) := kbg0_18.cell 1
    have lkbg0_18 : w5.heap.size < w18.heap.size := kbg0_18.lt
    have kbh0_18 : Blk w18 (w15.heap.size) 25 #[.int .i64 (coxR zs).1, .slice au15_0 nu15_0 cu15_0] := (kbh0_17.belowS b18)
    have xkbh0_18_0 : w18.cell? ⟨w15.heap.size, 0, none⟩ = some (.int .i64 (coxR zs).1) := kbh0_18.cell 0
    have xkbh0_18_1 : w18.cell? ⟨w15.heap.size, 1, none⟩ = some (.slice au15_0 nu15_0 cu15_0) := kbh0_18.cell 1
    have lkbh0_18 : w15.heap.size < w18.heap.size := kbh0_18.lt
    clear xkbw0_17_0 xkbw0_17_1 xkbg0_17_0 xkbg0_17_1 xkbh0_17_0 xkbh0_17_1
    go_wp2
    go_ret
    exact ⟨rfl, B18⟩
  · have g0 : decide ((1048576 : Int) < n0) = true := by simp; omega
    go_enter Try.func3, Try.ntmps3
    go_wp2
    go_ret
    exact ⟨rfl, Below.refl _ _⟩
end Go.Proofs.Ytdkmihnpobobiaa
