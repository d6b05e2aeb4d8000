/- The walk of FnExactCosetWords: true, whatever the arguments. Written by genwalk.py. -/
import Derived.Test.YtpjglifijdcgnaaPart1
import Derived.Test.YtpjglifijdcgnaaPart7
import Derived.Deep.RegionHeld3
namespace Go.Proofs.Ytpjglifijdcgnaa
open Go.RowKit

set_option maxHeartbeats 3200000 in
theorem walkCosetWords {v0 : Value} {d : PresD} {v1 : Value} {qs : List (List Int)} (w : World) (h0 : RdP w v0 d) (h1 : RdSS w v1 qs) :
    Calls Try.prog 12 #[v0, v1] w fun e w' => e = .returned (.bool true) ∧ Below w.heap.size w w' := by
  have hsz := cwR_small d qs
  obtain ⟨a0, n0, c0, rfl, hi0⟩ := h0
  have h0 : RdP w (.agg #[.int .i64 d.1, .slice a0 n0 c0]) d := ⟨a0, n0, c0, rfl, hi0⟩
  clear hi0
  have B0 : Below w.heap.size w (w.alloc (.cells #[.int .i64 d.1, .slice a0 n0 c0] 24)) := below_alloc1 w _
  have kb0_0 : Blk (w.alloc (.cells #[.int .i64 d.1, .slice a0 n0 c0] 24)) (w.heap.size) 24 #[.int .i64 d.1, .slice a0 n0 c0] := (blk_at rfl)
  by_cases hx0 : budget1 1048576 (d.2.length + lenSS d.2) < 0
  · go_enter Try.func12, Try.ntmps12
    go_wp2_with fail
    refine (law_usP (1048576) _ (h0.below B0) (by omega) (by omega)).mono ?_
    rintro e w1 ⟨rfl, b1⟩
    have s1 := b1.size
    have B1 : Below w.heap.size w w1 := B0.trans (b1.mono B0.size)
    have kb0_1 : Blk w1 (w.heap.size) 24 #[.int .i64 d.1, .slice a0 n0 c0] := (kb0_0.belowS b1)
    have xkb0_1_0 : w1.cell? ⟨w.heap.size, 0, none⟩ = some (.int .i64 d.1) := kb0_1.cell 0
    have xkb0_1_1 : w1.cell? ⟨w.heap.size, 1, none⟩ = some (.slice a0 n0 c0) := kb0_1.cell 1
    have lkb0_1 : w.heap.size < w1.heap.size := kb0_1.lt
    go_wp2
    go_ret
    exact ⟨rfl, B1⟩
  · obtain ⟨ht0, he0⟩ := budget1_at hx0
    have hn0 : 0 ≤ budget1 1048576 (d.2.length + lenSS d.2) := by omega
    have hm0 : budget1 1048576 (d.2.length + lenSS d.2) ≤ 1048576 := by omega
    have HE0 := Lib.hid he0
    clear he0 hx0
    by_cases hx1 : budget1 (budget1 1048576 (d.2.length + lenSS d.2)) (qs.length + lenSS qs) < 0
    · go_enter Try.func12, Try.ntmps12
      go_wp2_with fail
      refine (law_usP (1048576) _ (h0.below B0) (by omega) (by omega)).mono ?_
      rintro e w1 ⟨rfl, b1⟩
      have s1 := b1.size
      have B1 : Below w.heap.size w w1 := B0.trans (b1.mono B0.size)
      have kb0_1 : Blk w1 (w.heap.size) 24 #[.int .i64 d.1, .slice a0 n0 c0] := (kb0_0.belowS b1)
      have xkb0_1_0 : w1.cell? ⟨w.heap.size, 0, none⟩ = some (.int .i64 d.1) := kb0_1.cell 0
      have xkb0_1_1 : w1.cell? ⟨w.heap.size, 1, none⟩ = some (.slice a0 n0 c0) := kb0_1.cell 1
      have lkb0_1 : w.heap.size < w1.heap.size := kb0_1.lt
      go_wp2_with fail
      refine (law_usSS (budget1 1048576 (d.2.length + lenSS d.2)) _ (h1.below B1) (by omega) (by omega)).mono ?_
      rintro e w2 ⟨rfl, b2⟩
      have s2 := b2.size
      have B2 : Below w.heap.size w w2 := B1.trans (b2.mono B1.size)
      have kb0_2 : Blk w2 (w.heap.size) 24 #[.int .i64 d.1, .slice a0 n0 c0] := (kb0_1.belowS b2)
      have xkb0_2_0 : w2.cell? ⟨w.heap.size, 0, none⟩ = some (.int .i64 d.1) := kb0_2.cell 0
      have xkb0_2_1 : w2.cell? ⟨w.heap.size, 1, none⟩ = some (.slice a0 n0 c0) := kb0_2.cell 1
      have lkb0_2 : w.heap.size < w2.heap.size := kb0_2.lt
      clear xkb0_1_0 xkb0_1_1
      go_wp2
      go_ret
      exact ⟨rfl, B2⟩
    · obtain ⟨ht1, he1⟩ := budget1_at hx1
      have hn1 : 0 ≤ budget1 (budget1 1048576 (d.2.length + lenSS d.2)) (qs.length + lenSS qs) := by omega
      have hm1 : budget1 (budget1 1048576 (d.2.length + lenSS d.2)) (qs.length + lenSS qs) ≤ 1048576 := by omega
      have HE1 := Lib.hid he1
      clear he1 hx1
      go_enter Try.func12, Try.ntmps12
      go_wp2_with fail
      refine (law_usP (1048576) _ (h0.below B0) (by omega) (by omega)).mono ?_
      rintro e w1 ⟨rfl, b1⟩
      have s1 := b1.size
      have B1 : Below w.heap.size w w1 := B0.trans (b1.mono B0.size)
      have kb0_1 : Blk w1 (w.heap.size) 24 #[.int .i64 d.1, .slice a0 n0 c0] := (kb0_0.belowS b1)
      have xkb0_1_0 : w1.cell? ⟨w.heap.size, 0, none⟩ = some (.int .i64 d.1) := kb0_1.cell 0
      have xkb0_1_1 : w1.cell? ⟨w.heap.size, 1, none⟩ = some (.slice a0 n0 c0) := kb0_1.cell 1
      have lkb0_1 : w.heap.size < w1.heap.size := kb0_1.lt
      go_wp2_with fail
      refine (law_usSS (budget1 1048576 (d.2.length + lenSS d.2)) _ (h1.below B1) (by omega) (by omega)).mono ?_
      rintro e w2 ⟨rfl, b2⟩
      have s2 := b2.size
      have B2 : Below w.heap.size w w2 := B1.trans (b2.mono B1.size)
      have kb0_2 : Blk w2 (w.heap.size) 24 #[.int .i64 d.1, .slice a0 n0 c0] := (kb0_1.belowS b2)
      have xkb0_2_0 : w2.cell? ⟨w.heap.size, 0, none⟩ = some (.int .i64 d.1) := kb0_2.cell 0
      have xkb0_2_1 : w2.cell? ⟨w.heap.size, 1, none⟩ = some (.slice a0 n0 c0) := kb0_2.cell 1
      have lkb0_2 : w.heap.size < w2.heap.size := kb0_2.lt
      clear xkb0_1_0 xkb0_1_1
      go_wp2_with fail
      refine (law_toP _ (h0.below B2) (by omega)).mono ?_
      rintro e w3 ⟨u3, rfl, o3, b3⟩
      have s3 := b3.size
      have B3 : Below w.heap.size w w3 := B2.trans (b3.mono B2.size)
      have kb0_3 : Blk w3 (w.heap.size) 24 #[.int .i64 d.1, .slice a0 n0 c0] := (kb0_2.belowS b3)
      have xkb0_3_0 : w3.cell? ⟨w.heap.size, 0, none⟩ = some (.int .i64 d.1) := kb0_3.cell 0
      have xkb0_3_1 : w3.cell? ⟨w.heap.size, 1, none⟩ = some (.slice a0 n0 c0) := kb0_3.cell 1
      have lkb0_3 : w.heap.size < w3.heap.size := kb0_3.lt
      clear xkb0_2_0 xkb0_2_1
      go_wp2_with fail
      refine (law_toSS _ (h1.below B3) (by omega)).mono ?_
      rintro e w4 ⟨u4, rfl, o4, b4⟩
      have s4 := b4.size
      have B4 : Below w.heap.size w w4 := B3.trans (b4.mono B3.size)
      have kb0_4 : Blk w4 (w.heap.size) 24 #[.int .i64 d.1, .slice a0 n0 c0] := (kb0_3.belowS b4)
      have xkb0_4_0 : w4.cell? ⟨w.heap.size, 0, none⟩ = some (.int .i64 d.1) := kb0_4.cell 0
      have xkb0_4_1 : w4.cell? ⟨w.heap.size, 1, none⟩ = some (.slice a0 n0 c0) := kb0_4.cell 1
      have lkb0_4 : w.heap.size < w4.heap.size := kb0_4.lt
      clear xkb0_3_0 xkb0_3_1
      go_wp2_with fail
      refine (api_specCW  _ (o3.below b4) o4 ).mono ?_
      rintro e w5 ⟨u5_0, rfl, o5_0, b5⟩
      have s5 := b5.size
      have B5 : Below w.heap.size w w5 := B4.trans (b5.mono B4.size)
      have kb0_5 : Blk w5 (w.heap.size) 24 #[.int .i64 d.1, .slice a0 n0 c0] := (kb0_4.belowS b5)
      have xkb0_5_0 : w5.cell? ⟨w.heap.size, 0, none⟩ = some (.int .i64 d.1) := kb0_5.cell 0
      have xkb0_5_1 : w5.cell? ⟨w.heap.size, 1, none⟩ = some (.slice a0 n0 c0) := kb0_5.cell 1
      have lkb0_5 : w.heap.size < w5.heap.size := kb0_5.lt
      clear xkb0_4_0 xkb0_4_1
      go_wp2_with fail
      refine (law_toP _ (h0.below B5) (by omega)).mono ?_
      rintro e w6 ⟨u6, rfl, o6, b6⟩
      obtain ⟨au6, nu6, cu6, rfl⟩ := o6.form
      have s6 := b6.size
      have B6 : Below w.heap.size w w6 := B5.trans (b6.mono B5.size)
      have kb0_6 : Blk w6 (w.heap.size) 24 #[.int .i64 d.1, .slice a0 n0 c0] := (kb0_5.belowS b6)
      have xkb0_6_0 : w6.cell? ⟨w.heap.size, 0, none⟩ = some (.int .i64 d.1) := kb0_6.cell 0
      have xkb0_6_1 : w6.cell? ⟨w.heap.size, 1, none⟩ = some (.slice a0 n0 c0) := kb0_6.cell 1
      have lkb0_6 : w.heap.size < w6.heap.size := kb0_6.lt
      clear xkb0_5_0 xkb0_5_1
      go_wp2_with fail
      have bx7 := below_alloc1 w6 (.cells #[.int .i64 d.1, .slice au6 nu6 cu6] 28)
      have kbx0_7 : Blk (w6.alloc (.cells #[.int .i64 d.1, .slice au6 nu6 cu6] 28)) w6.heap.size 28 #[.int .i64 d.1, .slice au6 nu6 cu6] := blk_at rfl
      generalize w6.alloc (.cells #[.int .i64 d.1, .slice au6 nu6 cu6] 28) = w7 at *
      have s7 := bx7.size
      have B7 : Below w.heap.size w w7 := B6.trans (bx7.mono B6.size)
      have kb0_7 : Blk w7 (w.heap.size) 24 #[.int .i64 d.1, .slice a0 n0 c0] := (kb0_6.belowS bx7)
      have xkb0_7_0 : w7.cell? ⟨w.heap.size, 0, none⟩ = some (.int .i64 d.1) := kb0_7.cell 0
      have xkb0_7_1 : w7.cell? ⟨w.heap.size, 1, none⟩ = some (.slice a0 n0 c0) := kb0_7.cell 1
      have lkb0_7 : w.heap.size < w7.heap.size := kb0_7.lt
      have xkbx0_7_0 : w7.cell? ⟨w6.heap.size, 0, none⟩ = some (.int .i64 d.1) := kbx0_7.cell 0
      have xkbx0_7_1 : w7.cell? ⟨w6.heap.size, 1, none⟩ = some (.slice au6 nu6 cu6) := kbx0_7.cell 1
      have lkbx0_7 : w6.heap.size < w7.heap.size := kbx0_7.lt
      clear xkb0_6_0 xkb0_6_1
      refine (law_toSS _ (h1.below B7) (by omega)).mono ?_
      rintro e w8 ⟨u8, rfl, o8, b8⟩
      have s8 := b8.size
      have B8 : Below w.heap.size w w8 := B7.trans (b8.mono B7.size)
      have kb0_8 : Blk w8 (w.heap.size) 24 #[.int .i64 d.1, .slice a0 n0 c0] := (kb0_7.belowS b8)
      have xkb0_8_0 : w8.cell? ⟨w.heap.size, 0, none⟩ = some (.int .i64 d.1) := kb0_8.cell 0
      have xkb0_8_1 : w8.cell? ⟨w.heap.size, 1, none⟩ = some (.slice a0 n0 c0) := kb0_8.cell 1
      have lkb0_8 : w.heap.size < w8.heap.size := kb0_8.lt
      have kbx0_8 : Blk w8 (w6.heap.size) 28 #[.int .i64 d.1, .slice au6 nu6 cu6] := (kbx0_7.belowS b8)
      have xkbx0_8_0 : w8.cell? ⟨w6.heap.size, 0, none⟩ = some (.int .i64 d.1) := kbx0_8.cell 0
      have xkbx0_8_1 : w8.cell? ⟨w6.heap.size, 1, none⟩ = some (.slice au6 nu6 cu6) := kbx0_8.cell 1
      have lkbx0_8 : w6.heap.size < w8.heap.size := kbx0_8.lt
      clear xkb0_7_0 xkb0_7_1 xkbx0_7_0 xkbx0_7_1
      go_wp2_with fail
      refine (api_implCW  _ ((o6.below bx7).below b8) o8 ).mono ?_
      rintro e w9 ⟨u9_0, rfl, o9_0, b9⟩
      have s9 := b9.size
      have B9 : Below w.heap.size w w9 := B8.trans (b9.mono B8.size)
      have kb0_9 : Blk w9 (w.heap.size) 24 #[.int .i64 d.1, .slice a0 n0 c0] := (kb0_8.belowS b9)
      have xkb0_9_0 : w9.cell? ⟨w.heap.size, 0, none⟩ = some (.int .i64 d.1) := kb0_9.cell 0
      have xkb0_9_1 : w9.cell? ⟨w.heap.size, 1, none⟩ = some (.slice a0 n0 c0) := kb0_9.cell 1
      have lkb0_9 : w.heap.size < w9.heap.size := kb0_9.lt
      have kbx0_9 : Blk w9 (w6.heap.size) 28 #[.int .i64 d.1, .slice au6 nu6 cu6] := (kbx0_8.belowS b9)
      have xkbx0_9_0 : w9.cell? ⟨w6.heap.size, 0, none⟩ = some (.int .i64 d.1) := kbx0_9.cell 0
      have xkbx0_9_1 : w9.cell? ⟨w6.heap.size, 1, none⟩ = some (.slice au6 nu6 cu6) := kbx0_9.cell 1
      have lkbx0_9 : w6.heap.size < w9.heap.size := kbx0_9.lt
      clear xkb0_8_0 xkb0_8_1 xkbx0_8_0 xkbx0_8_1
      go_wp2_with fail
      refine (law_eqSS _ o9_0.rd ((((o5_0.below b6).below bx7).below b8).below b9).rd).mono ?_
      rintro e w10 ⟨rfl, b10⟩
      have s10 := b10.size
      have B10 : Below w.heap.size w w10 := B9.trans (b10.mono B9.size)
      have kb0_10 : Blk w10 (w.heap.size) 24 #[.int .i64 d.1, .slice a0 n0 c0] := (kb0_9.belowS b10)
      have xkb0_10_0 : w10.cell? ⟨w.heap.size, 0, none⟩ = some (.int .i64 d.1) := kb0_10.cell 0
      have xkb0_10_1 : w10.cell? ⟨w.heap.size, 1, none⟩ = some (.slice a0 n0 c0) := kb0_10.cell 1
      have lkb0_10 : w.heap.size < w10.heap.size := kb0_10.lt
      have kbx0_10 : Blk w10 (w6.heap.size) 28 #[.int .i64 d.1, .slice au6 nu6 cu6] := (kbx0_9.belowS b10)
      have xkbx0_10_0 : w10.cell? ⟨w6.heap.size, 0, none⟩ = some (.int .i64 d.1) := kbx0_10.cell 0
      have xkbx0_10_1 : w10.cell? ⟨w6.heap.size, 1, none⟩ = some (.slice au6 nu6 cu6) := kbx0_10.cell 1
      have lkbx0_10 : w6.heap.size < w10.heap.size := kbx0_10.lt
      clear xkb0_9_0 xkb0_9_1 xkbx0_9_0 xkbx0_9_1
      go_wp2_with fail
      have hS10 : ∀ w', Below w10.heap.size w10 w' → (Below w10.heap.size w10 w' ∧ w'.cell? ⟨w.heap.size, 0, none⟩ = some (.int .i64 d.1) ∧ w'.cell? ⟨w.heap.size, 1, none⟩ = some (.slice a0 n0 c0) ∧ w'.cell? ⟨w6.heap.size, 0, none⟩ = some (.int .i64 d.1) ∧ w'.cell? ⟨w6.heap.size, 1, none⟩ = some (.slice au6 nu6 cu6)) := fun w' hb => ⟨hb, (kb0_10.belowS hb).cell 0, (kb0_10.belowS hb).cell 1, (kbx0_10.belowS hb).cell 0, (kbx0_10.belowS hb).cell 1⟩
      have HS10 := Lib.hid hS10
      clear hS10 xkb0_10_0 xkb0_10_1 xkbx0_10_0 xkbx0_10_1
      go_region_held3 (fun w' => Below w10.heap.size w10 w' ∧ w'.cell? ⟨w.heap.size, 0, none⟩ = some (.int .i64 d.1) ∧ w'.cell? ⟨w.heap.size, 1, none⟩ = some (.slice a0 n0 c0) ∧ w'.cell? ⟨w6.heap.size, 0, none⟩ = some (.int .i64 d.1) ∧ w'.cell? ⟨w6.heap.size, 1, none⟩ = some (.slice au6 nu6 cu6))
        (first | exact HS10.out _ (below_drew1 _) | exact HS10.out _ (below_tr (by assumption) (And.left (by assumption))))
        (first | (go_at_call 15; refine (law_toP _ (h0.below ?_) (by omega)).mono ?_; (exact below_tr (And.left (by assumption)) B10); rintro e w910 ⟨u910, rfl, o910, bt910⟩) | (go_at_call 17; refine (law_eqP _ (((((o6.below bx7).below b8).below b9).below b10).below (And.left (by assumption))).rd (OwP.rd (by assumption))).mono ?_; rintro e w11 ⟨rfl, be11⟩))
      have b11 : Below w10.heap.size w10 w11 := And.left (by assumption)
      have s11 := b11.size
      have B11 : Below w.heap.size w w11 := B10.trans (b11.mono B10.size)
      have kb0_11 : Blk w11 (w.heap.size) 24 #[.int .i64 d.1, .slice a0 n0 c0] := (kb0_10.belowS b11)
      have xkb0_11_0 : w11.cell? ⟨w.heap.size, 0, none⟩ = some (.int .i64 d.1) := kb0_11.cell 0
      have xkb0_11_1 : w11.cell? ⟨w.heap.size, 1, none⟩ = some (.slice a0 n0 c0) := kb0_11.cell 1
      have lkb0_11 : w.heap.size < w11.heap.size := kb0_11.lt
      have kbx0_11 : Blk w11 (w6.heap.size) 28 #[.int .i64 d.1, .slice au6 nu6 cu6] := (kbx0_10.belowS b11)
      have xkbx0_11_0 : w11.cell? ⟨w6.heap.size, 0, none⟩ = some (.int .i64 d.1) := kbx0_11.cell 0
      have xkbx0_11_1 : w11.cell? ⟨w6.heap.size, 1, none⟩ = some (.slice au6 nu6 cu6) := kbx0_11.cell 1
      have lkbx0_11 : w6.heap.size < w11.heap.size := kbx0_11.lt
      go_wp2_with fail
      refine (law_toSS _ (h1.below B11) (by omega)).mono ?_
      rintro e w12 ⟨u12, rfl, o12, b12⟩
      have s12 := b12.size
      have B12 : Below w.heap.size w w12 := B11.trans (b12.mono B11.size)
      have kb0_12 : Blk w12 (w.heap.size) 24 #[.int .i64 d.1, .slice a0 n0 c0] := (kb0_11.belowS b12)
      have xkb0_12_0 : w12.cell? ⟨w.heap.size, 0, none⟩ = some (.int .i64 d.1) := kb0_12.cell 0
      have xkb0_12_1 : w12.cell? ⟨w.heap.size, 1, none⟩ = some (.slice a0 n0 c0) := kb0_12.cell 1
      have lkb0_12 : w.heap.size < w12.heap.size := kb0_12.lt
      have kbx0_12 : Blk w12 (w6.heap.size) 28 #[.int .i64 d.1, .slice au6 nu6 cu6] := (kbx0_11.belowS b12)
      have xkbx0_12_0 : w12.cell? ⟨w6.heap.size, 0, none⟩ = some (.int .i64 d.1) := kbx0_12.cell 0
      have xkbx0_12_1 : w12.cell? ⟨w6.heap.size, 1, none⟩ = some (.slice au6 nu6 cu6) := kbx0_12.cell 1
      have lkbx0_12 : w6.heap.size < w12.heap.size := kbx0_12.lt
      clear xkb0_11_0 xkb0_11_1 xkbx0_11_0 xkbx0_11_1
      go_wp2_with fail
      refine (law_eqSS _ ((((o8.below b9).below b10).below b11).below b12).rd o12.rd).mono ?_
      rintro e w13 ⟨rfl, b13⟩
      have s13 := b13.size
      have B13 : Below w.heap.size w w13 := B12.trans (b13.mono B12.size)
      have kb0_13 : Blk w13 (w.heap.size) 24 #[.int .i64 d.1, .slice a0 n0 c0] := (kb0_12.belowS b13)
      have xkb0_13_0 : w13.cell? ⟨w.heap.size, 0, none⟩ = some (.int .i64 d.1) := kb0_13.cell 0
      have xkb0_13_1 : w13.cell? ⟨w.heap.size, 1, none⟩ = some (.slice a0 n0 c0) := kb0_13.cell 1
      have lkb0_13 : w.heap.size < w13.heap.size := kb0_13.lt
      have kbx0_13 : Blk w13 (w6.heap.size) 28 #[.int .i64 d.1, .slice au6 nu6 cu6] := (kbx0_12.belowS b13)
      have xkbx0_13_0 : w13.cell? ⟨w6.heap.size, 0, none⟩ = some (.int .i64 d.1) := kbx0_13.cell 0
      have xkbx0_13_1 : w13.cell? ⟨w6.heap.size, 1, none⟩ = some (.slice au6 nu6 cu6) := kbx0_13.cell 1
      have lkbx0_13 : w6.heap.size < w13.heap.size := kbx0_13.lt
      clear xkb0_12_0 xkb0_12_1 xkbx0_12_0 xkbx0_12_1
      go_wp2_with fail
      refine (law_markP (1) _ (((((((o6.below bx7).below b8).below b9).below b10).below b11).below b12).below b13) (by omega) (by omega)).mono ?_
      rintro e w14 ⟨rfl, o14, q14⟩
      have s14 := q14.size
      have B14 : Below w.heap.size w w14 := B13.trans (q14.below (by omega) B13.size)
      have kb0_14 : Blk w14 (w.heap.size) 24 #[.int .i64 d.1, .slice a0 n0 c0] := (kb0_13.only q14 (by omega))
      have xkb0_14_0 : w14.cell? ⟨w.heap.size, 0, none⟩ = some (.int .i64 d.1) := kb0_14.cell 0
      have xkb0_14_1 : w14.cell? ⟨w.heap.size, 1, none⟩ = some (.slice a0 n0 c0) := kb0_14.cell 1
      have lkb0_14 : w.heap.size < w14.heap.size := kb0_14.lt
      have kbx0_14 : Blk w14 (w6.heap.size) 28 #[.int .i64 d.1, .slice au6 nu6 cu6] := (kbx0_13.only q14 (by omega))
      have xkbx0_14_0 : w14.cell? ⟨w6.heap.size, 0, none⟩ = some (.int .i64 d.1) := kbx0_14.cell 0
      have xkbx0_14_1 : w14.cell? ⟨w6.heap.size, 1, none⟩ = some (.slice au6 nu6 cu6) := kbx0_14.cell 1
      have lkbx0_14 : w6.heap.size < w14.heap.size := kbx0_14.lt
      clear xkb0_13_0 xkb0_13_1 xkbx0_13_0 xkbx0_13_1
      go_wp2_with fail
      refine (law_markSS (1 + (lenSS d.2 : Nat)) _ ((((((o8.below b9).below b10).below b11).below b12).below b13).only q14 (by omega)) (by omega) (by omega)).mono ?_
      rintro e w15 ⟨rfl, o15, q15⟩
      have s15 := q15.size
      have B15 : Below w.heap.size w w15 := B14.trans (q15.below (by omega) B14.size)
      have kb0_15 : Blk w15 (w.heap.size) 24 #[.int .i64 d.1, .slice a0 n0 c0] := (kb0_14.only q15 (by omega))
      have xkb0_15_0 : w15.cell? ⟨w.heap.size, 0, none⟩ = some (.int .i64 d.1) := kb0_15.cell 0
      have xkb0_15_1 : w15.cell? ⟨w.heap.size, 1, none⟩ = some (.slice a0 n0 c0) := kb0_15.cell 1
      have lkb0_15 : w.heap.size < w15.heap.size := kb0_15.lt
      have kbx0_15 : Blk w15 (w6.heap.size) 28 #[.int .i64 d.1, .slice au6 nu6 cu6] := (kbx0_14.only q15 (by omega))
      have xkbx0_15_0 : w15.cell? ⟨w6.heap.size, 0, none⟩ = some (.int .i64 d.1) := kbx0_15.cell 0
      have xkbx0_15_1 : w15.cell? ⟨w6.heap.size, 1, none⟩ = some (.slice au6 nu6 cu6) := kbx0_15.cell 1
      have lkbx0_15 : w6.heap.size < w15.heap.size := kbx0_15.lt
      clear xkb0_14_0 xkb0_14_1 xkbx0_14_0 xkbx0_14_1
      go_wp2_with fail
      refine (law_eqSS _ ((((((o9_0.below b10).below b11).below b12).below b13).only q14 (by omega)).only q15 (by omega)).rd ((((((((((o5_0.below b6).below bx7).below b8).below b9).below b10).below b11).below b12).below b13).only q14 (by omega)).only q15 (by omega)).rd).mono ?_
      rintro e w16 ⟨rfl, b16⟩
      have s16 := b16.size
      have B16 : Below w.heap.size w w16 := B15.trans (b16.mono B15.size)
      have kb0_16 : Blk w16 (w.heap.size) 24 #[.int .i64 d.1, .slice a0 n0 c0] := (kb0_15.belowS b16)
      have xkb0_16_0 : w16.cell? ⟨w.heap.size, 0, none⟩ = some (.int .i64 d.1) := kb0_16.cell 0
      have xkb0_16_1 : w16.cell? ⟨w.heap.size, 1, none⟩ = some (.slice a0 n0 c0) := kb0_16.cell 1
      have lkb0_16 : w.heap.size < w16.heap.size := kb0_16.lt
      have kbx0_16 : Blk w16 (w6.heap.size) 28 #[.int .i64 d.1, .slice au6 nu6 cu6] := (kbx0_15.belowS b16)
      have xkbx0_16_0 : w16.cell? ⟨w6.heap.size, 0, none⟩ = some (.int .i64 d.1) := kbx0_16.cell 0
      have xkbx0_16_1 : w16.cell? ⟨w6.heap.size, 1, none⟩ = some (.slice au6 nu6 cu6) := kbx0_16.cell 1
      have lkbx0_16 : w6.heap.size < w16.heap.size := kbx0_16.lt
      clear xkb0_15_0 xkb0_15_1 xkbx0_15_0 xkbx0_15_1
      go_wp2_with fail
      refine (law_markSS (1) _ (((((((o9_0.below b10).below b11).below b12).below b13).only q14 (by omega)).only q15 (by omega)).below b16) (by omega) (by omega)).mono ?_
      rintro e w17 ⟨rfl, o17, q17⟩
      have s17 := q17.size
      have B17 : Below w.heap.size w w17 := B16.trans (q17.below (by omega) B16.size)
      have kb0_17 : Blk w17 (w.heap.size) 24 #[.int .i64 d.1, .slice a0 n0 c0] := (kb0_16.only q17 (by omega))
      have xkb0_17_0 : w17.cell? ⟨w.heap.size, 0, none⟩ = some (.int .i64 d.1) := kb0_17.cell 0
      have xkb0_17_1 : w17.cell? ⟨w.heap.size, 1, none⟩ = some (.slice a0 n0 c0) := kb0_17.cell 1
      have lkb0_17 : w.heap.size < w17.heap.size := kb0_17.lt
      have kbx0_17 : Blk w17 (w6.heap.size) 28 #[.int .i64 d.1, .slice au6 nu6 cu6] := (kbx0_16.only q17 (by omega))
      have xkbx0_17_0 : w17.cell? ⟨w6.heap.size, 0, none⟩ = some (.int .i64 d.1) := kbx0_17.cell 0
      have xkbx0_17_1 : w17.cell? ⟨w6.heap.size, 1, none⟩ = some (.slice au6 nu6 cu6) := kbx0_17.cell 1
      have lkbx0_17 : w6.heap.size < w17.heap.size := kbx0_17.lt
      clear xkb0_16_0 xkb0_16_1 xkbx0_16_0 xkbx0_16_1
      go_wp2_with fail
      refine (law_heldSS (1) _ o17.rd (by omega) (by omega)).mono ?_
      rintro e w18 ⟨rfl, b18⟩
      have s18 := b18.size
      have B18 : Below w.heap.size w w18 := B17.trans (b18.mono B17.size)
      have kb0_18 : Blk w18 (w.heap.size) 24 #[.int .i64 d.1, .slice a0 n0 c0] := (kb0_17.belowS b18)
      have xkb0_18_0 : w18.cell? ⟨w.heap.size, 0, none⟩ = some (.int .i64 d.1) := kb0_18.cell 0
      have xkb0_18_1 : w18.cell? ⟨w.heap.size, 1, none⟩ = some (.slice a0 n0 c0) := kb0_18.cell 1
      have lkb0_18 : w.heap.size < w18.heap.size := kb0_18.lt
      have kbx0_18 : Blk w18 (w6.heap.size) 28 #[.int .i64 d.1, .slice au6 nu6 cu6] := (kbx0_17.belowS b18)
      have xkbx0_18_0 : w18.cell? ⟨w6.heap.size, 0, none⟩ = some (.int .i64 d.1) := kbx0_18.cell 0
      have xkbx0_18_1 : w18.cell? ⟨w6.heap.size, 1, none⟩ = some (.slice au6 nu6 cu6) := kbx0_18.cell 1
      have lkbx0_18 : w6.heap.size < w18.heap.size := kbx0_18.lt
      clear xkb0_17_0 xkb0_17_1 xkbx0_17_0 xkbx0_17_1
      go_wp2_with fail
      refine (law_toP _ (h0.below B18) (by omega)).mono ?_
      rintro e w19 ⟨u19, rfl, o19, b19⟩
      have s19 := b19.size
      have B19 : Below w.heap.size w w19 := B18.trans (b19.mono B18.size)
      have kb0_19 : Blk w19 (w.heap.size) 24 #[.int .i64 d.1, .slice a0 n0 c0] := (kb0_18.belowS b19)
      have xkb0_19_0 : w19.cell? ⟨w.heap.size, 0, none⟩ = some (.int .i64 d.1) := kb0_19.cell 0
      have xkb0_19_1 : w19.cell? ⟨w.heap.size, 1, none⟩ = some (.slice a0 n0 c0) := kb0_19.cell 1
      have lkb0_19 : w.heap.size < w19.heap.size := kb0_19.lt
      have kbx0_19 : Blk w19 (w6.heap.size) 28 #[.int .i64 d.1, .slice au6 nu6 cu6] := (kbx0_18.belowS b19)
      have xkbx0_19_0 : w19.cell? ⟨w6.heap.size, 0, none⟩ = some (.int .i64 d.1) := kbx0_19.cell 0
      have xkbx0_19_1 : w19.cell? ⟨w6.heap.size, 1, none⟩ = some (.slice au6 nu6 cu6) := kbx0_19.cell 1
      have lkbx0_19 : w6.heap.size < w19.heap.size := kbx0_19.lt
      clear xkb0_18_0 xkb0_18_1 xkbx0_18_0 xkbx0_18_1
      go_wp2_with fail
      refine (law_toSS _ (h1.below B19) (by omega)).mono ?_
      rintro e w20 ⟨u20, rfl, o20, b20⟩
      have s20 := b20.size
      have B20 : Below w.heap.size w w20 := B19.trans (b20.mono B19.size)
      have kb0_20 : Blk w20 (w.heap.size) 24 #[.int .i64 d.1, .slice a0 n0 c0] := (kb0_19.belowS b20)
      have xkb0_20_0 : w20.cell? ⟨w.heap.size, 0, none⟩ = some (.int .i64 d.1) := kb0_20.cell 0
      have xkb0_20_1 : w20.cell? ⟨w.heap.size, 1, none⟩ = some (.slice a0 n0 c0) := kb0_20.cell 1
      have lkb0_20 : w.heap.size < w20.heap.size := kb0_20.lt
      have kbx0_20 : Blk w20 (w6.heap.size) 28 #[.int .i64 d.1, .slice au6 nu6 cu6] := (kbx0_19.belowS b20)
      have xkbx0_20_0 : w20.cell? ⟨w6.heap.size, 0, none⟩ = some (.int .i64 d.1) := kbx0_20.cell 0
      have xkbx0_20_1 : w20.cell? ⟨w6.heap.size, 1, none⟩ = some (.slice au6 nu6 cu6) := kbx0_20.cell 1
      have lkbx0_20 : w6.heap.size < w20.heap.size := kbx0_20.lt
      clear xkb0_19_0 xkb0_19_1 xkbx0_19_0 xkbx0_19_1
      go_wp2_with fail
      refine (api_implCW  _ (o19.below b20) o20 ).mono ?_
      rintro e w21 ⟨u21_0, rfl, o21_0, b21⟩
      have s21 := b21.size
      have B21 : Below w.heap.size w w21 := B20.trans (b21.mono B20.size)
      have kb0_21 : Blk w21 (w.heap.size) 24 #[.int .i64 d.1, .slice a0 n0 c0] := (kb0_20.belowS b21)
      have xkb0_21_0 : w21.cell? ⟨w.heap.size, 0, none⟩ = some (.int .i64 d.1) := kb0_21.cell 0
      have xkb0_21_1 : w21.cell? ⟨w.heap.size, 1, none⟩ = some (.slice a0 n0 c0) := kb0_21.cell 1
      have lkb0_21 : w.heap.size < w21.heap.size := kb0_21.lt
      have kbx0_21 : Blk w21 (w6.heap.size) 28 #[.int .i64 d.1, .slice au6 nu6 cu6] := (kbx0_20.belowS b21)
      have xkbx0_21_0 : w21.cell? ⟨w6.heap.size, 0, none⟩ = some (.int .i64 d.1) := kbx0_21.cell 0
      have xkbx0_21_1 : w21.cell? ⟨w6.heap.size, 1, none⟩ = some (.slice au6 nu6 cu6) := kbx0_21.cell 1
      have lkbx0_21 : w6.heap.size < w21.heap.size := kbx0_21.lt
      clear xkb0_20_0 xkb0_20_1 xkbx0_20_0 xkbx0_20_1
      go_wp2_with fail
      refine (law_eqSS _ o21_0.rd ((((((((((((((((o5_0.below b6).below bx7).below b8).below b9).below b10).below b11).below b12).below b13).only q14 (by omega)).only q15 (by omega)).below b16).only q17 (by omega)).below b18).below b19).below b20).below b21).rd).mono ?_
      rintro e w22 ⟨rfl, b22⟩
      have s22 := b22.size
      have B22 : Below w.heap.size w w22 := B21.trans (b22.mono B21.size)
      have kb0_22 : Blk w22 (w.heap.size) 24 #[.int .i64 d.1, .slice a0 n0 c0] := (kb0_21.belowS b22)
      have xkb0_22_0 : w22.cell? ⟨w.heap.size, 0, none⟩ = some (.int .i64 d.1) := kb0_22.cell 0
      have xkb0_22_1 : w22.cell? ⟨w.heap.size, 1, none⟩ = some (.slice a0 n0 c0) := kb0_22.cell 1
      have lkb0_22 : w.heap.size < w22.heap.size := kb0_22.lt
      have kbx0_22 : Blk w22 (w6.heap.size) 28 #[.int .i64 d.1, .slice au6 nu6 cu6] := (kbx0_21.belowS b22)
      have xkbx0_22_0 : w22.cell? ⟨w6.heap.size, 0, none⟩ = some (.int .i64 d.1) := kbx0_22.cell 0
      have xkbx0_22_1 : w22.cell? ⟨w6.heap.size, 1, none⟩ = some (.slice au6 nu6 cu6) := kbx0_22.cell 1
      have lkbx0_22 : w6.heap.size < w22.heap.size := kbx0_22.lt
      clear xkb0_21_0 xkb0_21_1 xkbx0_21_0 xkbx0_21_1
      go_wp2_with fail
      refine (law_heldSS (1) _ (((((o17.below b18).below b19).below b20).below b21).below b22).rd (by omega) (by omega)).mono ?_
      rintro e w23 ⟨rfl, b23⟩
      have s23 := b23.size
      have B23 : Below w.heap.size w w23 := B22.trans (b23.mono B22.size)
      have kb0_23 : Blk w23 (w.heap.size) 24 #[.int .i64 d.1, .slice a0 n0 c0] := (kb0_22.belowS b23)
      have xkb0_23_0 : w23.cell? ⟨w.heap.size, 0, none⟩ = some (.int .i64 d.1) := kb0_23.cell 0
      have xkb0_23_1 : w23.cell? ⟨w.heap.size, 1, none⟩ = some (.slice a0 n0 c0) := kb0_23.cell 1
      have lkb0_23 : w.heap.size < w23.heap.size := kb0_23.lt
      have kbx0_23 : Blk w23 (w6.heap.size) 28 #[.int .i64 d.1, .slice au6 nu6 cu6] := (kbx0_22.belowS b23)
      have xkbx0_23_0 : w23.cell? ⟨w6.heap.size, 0, none⟩ = some (.int .i64 d.1) := kbx0_23.cell 0
      have xkbx0_23_1 : w23.cell? ⟨w6.heap.size, 1, none⟩ = some (.slice au6 nu6 cu6) := kbx0_23.cell 1
      have lkbx0_23 : w6.heap.size < w23.heap.size := kbx0_23.lt
      clear xkb0_22_0 xkb0_22_1 xkbx0_22_0 xkbx0_22_1
      go_wp2
      go_ret
      exact ⟨rfl, B23⟩
end Go.Proofs.Ytpjglifijdcgnaa
