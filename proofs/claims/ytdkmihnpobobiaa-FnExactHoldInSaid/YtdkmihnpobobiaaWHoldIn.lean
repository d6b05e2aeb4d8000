/- The walk of FnExactHoldIn: true, whatever the arguments. Written by genwalk.py. -/
import Derived.Test.YtdkmihnpobobiaaLawP
import Derived.Test.Ytdkmihnpobobiaa11HoldD
import Derived.Deep.RegionHeld3
namespace Go.Proofs.Ytdkmihnpobobiaa
open Go.RowKit

set_option maxHeartbeats 3200000 in
theorem walkHoldIn {v0 : Value} {d : PresD} {v1 : Value} {qs : List (List Int)} (w : World) (h0 : RdP w v0 d) (h1 : RdSS w v1 qs) :
    Calls Try.prog 5 #[v0, v1] w fun e w' => e = .returned (.bool true) ∧ Below w.heap.size w w' := by
  obtain ⟨a0, n0, c0, rfl, hi0⟩ := h0
  have h0 : RdP w (.agg #[.int .i64 d.1, .slice a0 n0 c0]) d := ⟨a0, n0, c0, rfl, hi0⟩
  clear hi0
  have B0 : Below w.heap.size w (w.alloc (.cells #[.int .i64 d.1, .slice a0 n0 c0] 41)) := below_alloc1 w _
  have kb0_0 : Blk (w.alloc (.cells #[.int .i64 d.1, .slice a0 n0 c0] 41)) (w.heap.size) 41 #[.int .i64 d.1, .slice a0 n0 c0] := (blk_at rfl)
  by_cases hx0 : budget1 1048576 (d.2.length + lenSS d.2) < 0
  · go_enter Try.func5, Try.ntmps5
    go_wp2_with fail
    refine (law_usP (1048576) _ (h0.below B0) (by omega) (by omega)).mono ?_
    rintro e w1 ⟨rfl, b1⟩
    have s1 := b1.size
    have B1 : Below w.heap.size w w1 := B0.trans (b1.mono B0.size)
    have kb0_1 : Blk w1 (w.heap.size) 41 #[.int .i64 d.1, .slice a0 n0 c0] := (kb0_0.belowS b1)
    have xkb0_1_0 : w1.cell? ⟨w.heap.size, 0, none⟩ = some (.int .i64 d.1) := kb0_1.cell 0
    have xkb0_1_1 : w1.cell? ⟨w.heap.size, 1, none⟩ = some (.slice a0 n0 c0) := kb0_1.cell 1
    have lkb0_1 : w.heap.size < w1.heap.size := kb0_1.lt
    go_wp2
    go_ret
    exact ⟨rfl, B1⟩
  · obtain ⟨ht0, he0⟩ := budget1_at hx0
    have hn0 : 0 ≤ budget1 1048576 (d.2.length + lenSS d.2) := by omega
    have hm0 : budget1 1048576 (d.2.length + lenSS d.2) ≤ 1048576 := by omega
    have HE0 := Lib.hid he0
    clear he0 hx0
    by_cases hx1 : budget1 (budget1 1048576 (d.2.length + lenSS d.2)) (qs.length + lenSS qs) < 0
    · go_enter Try.func5, Try.ntmps5
      go_wp2_with fail
      refine (law_usP (1048576) _ (h0.below B0) (by omega) (by omega)).mono ?_
      rintro e w1 ⟨rfl, b1⟩
      have s1 := b1.size
      have B1 : Below w.heap.size w w1 := B0.trans (b1.mono B0.size)
      have kb0_1 : Blk w1 (w.heap.size) 41 #[.int .i64 d.1, .slice a0 n0 c0] := (kb0_0.belowS b1)
      have xkb0_1_0 : w1.cell? ⟨w.heap.size, 0, none⟩ = some (.int .i64 d.1) := kb0_1.cell 0
      have xkb0_1_1 : w1.cell? ⟨w.heap.size, 1, none⟩ = some (.slice a0 n0 c0) := kb0_1.cell 1
      have lkb0_1 : w.heap.size < w1.heap.size := kb0_1.lt
      go_wp2_with fail
      refine (law_usSS (budget1 1048576 (d.2.length + lenSS d.2)) _ (h1.below B1) (by omega) (by omega)).mono ?_
      rintro e w2 ⟨rfl, b2⟩
      have s2 := b2.size
      have B2 : Below w.heap.size w w2 := B1.trans (b2.mono B1.size)
      have kb0_2 : Blk w2 (w.heap.size) 41 #[.int .i64 d.1, .slice a0 n0 c0] := (kb0_1.belowS b2)
      have xkb0_2_0 : w2.cell? ⟨w.heap.size, 0, none⟩ = some (.int .i64 d.1) := kb0_2.cell 0
      have xkb0_2_1 : w2.cell? ⟨w.heap.size, 1, none⟩ = some (.slice a0 n0 c0) := kb0_2.cell 1
      have lkb0_2 : w.heap.size < w2.heap.size := kb0_2.lt
      clear xkb0_1_0 xkb0_1_1
      go_wp2
      go_ret
      exact ⟨rfl, B2⟩
    · obtain ⟨ht1, he1⟩ := budget1_at hx1
      have hn1 : 0 ≤ budget1 (budget1 1048576 (d.2.length + lenSS d.2)) (qs.length + lenSS qs) := by omega
      have hm1 : budget1 (budget1 1048576 (d.2.length + lenSS d.2)) (qs.length + lenSS qs) ≤ 1048576 := by omega
      have HE1 := Lib.hid he1
      clear he1 hx1
      go_enter Try.func5, Try.ntmps5
      go_wp2_with fail
      refine (law_usP (1048576) _ (h0.below B0) (by omega) (by omega)).mono ?_
      rintro e w1 ⟨rfl, b1⟩
      have s1 := b1.size
      have B1 : Below w.heap.size w w1 := B0.trans (b1.mono B0.size)
      have kb0_1 : Blk w1 (w.heap.size) 41 #[.int .i64 d.1, .slice a0 n0 c0] := (kb0_0.belowS b1)
      have xkb0_1_0 : w1.cell? ⟨w.heap.size, 0, none⟩ = some (.int .i64 d.1) := kb0_1.cell 0
      have xkb0_1_1 : w1.cell? ⟨w.heap.size, 1, none⟩ = some (.slice a0 n0 c0) := kb0_1.cell 1
      have lkb0_1 : w.heap.size < w1.heap.size := kb0_1.lt
      go_wp2_with fail
      refine (law_usSS (budget1 1048576 (d.2.length + lenSS d.2)) _ (h1.below B1) (by omega) (by omega)).mono ?_
      rintro e w2 ⟨rfl, b2⟩
      have s2 := b2.size
      have B2 : Below w.heap.size w w2 := B1.trans (b2.mono B1.size)
      have kb0_2 : Blk w2 (w.heap.size) 41 #[.int .i64 d.1, .slice a0 n0 c0] := (kb0_1.belowS b2)
      have xkb0_2_0 : w2.cell? ⟨w.heap.size, 0, none⟩ = some (.int .i64 d.1) := kb0_2.cell 0
      have xkb0_2_1 : w2.cell? ⟨w.heap.size, 1, none⟩ = some (.slice a0 n0 c0) := kb0_2.cell 1
      have lkb0_2 : w.heap.size < w2.heap.size := kb0_2.lt
      clear xkb0_1_0 xkb0_1_1
      go_wp2_with fail
      refine (law_toP _ (h0.below B2) (by omega)).mono ?_
      rintro e w3 ⟨u3, rfl, o3, b3⟩
      have s3 := b3.size
      have B3 : Below w.heap.size w w3 := B2.trans (b3.mono B2.size)
      have kb0_3 : Blk w3 (w.heap.size) 41 #[.int .i64 d.1, .slice a0 n0 c0] := (kb0_2.belowS b3)
      have xkb0_3_0 : w3.cell? ⟨w.heap.size, 0, none⟩ = some (.int .i64 d.1) := kb0_3.cell 0
      have xkb0_3_1 : w3.cell? ⟨w.heap.size, 1, none⟩ = some (.slice a0 n0 c0) := kb0_3.cell 1
      have lkb0_3 : w.heap.size < w3.heap.size := kb0_3.lt
      clear xkb0_2_0 xkb0_2_1
      go_wp2_with fail
      refine (law_toSS _ (h1.below B3) (by omega)).mono ?_
      rintro e w4 ⟨u4, rfl, o4, b4⟩
      have s4 := b4.size
      have B4 : Below w.heap.size w w4 := B3.trans (b4.mono B3.size)
      have kb0_4 : Blk w4 (w.heap.size) 41 #[.int .i64 d.1, .slice a0 n0 c0] := (kb0_3.belowS b4)
      have xkb0_4_0 : w4.cell? ⟨w.heap.size, 0, none⟩ = some (.int .i64 d.1) := kb0_4.cell 0
      have xkb0_4_1 : w4.cell? ⟨w.heap.size, 1, none⟩ = some (.slice a0 n0 c0) := kb0_4.cell 1
      have lkb0_4 : w.heap.size < w4.heap.size := kb0_4.lt
      clear xkb0_3_0 xkb0_3_1
      go_wp2_with fail
      refine (api_specHoldIn  _ (o3.below b4).rd o4.rd ).mono ?_
      rintro e w5 ⟨rfl, b5⟩
      have s5 := b5.size
      have B5 : Below w.heap.size w w5 := B4.trans (b5.mono B4.size)
      have kb0_5 : Blk w5 (w.heap.size) 41 #[.int .i64 d.1, .slice a0 n0 c0] := (kb0_4.belowS b5)
      have xkb0_5_0 : w5.cell? ⟨w.heap.size, 0, none⟩ = some (.int .i64 d.1) := kb0_5.cell 0
      have xkb0_5_1 : w5.cell? ⟨w.heap.size, 1, none⟩ = some (.slice a0 n0 c0) := kb0_5.cell 1
      have lkb0_5 : w.heap.size < w5.heap.size := kb0_5.lt
      clear xkb0_4_0 xkb0_4_1
      go_wp2_with fail
      refine (law_toP _ (h0.below B5) (by omega)).mono ?_
      rintro e w6 ⟨u6, rfl, o6, b6⟩
      obtain ⟨au6, nu6, cu6, rfl⟩ := o6.form
      have s6 := b6.size
      have B6 : Below w.heap.size w w6 := B5.trans (b6.mono B5.size)
      have kb0_6 : Blk w6 (w.heap.size) 41 #[.int .i64 d.1, .slice a0 n0 c0] := (kb0_5.belowS b6)
      have xkb0_6_0 : w6.cell? ⟨w.heap.size, 0, none⟩ = some (.int .i64 d.1) := kb0_6.cell 0
      have xkb0_6_1 : w6.cell? ⟨w.heap.size, 1, none⟩ = some (.slice a0 n0 c0) := kb0_6.cell 1
      have lkb0_6 : w.heap.size < w6.heap.size := kb0_6.lt
      clear xkb0_5_0 xkb0_5_1
      go_wp2_with fail
      have bx7 := below_alloc1 w6 (.cells #[.int .i64 d.1, .slice au6 nu6 cu6] 25)
      have kbx0_7 : Blk (w6.alloc (.cells #[.int .i64 d.1, .slice au6 nu6 cu6] 25)) w6.heap.size 25 #[.int .i64 d.1, .slice au6 nu6 cu6] := blk_at rfl
      generalize w6.alloc (.cells #[.int .i64 d.1, .slice au6 nu6 cu6] 25) = w7 at *
      have s7 := bx7.size
      have B7 : Below w.heap.size w w7 := B6.trans (bx7.mono B6.size)
      have kb0_7 : Blk w7 (w.heap.size) 41 #[.int .i64 d.1, .slice a0 n0 c0] := (kb0_6.belowS bx7)
      have xkb0_7_0 : w7.cell? ⟨w.heap.size, 0, none⟩ = some (.int .i64 d.1) := kb0_7.cell 0
      have xkb0_7_1 : w7.cell? ⟨w.heap.size, 1, none⟩ = some (.slice a0 n0 c0) := kb0_7.cell 1
      have lkb0_7 : w.heap.size < w7.heap.size := kb0_7.lt
      have xkbx0_7_0 : w7.cell? ⟨w6.heap.size, 0, none⟩ = some (.int .i64 d.1) := kbx0_7.cell 0
      have xkbx0_7_1 : w7.cell? ⟨w6.heap.size, 1, none⟩ = some (.slice au6 nu6 cu6) := kbx0_7.cell 1
      have lkbx0_7 : w6.heap.size < w7.heap.size := kbx0_7.lt
      clear xkb0_6_0 xkb0_6_1
      refine (law_toSS _ (h1.below B7) (by omega)).mono ?_
      rintro e w8 ⟨u8, rfl, o8, b8⟩
      have s8 := b8.size
      have B8 : Below w.heap.size w w8 := B7.trans (b8.mono B7.size)
      have kb0_8 : Blk w8 (w.heap.size) 41 #[.int .i64 d.1, .slice a0 n0 c0] := (kb0_7.belowS b8)
      have xkb0_8_0 : w8.cell? ⟨w.heap.size, 0, none⟩ = some (.int .i64 d.1) := kb0_8.cell 0
      have xkb0_8_1 : w8.cell? ⟨w.heap.size, 1, none⟩ = some (.slice a0 n0 c0) := kb0_8.cell 1
      have lkb0_8 : w.heap.size < w8.heap.size := kb0_8.lt
      have kbx0_8 : Blk w8 (w6.heap.size) 25 #[.int .i64 d.1, .slice au6 nu6 cu6] := (kbx0_7.belowS b8)
      have xkbx0_8_0 : w8.cell? ⟨w6.heap.size, 0, none⟩ = some (.int .i64 d.1) := kbx0_8.cell 0
      have xkbx0_8_1 : w8.cell? ⟨w6.heap.size, 1, none⟩ = some (.slice au6 nu6 cu6) := kbx0_8.cell 1
      have lkbx0_8 : w6.heap.size < w8.heap.size := kbx0_8.lt
      clear xkb0_7_0 xkb0_7_1 xkbx0_7_0 xkbx0_7_1
      go_wp2_with fail
      refine (api_implHoldIn  _ ((o6.below bx7).below b8).rd o8.rd ).mono ?_
      rintro e w9 ⟨rfl, b9⟩
      have s9 := b9.size
      have B9 : Below w.heap.size w w9 := B8.trans (b9.mono B8.size)
      have kb0_9 : Blk w9 (w.heap.size) 41 #[.int .i64 d.1, .slice a0 n0 c0] := (kb0_8.belowS b9)
      have xkb0_9_0 : w9.cell? ⟨w.heap.size, 0, none⟩ = some (.int .i64 d.1) := kb0_9.cell 0
      have xkb0_9_1 : w9.cell? ⟨w.heap.size, 1, none⟩ = some (.slice a0 n0 c0) := kb0_9.cell 1
      have lkb0_9 : w.heap.size < w9.heap.size := kb0_9.lt
      have kbx0_9 : Blk w9 (w6.heap.size) 25 #[.int .i64 d.1, .slice au6 nu6 cu6] := (kbx0_8.belowS b9)
      have xkbx0_9_0 : w9.cell? ⟨w6.heap.size, 0, none⟩ = some (.int .i64 d.1) := kbx0_9.cell 0
      have xkbx0_9_1 : w9.cell? ⟨w6.heap.size, 1, none⟩ = some (.slice au6 nu6 cu6) := kbx0_9.cell 1
      have lkbx0_9 : w6.heap.size < w9.heap.size := kbx0_9.lt
      clear xkb0_8_0 xkb0_8_1 xkbx0_8_0 xkbx0_8_1
      go_wp2_with fail
      have hS9 : ∀ w', Below w9.heap.size w9 w' → (Below w9.heap.size w9 w' ∧ w'.cell? ⟨w.heap.size, 0, none⟩ = some (.int .i64 d.1) ∧ w'.cell? ⟨w.heap.size, 1, none⟩ = some (.slice a0 n0 c0) ∧ w'.cell? ⟨w6.heap.size, 0, none⟩ = some (.int .i64 d.1) ∧ w'.cell? ⟨w6.heap.size, 1, none⟩ = some (.slice au6 nu6 cu6)) := fun w' hb => ⟨hb, (kb0_9.belowS hb).cell 0, (kb0_9.belowS hb).cell 1, (kbx0_9.belowS hb).cell 0, (kbx0_9.belowS hb).cell 1⟩
      have HS9 := Lib.hid hS9
      clear hS9 xkb0_9_0 xkb0_9_1 xkbx0_9_0 xkbx0_9_1
      go_region_held3 (fun w' => Below w9.heap.size w9 w' ∧ w'.cell? ⟨w.heap.size, 0, none⟩ = some (.int .i64 d.1) ∧ w'.cell? ⟨w.heap.size, 1, none⟩ = some (.slice a0 n0 c0) ∧ w'.cell? ⟨w6.heap.size, 0, none⟩ = some (.int .i64 d.1) ∧ w'.cell? ⟨w6.heap.size, 1, none⟩ = some (.slice au6 nu6 cu6))
        (first | exact HS9.out _ (below_drew1 _) | exact HS9.out _ (below_tr (by assumption) (And.left (by assumption))))
        (first | (go_at_call 30; refine (law_toP _ (h0.below ?_) (by omega)).mono ?_; (exact below_tr (And.left (by assumption)) B9); rintro e w909 ⟨u909, rfl, o909, bt909⟩) | (go_at_call 17; refine (law_eqP _ ((((o6.below bx7).below b8).below b9).below (And.left (by assumption))).rd (OwP.rd (by assumption))).mono ?_; rintro e w10 ⟨rfl, be10⟩))
      have b10 : Below w9.heap.size w9 w10 := And.left (by assumption)
      have s10 := b10.size
      have B10 : Below w.heap.size w w10 := B9.trans (b10.mono B9.size)
      have kb0_10 : Blk w10 (w.heap.size) 41 #[.int .i64 d.1, .slice a0 n0 c0] := (kb0_9.belowS b10)
      have xkb0_10_0 : w10.cell? ⟨w.heap.size, 0, none⟩ = some (.int .i64 d.1) := kb0_10.cell 0
      have xkb0_10_1 : w10.cell? ⟨w.heap.size, 1, none⟩ = some (.slice a0 n0 c0) := kb0_10.cell 1
      have lkb0_10 : w.heap.size < w10.heap.size := kb0_10.lt
      have kbx0_10 : Blk w10 (w6.heap.size) 25 #[.int .i64 d.1, .slice au6 nu6 cu6] := (kbx0_9.belowS b10)
      have xkbx0_10_0 : w10.cell? ⟨w6.heap.size, 0, none⟩ = some (.int .i64 d.1) := kbx0_10.cell 0
      have xkbx0_10_1 : w10.cell? ⟨w6.heap.size, 1, none⟩ = some (.slice au6 nu6 cu6) := kbx0_10.cell 1
      have lkbx0_10 : w6.heap.size < w10.heap.size := kbx0_10.lt
      go_wp2_with fail
      refine (law_toSS _ (h1.below B10) (by omega)).mono ?_
      rintro e w11 ⟨u11, rfl, o11, b11⟩
      have s11 := b11.size
      have B11 : Below w.heap.size w w11 := B10.trans (b11.mono B10.size)
      have kb0_11 : Blk w11 (w.heap.size) 41 #[.int .i64 d.1, .slice a0 n0 c0] := (kb0_10.belowS b11)
      have xkb0_11_0 : w11.cell? ⟨w.heap.size, 0, none⟩ = some (.int .i64 d.1) := kb0_11.cell 0
      have xkb0_11_1 : w11.cell? ⟨w.heap.size, 1, none⟩ = some (.slice a0 n0 c0) := kb0_11.cell 1
      have lkb0_11 : w.heap.size < w11.heap.size := kb0_11.lt
      have kbx0_11 : Blk w11 (w6.heap.size) 25 #[.int .i64 d.1, .slice au6 nu6 cu6] := (kbx0_10.belowS b11)
      have xkbx0_11_0 : w11.cell? ⟨w6.heap.size, 0, none⟩ = some (.int .i64 d.1) := kbx0_11.cell 0
      have xkbx0_11_1 : w11.cell? ⟨w6.heap.size, 1, none⟩ = some (.slice au6 nu6 cu6) := kbx0_11.cell 1
      have lkbx0_11 : w6.heap.size < w11.heap.size := kbx0_11.lt
      clear xkb0_10_0 xkb0_10_1 xkbx0_10_0 xkbx0_10_1
      go_wp2_with fail
      refine (law_eqSS _ (((o8.below b9).below b10).below b11).rd o11.rd).mono ?_
      rintro e w12 ⟨rfl, b12⟩
      have s12 := b12.size
      have B12 : Below w.heap.size w w12 := B11.trans (b12.mono B11.size)
      have kb0_12 : Blk w12 (w.heap.size) 41 #[.int .i64 d.1, .slice a0 n0 c0] := (kb0_11.belowS b12)
      have xkb0_12_0 : w12.cell? ⟨w.heap.size, 0, none⟩ = some (.int .i64 d.1) := kb0_12.cell 0
      have xkb0_12_1 : w12.cell? ⟨w.heap.size, 1, none⟩ = some (.slice a0 n0 c0) := kb0_12.cell 1
      have lkb0_12 : w.heap.size < w12.heap.size := kb0_12.lt
      have kbx0_12 : Blk w12 (w6.heap.size) 25 #[.int .i64 d.1, .slice au6 nu6 cu6] := (kbx0_11.belowS b12)
      have xkbx0_12_0 : w12.cell? ⟨w6.heap.size, 0, none⟩ = some (.int .i64 d.1) := kbx0_12.cell 0
      have xkbx0_12_1 : w12.cell? ⟨w6.heap.size, 1, none⟩ = some (.slice au6 nu6 cu6) := kbx0_12.cell 1
      have lkbx0_12 : w6.heap.size < w12.heap.size := kbx0_12.lt
      clear xkb0_11_0 xkb0_11_1 xkbx0_11_0 xkbx0_11_1
      go_wp2
      go_ret
      exact ⟨rfl, B12⟩
end Go.Proofs.Ytdkmihnpobobiaa
