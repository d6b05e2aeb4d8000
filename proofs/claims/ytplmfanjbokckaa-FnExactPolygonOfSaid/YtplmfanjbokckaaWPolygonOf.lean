/- The walk of FnExactPolygonOf: true, whatever the arguments. Written by genwalk.py. -/
import Derived.Test.YtplmfanjbokckaaLawM
import Derived.Test.Ytplmfanjbokckaa10PolyI
namespace Go.Proofs.Ytplmfanjbokckaa
open Go.RowKit

set_option maxHeartbeats 3200000 in
theorem walkPolygonOf (p : Int) (w : World) (_hw : (Lit.int .i64 p).wf = true) :
    Calls Try.prog 6 #[.int .i64 p] w fun e w' => e = .returned (.bool true) ∧ Below w.heap.size w w' := by
  have hsz := lenSS_polyR p
  have B0 : Below w.heap.size w w := Below.refl _ _
  go_enter Try.func6, Try.ntmps6
  go_wp2_with fail
  refine (api_specPolygonOf p _  ).mono ?_
  rintro e w1 ⟨u1_0, rfl, o1_0, b1⟩
  obtain ⟨au1_0, nu1_0, cu1_0, rfl⟩ := o1_0.form
  have s1 := b1.size
  have B1 : Below w.heap.size w w1 := B0.trans (b1.mono B0.size)
  go_wp2_with fail
  have bx2 := below_alloc1 w1 (.cells #[.slice au1_0 nu1_0 cu1_0] 31)
  have kbw0_2 : Blk (w1.alloc (.cells #[.slice au1_0 nu1_0 cu1_0] 31)) w1.heap.size 31 #[.slice au1_0 nu1_0 cu1_0] := blk_at rfl
  generalize w1.alloc (.cells #[.slice au1_0 nu1_0 cu1_0] 31) = w2 at *
  have s2 := bx2.size
  have B2 : Below w.heap.size w w2 := B1.trans (bx2.mono B1.size)
  have xkbw0_2_0 : w2.cell? ⟨w1.heap.size, 0, none⟩ = some (.slice au1_0 nu1_0 cu1_0) := kbw0_2.cell 0
  have lkbw0_2 : w1.heap.size < w2.heap.size := kbw0_2.lt
  refine (api_implPolygonOf p _  ).mono ?_
  rintro e w3 ⟨u3_0, rfl, o3_0, b3⟩
  obtain ⟨au3_0, nu3_0, cu3_0, rfl⟩ := o3_0.form
  have s3 := b3.size
  have B3 : Below w.heap.size w w3 := B2.trans (b3.mono B2.size)
  have kbw0_3 : Blk w3 (w1.heap.size) 31 #[.slice au1_0 nu1_0 cu1_0] := (kbw0_2.belowS b3)
  have xkbw0_3_0 : w3.cell? ⟨w1.heap.size, 0, none⟩ = some (.slice au1_0 nu1_0 cu1_0) := kbw0_3.cell 0
  have lkbw0_3 : w1.heap.size < w3.heap.size := kbw0_3.lt
  clear xkbw0_2_0
  go_wp2_with fail
  have bx4 := below_alloc1 w3 (.cells #[.slice au3_0 nu3_0 cu3_0] 31)
  have kbg0_4 : Blk (w3.alloc (.cells #[.slice au3_0 nu3_0 cu3_0] 31)) w3.heap.size 31 #[.slice au3_0 nu3_0 cu3_0] := blk_at rfl
  generalize w3.alloc (.cells #[.slice au3_0 nu3_0 cu3_0] 31) = w4 at *
  have s4 := bx4.size
  have B4 : Below w.heap.size w w4 := B3.trans (bx4.mono B3.size)
  have kbw0_4 : Blk w4 (w1.heap.size) 31 #[.slice au1_0 nu1_0 cu1_0] := (kbw0_3.belowS bx4)
  have xkbw0_4_0 : w4.cell? ⟨w1.heap.size, 0, none⟩ = some (.slice au1_0 nu1_0 cu1_0) := kbw0_4.cell 0
  have lkbw0_4 : w1.heap.size < w4.heap.size := kbw0_4.lt
  have xkbg0_4_0 : w4.cell? ⟨w3.heap.size, 0, none⟩ = some (.slice au3_0 nu3_0 cu3_0) := kbg0_4.cell 0
  have lkbg0_4 : w3.heap.size < w4.heap.size := kbg0_4.lt
  clear xkbw0_3_0
  refine (law_eqM _ (o3_0.below bx4).rd (((o1_0.below bx2).below b3).below bx4).rd).mono ?_
  rintro e w5 ⟨rfl, b5⟩
  have s5 := b5.size
  have B5 : Below w.heap.size w w5 := B4.trans (b5.mono B4.size)
  have kbw0_5 : Blk w5 (w1.heap.size) 31 #[.slice au1_0 nu1_0 cu1_0] := (kbw0_4.belowS b5)
  have xkbw0_5_0 : w5.cell? ⟨w1.heap.size, 0, none⟩ = some (.slice au1_0 nu1_0 cu1_0) := kbw0_5.cell 0
  have lkbw0_5 : w1.heap.size < w5.heap.size := kbw0_5.lt
  have kbg0_5 : Blk w5 (w3.heap.size) 31 #[.slice au3_0 nu3_0 cu3_0] := (kbg0_4.belowS b5)
  have xkbg0_5_0 : w5.cell? ⟨w3.heap.size, 0, none⟩ = some (.slice au3_0 nu3_0 cu3_0) := kbg0_5.cell 0
  have lkbg0_5 : w3.heap.size < w5.heap.size := kbg0_5.lt
  clear xkbw0_4_0 xkbg0_4_0
  go_wp2_with fail
  refine (law_markM (1) _ ((o3_0.below bx4).below b5) (by omega) (by omega)).mono ?_
  rintro e w6 ⟨rfl, o6, q6⟩
  have s6 := q6.size
  have B6 : Below w.heap.size w w6 := B5.trans (q6.below (by omega) B5.size)
  have kbw0_6 : Blk w6 (w1.heap.size) 31 #[.slice au1_0 nu1_0 cu1_0] := (kbw0_5.only q6 (by omega))
  have xkbw0_6_0 : w6.cell? ⟨w1.heap.size, 0, none⟩ = some (.slice au1_0 nu1_0 cu1_0) := kbw0_6.cell 0
  have lkbw0_6 : w1.heap.size < w6.heap.size := kbw0_6.lt
  have kbg0_6 : Blk w6 (w3.heap.size) 31 #[.slice au3_0 nu3_0 cu3_0] := (kbg0_5.only q6 (by omega))
  have xkbg0_6_0 : w6.cell? ⟨w3.heap.size, 0, none⟩ = some (.slice au3_0 nu3_0 cu3_0) := kbg0_6.cell 0
  have lkbg0_6 : w3.heap.size < w6.heap.size := kbg0_6.lt
  clear xkbw0_5_0 xkbg0_5_0
  go_wp2_with fail
  refine (law_heldM (1) _ o6.rd (by omega) (by omega)).mono ?_
  rintro e w7 ⟨rfl, b7⟩
  have s7 := b7.size
  have B7 : Below w.heap.size w w7 := B6.trans (b7.mono B6.size)
  have kbw0_7 : Blk w7 (w1.heap.size) 31 #[.slice au1_0 nu1_0 cu1_0] := (kbw0_6.belowS b7)
  have xkbw0_7_0 : w7.cell? ⟨w1.heap.size, 0, none⟩ = some (.slice au1_0 nu1_0 cu1_0) := kbw0_7.cell 0
  have lkbw0_7 : w1.heap.size < w7.heap.size := kbw0_7.lt
  have kbg0_7 : Blk w7 (w3.heap.size) 31 #[.slice au3_0 nu3_0 cu3_0] := (kbg0_6.belowS b7)
  have xkbg0_7_0 : w7.cell? ⟨w3.heap.size, 0, none⟩ = some (.slice au3_0 nu3_0 cu3_0) := kbg0_7.cell 0
  have lkbg0_7 : w3.heap.size < w7.heap.size := kbg0_7.lt
  clear xkbw0_6_0 xkbg0_6_0
  go_wp2_with fail
  refine (api_implPolygonOf p _  ).mono ?_
  rintro e w8 ⟨u8_0, rfl, o8_0, b8⟩
  obtain ⟨au8_0, nu8_0, cu8_0, rfl⟩ := o8_0.form
  have s8 := b8.size
  have B8 : Below w.heap.size w w8 := B7.trans (b8.mono B7.size)
  have kbw0_8 : Blk w8 (w1.heap.size) 31 #[.slice au1_0 nu1_0 cu1_0] := (kbw0_7.belowS b8)
  have xkbw0_8_0 : w8.cell? ⟨w1.heap.size, 0, none⟩ = some (.slice au1_0 nu1_0 cu1_0) := kbw0_8.cell 0
  have lkbw0_8 : w1.heap.size < w8.heap.size := kbw0_8.lt
  have kbg0_8 : Blk w8 (w3.heap.size) 31 #[.slice au3_0 nu3_0 cu3_0] := (kbg0_7.belowS b8)
  have xkbg0_8_0 : w8.cell? ⟨w3.heap.size, 0, none⟩ = some (.slice au3_0 nu3_0 cu3_0) := kbg0_8.cell 0
  have lkbg0_8 : w3.heap.size < w8.heap.size := kbg0_8.lt
  clear xkbw0_7_0 xkbg0_7_0
  go_wp2_with fail
  have bx9 := below_alloc1 w8 (.cells #[.slice au8_0 nu8_0 cu8_0] 31)
  have kbh0_9 : Blk (w8.alloc (.cells #[.slice au8_0 nu8_0 cu8_0] 31)) w8.heap.size 31 #[.slice au8_0 nu8_0 cu8_0] := blk_at rfl
  generalize w8.alloc (.cells #[.slice au8_0 nu8_0 cu8_0] 31) = w9 at *
  have s9 := bx9.size
  have B9 : Below w.heap.size w w9 := B8.trans (bx9.mono B8.size)
  have kbw0_9 : Blk w9 (w1.heap.size) 31 #[.slice au1_0 nu1_0 cu1_0] := (kbw0_8.belowS bx9)
  have xkbw0_9_0 : w9.cell? ⟨w1.heap.size, 0, none⟩ = some (.slice au1_0 nu1_0 cu1_0) := kbw0_9.cell 0
  have lkbw0_9 : w1.heap.size < w9.heap.size := kbw0_9.lt
  have kbg0_9 : Blk w9 (w3.heap.size) 31 #[.slice au3_0 nu3_0 cu3_0] := (kbg0_8.belowS bx9)
  have xkbg0_9_0 : w9.cell? ⟨w3.heap.size, 0, none⟩ = some (.slice au3_0 nu3_0 cu3_0) := kbg0_9.cell 0
  have lkbg0_9 : w3.heap.size < w9.heap.size := kbg0_9.lt
  have xkbh0_9_0 : w9.cell? ⟨w8.heap.size, 0, none⟩ = some (.slice au8_0 nu8_0 cu8_0) := kbh0_9.cell 0
  have lkbh0_9 : w8.heap.size < w9.heap.size := kbh0_9.lt
  clear xkbw0_8_0 xkbg0_8_0
  refine (law_eqM _ (o8_0.below bx9).rd ((((((((o1_0.below bx2).below b3).below bx4).below b5).only q6 (by omega)).below b7).below b8).below bx9).rd).mono ?_
  rintro e w10 ⟨rfl, b10⟩
  have s10 := b10.size
  have B10 : Below w.heap.size w w10 := B9.trans (b10.mono B9.size)
  have kbw0_10 : Blk w10 (w1.heap.size) 31 #[.slice au1_0 nu1_0 cu1_0] := (kbw0_9.belowS b10)
  have xkbw0_10_0 : w10.cell? ⟨w1.heap.size, 0, none⟩ = some (.slice au1_0 nu1_0 cu1_0) := kbw0_10.cell 0
  have lkbw0_10 : w1.heap.size < w10.heap.size := kbw0_10.lt
  have kbg0_10 : Blk w10 (w3.heap.size) 31 #[.slice au3_0 nu3_0 cu3_0] := (kbg0_9.belowS b10)
  have xkbg0_10_0 : w10.cell? ⟨w3.heap.size, 0, none⟩ = some (.slice au3_0 nu3_0 cu3_0) := kbg0_10.cell 0
  have lkbg0_10 : w3.heap.size < w10.heap.size := kbg0_10.lt
  have kbh0_10 : Blk w10 (w8.heap.size) 31 #[.slice au8_0 nu8_0 cu8_0] := (kbh0_9.belowS b10)
  have xkbh0_10_0 : w10.cell? ⟨w8.heap.size, 0, none⟩ = some (.slice au8_0 nu8_0 cu8_0) := kbh0_10.cell 0
  have lkbh0_10 : w8.heap.size < w10.heap.size := kbh0_10.lt
  clear xkbw0_9_0 xkbg0_9_0 xkbh0_9_0
  go_wp2_with fail
  refine (law_heldM (1) _ ((((o6.below b7).below b8).below bx9).below b10).rd (by omega) (by omega)).mono ?_
  rintro e w11 ⟨rfl, b11⟩
  have s11 := b11.size
  have B11 : Below w.heap.size w w11 := B10.trans (b11.mono B10.size)
  have kbw0_11 : Blk w11 (w1.heap.size) 31 #[.slice au1_0 nu1_0 cu1_0] := (kbw0_10.belowS b11)
  have xkbw0_11_0 : w11.cell? ⟨w1.heap.size, 0, none⟩ = some (.slice au1_0 nu1_0 cu1_0) := kbw0_11.cell 0
  have lkbw0_11 : w1.heap.size < w11.heap.size := kbw0_11.lt
  have kbg0_11 : Blk w11 (w3.heap.size) 31 #[.slice au3_0 nu3_0 cu3_0] := (kbg0_10.belowS b11)
  have xkbg0_11_0 : w11.cell? ⟨w3.heap.size, 0, none⟩ = some (.slice au3_0 nu3_0 cu3_0) := kbg0_11.cell 0
  have lkbg0_11 : w3.heap.size < w11.heap.size := kbg0_11.lt
  have kbh0_11 : Blk w11 (w8.heap.size) 31 #[.slice au8_0 nu8_0 cu8_0] := (kbh0_10.belowS b11)
  have xkbh0_11_0 : w11.cell? ⟨w8.heap.size, 0, none⟩ = some (.slice au8_0 nu8_0 cu8_0) := kbh0_11.cell 0
  have lkbh0_11 : w8.heap.size < w11.heap.size := kbh0_11.lt
  clear xkbw0_10_0 xkbg0_10_0 xkbh0_10_0
  go_wp2
  go_ret
  exact ⟨rfl, B11⟩
end Go.Proofs.Ytplmfanjbokckaa
