/- The walk of FnExactComposeTemplates: true, whatever the arguments. Written by genwalk.py and gen_wcmp.py. -/
import Derived.Test.YtpognnifgcacnaaPart2
import Derived.Deep.RegionHeld3
namespace Go.Proofs.Ytpognnifgcacnaa
open Go.RowKit

theorem blk_drew {w : World} {g : Nat} {t : TypeId} {cs : Array Value} (h : Blk w g t cs) : Blk w.drew g t cs := h
theorem own_set {E1 E : Nat} {w : World} {lo hi : Nat} {v : Value} {d : List (List (Int × Int))} (h : OwT E1 E w lo hi v d) {p : Addr} {u : Value} (hp : p.block < lo) : OwT E1 E (w.setCell p u) lo hi v d := by
  obtain ⟨ao, n, c, us, rfl, ho⟩ := h
  exact ⟨ao, n, c, us, rfl, ho.same (innerTs E1) fun g h1 _ _ => Below.heap_setCell _ _ _ _ (by omega)⟩
set_option maxRecDepth 100000 in
set_option maxHeartbeats 12800000 in
theorem walkComposeTemplates {v0 : Value} {d : List (List (Int × Int))} {v1 : Value} {e : List (List (Int × Int))} (w : World) (h0 : RdT w v0 d) (h1 : RdT w v1 e) :
    Calls Try.prog 4 #[v0, v1] w fun e w' => e = .returned (.bool true) ∧ Below w.heap.size w w' := by
  have hsz := cmR_small d e
  have hq0 : lenTT d ≤ 2 * lenTT0 d := Nat.le_refl _
  have hq1 : lenTT e ≤ 2 * lenTT0 e := Nat.le_refl _
  obtain ⟨a0, n0, c0, rfl, hi0⟩ := h0
  have h0 : RdT w (.agg #[.slice a0 n0 c0]) d := ⟨a0, n0, c0, rfl, hi0⟩
  clear hi0
  obtain ⟨a1, n1, c1, rfl, hi1⟩ := h1
  have h1 : RdT w (.agg #[.slice a1 n1 c1]) e := ⟨a1, n1, c1, rfl, hi1⟩
  clear hi1
  have B0 : Below w.heap.size w ((w.alloc (.cells #[.slice a0 n0 c0] 24)).alloc (.cells #[.slice a1 n1 c1] 24)) := below_alloc2 w _ _
  have kb0_0 : Blk ((w.alloc (.cells #[.slice a0 n0 c0] 24)).alloc (.cells #[.slice a1 n1 c1] 24)) (w.heap.size) 24 #[.slice a0 n0 c0] := ((blk_at rfl).alloc _)
  have kb1_0 : Blk ((w.alloc (.cells #[.slice a0 n0 c0] 24)).alloc (.cells #[.slice a1 n1 c1] 24)) (w.heap.size + 1) 24 #[.slice a1 n1 c1] := (blk_at (by simp))
  by_cases hx0 : budget1 1048576 (d.length + lenTT0 d) < 0
  · go_enter Try.func4, Try.ntmps4
    go_wp2_with fail
    refine (law_usT (1048576) _ (h0.below B0) (by omega) (by omega)).mono ?_
    rintro e w1 ⟨rfl, b1⟩
    have s1 := b1.size
    have B1 : Below w.heap.size w w1 := B0.trans (b1.mono B0.size)
    have kb0_1 : Blk w1 (w.heap.size) 24 #[.slice a0 n0 c0] := (kb0_0.belowS b1)
    have xkb0_1_0 : w1.cell? ⟨w.heap.size, 0, none⟩ = some (.slice a0 n0 c0) := kb0_1.cell 0
    have lkb0_1 : w.heap.size < w1.heap.size := kb0_1.lt
    have kb1_1 : Blk w1 (w.heap.size + 1) 24 #[.slice a1 n1 c1] := (kb1_0.belowS b1)
    have xkb1_1_0 : w1.cell? ⟨w.heap.size + 1, 0, none⟩ = some (.slice a1 n1 c1) := kb1_1.cell 0
    have lkb1_1 : w.heap.size + 1 < w1.heap.size := kb1_1.lt
    go_wp2
    go_ret
    exact ⟨rfl, B1⟩
  · obtain ⟨ht0, he0⟩ := budget1_at hx0
    have hn0 : 0 ≤ budget1 1048576 (d.length + lenTT0 d) := by omega
    have hm0 : budget1 1048576 (d.length + lenTT0 d) ≤ 1048576 := by omega
    have HE0 := Lib.hid he0
    clear he0 hx0
    by_cases hx1 : budget1 (budget1 1048576 (d.length + lenTT0 d)) (e.length + lenTT0 e) < 0
    · go_enter Try.func4, Try.ntmps4
      go_wp2_with fail
      refine (law_usT (1048576) _ (h0.below B0) (by omega) (by omega)).mono ?_
      rintro e w1 ⟨rfl, b1⟩
      have s1 := b1.size
      have B1 : Below w.heap.size w w1 := B0.trans (b1.mono B0.size)
      have kb0_1 : Blk w1 (w.heap.size) 24 #[.slice a0 n0 c0] := (kb0_0.belowS b1)
      have xkb0_1_0 : w1.cell? ⟨w.heap.size, 0, none⟩ = some (.slice a0 n0 c0) := kb0_1.cell 0
      have lkb0_1 : w.heap.size < w1.heap.size := kb0_1.lt
      have kb1_1 : Blk w1 (w.heap.size + 1) 24 #[.slice a1 n1 c1] := (kb1_0.belowS b1)
      have xkb1_1_0 : w1.cell? ⟨w.heap.size + 1, 0, none⟩ = some (.slice a1 n1 c1) := kb1_1.cell 0
      have lkb1_1 : w.heap.size + 1 < w1.heap.size := kb1_1.lt
      go_wp2_with fail
      refine (law_usT (budget1 1048576 (d.length + lenTT0 d)) _ (h1.below B1) (by omega) (by omega)).mono ?_
      rintro e w2 ⟨rfl, b2⟩
      have s2 := b2.size
      have B2 : Below w.heap.size w w2 := B1.trans (b2.mono B1.size)
      have kb0_2 : Blk w2 (w.heap.size) 24 #[.slice a0 n0 c0] := (kb0_1.belowS b2)
      have xkb0_2_0 : w2.cell? ⟨w.heap.size, 0, none⟩ = some (.slice a0 n0 c0) := kb0_2.cell 0
      have lkb0_2 : w.heap.size < w2.heap.size := kb0_2.lt
      have kb1_2 : Blk w2 (w.heap.size + 1) 24 #[.slice a1 n1 c1] := (kb1_1.belowS b2)
      have xkb1_2_0 : w2.cell? ⟨w.heap.size + 1, 0, none⟩ = some (.slice a1 n1 c1) := kb1_2.cell 0
      have lkb1_2 : w.heap.size + 1 < w2.heap.size := kb1_2.lt
      clear xkb0_1_0 xkb1_1_0
      go_wp2
      go_ret
      exact ⟨rfl, B2⟩
    · obtain ⟨ht1, he1⟩ := budget1_at hx1
      have hn1 : 0 ≤ budget1 (budget1 1048576 (d.length + lenTT0 d)) (e.length + lenTT0 e) := by omega
      have hm1 : budget1 (budget1 1048576 (d.length + lenTT0 d)) (e.length + lenTT0 e) ≤ 1048576 := by omega
      have HE1 := Lib.hid he1
      clear he1 hx1
      go_enter Try.func4, Try.ntmps4
      go_wp2_with fail
      refine (law_usT (1048576) _ (h0.below B0) (by omega) (by omega)).mono ?_
      rintro e w1 ⟨rfl, b1⟩
      have s1 := b1.size
      have B1 : Below w.heap.size w w1 := B0.trans (b1.mono B0.size)
      have kb0_1 : Blk w1 (w.heap.size) 24 #[.slice a0 n0 c0] := (kb0_0.belowS b1)
      have xkb0_1_0 : w1.cell? ⟨w.heap.size, 0, none⟩ = some (.slice a0 n0 c0) := kb0_1.cell 0
      have lkb0_1 : w.heap.size < w1.heap.size := kb0_1.lt
      have kb1_1 : Blk w1 (w.heap.size + 1) 24 #[.slice a1 n1 c1] := (kb1_0.belowS b1)
      have xkb1_1_0 : w1.cell? ⟨w.heap.size + 1, 0, none⟩ = some (.slice a1 n1 c1) := kb1_1.cell 0
      have lkb1_1 : w.heap.size + 1 < w1.heap.size := kb1_1.lt
      go_wp2_with fail
      refine (law_usT (budget1 1048576 (d.length + lenTT0 d)) _ (h1.below B1) (by omega) (by omega)).mono ?_
      rintro e w2 ⟨rfl, b2⟩
      have s2 := b2.size
      have B2 : Below w.heap.size w w2 := B1.trans (b2.mono B1.size)
      have kb0_2 : Blk w2 (w.heap.size) 24 #[.slice a0 n0 c0] := (kb0_1.belowS b2)
      have xkb0_2_0 : w2.cell? ⟨w.heap.size, 0, none⟩ = some (.slice a0 n0 c0) := kb0_2.cell 0
      have lkb0_2 : w.heap.size < w2.heap.size := kb0_2.lt
      have kb1_2 : Blk w2 (w.heap.size + 1) 24 #[.slice a1 n1 c1] := (kb1_1.belowS b2)
      have xkb1_2_0 : w2.cell? ⟨w.heap.size + 1, 0, none⟩ = some (.slice a1 n1 c1) := kb1_2.cell 0
      have lkb1_2 : w.heap.size + 1 < w2.heap.size := kb1_2.lt
      clear xkb0_1_0 xkb1_1_0
      go_wp2_with fail
      rename_i K hK
      have tail : ∀ (bxa : Nat) (w6 : World) (ux uy : Value) (au5_0 : Option Addr) (nu5_0 cu5_0 : Nat), Below w2.heap.size w2 w6 → Blk w6 bxa 29 #[.slice au5_0 nu5_0 cu5_0] → w2.heap.size ≤ bxa → OwT 143 100 w6 w2.heap.size w6.heap.size (.agg #[.slice au5_0 nu5_0 cu5_0]) (cmR d e) → K { tmps := #[Value.agg #[Value.slice a0 n0 c0], Value.agg #[Value.slice a1 n1 c1], Value.pointer (some { block := w.heap.size, off := 0 }), Value.pointer (some { block := w.heap.size + 1, off := 0 }), Value.bool false, Value.int IntKind.i64 (budget1 (budget1 1048576 (d.length + lenTT0 d)) (e.length + lenTT0 e)), Value.pointer (some { block := bxa, off := 0 }), Value.int IntKind.i64 (cmC d e), undef, undef, undef, undef, undef, undef, undef, undef, undef, Value.agg #[Value.slice a0 n0 c0], Value.int IntKind.i64 1048576, Value.int IntKind.i64 (budget1 1048576 (d.length + lenTT0 d)), Value.int IntKind.i64 (budget1 1048576 (d.length + lenTT0 d)), Value.bool (decide ((budget1 1048576 (d.length + lenTT0 d)) < 0)), Value.agg #[Value.slice a1 n1 c1], Value.int IntKind.i64 (budget1 1048576 (d.length + lenTT0 d)), Value.int IntKind.i64 (budget1 (budget1 1048576 (d.length + lenTT0 d)) (e.length + lenTT0 e)), Value.int IntKind.i64 (budget1 (budget1 1048576 (d.length + lenTT0 d)) (e.length + lenTT0 e)), Value.bool (decide ((budget1 (budget1 1048576 (d.length + lenTT0 d)) (e.length + lenTT0 e)) < 0)), Value.tuple #[Value.agg #[Value.slice au5_0 nu5_0 cu5_0], Value.int IntKind.i64 (cmC d e)], Value.agg #[Value.slice a0 n0 c0], ux, Value.agg #[Value.slice a1 n1 c1], uy, Value.tuple #[Value.agg #[Value.slice au5_0 nu5_0 cu5_0], Value.int IntKind.i64 (cmC d e)], Value.agg #[Value.slice au5_0 nu5_0 cu5_0], Value.int IntKind.i64 (cmC d e), undef, undef, undef, undef, undef, undef, undef, undef, undef, undef, undef, undef, undef, undef, undef, undef, undef, undef, undef, undef, undef, undef, undef, undef, undef, undef, undef, undef, undef, undef, undef, undef, undef, undef, undef, undef, undef, undef, undef, undef, undef, undef, undef, undef, undef, undef, undef, undef, undef, undef, undef, undef, undef, undef, undef, undef, undef, undef, undef, undef, undef, undef, undef, undef, undef, undef, undef, undef, undef, undef, undef, undef, undef, undef, undef, undef, undef, undef, undef, undef, undef, undef, undef, undef], defers := [] } w6 := by
        intro bxa w6 ux uy au5_0 nu5_0 cu5_0 hbz kbw0_6 hbl o6_0
        refine hK _ _ ?_
        have s6 := hbz.size
        have B6 : Below w.heap.size w w6 := below_tr hbz B2
        have kb0_6 := kb0_2.belowS hbz
        have kb1_6 := kb1_2.belowS hbz
        have xkb0_6_0 : w6.cell? ⟨w.heap.size, 0, none⟩ = some (.slice a0 n0 c0) := kb0_6.cell 0
        have lkb0_6 : w.heap.size < w6.heap.size := kb0_6.lt
        have xkb1_6_0 : w6.cell? ⟨w.heap.size + 1, 0, none⟩ = some (.slice a1 n1 c1) := kb1_6.cell 0
        have lkb1_6 : w.heap.size + 1 < w6.heap.size := kb1_6.lt
        have xkbw0_6_0 : w6.cell? ⟨bxa, 0, none⟩ = some (.slice au5_0 nu5_0 cu5_0) := kbw0_6.cell 0
        have lkbw0_6 : bxa < w6.heap.size := kbw0_6.lt
        clear hK xkb0_2_0 xkb1_2_0
        go_wp2_with fail
        refine (law_toT _ (h0.below B6) (by omega)).mono ?_
        rintro e w7 ⟨u7, rfl, o7, b7⟩
        obtain ⟨au7, nu7, cu7, rfl⟩ := o7.form
        have s7 := b7.size
        have B7 : Below w.heap.size w w7 := B6.trans (b7.mono B6.size)
        have kb0_7 : Blk w7 (w.heap.size) 24 #[.slice a0 n0 c0] := (kb0_6.belowS b7)
        have xkb0_7_0 : w7.cell? ⟨w.heap.size, 0, none⟩ = some (.slice a0 n0 c0) := kb0_7.cell 0
        have lkb0_7 : w.heap.size < w7.heap.size := kb0_7.lt
        have kb1_7 : Blk w7 (w.heap.size + 1) 24 #[.slice a1 n1 c1] := (kb1_6.belowS b7)
        have xkb1_7_0 : w7.cell? ⟨w.heap.size + 1, 0, none⟩ = some (.slice a1 n1 c1) := kb1_7.cell 0
        have lkb1_7 : w.heap.size + 1 < w7.heap.size := kb1_7.lt
        have kbw0_7 : Blk w7 (bxa) 29 #[.slice au5_0 nu5_0 cu5_0] := (kbw0_6.belowS b7)
        have xkbw0_7_0 : w7.cell? ⟨bxa, 0, none⟩ = some (.slice au5_0 nu5_0 cu5_0) := kbw0_7.cell 0
        have lkbw0_7 : bxa < w7.heap.size := kbw0_7.lt
        clear xkb0_6_0 xkb1_6_0 xkbw0_6_0
        go_wp2_with fail
        have bx8 := below_alloc1 w7 (.cells #[.slice au7 nu7 cu7] 29)
        have kbx0_8 : Blk (w7.alloc (.cells #[.slice au7 nu7 cu7] 29)) w7.heap.size 29 #[.slice au7 nu7 cu7] := blk_at rfl
        generalize w7.alloc (.cells #[.slice au7 nu7 cu7] 29) = w8 at *
        have s8 := bx8.size
        have B8 : Below w.heap.size w w8 := B7.trans (bx8.mono B7.size)
        have kb0_8 : Blk w8 (w.heap.size) 24 #[.slice a0 n0 c0] := (kb0_7.belowS bx8)
        have xkb0_8_0 : w8.cell? ⟨w.heap.size, 0, none⟩ = some (.slice a0 n0 c0) := kb0_8.cell 0
        have lkb0_8 : w.heap.size < w8.heap.size := kb0_8.lt
        have kb1_8 : Blk w8 (w.heap.size + 1) 24 #[.slice a1 n1 c1] := (kb1_7.belowS bx8)
        have xkb1_8_0 : w8.cell? ⟨w.heap.size + 1, 0, none⟩ = some (.slice a1 n1 c1) := kb1_8.cell 0
        have lkb1_8 : w.heap.size + 1 < w8.heap.size := kb1_8.lt
        have kbw0_8 : Blk w8 (bxa) 29 #[.slice au5_0 nu5_0 cu5_0] := (kbw0_7.belowS bx8)
        have xkbw0_8_0 : w8.cell? ⟨bxa, 0, none⟩ = some (.slice au5_0 nu5_0 cu5_0) := kbw0_8.cell 0
        have lkbw0_8 : bxa < w8.heap.size := kbw0_8.lt
        have xkbx0_8_0 : w8.cell? ⟨w7.heap.size, 0, none⟩ = some (.slice au7 nu7 cu7) := kbx0_8.cell 0
        have lkbx0_8 : w7.heap.size < w8.heap.size := kbx0_8.lt
        clear xkb0_7_0 xkb1_7_0 xkbw0_7_0
        refine (law_toT _ (h1.below B8) (by omega)).mono ?_
        rintro e w9 ⟨u9, rfl, o9, b9⟩
        obtain ⟨au9, nu9, cu9, rfl⟩ := o9.form
        have s9 := b9.size
        have B9 : Below w.heap.size w w9 := B8.trans (b9.mono B8.size)
        have kb0_9 : Blk w9 (w.heap.size) 24 #[.slice a0 n0 c0] := (kb0_8.belowS b9)
        have xkb0_9_0 : w9.cell? ⟨w.heap.size, 0, none⟩ = some (.slice a0 n0 c0) := kb0_9.cell 0
        have lkb0_9 : w.heap.size < w9.heap.size := kb0_9.lt
        have kb1_9 : Blk w9 (w.heap.size + 1) 24 #[.slice a1 n1 c1] := (kb1_8.belowS b9)
        have xkb1_9_0 : w9.cell? ⟨w.heap.size + 1, 0, none⟩ = some (.slice a1 n1 c1) := kb1_9.cell 0
        have lkb1_9 : w.heap.size + 1 < w9.heap.size := kb1_9.lt
        have kbw0_9 : Blk w9 (bxa) 29 #[.slice au5_0 nu5_0 cu5_0] := (kbw0_8.belowS b9)
        have xkbw0_9_0 : w9.cell? ⟨bxa, 0, none⟩ = some (.slice au5_0 nu5_0 cu5_0) := kbw0_9.cell 0
        have lkbw0_9 : bxa < w9.heap.size := kbw0_9.lt
        have kbx0_9 : Blk w9 (w7.heap.size) 29 #[.slice au7 nu7 cu7] := (kbx0_8.belowS b9)
        have xkbx0_9_0 : w9.cell? ⟨w7.heap.size, 0, none⟩ = some (.slice au7 nu7 cu7) := kbx0_9.cell 0
        have lkbx0_9 : w7.heap.size < w9.heap.size := kbx0_9.lt
        clear xkb0_8_0 xkb1_8_0 xkbw0_8_0 xkbx0_8_0
        go_wp2_with fail
        have bx10 := below_alloc1 w9 (.cells #[.slice au9 nu9 cu9] 29)
        have kbx1_10 : Blk (w9.alloc (.cells #[.slice au9 nu9 cu9] 29)) w9.heap.size 29 #[.slice au9 nu9 cu9] := blk_at rfl
        generalize w9.alloc (.cells #[.slice au9 nu9 cu9] 29) = w10 at *
        have s10 := bx10.size
        have B10 : Below w.heap.size w w10 := B9.trans (bx10.mono B9.size)
        have kb0_10 : Blk w10 (w.heap.size) 24 #[.slice a0 n0 c0] := (kb0_9.belowS bx10)
        have xkb0_10_0 : w10.cell? ⟨w.heap.size, 0, none⟩ = some (.slice a0 n0 c0) := kb0_10.cell 0
        have lkb0_10 : w.heap.size < w10.heap.size := kb0_10.lt
        have kb1_10 : Blk w10 (w.heap.size + 1) 24 #[.slice a1 n1 c1] := (kb1_9.belowS bx10)
        have xkb1_10_0 : w10.cell? ⟨w.heap.size + 1, 0, none⟩ = some (.slice a1 n1 c1) := kb1_10.cell 0
        have lkb1_10 : w.heap.size + 1 < w10.heap.size := kb1_10.lt
        have kbw0_10 : Blk w10 (bxa) 29 #[.slice au5_0 nu5_0 cu5_0] := (kbw0_9.belowS bx10)
        have xkbw0_10_0 : w10.cell? ⟨bxa, 0, none⟩ = some (.slice au5_0 nu5_0 cu5_0) := kbw0_10.cell 0
        have lkbw0_10 : bxa < w10.heap.size := kbw0_10.lt
        have kbx0_10 : Blk w10 (w7.heap.size) 29 #[.slice au7 nu7 cu7] := (kbx0_9.belowS bx10)
        have xkbx0_10_0 : w10.cell? ⟨w7.heap.size, 0, none⟩ = some (.slice au7 nu7 cu7) := kbx0_10.cell 0
        have lkbx0_10 : w7.heap.size < w10.heap.size := kbx0_10.lt
        have xkbx1_10_0 : w10.cell? ⟨w9.heap.size, 0, none⟩ = some (.slice au9 nu9 cu9) := kbx1_10.cell 0
        have lkbx1_10 : w9.heap.size < w10.heap.size := kbx1_10.lt
        clear xkb0_9_0 xkb1_9_0 xkbw0_9_0 xkbx0_9_0
        refine (api_implCmp  _ (((o7.below bx8).below b9).below bx10).rd (o9.below bx10).rd ).mono ?_
        rintro e w11 ⟨u11_0, rfl, o11_0, b11⟩
        obtain ⟨au11_0, nu11_0, cu11_0, rfl⟩ := o11_0.form
        have s11 := b11.size
        have B11 : Below w.heap.size w w11 := B10.trans (b11.mono B10.size)
        have kb0_11 : Blk w11 (w.heap.size) 24 #[.slice a0 n0 c0] := (kb0_10.belowS b11)
        have xkb0_11_0 : w11.cell? ⟨w.heap.size, 0, none⟩ = some (.slice a0 n0 c0) := kb0_11.cell 0
        have lkb0_11 : w.heap.size < w11.heap.size := kb0_11.lt
        have kb1_11 : Blk w11 (w.heap.size + 1) 24 #[.slice a1 n1 c1] := (kb1_10.belowS b11)
        have xkb1_11_0 : w11.cell? ⟨w.heap.size + 1, 0, none⟩ = some (.slice a1 n1 c1) := kb1_11.cell 0
        have lkb1_11 : w.heap.size + 1 < w11.heap.size := kb1_11.lt
        have kbw0_11 : Blk w11 (bxa) 29 #[.slice au5_0 nu5_0 cu5_0] := (kbw0_10.belowS b11)
        have xkbw0_11_0 : w11.cell? ⟨bxa, 0, none⟩ = some (.slice au5_0 nu5_0 cu5_0) := kbw0_11.cell 0
        have lkbw0_11 : bxa < w11.heap.size := kbw0_11.lt
        have kbx0_11 : Blk w11 (w7.heap.size) 29 #[.slice au7 nu7 cu7] := (kbx0_10.belowS b11)
        have xkbx0_11_0 : w11.cell? ⟨w7.heap.size, 0, none⟩ = some (.slice au7 nu7 cu7) := kbx0_11.cell 0
        have lkbx0_11 : w7.heap.size < w11.heap.size := kbx0_11.lt
        have kbx1_11 : Blk w11 (w9.heap.size) 29 #[.slice au9 nu9 cu9] := (kbx1_10.belowS b11)
        have xkbx1_11_0 : w11.cell? ⟨w9.heap.size, 0, none⟩ = some (.slice au9 nu9 cu9) := kbx1_11.cell 0
        have lkbx1_11 : w9.heap.size < w11.heap.size := kbx1_11.lt
        clear xkb0_10_0 xkb1_10_0 xkbw0_10_0 xkbx0_10_0 xkbx1_10_0
        go_wp2_with fail
        have bx12 := below_alloc1 w11 (.cells #[.slice au11_0 nu11_0 cu11_0] 29)
        have kbg0_12 : Blk (w11.alloc (.cells #[.slice au11_0 nu11_0 cu11_0] 29)) w11.heap.size 29 #[.slice au11_0 nu11_0 cu11_0] := blk_at rfl
        generalize w11.alloc (.cells #[.slice au11_0 nu11_0 cu11_0] 29) = w12 at *
        have s12 := bx12.size
        have B12 : Below w.heap.size w w12 := B11.trans (bx12.mono B11.size)
        have kb0_12 : Blk w12 (w.heap.size) 24 #[.slice a0 n0 c0] := (kb0_11.belowS bx12)
        have xkb0_12_0 : w12.cell? ⟨w.heap.size, 0, none⟩ = some (.slice a0 n0 c0) := kb0_12.cell 0
        have lkb0_12 : w.heap.size < w12.heap.size := kb0_12.lt
        have kb1_12 : Blk w12 (w.heap.size + 1) 24 #[.slice a1 n1 c1] := (kb1_11.belowS bx12)
        have xkb1_12_0 : w12.cell? ⟨w.heap.size + 1, 0, none⟩ = some (.slice a1 n1 c1) := kb1_12.cell 0
        have lkb1_12 : w.heap.size + 1 < w12.heap.size := kb1_12.lt
        have kbw0_12 : Blk w12 (bxa) 29 #[.slice au5_0 nu5_0 cu5_0] := (kbw0_11.belowS bx12)
        have xkbw0_12_0 : w12.cell? ⟨bxa, 0, none⟩ = some (.slice au5_0 nu5_0 cu5_0) := kbw0_12.cell 0
        have lkbw0_12 : bxa < w12.heap.size := kbw0_12.lt
        have kbx0_12 : Blk w12 (w7.heap.size) 29 #[.slice au7 nu7 cu7] := (kbx0_11.belowS bx12)
        have xkbx0_12_0 : w12.cell? ⟨w7.heap.size, 0, none⟩ = some (.slice au7 nu7 cu7) := kbx0_12.cell 0
        have lkbx0_12 : w7.heap.size < w12.heap.size := kbx0_12.lt
        have kbx1_12 : Blk w12 (w9.heap.size) 29 #[.slice au9 nu9 cu9] := (kbx1_11.belowS bx12)
        have xkbx1_12_0 : w12.cell? ⟨w9.heap.size, 0, none⟩ = some (.slice au9 nu9 cu9) := kbx1_12.cell 0
        have lkbx1_12 : w9.heap.size < w12.heap.size := kbx1_12.lt
        have xkbg0_12_0 : w12.cell? ⟨w11.heap.size, 0, none⟩ = some (.slice au11_0 nu11_0 cu11_0) := kbg0_12.cell 0
        have lkbg0_12 : w11.heap.size < w12.heap.size := kbg0_12.lt
        clear xkb0_11_0 xkb1_11_0 xkbw0_11_0 xkbx0_11_0 xkbx1_11_0
        refine (law_eqT _ (o11_0.below bx12).rd ((((((o6_0.below b7).below bx8).below b9).below bx10).below b11).below bx12).rd).mono ?_
        rintro e w13 ⟨rfl, b13⟩
        have s13 := b13.size
        have B13 : Below w.heap.size w w13 := B12.trans (b13.mono B12.size)
        have kb0_13 : Blk w13 (w.heap.size) 24 #[.slice a0 n0 c0] := (kb0_12.belowS b13)
        have xkb0_13_0 : w13.cell? ⟨w.heap.size, 0, none⟩ = some (.slice a0 n0 c0) := kb0_13.cell 0
        have lkb0_13 : w.heap.size < w13.heap.size := kb0_13.lt
        have kb1_13 : Blk w13 (w.heap.size + 1) 24 #[.slice a1 n1 c1] := (kb1_12.belowS b13)
        have xkb1_13_0 : w13.cell? ⟨w.heap.size + 1, 0, none⟩ = some (.slice a1 n1 c1) := kb1_13.cell 0
        have lkb1_13 : w.heap.size + 1 < w13.heap.size := kb1_13.lt
        have kbw0_13 : Blk w13 (bxa) 29 #[.slice au5_0 nu5_0 cu5_0] := (kbw0_12.belowS b13)
        have xkbw0_13_0 : w13.cell? ⟨bxa, 0, none⟩ = some (.slice au5_0 nu5_0 cu5_0) := kbw0_13.cell 0
        have lkbw0_13 : bxa < w13.heap.size := kbw0_13.lt
        have kbx0_13 : Blk w13 (w7.heap.size) 29 #[.slice au7 nu7 cu7] := (kbx0_12.belowS b13)
        have xkbx0_13_0 : w13.cell? ⟨w7.heap.size, 0, none⟩ = some (.slice au7 nu7 cu7) := kbx0_13.cell 0
        have lkbx0_13 : w7.heap.size < w13.heap.size := kbx0_13.lt
        have kbx1_13 : Blk w13 (w9.heap.size) 29 #[.slice au9 nu9 cu9] := (kbx1_12.belowS b13)
        have xkbx1_13_0 : w13.cell? ⟨w9.heap.size, 0, none⟩ = some (.slice au9 nu9 cu9) := kbx1_13.cell 0
        have lkbx1_13 : w9.heap.size < w13.heap.size := kbx1_13.lt
        have kbg0_13 : Blk w13 (w11.heap.size) 29 #[.slice au11_0 nu11_0 cu11_0] := (kbg0_12.belowS b13)
        have xkbg0_13_0 : w13.cell? ⟨w11.heap.size, 0, none⟩ = some (.slice au11_0 nu11_0 cu11_0) := kbg0_13.cell 0
        have lkbg0_13 : w11.heap.size < w13.heap.size := kbg0_13.lt
        clear xkb0_12_0 xkb1_12_0 xkbw0_12_0 xkbx0_12_0 xkbx1_12_0 xkbg0_12_0
        go_wp2_with fail
        have hS13 : ∀ w', Below w13.heap.size w13 w' → (Below w13.heap.size w13 w' ∧ w'.cell? ⟨w.heap.size, 0, none⟩ = some (.slice a0 n0 c0) ∧ w'.cell? ⟨w.heap.size + 1, 0, none⟩ = some (.slice a1 n1 c1) ∧ w'.cell? ⟨bxa, 0, none⟩ = some (.slice au5_0 nu5_0 cu5_0) ∧ w'.cell? ⟨w7.heap.size, 0, none⟩ = some (.slice au7 nu7 cu7) ∧ w'.cell? ⟨w9.heap.size, 0, none⟩ = some (.slice au9 nu9 cu9) ∧ w'.cell? ⟨w11.heap.size, 0, none⟩ = some (.slice au11_0 nu11_0 cu11_0)) := fun w' hb => ⟨hb, (kb0_13.belowS hb).cell 0, (kb1_13.belowS hb).cell 0, (kbw0_13.belowS hb).cell 0, (kbx0_13.belowS hb).cell 0, (kbx1_13.belowS hb).cell 0, (kbg0_13.belowS hb).cell 0⟩
        have HS13 := Lib.hid hS13
        clear hS13 xkb0_13_0 xkb1_13_0 xkbw0_13_0 xkbx0_13_0 xkbx1_13_0 xkbg0_13_0
        go_region_held3 (fun w' => Below w13.heap.size w13 w' ∧ w'.cell? ⟨w.heap.size, 0, none⟩ = some (.slice a0 n0 c0) ∧ w'.cell? ⟨w.heap.size + 1, 0, none⟩ = some (.slice a1 n1 c1) ∧ w'.cell? ⟨bxa, 0, none⟩ = some (.slice au5_0 nu5_0 cu5_0) ∧ w'.cell? ⟨w7.heap.size, 0, none⟩ = some (.slice au7 nu7 cu7) ∧ w'.cell? ⟨w9.heap.size, 0, none⟩ = some (.slice au9 nu9 cu9) ∧ w'.cell? ⟨w11.heap.size, 0, none⟩ = some (.slice au11_0 nu11_0 cu11_0))
          (first | exact HS13.out _ (below_drew1 _) | exact HS13.out _ (below_tr (by assumption) (And.left (by assumption))))
          (first | (go_at_call 17; refine (law_toT _ (h0.below ?_) (by omega)).mono ?_; (exact below_tr (And.left (by assumption)) B13); rintro e w913 ⟨u913, rfl, o913, bt913⟩) | (go_at_call 19; refine (law_eqT _ (((((((o7.below bx8).below b9).below bx10).below b11).below bx12).below b13).below (And.left (by assumption))).rd (OwT.rd (by assumption))).mono ?_; rintro e w14 ⟨rfl, be14⟩))
        have b14 : Below w13.heap.size w13 w14 := And.left (by assumption)
        have s14 := b14.size
        have B14 : Below w.heap.size w w14 := B13.trans (b14.mono B13.size)
        have kb0_14 : Blk w14 (w.heap.size) 24 #[.slice a0 n0 c0] := (kb0_13.belowS b14)
        have xkb0_14_0 : w14.cell? ⟨w.heap.size, 0, none⟩ = some (.slice a0 n0 c0) := kb0_14.cell 0
        have lkb0_14 : w.heap.size < w14.heap.size := kb0_14.lt
        have kb1_14 : Blk w14 (w.heap.size + 1) 24 #[.slice a1 n1 c1] := (kb1_13.belowS b14)
        have xkb1_14_0 : w14.cell? ⟨w.heap.size + 1, 0, none⟩ = some (.slice a1 n1 c1) := kb1_14.cell 0
        have lkb1_14 : w.heap.size + 1 < w14.heap.size := kb1_14.lt
        have kbw0_14 : Blk w14 (bxa) 29 #[.slice au5_0 nu5_0 cu5_0] := (kbw0_13.belowS b14)
        have xkbw0_14_0 : w14.cell? ⟨bxa, 0, none⟩ = some (.slice au5_0 nu5_0 cu5_0) := kbw0_14.cell 0
        have lkbw0_14 : bxa < w14.heap.size := kbw0_14.lt
        have kbx0_14 : Blk w14 (w7.heap.size) 29 #[.slice au7 nu7 cu7] := (kbx0_13.belowS b14)
        have xkbx0_14_0 : w14.cell? ⟨w7.heap.size, 0, none⟩ = some (.slice au7 nu7 cu7) := kbx0_14.cell 0
        have lkbx0_14 : w7.heap.size < w14.heap.size := kbx0_14.lt
        have kbx1_14 : Blk w14 (w9.heap.size) 29 #[.slice au9 nu9 cu9] := (kbx1_13.belowS b14)
        have xkbx1_14_0 : w14.cell? ⟨w9.heap.size, 0, none⟩ = some (.slice au9 nu9 cu9) := kbx1_14.cell 0
        have lkbx1_14 : w9.heap.size < w14.heap.size := kbx1_14.lt
        have kbg0_14 : Blk w14 (w11.heap.size) 29 #[.slice au11_0 nu11_0 cu11_0] := (kbg0_13.belowS b14)
        have xkbg0_14_0 : w14.cell? ⟨w11.heap.size, 0, none⟩ = some (.slice au11_0 nu11_0 cu11_0) := kbg0_14.cell 0
        have lkbg0_14 : w11.heap.size < w14.heap.size := kbg0_14.lt
        go_wp2_with fail
        have hS14 : ∀ w', Below w14.heap.size w14 w' → (Below w14.heap.size w14 w' ∧ w'.cell? ⟨w.heap.size, 0, none⟩ = some (.slice a0 n0 c0) ∧ w'.cell? ⟨w.heap.size + 1, 0, none⟩ = some (.slice a1 n1 c1) ∧ w'.cell? ⟨bxa, 0, none⟩ = some (.slice au5_0 nu5_0 cu5_0) ∧ w'.cell? ⟨w7.heap.size, 0, none⟩ = some (.slice au7 nu7 cu7) ∧ w'.cell? ⟨w9.heap.size, 0, none⟩ = some (.slice au9 nu9 cu9) ∧ w'.cell? ⟨w11.heap.size, 0, none⟩ = some (.slice au11_0 nu11_0 cu11_0)) := fun w' hb => ⟨hb, (kb0_14.belowS hb).cell 0, (kb1_14.belowS hb).cell 0, (kbw0_14.belowS hb).cell 0, (kbx0_14.belowS hb).cell 0, (kbx1_14.belowS hb).cell 0, (kbg0_14.belowS hb).cell 0⟩
        have HS14 := Lib.hid hS14
        clear hS14 xkb0_14_0 xkb1_14_0 xkbw0_14_0 xkbx0_14_0 xkbx1_14_0 xkbg0_14_0
        go_region_held3 (fun w' => Below w14.heap.size w14 w' ∧ w'.cell? ⟨w.heap.size, 0, none⟩ = some (.slice a0 n0 c0) ∧ w'.cell? ⟨w.heap.size + 1, 0, none⟩ = some (.slice a1 n1 c1) ∧ w'.cell? ⟨bxa, 0, none⟩ = some (.slice au5_0 nu5_0 cu5_0) ∧ w'.cell? ⟨w7.heap.size, 0, none⟩ = some (.slice au7 nu7 cu7) ∧ w'.cell? ⟨w9.heap.size, 0, none⟩ = some (.slice au9 nu9 cu9) ∧ w'.cell? ⟨w11.heap.size, 0, none⟩ = some (.slice au11_0 nu11_0 cu11_0))
          (first | exact HS14.out _ (below_drew1 _) | exact HS14.out _ (below_tr (by assumption) (And.left (by assumption))))
          (first | (go_at_call 17; refine (law_toT _ (h1.below ?_) (by omega)).mono ?_; (exact below_tr (And.left (by assumption)) B14); rintro e w914 ⟨u914, rfl, o914, bt914⟩) | (go_at_call 19; refine (law_eqT _ ((((((o9.below bx10).below b11).below bx12).below b13).below b14).below (And.left (by assumption))).rd (OwT.rd (by assumption))).mono ?_; rintro e w15 ⟨rfl, be15⟩))
        have b15 : Below w14.heap.size w14 w15 := And.left (by assumption)
        have s15 := b15.size
        have B15 : Below w.heap.size w w15 := B14.trans (b15.mono B14.size)
        have kb0_15 : Blk w15 (w.heap.size) 24 #[.slice a0 n0 c0] := (kb0_14.belowS b15)
        have xkb0_15_0 : w15.cell? ⟨w.heap.size, 0, none⟩ = some (.slice a0 n0 c0) := kb0_15.cell 0
        have lkb0_15 : w.heap.size < w15.heap.size := kb0_15.lt
        have kb1_15 : Blk w15 (w.heap.size + 1) 24 #[.slice a1 n1 c1] := (kb1_14.belowS b15)
        have xkb1_15_0 : w15.cell? ⟨w.heap.size + 1, 0, none⟩ = some (.slice a1 n1 c1) := kb1_15.cell 0
        have lkb1_15 : w.heap.size + 1 < w15.heap.size := kb1_15.lt
        have kbw0_15 : Blk w15 (bxa) 29 #[.slice au5_0 nu5_0 cu5_0] := (kbw0_14.belowS b15)
        have xkbw0_15_0 : w15.cell? ⟨bxa, 0, none⟩ = some (.slice au5_0 nu5_0 cu5_0) := kbw0_15.cell 0
        have lkbw0_15 : bxa < w15.heap.size := kbw0_15.lt
        have kbx0_15 : Blk w15 (w7.heap.size) 29 #[.slice au7 nu7 cu7] := (kbx0_14.belowS b15)
        have xkbx0_15_0 : w15.cell? ⟨w7.heap.size, 0, none⟩ = some (.slice au7 nu7 cu7) := kbx0_15.cell 0
        have lkbx0_15 : w7.heap.size < w15.heap.size := kbx0_15.lt
        have kbx1_15 : Blk w15 (w9.heap.size) 29 #[.slice au9 nu9 cu9] := (kbx1_14.belowS b15)
        have xkbx1_15_0 : w15.cell? ⟨w9.heap.size, 0, none⟩ = some (.slice au9 nu9 cu9) := kbx1_15.cell 0
        have lkbx1_15 : w9.heap.size < w15.heap.size := kbx1_15.lt
        have kbg0_15 : Blk w15 (w11.heap.size) 29 #[.slice au11_0 nu11_0 cu11_0] := (kbg0_14.belowS b15)
        have xkbg0_15_0 : w15.cell? ⟨w11.heap.size, 0, none⟩ = some (.slice au11_0 nu11_0 cu11_0) := kbg0_15.cell 0
        have lkbg0_15 : w11.heap.size < w15.heap.size := kbg0_15.lt
        go_wp2_with fail
        refine (law_markT (1) _ ((((((((o7.below bx8).below b9).below bx10).below b11).below bx12).below b13).below b14).below b15) (by omega) (by omega)).mono ?_
        rintro e w16 ⟨rfl, o16, q16⟩
        have s16 := q16.size
        have B16 : Below w.heap.size w w16 := B15.trans (q16.below (by omega) B15.size)
        have kb0_16 : Blk w16 (w.heap.size) 24 #[.slice a0 n0 c0] := (kb0_15.only q16 (by omega))
        have xkb0_16_0 : w16.cell? ⟨w.heap.size, 0, none⟩ = some (.slice a0 n0 c0) := kb0_16.cell 0
        have lkb0_16 : w.heap.size < w16.heap.size := kb0_16.lt
        have kb1_16 : Blk w16 (w.heap.size + 1) 24 #[.slice a1 n1 c1] := (kb1_15.only q16 (by omega))
        have xkb1_16_0 : w16.cell? ⟨w.heap.size + 1, 0, none⟩ = some (.slice a1 n1 c1) := kb1_16.cell 0
        have lkb1_16 : w.heap.size + 1 < w16.heap.size := kb1_16.lt
        have kbw0_16 : Blk w16 (bxa) 29 #[.slice au5_0 nu5_0 cu5_0] := (kbw0_15.only q16 (by omega))
        have xkbw0_16_0 : w16.cell? ⟨bxa, 0, none⟩ = some (.slice au5_0 nu5_0 cu5_0) := kbw0_16.cell 0
        have lkbw0_16 : bxa < w16.heap.size := kbw0_16.lt
        have kbx0_16 : Blk w16 (w7.heap.size) 29 #[.slice au7 nu7 cu7] := (kbx0_15.only q16 (by omega))
        have xkbx0_16_0 : w16.cell? ⟨w7.heap.size, 0, none⟩ = some (.slice au7 nu7 cu7) := kbx0_16.cell 0
        have lkbx0_16 : w7.heap.size < w16.heap.size := kbx0_16.lt
        have kbx1_16 : Blk w16 (w9.heap.size) 29 #[.slice au9 nu9 cu9] := (kbx1_15.only q16 (by omega))
        have xkbx1_16_0 : w16.cell? ⟨w9.heap.size, 0, none⟩ = some (.slice au9 nu9 cu9) := kbx1_16.cell 0
        have lkbx1_16 : w9.heap.size < w16.heap.size := kbx1_16.lt
        have kbg0_16 : Blk w16 (w11.heap.size) 29 #[.slice au11_0 nu11_0 cu11_0] := (kbg0_15.only q16 (by omega))
        have xkbg0_16_0 : w16.cell? ⟨w11.heap.size, 0, none⟩ = some (.slice au11_0 nu11_0 cu11_0) := kbg0_16.cell 0
        have lkbg0_16 : w11.heap.size < w16.heap.size := kbg0_16.lt
        clear xkb0_15_0 xkb1_15_0 xkbw0_15_0 xkbx0_15_0 xkbx1_15_0 xkbg0_15_0
        go_wp2_with fail
        refine (law_markT (1 + (lenTT d : Nat)) _ (((((((o9.below bx10).below b11).below bx12).below b13).below b14).below b15).only q16 (by omega)) (by omega) (by omega)).mono ?_
        rintro e w17 ⟨rfl, o17, q17⟩
        have s17 := q17.size
        have B17 : Below w.heap.size w w17 := B16.trans (q17.below (by omega) B16.size)
        have kb0_17 : Blk w17 (w.heap.size) 24 #[.slice a0 n0 c0] := (kb0_16.only q17 (by omega))
        have xkb0_17_0 : w17.cell? ⟨w.heap.size, 0, none⟩ = some (.slice a0 n0 c0) := kb0_17.cell 0
        have lkb0_17 : w.heap.size < w17.heap.size := kb0_17.lt
        have kb1_17 : Blk w17 (w.heap.size + 1) 24 #[.slice a1 n1 c1] := (kb1_16.only q17 (by omega))
        have xkb1_17_0 : w17.cell? ⟨w.heap.size + 1, 0, none⟩ = some (.slice a1 n1 c1) := kb1_17.cell 0
        have lkb1_17 : w.heap.size + 1 < w17.heap.size := kb1_17.lt
        have kbw0_17 : Blk w17 (bxa) 29 #[.slice au5_0 nu5_0 cu5_0] := (kbw0_16.only q17 (by omega))
        have xkbw0_17_0 : w17.cell? ⟨bxa, 0, none⟩ = some (.slice au5_0 nu5_0 cu5_0) := kbw0_17.cell 0
        have lkbw0_17 : bxa < w17.heap.size := kbw0_17.lt
        have kbx0_17 : Blk w17 (w7.heap.size) 29 #[.slice au7 nu7 cu7] := (kbx0_16.only q17 (by omega))
        have xkbx0_17_0 : w17.cell? ⟨w7.heap.size, 0, none⟩ = some (.slice au7 nu7 cu7) := kbx0_17.cell 0
        have lkbx0_17 : w7.heap.size < w17.heap.size := kbx0_17.lt
        have kbx1_17 : Blk w17 (w9.heap.size) 29 #[.slice au9 nu9 cu9] := (kbx1_16.only q17 (by omega))
        have xkbx1_17_0 : w17.cell? ⟨w9.heap.size, 0, none⟩ = some (.slice au9 nu9 cu9) := kbx1_17.cell 0
        have lkbx1_17 : w9.heap.size < w17.heap.size := kbx1_17.lt
        have kbg0_17 : Blk w17 (w11.heap.size) 29 #[.slice au11_0 nu11_0 cu11_0] := (kbg0_16.only q17 (by omega))
        have xkbg0_17_0 : w17.cell? ⟨w11.heap.size, 0, none⟩ = some (.slice au11_0 nu11_0 cu11_0) := kbg0_17.cell 0
        have lkbg0_17 : w11.heap.size < w17.heap.size := kbg0_17.lt
        clear xkb0_16_0 xkb1_16_0 xkbw0_16_0 xkbx0_16_0 xkbx1_16_0 xkbg0_16_0
        go_wp2_with fail
        refine (law_eqT _ ((((((o11_0.below bx12).below b13).below b14).below b15).only q16 (by omega)).only q17 (by omega)).rd (((((((((((o6_0.below b7).below bx8).below b9).below bx10).below b11).below bx12).below b13).below b14).below b15).only q16 (by omega)).only q17 (by omega)).rd).mono ?_
        rintro e w18 ⟨rfl, b18⟩
        have s18 := b18.size
        have B18 : Below w.heap.size w w18 := B17.trans (b18.mono B17.size)
        have kb0_18 : Blk w18 (w.heap.size) 24 #[.slice a0 n0 c0] := (kb0_17.belowS b18)
        have xkb0_18_0 : w18.cell? ⟨w.heap.size, 0, none⟩ = some (.slice a0 n0 c0) := kb0_18.cell 0
        have lkb0_18 : w.heap.size < w18.heap.size := kb0_18.lt
        have kb1_18 : Blk w18 (w.heap.size + 1) 24 #[.slice a1 n1 c1] := (kb1_17.belowS b18)
        have xkb1_18_0 : w18.cell? ⟨w.heap.size + 1, 0, none⟩ = some (.slice a1 n1 c1) := kb1_18.cell 0
        have lkb1_18 : w.heap.size + 1 < w18.heap.size := kb1_18.lt
        have kbw0_18 : Blk w18 (bxa) 29 #[.slice au5_0 nu5_0 cu5_0] := (kbw0_17.belowS b18)
        have xkbw0_18_0 : w18.cell? ⟨bxa, 0, none⟩ = some (.slice au5_0 nu5_0 cu5_0) := kbw0_18.cell 0
        have lkbw0_18 : bxa < w18.heap.size := kbw0_18.lt
        have kbx0_18 : Blk w18 (w7.heap.size) 29 #[.slice au7 nu7 cu7] := (kbx0_17.belowS b18)
        have xkbx0_18_0 : w18.cell? ⟨w7.heap.size, 0, none⟩ = some (.slice au7 nu7 cu7) := kbx0_18.cell 0
        have lkbx0_18 : w7.heap.size < w18.heap.size := kbx0_18.lt
        have kbx1_18 : Blk w18 (w9.heap.size) 29 #[.slice au9 nu9 cu9] := (kbx1_17.belowS b18)
        have xkbx1_18_0 : w18.cell? ⟨w9.heap.size, 0, none⟩ = some (.slice au9 nu9 cu9) := kbx1_18.cell 0
        have lkbx1_18 : w9.heap.size < w18.heap.size := kbx1_18.lt
        have kbg0_18 : Blk w18 (w11.heap.size) 29 #[.slice au11_0 nu11_0 cu11_0] := (kbg0_17.belowS b18)
        have xkbg0_18_0 : w18.cell? ⟨w11.heap.size, 0, none⟩ = some (.slice au11_0 nu11_0 cu11_0) := kbg0_18.cell 0
        have lkbg0_18 : w11.heap.size < w18.heap.size := kbg0_18.lt
        clear xkb0_17_0 xkb1_17_0 xkbw0_17_0 xkbx0_17_0 xkbx1_17_0 xkbg0_17_0
        go_wp2_with fail
        refine (law_markT (1) _ (((((((o11_0.below bx12).below b13).below b14).below b15).only q16 (by omega)).only q17 (by omega)).below b18) (by omega) (by omega)).mono ?_
        rintro e w19 ⟨rfl, o19, q19⟩
        have s19 := q19.size
        have B19 : Below w.heap.size w w19 := B18.trans (q19.below (by omega) B18.size)
        have kb0_19 : Blk w19 (w.heap.size) 24 #[.slice a0 n0 c0] := (kb0_18.only q19 (by omega))
        have xkb0_19_0 : w19.cell? ⟨w.heap.size, 0, none⟩ = some (.slice a0 n0 c0) := kb0_19.cell 0
        have lkb0_19 : w.heap.size < w19.heap.size := kb0_19.lt
        have kb1_19 : Blk w19 (w.heap.size + 1) 24 #[.slice a1 n1 c1] := (kb1_18.only q19 (by omega))
        have xkb1_19_0 : w19.cell? ⟨w.heap.size + 1, 0, none⟩ = some (.slice a1 n1 c1) := kb1_19.cell 0
        have lkb1_19 : w.heap.size + 1 < w19.heap.size := kb1_19.lt
        have kbw0_19 : Blk w19 (bxa) 29 #[.slice au5_0 nu5_0 cu5_0] := (kbw0_18.only q19 (by omega))
        have xkbw0_19_0 : w19.cell? ⟨bxa, 0, none⟩ = some (.slice au5_0 nu5_0 cu5_0) := kbw0_19.cell 0
        have lkbw0_19 : bxa < w19.heap.size := kbw0_19.lt
        have kbx0_19 : Blk w19 (w7.heap.size) 29 #[.slice au7 nu7 cu7] := (kbx0_18.only q19 (by omega))
        have xkbx0_19_0 : w19.cell? ⟨w7.heap.size, 0, none⟩ = some (.slice au7 nu7 cu7) := kbx0_19.cell 0
        have lkbx0_19 : w7.heap.size < w19.heap.size := kbx0_19.lt
        have kbx1_19 : Blk w19 (w9.heap.size) 29 #[.slice au9 nu9 cu9] := (kbx1_18.only q19 (by omega))
        have xkbx1_19_0 : w19.cell? ⟨w9.heap.size, 0, none⟩ = some (.slice au9 nu9 cu9) := kbx1_19.cell 0
        have lkbx1_19 : w9.heap.size < w19.heap.size := kbx1_19.lt
        have kbg0_19 : Blk w19 (w11.heap.size) 29 #[.slice au11_0 nu11_0 cu11_0] := (kbg0_18.only q19 (by omega))
        have xkbg0_19_0 : w19.cell? ⟨w11.heap.size, 0, none⟩ = some (.slice au11_0 nu11_0 cu11_0) := kbg0_19.cell 0
        have lkbg0_19 : w11.heap.size < w19.heap.size := kbg0_19.lt
        clear xkb0_18_0 xkb1_18_0 xkbw0_18_0 xkbx0_18_0 xkbx1_18_0 xkbg0_18_0
        go_wp2_with fail
        refine (law_heldT (1) _ o19.rd (by omega) (by omega)).mono ?_
        rintro e w20 ⟨rfl, b20⟩
        have s20 := b20.size
        have B20 : Below w.heap.size w w20 := B19.trans (b20.mono B19.size)
        have kb0_20 : Blk w20 (w.heap.size) 24 #[.slice a0 n0 c0] := (kb0_19.belowS b20)
        have xkb0_20_0 : w20.cell? ⟨w.heap.size, 0, none⟩ = some (.slice a0 n0 c0) := kb0_20.cell 0
        have lkb0_20 : w.heap.size < w20.heap.size := kb0_20.lt
        have kb1_20 : Blk w20 (w.heap.size + 1) 24 #[.slice a1 n1 c1] := (kb1_19.belowS b20)
        have xkb1_20_0 : w20.cell? ⟨w.heap.size + 1, 0, none⟩ = some (.slice a1 n1 c1) := kb1_20.cell 0
        have lkb1_20 : w.heap.size + 1 < w20.heap.size := kb1_20.lt
        have kbw0_20 : Blk w20 (bxa) 29 #[.slice au5_0 nu5_0 cu5_0] := (kbw0_19.belowS b20)
        have xkbw0_20_0 : w20.cell? ⟨bxa, 0, none⟩ = some (.slice au5_0 nu5_0 cu5_0) := kbw0_20.cell 0
        have lkbw0_20 : bxa < w20.heap.size := kbw0_20.lt
        have kbx0_20 : Blk w20 (w7.heap.size) 29 #[.slice au7 nu7 cu7] := (kbx0_19.belowS b20)
        have xkbx0_20_0 : w20.cell? ⟨w7.heap.size, 0, none⟩ = some (.slice au7 nu7 cu7) := kbx0_20.cell 0
        have lkbx0_20 : w7.heap.size < w20.heap.size := kbx0_20.lt
        have kbx1_20 : Blk w20 (w9.heap.size) 29 #[.slice au9 nu9 cu9] := (kbx1_19.belowS b20)
        have xkbx1_20_0 : w20.cell? ⟨w9.heap.size, 0, none⟩ = some (.slice au9 nu9 cu9) := kbx1_20.cell 0
        have lkbx1_20 : w9.heap.size < w20.heap.size := kbx1_20.lt
        have kbg0_20 : Blk w20 (w11.heap.size) 29 #[.slice au11_0 nu11_0 cu11_0] := (kbg0_19.belowS b20)
        have xkbg0_20_0 : w20.cell? ⟨w11.heap.size, 0, none⟩ = some (.slice au11_0 nu11_0 cu11_0) := kbg0_20.cell 0
        have lkbg0_20 : w11.heap.size < w20.heap.size := kbg0_20.lt
        clear xkb0_19_0 xkb1_19_0 xkbw0_19_0 xkbx0_19_0 xkbx1_19_0 xkbg0_19_0
        go_wp2_with fail
        have hS20 : ∀ w', Below w20.heap.size w20 w' → (Below w20.heap.size w20 w' ∧ w'.cell? ⟨w.heap.size, 0, none⟩ = some (.slice a0 n0 c0) ∧ w'.cell? ⟨w.heap.size + 1, 0, none⟩ = some (.slice a1 n1 c1)) := fun w' hb => ⟨hb, (kb0_20.belowS hb).cell 0, (kb1_20.belowS hb).cell 0⟩
        have HS20 := Lib.hid hS20
        clear hS20
        go_region_held3 (fun w' => Below w20.heap.size w20 w' ∧ w'.cell? ⟨w.heap.size, 0, none⟩ = some (.slice a0 n0 c0) ∧ w'.cell? ⟨w.heap.size + 1, 0, none⟩ = some (.slice a1 n1 c1))
          (first | exact HS20.out _ (below_drew1 _) | exact HS20.out _ hBV | exact HS20.out _ (Below.alloc hBV (Below.size hBV) _) | exact HS20.out _ (Below.setCell hBV (by first | (simp; done) | (simp; omega)) _) | exact HS20.out _ (Below.setCell (Below.alloc hBV (Below.size hBV) _) (by first | (simp; done) | (simp; omega)) _) | exact HS20.out _ (below_tr (by assumption) (And.left (by assumption))) | exact HS20.out _ (Below.alloc (And.left (by assumption)) (Below.size (And.left (by assumption))) _))
          (first | (go_at_call 17; refine (law_toT _ (h0.below (below_tr (And.left (by assumption)) B20)) (by omega)).mono ?_; rintro e wx ⟨ux, rfl, ox, bx⟩; have hsx : w20.heap.size ≤ wx.heap.size := (below_tr bx (And.left (by assumption))).size; (try have kz := Blk.belowS (blk_at rfl) bx); (try have kz := Blk.belowS (blk_drew (blk_at rfl)) bx))
                 | (go_at_call 17; refine (law_toT _ (h1.below (below_tr (And.left (by assumption)) B20)) (by omega)).mono ?_; rintro e wy ⟨uy, rfl, oy, bY⟩; have hsy : w20.heap.size ≤ wy.heap.size := (below_tr bY (And.left (by assumption))).size; (try have kz2 := Blk.belowS kz bY); (try have kz2 := Blk.belowS (blk_at rfl) bY); (try have kz2 := Blk.belowS (blk_drew (blk_at rfl)) bY))
                 | (go_at_call 21; refine (api_implCmp _ (by first | exact (ox.below bY).rd | exact (ox.below (below_tr bY (below_alloc1 _ _))).rd | exact ((ox.below bY).below (below_alloc1 _ _)).rd) (by first | exact oy.rd | exact (oy.below (below_alloc1 _ _)).rd)).mono ?_; rintro e wv ⟨uv, rfl, ov, bv⟩; obtain ⟨av, nv, cv, rfl⟩ := ov.form; have hBV : Below w20.heap.size w20 wv := below_tr bv (And.left (by assumption)); (try have kz3 := Blk.belowS kz2 bv); (try have kz3 := Blk.belowS (blk_at rfl) bv); (try have kz3 := Blk.belowS (blk_drew (blk_at rfl)) bv); (try have qz := kz3.cell 0); (try have fz := kz3.frozen 0); (try simp at qz)))
        all_goals
          have hq1 := bx.size
          have hq2 := bY.size
          have hq3 := bv.size
          (try simp at hq1)
          (try simp at hq2)
          (try simp at hq3)
          have HOW := Lib.hid (And.intro (((((((((((((((o6_0.below b7).below bx8).below b9).below bx10).below b11).below bx12).below b13).below b14).below b15).only q16 (by omega)).only q17 (by omega)).below b18).only q19 (by omega)).below b20)) (o19.below b20))
          clear xkb0_20_0 xkb1_20_0 xkbw0_20_0 xkbx0_20_0 xkbx1_20_0 xkbg0_20_0
          (first
            | (show Exit.then _ _ _ _ (World.alloc wv _); have hbz := hBV.alloc hBV.size (Obj.cells #[.slice av nv cv] 29); have kbh : Blk (wv.alloc (.cells #[.slice av nv cv] 29)) wv.heap.size 29 #[.slice av nv cv] := blk_at rfl; have oh := ov.below (below_alloc1 wv (.cells #[.slice av nv cv] 29)); clear HS20 ov hq1 hq2 hq3; generalize wv.alloc (.cells #[.slice av nv cv] 29) = wz at *; have xh := kbh.cell 0; simp at xh)
            | (show Exit.then _ _ _ _ (World.setCell wv ⟨wx.heap.size, 0, none⟩ _); have hbz := hBV.setCell (p := ⟨wx.heap.size, 0, none⟩) (by show _ ≤ wx.heap.size; (try simp); (try omega)) (.slice av nv cv); have kbh : Blk (wv.setCell ⟨wx.heap.size, 0, none⟩ (.slice av nv cv)) (wx.heap.size) 29 #[.slice av nv cv] := (by simpa using kz3.set_ 0 (.slice av nv cv)); have oh := own_set ov (p := ⟨wx.heap.size, 0, none⟩) (u := .slice av nv cv) (by show wx.heap.size < _; (try simp); (try omega)); clear HS20 kz3 ov qz fz hq1 hq2 hq3; generalize wv.setCell ⟨wx.heap.size, 0, none⟩ (.slice av nv cv) = wz at *; have xh := kbh.cell 0; simp at xh)
            | (show Exit.then _ _ _ _ (World.setCell wv ⟨wy.heap.size, 0, none⟩ _); have hbz := hBV.setCell (p := ⟨wy.heap.size, 0, none⟩) (by show _ ≤ wy.heap.size; (try simp); (try omega)) (.slice av nv cv); have kbh : Blk (wv.setCell ⟨wy.heap.size, 0, none⟩ (.slice av nv cv)) (wy.heap.size) 29 #[.slice av nv cv] := (by simpa using kz3.set_ 0 (.slice av nv cv)); have oh := own_set ov (p := ⟨wy.heap.size, 0, none⟩) (u := .slice av nv cv) (by show wy.heap.size < _; (try simp); (try omega)); clear HS20 kz3 ov qz fz hq1 hq2 hq3; generalize wv.setCell ⟨wy.heap.size, 0, none⟩ (.slice av nv cv) = wz at *; have xh := kbh.cell 0; simp at xh)
            | (show Exit.then _ _ _ _ (World.setCell wv ⟨w20.heap.size, 0, none⟩ _); have hbz := hBV.setCell (p := ⟨w20.heap.size, 0, none⟩) (by show _ ≤ w20.heap.size; (try simp); (try omega)) (.slice av nv cv); have kbh : Blk (wv.setCell ⟨w20.heap.size, 0, none⟩ (.slice av nv cv)) (w20.heap.size) 29 #[.slice av nv cv] := (by simpa using kz3.set_ 0 (.slice av nv cv)); have oh := own_set ov (p := ⟨w20.heap.size, 0, none⟩) (u := .slice av nv cv) (by show w20.heap.size < _; (try simp); (try omega)); clear HS20 kz3 ov qz fz hq1 hq2 hq3; generalize wv.setCell ⟨w20.heap.size, 0, none⟩ (.slice av nv cv) = wz at *; have xh := kbh.cell 0; simp at xh))
          have xw := (kbw0_20.belowS hbz).cell 0
          have xg := (kbg0_20.belowS hbz).cell 0
          simp at xw xg
          have Bz := below_tr hbz B20
          go_wp2_with fail
          refine (law_eqT _ oh.rd (HOW.out.1.below hbz).rd).mono ?_
          rintro e w25 ⟨rfl, b25⟩
          have xg2 := ((kbg0_20.belowS hbz).belowS b25).cell 0
          simp at xg2
          clear xw xg xh
          have B25 := below_tr b25 Bz
          go_wp2_with fail
          refine (law_heldT (1) _ ((HOW.out.2.below hbz).below b25).rd (by omega) (by omega)).mono ?_
          rintro e w26 ⟨rfl, b26⟩
          have B26 := below_tr b26 B25
          go_wp2
          go_ret
          exact ⟨rfl, B26⟩
      clear xkb0_2_0 xkb1_2_0 hK
      have hS2 : ∀ w', Below w2.heap.size w2 w' → (Below w2.heap.size w2 w' ∧ w'.cell? ⟨w.heap.size, 0, none⟩ = some (.slice a0 n0 c0) ∧ w'.cell? ⟨w.heap.size + 1, 0, none⟩ = some (.slice a1 n1 c1)) := fun w' hb => ⟨hb, (kb0_2.belowS hb).cell 0, (kb1_2.belowS hb).cell 0⟩
      have HS2 := Lib.hid hS2
      clear hS2
      go_region_held3 (fun w' => Below w2.heap.size w2 w' ∧ w'.cell? ⟨w.heap.size, 0, none⟩ = some (.slice a0 n0 c0) ∧ w'.cell? ⟨w.heap.size + 1, 0, none⟩ = some (.slice a1 n1 c1))
        (first | exact HS2.out _ (below_drew1 _) | exact HS2.out _ hBV | exact HS2.out _ (Below.alloc hBV (Below.size hBV) _) | exact HS2.out _ (Below.setCell hBV (by first | (simp; done) | (simp; omega)) _) | exact HS2.out _ (Below.setCell (Below.alloc hBV (Below.size hBV) _) (by first | (simp; done) | (simp; omega)) _) | exact HS2.out _ (below_tr (by assumption) (And.left (by assumption))) | exact HS2.out _ (Below.alloc (And.left (by assumption)) (Below.size (And.left (by assumption))) _))
        (first | (go_at_call 17; refine (law_toT _ (h0.below (below_tr (And.left (by assumption)) B2)) (by omega)).mono ?_; rintro e wx ⟨ux, rfl, ox, bx⟩; have hsx : w2.heap.size ≤ wx.heap.size := (below_tr bx (And.left (by assumption))).size; (try have kz := Blk.belowS (blk_at rfl) bx); (try have kz := Blk.belowS (blk_drew (blk_at rfl)) bx))
               | (go_at_call 17; refine (law_toT _ (h1.below (below_tr (And.left (by assumption)) B2)) (by omega)).mono ?_; rintro e wy ⟨uy, rfl, oy, bY⟩; have hsy : w2.heap.size ≤ wy.heap.size := (below_tr bY (And.left (by assumption))).size; (try have kz2 := Blk.belowS kz bY); (try have kz2 := Blk.belowS (blk_at rfl) bY); (try have kz2 := Blk.belowS (blk_drew (blk_at rfl)) bY))
               | (go_at_call 20; refine (api_specCmp _ (by first | exact (ox.below bY).rd | exact (ox.below (below_tr bY (below_alloc1 _ _))).rd | exact ((ox.below bY).below (below_alloc1 _ _)).rd) (by first | exact oy.rd | exact (oy.below (below_alloc1 _ _)).rd)).mono ?_; rintro e wv ⟨uv, rfl, ov, bv⟩; obtain ⟨av, nv, cv, rfl⟩ := ov.form; have hBV : Below w2.heap.size w2 wv := below_tr bv (And.left (by assumption)); (try have kz3 := Blk.belowS kz2 bv); (try have kz3 := Blk.belowS (blk_at rfl) bv); (try have kz3 := Blk.belowS (blk_drew (blk_at rfl)) bv); (try have qz := kz3.cell 0); (try have fz := kz3.frozen 0); (try simp at qz)))
      all_goals
        have hq1 := bx.size
        have hq2 := bY.size
        have hq3 := bv.size
        (try simp at hq1)
        (try simp at hq2)
        (try simp at hq3)
        first
          | exact tail _ _ _ _ _ _ _ (hBV.alloc hBV.size _) (blk_at rfl) hBV.size (OwT.mono (ov.below (below_alloc1 _ _)) (by (try simp); (try omega)) (by simp))
          | exact tail _ _ _ _ _ _ _ (hBV.setCell (by (try simp); (try omega)) _) (by simpa using kz3.set_ 0 (.slice av nv cv)) (by first | exact Nat.le_refl _ | ((try simp); (try omega))) (OwT.mono (own_set ov (by (try simp); (try omega))) (by (try simp); (try omega)) (by simp [World.setCell]))
end Go.Proofs.Ytpognnifgcacnaa
