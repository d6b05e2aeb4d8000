/- Draws of maniplexes with small groups: l08Small, DrawRegularCover. guards: -/
import Derived.Test.YtmdhljleaijkbaaGreatDoorPart7
import Derived.Test.YtmdhljleaijkbaaGreatDoorPart6
import Derived.Test.YtmdhljleaijkbaaGreatDoorPart1
import Derived.Deep.RegionHeld3
import Derived.Shelf.Strconv.AppendIntPublic10
import Derived.Shelf.SlSortCmp.NoneTotal
import Derived.Test.YtmdhljleaijkbaaGreatDoorProg
import Derived.Lib.ItoaNum
import Derived.Lib.ItoaLen
import Derived.Maps.Own
import Derived.Test.YtmdhljleaijkbaaGreatDoorPart4
import Derived.Test.YtmdhljleaijkbaaGreatDoorPart5
import Derived.Deep.QuietTactic
import Derived.Test.YtmdhljleaijkbaaGreatDoorPart3
import Derived.Test.YtmdhljleaijkbaaGreatDoorPart2
import Derived.Test.YtmdhljleaijkbaaGreatDoorRows
import Derived.ProofKit
import Derived.LaidMore
import Derived.LaidHandle
import Derived.LaidLaws
import Derived.MakeChecks
import Derived.Handed
import Derived.Lib.AppendIntMem
namespace Go.Proofs.YtmdhljleaijkbaaGreatDoor
open Go.RowKit

theorem MxR.boxed {w w2 wx : World} {sb n c : Nat} {a : Option Addr} {d : List (List Int)} (h : MxR w2 wx sb a n c d) (hl : w.heap.size < w2.heap.size) (o : Only sb (sb + 1) w w2) (hs : sb < w.heap.size) : MxR w (wx.setCell ⟨w.heap.size, 0, none⟩ (.slice a n c)) sb a n c d :=
  ⟨(h.rd.setBox (.inl hl) _).mono (by omega), h.few, src_farL h.src fun g hg => Below.heap_setCell _ _ _ g (by show g ≠ w.heap.size; omega), only_cell (o.trans h.only) (Nat.le_refl _) _⟩
set_option maxHeartbeats 1600000 in
theorem small_any (sb : Nat) (w : World) (h : Src w sb) (hsb : sb < w.heap.size) :
    Calls Tryz.prog 18 #[.pointer (some ⟨sb, 0, none⟩)] w fun e w' => ∃ a n c d, e = .returned (.agg #[.slice a n c]) ∧ MxR w w' sb a n c d := by
  have b1 := below_alloc1 w (.cells #[.slice none 0 0] 26)
  have k1 : Blk (w.alloc (.cells #[.slice none 0 0] 26)) w.heap.size 26 #[.slice none 0 0] := blk_at rfl
  have hz1 : w.heap.size + 1 = (w.alloc (.cells #[.slice none 0 0] 26)).heap.size := by simp
  have S1 := Lib.hid (src_belowL h hsb b1)
  have O1 := Lib.hid (only_of_below (sb := sb) b1)
  have K1 := Lib.hid k1
  clear b1 k1 h
  go_enter Tryz.func18, Tryz.ntmps18
  go_upto_region 1 with fail
  generalize w.alloc (.cells #[.slice none 0 0] 26) = w1 at *
  go_wp2_with fail
  refine (next_any sb 3 w1 S1.out (by omega)).mono ?_
  rintro e w2 ⟨r, rfl, -, -, s2, o2⟩
  have S2 := Lib.hid s2
  have O2 := Lib.hid (O1.out.trans o2)
  have hz2 := o2.size
  have K2 := Lib.hid (K1.out.only o2 (.inr (by omega)))
  clear s2 o2 S1 O1 K1
  by_cases hr : r = 0
  · subst hr
    have hz0 : (((0 : Nat) : Int) == 0) = true := by simp
    go_wp2_with fail
    refine (next_any sb 3 w2 S2.out (by omega)).mono ?_
    rintro e w3 ⟨q, rfl, -, hq, s3, o3⟩
    have hq3 : q < 3 := by have := hq (by omega); omega
    have S3 := Lib.hid s3
    have O3 := Lib.hid (O2.out.trans o3)
    have hz3 := o3.size
    have K3 := Lib.hid (K2.out.only o3 (.inr (by omega)))
    obtain ⟨E, hE⟩ : ∃ E, 1 + q = E := ⟨_, rfl⟩
    have hw1 : IntKind.i64.wrap (1 + (q : Int)) = (E : Int) := by rw [IntWalk.i64_in _ (by omega)]; omega
    have hw2 : 1 + (q : Int) = (E : Int) := by omega
    clear s3 o3 S2 O2 K2 hq
    go_wp2_with fail
    refine (mapS_any sb E w3 S3.out (by omega) (by omega) (by omega)).mono ?_
    rintro e w4 ⟨v, d, L, rfl, m4, hd3, hL⟩
    obtain ⟨a, n, c, rfl⟩ := m4.ow.form
    have hn := m4.ow.rdcM.2
    have M4 := Lib.hid (m4.r (by omega) (by omega))
    have K4 := K3.out.only m4.only (.inr (by omega))
    have x4 := K4.cell 0
    have f4 := K4.frozen 0
    simp at x4
    have HF := Lib.hid (M4.out.boxed (w := w) (by omega) O3.out hsb)
    clear m4 K4 K3 M4 S3 O3
    go_wp2_with fail
    exact bodyPost_ret (v := .agg #[.slice a n c]) (by simp [results, Tryz.f18, go_sem, x4]) rfl ⟨_, _, _, _, rfl, HF.out⟩
  · have hz0 : ((r : Int) == 0) = false := by simp; omega
    go_wp2_with fail
    refine (even_any sb w2 S2.out (by omega)).mono ?_
    rintro e w4 ⟨a, n, c, d, rfl, m4, hn6⟩
    have K4 := K2.out.only m4.only (.inr (by omega))
    have x4 := K4.cell 0
    have f4 := K4.frozen 0
    simp at x4
    have HF := Lib.hid (m4.boxed (w := w) (by omega) O2.out hsb)
    clear m4 K4 K2 S2 O2
    go_wp2_with fail
    exact bodyPost_ret (v := .agg #[.slice a n c]) (by simp [results, Tryz.f18, go_sem, x4]) rfl ⟨_, _, _, _, rfl, HF.out⟩
theorem Bts.upS {w w' : World} {ao : Option Addr} {n : Nat} (h : Bts w ao n w.heap.size) (hb : Below w.heap.size w w') : Bts w' ao n w'.heap.size := by
  obtain ⟨h1, h2⟩ := h.below hb
  refine ⟨h1, fun hn => ?_⟩
  obtain ⟨b, off, e, hlt, hx⟩ := h2 hn
  exact ⟨b, off, e, Nat.lt_of_lt_of_le hlt hb.size, hx⟩
set_option maxHeartbeats 1600000 in
theorem drawRc_any (ao : Option Addr) (n c : Nat) (w : World) (h : Bts w ao n w.heap.size) :
    Calls Tryz.prog 5 #[.slice ao n c] w fun e w' => ∃ a m cc d, e = .returned (.agg #[.slice a m cc]) ∧ RdSSc w' (.slice a m cc) d ∧ FewSS d ∧ Below w.heap.size w w' := by
  have b1 := below_alloc1 w (.cells #[.slice none 0 0] 26)
  have k1 : Blk (w.alloc (.cells #[.slice none 0 0] 26)) w.heap.size 26 #[.slice none 0 0] := blk_at rfl
  have H1 := Lib.hid (h.upS b1)
  have B1 := Lib.hid b1
  have hz1 : w.heap.size + 1 = (w.alloc (.cells #[.slice none 0 0] 26)).heap.size := by simp
  have K1 := Lib.hid k1
  clear b1 k1 h
  go_enter Tryz.func5, Tryz.ntmps5
  go_upto_region 1 with fail
  generalize w.alloc (.cells #[.slice none 0 0] 26) = w1 at *
  go_wp2_with fail
  refine (from_any ao n c w1 H1.out).mono ?_
  rintro e w2 ⟨rfl, s2, hz2, b2⟩
  have K2 := Lib.hid (K1.out.belowS b2)
  have B2 := Lib.hid (B1.out.trans (b2.mono (by omega)))
  have S2 := Lib.hid s2
  clear s2 b2 K1 B1 H1
  go_wp2_with fail
  refine (small_any w1.heap.size w2 S2.out hz2).mono ?_
  rintro e w3 ⟨a, m, cc, d, rfl, m3⟩
  have K3 := K2.out.only m3.only (.inl (by omega))
  have x3 := K3.cell 0
  have f3 := K3.frozen 0
  simp at x3
  have HR := Lib.hid (m3.rd.setBox (b := w.heap.size) (.inl (by omega)) (.slice a m cc)).rd
  have HF := Lib.hid m3.few
  have HB := Lib.hid (show Below w.heap.size w (w3.setCell ⟨w.heap.size, 0, none⟩ (.slice a m cc)) from (B2.out.trans (m3.only.below (by omega) (by omega))).setCell (Nat.le_refl _) _)
  clear m3 K3 K2 B2 S2
  go_wp2_with fail
  exact bodyPost_ret (v := .agg #[.slice a m cc]) (by simp [results, Tryz.f5, go_sem, x3]) rfl ⟨_, _, _, _, rfl, HR.out, HF.out, HB.out⟩
end Go.Proofs.YtmdhljleaijkbaaGreatDoor

/- The laws' dice: roll, below. -/
namespace Go.Proofs.YtmdhljleaijkbaaGreatDoor
open Go.RowKit

/-- the dice: their box, the code lies below it -/
structure DSrc (w : World) (sb : Nat) : Prop where
  box : ∃ (ao : Option Addr) (n c k h : Nat), Blk w sb 61 #[.slice ao n c, .int .i64 k, .int .u64 h] ∧ h < 18446744073709551616 ∧ k ≤ n ∧ Bts w ao n sb
theorem DSrc.only {w w' : World} {sb lo hi : Nat} (h : DSrc w sb) (ho : Only lo hi w w') (hl : sb < lo) : DSrc w' sb := by
  obtain ⟨ao, n, c, k, hh, h1, h2, h3, h4⟩ := h.box
  exact ⟨ao, n, c, k, hh, h1.only ho (.inl hl), h2, h3, h4.only ho (by omega)⟩
theorem DSrc.far {w w' : World} {sb : Nat} (h : DSrc w sb) (hs : ∀ g, g ≤ sb → w'.heap[g]? = w.heap[g]?) : DSrc w' sb := by
  obtain ⟨ao, n, c, k, hh, h1, h2, h3, h4⟩ := h.box
  refine ⟨ao, n, c, k, hh, (hs sb (Nat.le_refl _)).trans h1, h2, h3, h4.1, fun hn => ?_⟩
  obtain ⟨b, off, e, hb, hc⟩ := h4.2 hn
  refine ⟨b, off, e, hb, fun j hj => ?_⟩
  obtain ⟨x, hx, hcx⟩ := hc j hj
  exact ⟨x, hx, (World.cell?_of_block (hs b (by omega))).trans hcx⟩

set_option maxHeartbeats 3200000 in
theorem below_any (sb : Nat) (z : Int) (w : World) (h : DSrc w sb) (hz : -4611686018427387904 ≤ z ∧ z ≤ 4611686018427387904) :
    Calls Tryz.prog 33 #[.pointer (some ⟨sb, 0, none⟩), .int .i64 z] w fun e w' => ∃ r : Nat, e = .returned (.int .i64 r) ∧ (z < 1 → r = 0) ∧ (1 ≤ z → (r : Int) < z) ∧ DSrc w' sb ∧ Only sb (sb + 1) w w' := by
  obtain ⟨ao, n, c, k, hh, hB, h2, h3, h4⟩ := h.box
  have x0 := hB.cell 0
  have x1 := hB.cell 1
  have x2 := hB.cell 2
  have f1 := hB.frozen 1
  have f2 := hB.frozen 2
  simp at x0 x1 x2
  by_cases hz1 : z < 1
  · have e0 : decide (z < 1) = true := by simp [hz1]
    go_enter Tryz.func33, Tryz.ntmps33
    go_wp2
    go_ret
    exact ⟨0, rfl, fun _ => rfl, fun h => by omega, h, Only.refl _ _ _⟩
  · have e0 : decide (z < 1) = false := by simp; omega
    go_enter Tryz.func33, Tryz.ntmps33
    go_wp2_with fail
    obtain ⟨H, hH1, hH2⟩ := wrap_u64_of (IntKind.u64.wrap ((hh : Int) * 6364136223846793005) + 1442695040888963407)
    rw [hH2]
    obtain ⟨X, hX1, hX2⟩ := low24 ((H : Int) / 8589934592)
    rw [hX2]
    have B1 : Blk (w.setCell ⟨sb, 2, none⟩ (.int .u64 (H : Int))) sb 61 #[.slice ao n c, .int .i64 k, .int .u64 H] := hB.set_ 2 _
    have O1 : Only sb (sb + 1) w (w.setCell ⟨sb, 2, none⟩ (.int .u64 (H : Int))) := only_set _ _ 2 _
    generalize w.setCell ⟨sb, 2, none⟩ (.int .u64 (H : Int)) = w1 at *
    have h5 : Bts w1 ao n sb := h4.only O1 (Nat.le_refl _)
    have y0 := B1.cell 0
    have y1 := B1.cell 1
    have g1 := B1.frozen 1
    simp at y0 y1
    clear x0 x1 x2 f1 f2 hH2 hX2 h4 hB
    have hn := h5.1
    have hzz : (z == 0) = false := by simp; omega
    have fin : ∀ (Y k' : Nat) (w2 : World), Y ≤ 33554432 → k' ≤ n → Blk w2 sb 61 #[.slice ao n c, .int .i64 k', .int .u64 H] → Only sb (sb + 1) w1 w2 → ∃ r : Nat, Ending.returned (Value.int .i64 ((Y : Int) % z)) = Ending.returned (.int .i64 r) ∧ (z < 1 → r = 0) ∧ (1 ≤ z → (r : Int) < z) ∧ DSrc w2 sb ∧ Only sb (sb + 1) w w2 := fun Y k' w2 hY hk' hB2 hO2 => by
      have e2 := Int.emod_nonneg (Y : Int) (show z ≠ 0 by omega)
      have e3 := Int.emod_lt_of_pos (Y : Int) (show 0 < z by omega)
      exact ⟨((Y : Int) % z).toNat, by rw [Int.toNat_of_nonneg e2], fun h => by omega, fun _ => by omega, ⟨ao, n, c, k', H, hB2, hH1, hk', h5.only hO2 (Nat.le_refl _)⟩, O1.trans hO2⟩
    by_cases hk : k < n
    · obtain ⟨b, off, rfl, hb, hc⟩ := h5.2 (by omega)
      obtain ⟨x, hx, hcx⟩ := hc k hk
      go_quiet (fail)
      go_wp2_with fail
      go_quiet (fail)
      go_wp2
      go_ret
      have key := fin (X + x) (k + 1)
      rw [Int.natCast_add] at key
      exact key _ (by omega) (by omega) (B1.set_ 1 (.int .i64 ((k : Int) + 1))) ⟨rfl, rfl, rfl, by simp [World.setCell, World.drewN], fun a ha hd => Below.heap_setCell w1 ⟨sb, 1, none⟩ (.int .i64 ((k : Int) + 1)) a (by show a ≠ sb; omega)⟩
    · go_quiet (fail)
      go_wp2
      go_ret
      exact fin X k _ (by omega) h3 (B1.drewN _) ⟨rfl, rfl, rfl, Nat.le_refl _, fun _ _ _ => rfl⟩

end Go.Proofs.YtmdhljleaijkbaaGreatDoor

/- roll with the seed of FnRegularCovers; words drawn from the dice. -/
namespace Go.Proofs.YtmdhljleaijkbaaGreatDoor
open Go.RowKit

set_option maxRecDepth 100000 in
set_option maxHeartbeats 3200000 in
theorem roll714_any (ao : Option Addr) (n c : Nat) (w : World) (h : Bts w ao n w.heap.size) :
    Calls Tryz.prog 15 #[.slice ao n c, .int .u64 714] w fun e w' => e = .returned (.pointer (some ⟨w.heap.size, 0, none⟩)) ∧ DSrc w' w.heap.size ∧ w.heap.size < w'.heap.size ∧ Below w.heap.size w w' := by
  have hn := h.1
  go_enter Tryz.func15, Tryz.ntmps15
  go_wp2
  go_loopw [6] (fun i wr => ∃ k hh : Nat, k ≤ n ∧ i = .int .i64 k ∧ hh < 18446744073709551616 ∧ Blk wr w.heap.size 61 #[.slice ao n c, .int .i64 0, .int .u64 hh] ∧ Below w.heap.size w wr ∧ w.heap.size < wr.heap.size) (fun i _ => n - (intOf i).toNat)
  case atStart => exact ⟨0, 5484234 + n, Nat.zero_le _, rfl, by omega, blk_at rfl, below_alloc1 _ _, by simp⟩
  case round =>
    obtain ⟨k, hh, hk, rfl, hh1, hB, hb, hs⟩ := hrel
    have done : DSrc wr w.heap.size := ⟨ao, n, c, 0, hh, hB, hh1, Nat.zero_le _, h.below hb⟩
    by_cases hlt : k < n
    · obtain ⟨b, off, rfl, hbb, hc⟩ := (h.below hb).2 (by omega)
      obtain ⟨x, hx, hcx⟩ := hc k hlt
      have x2 := hB.cell 2
      have f2 := hB.frozen 2
      simp at x2
      obtain ⟨A, hA1, hA2⟩ := wrap_u64_of ((hh : Int) * 1099511628211)
      obtain ⟨C, hC1, hC2⟩ := wrap_u64_of ((A : Int) + x)
      obtain ⟨D, hD1, hD2⟩ := wrap_u64_of ((C : Int) + 5)
      have e1 : IntKind.u64.wrap (x : Int) = (x : Int) := by rw [IntKind.wrap_u64]; omega
      have HB := Lib.hid hB
      clear hB hc done h
      go_wp2_with fail
      go_region_law (fail)
      all_goals
        have hb2 := hb.setCell (p := ⟨w.heap.size, 2, none⟩) (Nat.le_refl _) (.int .u64 (D : Int))
        go_wp2
        go_roundw
        case rel => exact ⟨k + 1, D, by omega, by go_num, hD1, HB.out.set_ 2 (.int .u64 (D : Int)), ⟨hb2.os, hb2.tape, hb2.output, hb2.size, hb2.block⟩, by simpa [World.setCell] using hs⟩
        case measure => simp [intOf]; omega
    · obtain rfl : k = n := by omega
      go_wp2
      go_ret
      exact ⟨rfl, done, hs, hb⟩
theorem only_grW {lo hi : Nat} {a w w' : World} {row : Option Nat} (h : Only lo hi a w) (hg : w.grownBy w' row) (hr : ∀ g, row = some g → a.heap.size ≤ g) : Only lo hi a w' :=
  ⟨hg.os.trans h.os, hg.tape.trans h.tape, hg.output.trans h.output, Nat.le_trans h.size hg.size, fun k hk hd => (hg.block k (Nat.lt_of_lt_of_le hk h.size) (fun e => by have := hr k e.symm; omega)).trans (h.block k hk hd)⟩
theorem DSrc.upS {w w' : World} {sb : Nat} (h : DSrc w sb) (hs : sb < w.heap.size) (hb : Below w.heap.size w w') : DSrc w' sb := by
  obtain ⟨ao, n, c, k, hh, hB, h2, h3, h4⟩ := h.box
  exact ⟨ao, n, c, k, hh, hB.belowS hb, h2, h3, h4.below hb⟩
set_option maxHeartbeats 1600000 in
theorem word5_any (sb n : Nat) (w : World) (h : DSrc w sb) (hsb : sb < w.heap.size) (hn1 : 1 ≤ n) (hn5 : n ≤ 5) :
    Calls Tryz.prog 14 #[.pointer (some ⟨sb, 0, none⟩), .int .i64 n, .int .i64 6] w fun e w' => ∃ lo m lc p, e = .returned (.slice lo m lc) ∧ Ints w' lo m p ∧ wdB n p ∧ Only sb (sb + 1) w w' := by
  have b1 := below_alloc1 w (.cells #[] 2)
  have S1 := Lib.hid (h.upS hsb b1)
  have O1 := Lib.hid (show Only sb (sb + 1) w (w.alloc (.cells #[] 2)) from ⟨b1.os, b1.tape, b1.output, b1.size, fun k hk _ => b1.block k hk⟩)
  have R1 := Lib.hid (Own.empty_ w (base := w.heap.size) 2 (Nat.le_refl _))
  have hz1 := b1.size
  clear b1 h
  go_enter Tryz.func14, Tryz.ntmps14
  go_upto_region 2 with fail
  generalize w.alloc (.cells #[] 2) = w1 at *
  go_wp2_with fail
  refine (below_any sb 7 w1 S1.out (by omega)).mono ?_
  rintro e w2 ⟨k0, rfl, -, hk, s2, o2⟩
  have hk0 : k0 < 7 := by have := hk (by omega); omega
  have S2 := Lib.hid s2
  have O2 := Lib.hid (O1.out.trans o2)
  have R2 := Lib.hid (R1.out.same fun g' hg' => o2.block g' (by have := (R1.out.lt g' hg').2; omega) (.inr (by have := (R1.out.lt g' hg').1; omega)))
  have hz2 := o2.size
  clear s2 o2 S1 O1 R1 hk
  go_wp2_with fail
  go_loopw [7, 8] (fun wv kv wr => ∃ (m k c : Nat) (a : Option Addr) (zs : List Int), wv = .slice a m c ∧ kv = .int .i64 k ∧ m + k ≤ 6 ∧ Own wr w.heap.size 2 a m c (zs.map (Value.int .i64)) ∧ (∀ x ∈ zs, 0 ≤ x ∧ x < n) ∧ DSrc wr sb ∧ Only sb (sb + 1) w wr) (fun _ kv _ => (intOf kv).toNat)
  case atStart => exact ⟨0, k0, _, _, [], rfl, rfl, by omega, R2.out, fun x hx => absurd hx (by simp), S2.out, O2.out⟩
  case round =>
    clear S2 O2 R2
    obtain ⟨m, k, c, a, zs, rfl, rfl, hmk, ro, hzs, ds, oo⟩ := hrel
    have DS := Lib.hid ds
    have OO := Lib.hid oo
    have RO := Lib.hid ro
    have HZ := Lib.hid hzs
    have hzw := oo.size
    clear ro ds oo hzs
    by_cases hk : 0 < k
    · have hki : (0 : Int) < (k : Int) := by omega
      go_wp2_with fail
      refine (below_any sb n wr DS.out (by omega)).mono ?_
      rintro e w3 ⟨x, rfl, -, hx, s3, o3⟩
      have hxn := hx (by omega)
      have S3 := Lib.hid s3
      have O3 := Lib.hid (OO.out.trans o3)
      have R3 := Lib.hid (RO.out.same fun g' hg' => o3.block g' (RO.out.lt g' hg').2 (.inr (by have := (RO.out.lt g' hg').1; omega)))
      have hz3 := o3.size
      clear s3 o3 DS OO RO hx
      go_wp2_with (at_builtin; refine wpList_ap1 etI _ rfl _ _ rfl w.heap.size a m c _ rfl R3.out (.int .i64 (x : Int)) rfl rfl (by omega) (by omega) ?_; intro a4 c4 w4 o4 g4 hat4)
      have S4 := Lib.hid (S3.out.far fun g' hg' => g4.block g' (by omega) fun e => by have := (R3.out.lt g' e.symm).1; omega)
      have O4 := Lib.hid (show Only sb (sb + 1) w w4 from only_grW O3.out g4 fun g' hg' => (R3.out.lt g' hg').1)
      have R4 := Lib.hid o4
      clear o4 g4 hat4 S3 O3 R3
      go_wp2_with fail
      go_roundw
      case rel => exact ⟨m + 1, k - 1, c4, a4, zs ++ [(x : Int)], rfl, by go_num, by omega, by rw [List.map_append]; exact R4.out, fun z hz => by (rcases List.mem_append.1 hz with q | q); exact HZ.out z q; (simp at q; omega), S4.out, O4.out⟩
      case measure => simp [intOf]; omega
    · obtain rfl : k = 0 := by omega
      have hki : ¬ (0 : Int) < 0 := by omega
      have hl := RO.out.len
      have HI := Lib.hid RO.out.ints
      have HL := Lib.hid (show zs.length ≤ 64 from by simp at hl; omega)
      clear RO hl
      go_wp2_with fail
      exact bodyPost_ret (v := .slice a m c) (by simp [results, Tryz.f14, go_sem]) rfl (by first | exact ⟨a, m, c, zs, rfl, HI.out, ⟨HL.out, HZ.out⟩, OO.out⟩ | exact ⟨a, m, ⟨c, rfl⟩, zs, HI.out, ⟨HL.out, HZ.out⟩, OO.out⟩)
end Go.Proofs.YtmdhljleaijkbaaGreatDoor

/- Groups of permutations, the program's: slices.Compare at two lists of one length. guards: -/
namespace Go.Proofs.YtmdhljleaijkbaaGreatDoor
open Go.RowKit

def cmpI (x y : Int) : Int := if x < y then -1 else if y < x then 1 else 0
def cmpL (a b : List Int) : Int := if ltL a b = true then -1 else if ltL b a = true then 1 else 0
theorem isNaN_any (x : Int) (w : World) : Calls Tryz.prog 97 #[.int .i64 x] w fun e w' => e = .returned (.bool false) ∧ ∃ m, w' = w.drewN m := by
  have h : (x != x) = false := by simp
  go_enter Tryz.func97, Tryz.ntmps97
  go_wp2
  go_ret
  exact ⟨rfl, 0, rfl⟩
set_option maxHeartbeats 1600000 in
theorem cmpInt_any (x y : Int) (w : World) : Calls Tryz.prog 76 #[.int .i64 x, .int .i64 y] w fun e w' => e = .returned (.int .i64 (cmpI x y)) ∧ ∃ m, w' = w.drewN m := by
  obtain ⟨V, hV⟩ : ∃ V, V = cmpI x y := ⟨_, rfl⟩
  rw [← hV]
  have HV := Lib.hid hV
  clear hV
  rcases Int.lt_trichotomy x y with h | h | h
  · have e : V = -1 := by rw [HV.out]; unfold cmpI; rw [if_pos h]
    subst e
    have h1 : decide (x < y) = true := by simp [h]
    go_enter Tryz.func76, Tryz.ntmps76
    go_wp2_with (go_at_call 97; refine (isNaN_any _ _).mono ?_; rintro e w' ⟨rfl, m, rfl⟩)
    go_ret
    exact ⟨rfl, _, rfl⟩
  · subst h
    have e : V = 0 := by rw [HV.out]; unfold cmpI; rw [if_neg (by omega), if_neg (by omega)]
    subst e
    have h1 : decide (x < x) = false := by simp
    go_enter Tryz.func76, Tryz.ntmps76
    go_wp2_with (go_at_call 97; refine (isNaN_any _ _).mono ?_; rintro e w' ⟨rfl, m, rfl⟩)
    go_ret
    exact ⟨rfl, _, rfl⟩
  · have e : V = 1 := by rw [HV.out]; unfold cmpI; rw [if_neg (by omega), if_pos h]
    subst e
    have h1 : decide (x < y) = false := by simp; omega
    have h2 : decide (y < x) = true := by simp [h]
    go_enter Tryz.func76, Tryz.ntmps76
    go_wp2_with (go_at_call 97; refine (isNaN_any _ _).mono ?_; rintro e w' ⟨rfl, m, rfl⟩)
    go_ret
    exact ⟨rfl, _, rfl⟩
theorem cmpL_step {x y : List Int} {n k : Nat} (hx : x.length = n) (hy : y.length = n) (hk : k < n) : cmpL (x.drop k) (y.drop k) = if iget x k = iget y k then cmpL (x.drop (k + 1)) (y.drop (k + 1)) else cmpI (iget x k) (iget y k) := by
  unfold cmpL
  rw [ltL_step hx hy hk, ltL_step hy hx hk]
  unfold cmpI
  rcases Int.lt_trichotomy (iget x k) (iget y k) with h | h | h
  · simp [h, show ¬ iget x k = iget y k by omega]
  · rw [h]; simp
  · simp [h, show ¬ iget x k = iget y k by omega, show ¬ iget x k < iget y k by omega]
theorem cmpI_ne {x y : Int} (h : x ≠ y) : (cmpI x y != 0) = true := by
  unfold cmpI
  split
  · rfl
  · split
    · rfl
    · exact absurd (by omega : x = y) h
set_option maxHeartbeats 1600000 in
theorem compare_any (a b : Option Addr) (n ca cb : Nat) (x y : List Int) (w : World) (ha : Ints w a n x) (hb : Ints w b n y) :
    Calls Tryz.prog 50 #[.slice a n ca, .slice b n cb] w fun e w' => e = .returned (.int .i64 (cmpL x y)) ∧ ∃ m, w' = w.drewN m := by
  have hla := ha.2.1
  have hx := ha.1
  have hy := hb.1
  obtain ⟨V, hV⟩ : ∃ V, V = cmpL x y := ⟨_, rfl⟩
  have H0 : V = cmpL (x.drop 0) (y.drop 0) := by rw [hV]; rfl
  rw [← hV]
  clear hV
  go_enter Tryz.func50, Tryz.ntmps50
  go_wp2
  go_loopw [11] (fun i wr => ∃ k m : Nat, k ≤ n ∧ i = .int .i64 k ∧ wr = w.drewN m ∧ V = cmpL (x.drop k) (y.drop k)) (fun i _ => n - (intOf i).toNat)
  case atStart => exact ⟨0, 0, Nat.zero_le _, rfl, rfl, H0⟩
  case round =>
    clear H0
    obtain ⟨k, m, hk, rfl, rfl, hv⟩ := hrel
    by_cases hlt : k < n
    · obtain ⟨ba, oa, rfl, hca⟩ := ha.at_ hlt
      obtain ⟨bb, ob, rfl, hcb⟩ := hb.at_ hlt
      rw [cmpL_step hx hy hlt] at hv
      have HV := Lib.hid hv
      clear hv ha hb
      generalize iget x k = p at *
      generalize iget y k = q at *
      by_cases hpq : p = q
      · have HV2 := Lib.hid (show V = cmpL (x.drop (k + 1)) (y.drop (k + 1)) by rw [HV.out, if_pos hpq])
        subst hpq
        have hc : cmpI p p = 0 := by unfold cmpI; rw [if_neg (by omega), if_neg (by omega)]
        have HC := Lib.hid hc
        clear hc
        go_wp2_with (go_at_call 76; refine (cmpInt_any _ _ _).mono ?_; rw [HC.out]; rintro e w' ⟨rfl, m2, rfl⟩)
        go_roundw
        case rel => exact ⟨k + 1, _, by omega, by go_num, rfl, HV2.out⟩
        case measure => first | (simp [intOf]; done) | (simp [intOf]; omega)
      · have HV2 := Lib.hid (show V = cmpI p q by rw [HV.out, if_neg hpq])
        have hne := cmpI_ne hpq
        go_wp2_with (go_at_call 76; refine (cmpInt_any _ _ _).mono ?_; rw [← HV2.out] at hne ⊢; rintro e w' ⟨rfl, m2, rfl⟩)
        go_ret
        exact ⟨rfl, _, rfl⟩
    · obtain rfl : k = n := by omega
      have hv2 : V = 0 := by rw [hv, List.drop_of_length_le (by omega), List.drop_of_length_le (by omega)]; rfl
      subst hv2
      clear hv
      go_wp2
      go_ret
      exact ⟨rfl, _, rfl⟩
end Go.Proofs.YtmdhljleaijkbaaGreatDoor

/- Groups of permutations: the reference's l01Group, walked. -/
namespace Go.Proofs.YtmdhljleaijkbaaGreatDoor
open Go.RowKit

theorem SpF.intss {w : World} {lo n c : Nat} {ao : Option Addr} {us : List Value} {ds : List (List Int)} (h : SpF w lo ao n c us ds) : Intss w ao n ds := by
  refine ⟨h.len, by have := h.own.2; omega, fun hn => ?_⟩
  obtain ⟨g, a, m, k, rfl, -, -, -⟩ := h.at_ hn
  refine ⟨g, 0, rfl, fun j hj => ?_⟩
  obtain ⟨g', a, m, k, e, hc, hu, ho⟩ := h.at_ hj
  injection e with e; injection e with e; subst e
  exact ⟨_, by rw [Nat.zero_add]; exact hc, a, m, k, rfl, ho.ints⟩
theorem lenSS_all {n : Nat} : ∀ {ds : List (List Int)}, (∀ d ∈ ds, d.length = n) → lenSS ds = n * ds.length
  | [], _ => by simp [lenSS]
  | d :: r, h => by
    have h1 := lenSS_all (ds := r) fun x hx => h x (by simp [hx])
    have e : lenSS (d :: r) = d.length + lenSS r := by simp [lenSS]
    rw [e, h1, h d (by simp), List.length_cons, Nat.mul_succ]; omega
/-- what both of the searches answer -/
def GrpAns (w : World) (R : Option (List (List Int))) (e : Ending) (w' : World) : Prop :=
  ∃ (a : Option Addr) (m c : Nat) (ss : List (List Int)), e = .returned (.tuple #[.slice a m c, .bool R.isSome]) ∧ (R = none → a = none ∧ m = 0 ∧ c = 0) ∧ (∀ es, R = some es → AscL ss ∧ (∀ z, z ∈ ss ↔ z ∈ es) ∧ OwSS 2 38 w' w.heap.size w'.heap.size (.slice a m c) ss) ∧ Below w.heap.size w w'
set_option maxRecDepth 100000 in
set_option maxHeartbeats 6400000 in
theorem specGroup_any (n gn gc : Nat) (ga : Option Addr) (gs : List (List Int)) (w : World) (hn0 : 1 ≤ n) (hn : n ≤ 400) (hg : Intss w ga gn gs) (hgp : ∀ z ∈ gs, Pts n z) (hg16 : gn ≤ 16) :
    Calls Tryz.prog 25 #[.int .i64 n, .slice ga gn gc] w (GrpAns w (grpE gs n)) := by
  obtain ⟨R, hR⟩ : ∃ R, R = grpE gs n := ⟨_, rfl⟩
  rw [← hR]
  have HR := Lib.hid hR
  have HG := Lib.hid hg
  have HGP := Lib.hid hgp
  have hgl := hg.1
  clear hR hg hgp
  go_enter Tryz.func25, Tryz.ntmps25
  go_wp2_with fail
  refine (unit_any n w (by omega)).mono ?_
  rintro e w1 ⟨a1, c1, rfl, o1, b1⟩
  have z1 := b1.size
  have O1 := Lib.hid (o1.alloc (.cells #[.slice a1 n c1] 38))
  have F1 := Lib.hid (own_lit (w := w1) (base := w.heap.size) (E := 38) (us := [.slice a1 n c1]) rfl z1 (by simp))
  have B1 := Lib.hid (b1.alloc z1 (.cells #[.slice a1 n c1] 38))
  clear o1 b1
  go_upto_region 2 with fail
  have hz2 : (w1.alloc (.cells #[.slice a1 n c1] 38)).heap.size = w1.heap.size + 1 := by simp
  generalize w1.alloc (.cells #[.slice a1 n c1] 38) = w2 at *
  go_wp2_with fail
  refine (unit_any n w2 (by omega)).mono ?_
  rintro e w3 ⟨a3, c3, rfl, o3, b3⟩
  have z3 := b3.size
  have G0 : GrS w (w3.alloc (.cells #[.slice a3 n c3] 38)) n gs (some ⟨w1.heap.size, 0, none⟩) 1 1 [.slice a1 n c1] [unitL n] (some ⟨w3.heap.size, 0, none⟩) 1 1 [.slice a3 n c3] [unitL n] := by
    have b4 := b3.alloc z3 (.cells #[.slice a3 n c3] 38)
    refine ⟨⟨F1.out.below b4, rfl, fun j u d hu hd => ?_⟩, ⟨own_lit (us := [.slice a3 n c3]) rfl (by omega) (by simp), rfl, fun j u d hu hd => ?_⟩, by simp [AscL], fun z => Iff.rfl, fun z hz => ?_, fun g e q => ?_, rfl, B1.out.trans (b4.mono (by omega))⟩
    · match j, hu, hd with
      | 0, hu, hd => simp at hu hd; subst hu hd; exact ⟨_, _, _, rfl, O1.out.below b4⟩
    · match j, hu, hd with
      | 0, hu, hd => simp at hu hd; subst hu hd; exact ⟨_, _, _, rfl, (o3.alloc _).mono (by omega)⟩
    · simp at hz; subst hz; exact unitL_pts n
    · simp [bk] at e q; omega
  have GH := Lib.hid G0
  clear G0 O1 F1 B1 o3 b3
  go_upto_region 3 with fail
  generalize w3.alloc (.cells #[.slice a3 n c3] 38) = w4 at *
  go_wp2_with fail
  go_loopw [6, 7, 8] (fun fv sv iv wr => ∃ (i f : Nat) (af : Option Addr) (nf cf : Nat) (uf : List Value) (es : List (List Int)) (as' : Option Addr) (ns cs : Nat) (us : List Value) (ss : List (List Int)), fv = .slice af nf cf ∧ sv = .slice as' ns cs ∧ iv = .int .i64 i ∧ i ≤ nf ∧ nf ≤ 1000 ∧ f + i = 1002 ∧ R = runG gs f i es ∧ GrS w wr n gs af nf cf uf es as' ns cs us ss) (fun _ _ iv _ => 1002 - (intOf iv).toNat)
  case atStart => exact ⟨0, 1002, _, 1, 1, _, _, _, 1, 1, _, _, rfl, rfl, rfl, by omega, by omega, rfl, HR.out, GH.out⟩
  case round =>
    clear GH
    obtain ⟨i, f, af, nf, cf, uf, es, as', ns, cs, us, ss, rfl, rfl, rfl, hi, hnf, hfi, hR, gr⟩ := hrel
    obtain ⟨f', rfl⟩ : ∃ f', f = f' + 1 := ⟨f - 1, by omega⟩
    have hel := gr.fnd.len
    by_cases hlt : i < nf
    · have GR := Lib.hid gr
      have H0 := Lib.hid hR
      clear gr hR
      have hie : i < es.length := by omega
      go_wp2_with fail
      go_loopw [6, 7, 9] (fun fv sv kv wr => ∃ (k : Nat) (af : Option Addr) (nf cf : Nat) (uf : List Value) (es' : List (List Int)) (as' : Option Addr) (ns cs : Nat) (us : List Value) (ss : List (List Int)), fv = .slice af nf cf ∧ sv = .slice as' ns cs ∧ kv = .int .i64 k ∧ k ≤ gn ∧ es' = rowG gs es i k ∧ nf ≤ 1000 ∧ GrS w wr n gs af nf cf uf es' as' ns cs us ss) (fun _ _ kv _ => gn - (intOf kv).toNat)
      case atStart => exact ⟨0, _, _, _, _, _, _, _, _, _, _, rfl, rfl, rfl, Nat.zero_le _, rfl, hnf, GR.out⟩
      case round =>
        clear GR hnf hlt hel hi
        obtain ⟨k, af, nf, cf, uf, es', as', ns, cs, us, ss, rfl, rfl, rfl, hk, he', hnf, gr⟩ := hrel
        have hel := gr.fnd.len
        have hrl := rowG_len gs es i k
        rw [← he'] at hrl
        have hbel := gr.bel
        by_cases hlt : k < gn
        · have hiN : i < nf := by omega
          obtain ⟨g1, a, b, kk, rfl, hc1, hu1, ho1⟩ := gr.fnd.at_ hiN
          obtain ⟨b2, off2, a2, n2, c2, rfl, hc2, hi2⟩ := (HG.out.below hbel).at_ hlt
          have hp1 := gr.pts (lget es' i) (lget_mem (by omega))
          have hp2 := HGP.out (lget gs k) (lget_mem (by omega))
          have hb1 : n = b := by have := ho1.len; rw [List.length_map, hp1.1] at this; exact this
          have hn2 : n = n2 := by rw [← hi2.1, hp2.1]
          subst hb1 hn2
          have hpt := thenL_pts hp1 hp2
          have hst : rowG gs es i (k + 1) = stepGr gs es' i k := by rw [he']; rfl
          unfold stepGr at hst
          obtain ⟨p, hpe⟩ : ∃ p, p = thenL (lget es' i) (lget gs k) := ⟨_, rfl⟩
          rw [← hpe] at hst hpt
          have HPE := Lib.hid hpe
          have hblk2 : b2 < wr.heap.size := World.block_lt_of_cell? wr _ hc2
          have hblk1 : g1 < wr.heap.size := World.block_lt_of_cell? wr _ hc1
          have HS := Lib.hid (show ∀ w', Below wr.heap.size wr w' → (Below wr.heap.size wr w' ∧ w'.cell? ⟨g1, i, none⟩ = some (.slice a n kk) ∧ w'.cell? ⟨b2, off2 + k, none⟩ = some (.slice a2 n c2)) from fun w' hb => ⟨hb, (hb.cell (p := ⟨g1, i, none⟩) hblk1).trans hc1, (hb.cell (p := ⟨b2, off2 + k, none⟩) hblk2).trans hc2⟩)
          have HI1 := Lib.hid ho1
          have HI2 := Lib.hid hi2
          have GR := Lib.hid gr
          have HST := Lib.hid hst
          have HP1 := Lib.hid hp1.2
          have hi0 : (i : Int) < (nf : Int) := by omega
          have hsz := hbel.size
          clear hpe hst hc1 hc2 ho1 hi2 gr hp1 hp2 hu1
          have K0 := Lib.hid (HS.out wr.drew (below_drew1 wr))
          go_upto_region 9 with fail
          go_region_held3 (fun w' => Below wr.heap.size wr w' ∧ w'.cell? ⟨g1, i, none⟩ = some (.slice a n kk) ∧ w'.cell? ⟨b2, off2 + k, none⟩ = some (.slice a2 n c2)) (first | exact K0.out | exact K5.out) (first | (go_at_call 27; refine (specThen_any _ _ n n _ _ (lget es' i) (lget gs k) _ (HI1.out.below (below_drew1 wr)).ints (HI2.out.below (below_drew1 wr)) HP1.out (by omega)).mono ?_; rintro e w5 ⟨a5, c5, rfl, o5, b5⟩; have B5 : Below wr.heap.size wr w5 := below_tr b5 (below_drew1 wr); have K5 := Lib.hid (HS.out w5 B5)))
          all_goals
            have GR5 := Lib.hid (GR.out.below B5)
            rw [← HPE.out] at o5
            have O5 := Lib.hid (o5.mono (show w.heap.size ≤ wr.heap.size from hsz))
            have hz5 := GR5.out.bel.size
            have hss : ∀ d ∈ ss, d.length = n := fun d hd => (GR5.out.pts d ((GR5.out.mem d).1 hd)).1
            have hns : ns ≤ 2000 := by have := GR5.out.nn; omega
            clear o5 b5 B5 K0 K5 GR HS HI1 HI2
            go_wp2_with fail
            refine (specPut_any w.heap.size as' a5 ns cs n c5 us ss p w5 GR5.out.srt O5.out GR5.out.asc hss hz5 hns).mono ?_
            rintro e w6 hput
            unfold PutAns at hput
            obtain ⟨fresh, a6, n6, c6, us6, ds6, rfl, hfr, hds, hsp, hgr, hat⟩ := hput
            cases fresh with
            | false =>
              have hin : p ∈ ss := by
                rcases Classical.em (p ∈ ss) with t | t
                · exact t
                · exact absurd (hfr.2 t) (by simp)
              rw [if_neg (by simp)] at hds
              subst hds
              have hst2 : rowG gs es i (k + 1) = es' := by rw [HST.out, if_pos ((GR5.out.mem p).1 hin)]
              have G6 := Lib.hid (GR5.out.put hsp hgr hat hin)
              have HS2 := Lib.hid hst2
              have hnf1 : ¬ ((1000 : Int) < (nf : Int)) := by omega
              clear hsp hgr hat hst2 GR5 hfr
              go_wp2_with fail
              go_roundw
              case rel => first | exact ⟨k + 1, _, _, _, _, _, _, _, _, _, _, rfl, rfl, by go_num, by omega, HS2.out.symm, hnf, G6.out⟩ | ((repeat apply Exists.intro); exact ⟨⟨k + 1, _, _, _, _, _, _, _, _, _, _, rfl, rfl, by go_num, by omega, HS2.out.symm, hnf, G6.out⟩, rfl⟩)
              case measure => simp [intOf]; omega
            | true =>
              have hnin : p ∉ ss := hfr.1 rfl
              rw [if_pos rfl] at hds
              subst hds
              have hst2 : rowG gs es i (k + 1) = es' ++ [p] := by rw [HST.out, if_neg (fun t => hnin ((GR5.out.mem p).2 t))]
              have hf6 := Lib.hid (GR5.out.fnd.far GR5.out.srt.own hgr GR5.out.ne)
              have hz6 := hgr.size
              have O6 := Lib.hid (show Own w6 w.heap.size 2 a5 n c5 (p.map (Value.int .i64)) from O5.out.same fun g e => hgr.block g (O5.out.lt g e).2 (fun q => own_neT O5.out GR5.out.srt.own (by decide) e q.symm))
              have hw6 : w.heap.size ≤ w6.heap.size := Nat.le_trans hz5 hz6
              have HSP := Lib.hid hsp
              have HGR := Lib.hid hgr
              have HAT := Lib.hid hat
              have HS2 := Lib.hid hst2
              have HNI := Lib.hid hnin
              have HPT := Lib.hid hpt
              clear hsp hgr hat hst2 hfr hnin hpt
              go_upto_region 14 with (at_builtin; refine wpList_ap1 etSS _ rfl _ _ rfl w.heap.size _ nf cf uf rfl hf6.out.own (.slice a5 n c5) rfl rfl (by omega) hw6 ?_; intro ao8 c8 w8 o8 g8 hat8)
              have GF := Lib.hid (GR5.out.grow HPT.out HNI.out HSP.out HGR.out HAT.out O6.out o8 g8 (hat8.imp id (fun e => ⟨_, e, Nat.le_succ _⟩)))
              clear o8 g8 hat8 hf6 HSP HGR HAT HNI HPT O6 GR5 O5
              by_cases hbig : nf < 1000
              · go_wp2_with fail
                go_roundw
                case rel => first | exact ⟨k + 1, _, _, _, _, _, _, _, _, _, _, rfl, rfl, by go_num, by omega, HS2.out.symm, by omega, GF.out⟩ | ((repeat apply Exists.intro); exact ⟨⟨k + 1, _, _, _, _, _, _, _, _, _, _, rfl, rfl, by go_num, by omega, HS2.out.symm, by omega, GF.out⟩, rfl⟩)
                case measure => simp [intOf]; omega
              · have hlong : 1000 < (rowG gs es i gs.length).length := by
                  have h1 := rowG_mono gs es i (show k + 1 ≤ gs.length by omega)
                  rw [HS2.out, List.length_append, List.length_singleton] at h1
                  omega
                have hRn : R = none := by rw [H0.out]; exact runG_bad hie hlong
                have HRN := Lib.hid hRn
                have HB := Lib.hid GF.out.bel
                clear hRn hlong
                go_wp2_with fail
                exact bodyPost_ret (v := .tuple #[.slice none 0 0, .bool false]) (by simp [results, Tryz.f25, go_sem]) rfl (by unfold GrpAns; exact ⟨none, 0, 0, [], by rw [HRN.out]; rfl, fun _ => ⟨rfl, rfl, rfl⟩, fun es h => (by rw [HRN.out] at h; cases h), HB.out⟩)
        · obtain rfl : k = gn := by omega
          have hR2 : R = runG gs f' (i + 1) es' := by
            rw [H0.out, runG_go hie (by rw [hgl, ← he']; omega), hgl, ← he']
          have HR2 := Lib.hid hR2
          have GR2 := Lib.hid gr
          clear gr hR2
          go_wp2_with fail
          go_roundw
          case rel => first | exact ⟨i + 1, f', _, _, _, _, _, _, _, _, _, _, rfl, rfl, by go_num, by omega, hnf, by omega, HR2.out, GR2.out⟩ | ((repeat apply Exists.intro); exact ⟨⟨i + 1, f', _, _, _, _, _, _, _, _, _, _, rfl, rfl, by go_num, by omega, hnf, by omega, HR2.out, GR2.out⟩, rfl⟩)
          case measure => simp [intOf]; omega
    · have he := runG_end (gs := gs) (f := f') (i := i) (es := es) (by omega)
      have hRe : R = some es := by rw [hR, he]
      have HRE := Lib.hid hRe
      have GR := Lib.hid gr
      clear gr hR he hRe
      have hss : lenSS ss = n * ss.length := lenSS_all fun d hd => (GR.out.pts d ((GR.out.mem d).1 hd)).1
      have hsl := GR.out.srt.len
      have hnn := GR.out.nn
      have hmul : n * ss.length ≤ 400 * 1000 := Nat.mul_le_mul hn (by omega)
      have hle : ss.length + lenSS ss ≤ 1048576 := by rw [hss]; omega
      have HI := Lib.hid GR.out.srt.intss
      have hbl := GR.out.bel
      clear hss hsl hnn hmul
      go_wp2_with fail
      refine (own2_any _ _ _ ss _ HI.out hle).mono ?_
      rintro e w9 ⟨v9, rfl, o9, b9⟩
      obtain ⟨a9, n9, c9, us9, rfl, or9⟩ := o9
      have hb9 := hbl.trans (b9.mono hbl.size)
      have O9 := Lib.hid (show OwSS 2 38 w9 w.heap.size w9.heap.size (.slice a9 n9 c9) ss from ⟨_, _, _, _, rfl, or9.mono hbl.size (Nat.le_refl _)⟩)
      clear or9 b9 hbl
      go_wp2_with fail
      exact bodyPost_ret (v := .tuple #[.slice a9 n9 c9, .bool true]) (by simp [results, Tryz.f25, go_sem]) rfl (by unfold GrpAns; exact ⟨a9, n9, c9, ss, by rw [HRE.out]; rfl, fun h => (by rw [HRE.out] at h; cases h), fun es' h => (by rw [HRE.out] at h; injection h with h; subst h; exact ⟨GR.out.asc, GR.out.mem, O9.out⟩), hb9⟩)
end Go.Proofs.YtmdhljleaijkbaaGreatDoor

/- Contracts of Go's library at this program, out of the kit's shelf (written by its tools lay-shelf and lay-plain, cut to what is used by shelf.py). -/
namespace Go.Proofs
open Go.Shelf
def Tryz.laysM176_ren : Go.Shelf.Ren := ⟨fun | 176 => 73 | 249 => 86 | 288 => 104 | 283 => 111 | 284 => 112 | 285 => 113 | 286 => 114 | 129 => 96 | 317 => 116 | 318 => 117 | 319 => 118 | 320 => 119 | 337 => 120 | 338 => 121 | n => n, fun | 37 => 22 | 2 => 2 | 3 => 3 | 53 => 42 | 4 => 4 | 9 => 9 | 171 => 139 | 0 => 0 | 173 => 141 | 212 => 148 | 51 => 121 | 5 => 5 | 20 => 20 | 213 => 149 | 46 => 86 | 232 => 151 | 233 => 152 | n => n, fun | 17 => 0 | 18 => 1 | 19 => 2 | n => n⟩
theorem Tryz.laysM176 : Go.Proofs.LaysM.n176 Tryz.prog Tryz.laysM176_ren := {
  mixed := by kernel_rfl
  f129 := Tryz.func96.trans (congrArg some (by kernel_rfl))
  f176 := Tryz.func73.trans (congrArg some (by kernel_rfl))
  f249 := Tryz.func86.trans (congrArg some (by kernel_rfl))
  f283 := Tryz.func111.trans (congrArg some (by kernel_rfl))
  f284 := Tryz.func112.trans (congrArg some (by kernel_rfl))
  f285 := Tryz.func113.trans (congrArg some (by kernel_rfl))
  f286 := Tryz.func114.trans (congrArg some (by kernel_rfl))
  f288 := Tryz.func104.trans (congrArg some (by kernel_rfl))
  f317 := Tryz.func116.trans (congrArg some (by kernel_rfl))
  f318 := Tryz.func117.trans (congrArg some (by kernel_rfl))
  f319 := Tryz.func118.trans (congrArg some (by kernel_rfl))
  f320 := Tryz.func119.trans (congrArg some (by kernel_rfl))
  f337 := Tryz.func120.trans (congrArg some (by kernel_rfl))
  f338 := Tryz.func121.trans (congrArg some (by kernel_rfl))
  t0 := Tryz.underlying0
  a0 := Tryz.isAgg0
  z0 := Tryz.sizeOf0
  v0 := Tryz.zeroValue0
  t2 := Tryz.underlying2
  a2 := Tryz.isAgg2
  z2 := Tryz.sizeOf2
  v2 := Tryz.zeroValue2
  t3 := Tryz.underlying3
  a3 := Tryz.isAgg3
  z3 := Tryz.sizeOf3
  v3 := Tryz.zeroValue3
  t4 := Tryz.underlying4
  a4 := Tryz.isAgg4
  z4 := Tryz.sizeOf4
  v4 := Tryz.zeroValue4
  t5 := Tryz.underlying5
  a5 := Tryz.isAgg5
  z5 := Tryz.sizeOf5
  v5 := Tryz.zeroValue5
  t9 := Tryz.underlying9
  a9 := Tryz.isAgg9
  z9 := Tryz.sizeOf9
  v9 := Tryz.zeroValue9
  t20 := Tryz.underlying20
  a20 := Tryz.isAgg20
  z20 := Tryz.sizeOf20
  v20 := Tryz.zeroValue20
  t37 := Tryz.underlying22
  a37 := Tryz.isAgg22
  z37 := Tryz.sizeOf22
  v37 := Tryz.zeroValue22
  t46 := Tryz.underlying86
  a46 := Tryz.isAgg86
  z46 := Tryz.sizeOf86
  v46 := Tryz.zeroValue86
  t51 := Tryz.underlying121
  a51 := Tryz.isAgg121
  z51 := Tryz.sizeOf121
  v51 := Tryz.zeroValue121
  t53 := Tryz.underlying42
  a53 := Tryz.isAgg42
  z53 := Tryz.sizeOf42
  v53 := Tryz.zeroValue42
  t171 := Tryz.underlying139
  a171 := Tryz.isAgg139
  z171 := Tryz.sizeOf139
  v171 := Tryz.zeroValue139
  t173 := Tryz.underlying141
  a173 := Tryz.isAgg141
  z173 := Tryz.sizeOf141
  v173 := Tryz.zeroValue141
  t212 := Tryz.underlying148
  a212 := Tryz.isAgg148
  z212 := Tryz.sizeOf148
  v212 := Tryz.zeroValue148
  t213 := Tryz.underlying149
  a213 := Tryz.isAgg149
  z213 := Tryz.sizeOf149
  t232 := Tryz.underlying151
  a232 := Tryz.isAgg151
  z232 := Tryz.sizeOf151
  v232 := Tryz.zeroValue151
  t233 := Tryz.underlying152
  a233 := Tryz.isAgg152
  z233 := Tryz.sizeOf152
  v233 := Tryz.zeroValue152
  g17 := by kernel_rfl
  g18 := by kernel_rfl
  g19 := by kernel_rfl
  i0 := by kernel_rfl
  i2 := by kernel_rfl
  i3 := by kernel_rfl
  i4 := by kernel_rfl
  i5 := by kernel_rfl
  i9 := by kernel_rfl
  i20 := by kernel_rfl
  i37 := by kernel_rfl
  i46 := by kernel_rfl
  i51 := by kernel_rfl
  i53 := by kernel_rfl
  i171 := by kernel_rfl
  i173 := by kernel_rfl
  i212 := by kernel_rfl
  i232 := by kernel_rfl
  i233 := by kernel_rfl
  m17 := by kernel_rfl
  m18 := by kernel_rfl
  m19 := by kernel_rfl }
open Go.RowKit Go.Sort Go.Lib in
/-- strconv.AppendInt: "AppendInt appends the string form of the integer i, as generated by FormatInt, to dst and returns the extended buffer.": AT BASE 10: WHAT COMES BACK OWNS dst's CELLS AND, BEHIND THEM, i's DECIMAL NUMERAL ('Lib.itoa i': at most 20 bytes), for every int64. Below the call's own blocks nothing has turned. (LAID: no walk: one application.) -/
theorem Tryz.strconv_AppendInt_10 (B n : Nat) (i : Int) (h0 : -9223372036854775808 ≤ i) (h1 : i ≤ 9223372036854775807) (sv : Value) (xs : List Value) (w : World) (hown : w.ownsRow B 5 1 sv n xs) (hBw : B ≤ w.heap.size) (hlim : n + 21 ≤ 140737488355328) (htab : Lib.TabBelow Tryz.prog B w "internal/strconv.uint64pow10" .u64 Lib.pow10Tab) :
    Calls Tryz.prog 73 #[sv, .int .i64 i, .int .i64 10] w fun e w' => ∃ v', e = .returned v' ∧ w'.ownsRow B 5 1 v' (n + (Lib.itoa i).length) (xs ++ Lib.byteCells (Lib.itoa i)) ∧ Below B w w' ∧ Lib.OthersKept 5 none w w' := Any.strconv_AppendInt_10 Tryz.laysM176 B n i h0 h1 sv xs w hown hBw hlim htab
def Tryz.laysSlF6_f49_ren : Go.Shelf.Ren := ⟨fun | 6 => 49 | 15 => 75 | 14 => 74 | 28 => 95 | 29 => 96 | 20 => 87 | 21 => 88 | 22 => 89 | 23 => 90 | 24 => 91 | 25 => 92 | 26 => 93 | 27 => 94 | 46 => 105 | 47 => 106 | 48 => 107 | 49 => 108 | 50 => 109 | 57 => 115 | n => n, fun | 22 => 24 | 24 => 38 | 25 => 78 | 3 => 3 | 39 => 86 | 0 => 0 | 53 => 121 | 55 => 42 | 4 => 4 | 46 => 114 | 45 => 113 | 50 => 118 | 5 => 5 | 9 => 9 | 66 => 131 | 70 => 135 | 76 => 143 | 77 => 144 | n => n, fun | n => n⟩
theorem Tryz.laysSlF6_f49 : Go.Proofs.SlLaysF.n6 Tryz.prog Tryz.laysSlF6_f49_ren := {
  mixed := by kernel_rfl
  f6 := ⟨Tryz.f49.name, by decide, Tryz.func49.trans (congrArg some (by kernel_rfl))⟩
  f14 := ⟨Tryz.f74.name, by decide, Tryz.func74.trans (congrArg some (by kernel_rfl))⟩
  f15 := Tryz.func75.trans (congrArg some (by kernel_rfl))
  f20 := ⟨Tryz.f87.name, by decide, Tryz.func87.trans (congrArg some (by kernel_rfl))⟩
  f21 := ⟨Tryz.f88.name, by decide, Tryz.func88.trans (congrArg some (by kernel_rfl))⟩
  f22 := ⟨Tryz.f89.name, by decide, Tryz.func89.trans (congrArg some (by kernel_rfl))⟩
  f23 := ⟨Tryz.f90.name, by decide, Tryz.func90.trans (congrArg some (by kernel_rfl))⟩
  f24 := ⟨Tryz.f91.name, by decide, Tryz.func91.trans (congrArg some (by kernel_rfl))⟩
  f25 := ⟨Tryz.f92.name, by decide, Tryz.func92.trans (congrArg some (by kernel_rfl))⟩
  f26 := ⟨Tryz.f93.name, by decide, Tryz.func93.trans (congrArg some (by kernel_rfl))⟩
  f27 := ⟨Tryz.f94.name, by decide, Tryz.func94.trans (congrArg some (by kernel_rfl))⟩
  f28 := Tryz.func95.trans (congrArg some (by kernel_rfl))
  f29 := Tryz.func96.trans (congrArg some (by kernel_rfl))
  f46 := ⟨Tryz.f105.name, by decide, Tryz.func105.trans (congrArg some (by kernel_rfl))⟩
  f47 := Tryz.func106.trans (congrArg some (by kernel_rfl))
  f48 := Tryz.func107.trans (congrArg some (by kernel_rfl))
  f49 := ⟨Tryz.f108.name, by decide, Tryz.func108.trans (congrArg some (by kernel_rfl))⟩
  f50 := ⟨Tryz.f109.name, by decide, Tryz.func109.trans (congrArg some (by kernel_rfl))⟩
  f57 := ⟨Tryz.f115.name, by decide, Tryz.func115.trans (congrArg some (by kernel_rfl))⟩
  t0 := Tryz.underlying0
  a0 := Tryz.isAgg0
  z0 := Tryz.sizeOf0
  v0 := Tryz.zeroValue0
  t3 := Tryz.underlying3
  a3 := Tryz.isAgg3
  z3 := Tryz.sizeOf3
  v3 := Tryz.zeroValue3
  t4 := Tryz.underlying4
  a4 := Tryz.isAgg4
  z4 := Tryz.sizeOf4
  v4 := Tryz.zeroValue4
  t5 := Tryz.underlying5
  a5 := Tryz.isAgg5
  z5 := Tryz.sizeOf5
  v5 := Tryz.zeroValue5
  t9 := Tryz.underlying9
  a9 := Tryz.isAgg9
  z9 := Tryz.sizeOf9
  v9 := Tryz.zeroValue9
  t22 := Tryz.underlying24
  a22 := Tryz.isAgg24
  z22 := Tryz.sizeOf24
  v22 := Tryz.zeroValue24
  a24 := Tryz.isAgg38
  z24 := Tryz.sizeOf38
  t25 := Tryz.underlying78
  a25 := Tryz.isAgg78
  z25 := Tryz.sizeOf78
  v25 := Tryz.zeroValue78
  t39 := Tryz.underlying86
  a39 := Tryz.isAgg86
  z39 := Tryz.sizeOf86
  v39 := Tryz.zeroValue86
  t45 := Tryz.underlying113
  a45 := Tryz.isAgg113
  z45 := Tryz.sizeOf113
  v45 := Tryz.zeroValue113
  t46 := Tryz.underlying114
  a46 := Tryz.isAgg114
  z46 := Tryz.sizeOf114
  v46 := Tryz.zeroValue114
  t50 := Tryz.underlying118
  a50 := Tryz.isAgg118
  z50 := Tryz.sizeOf118
  v50 := Tryz.zeroValue118
  t53 := Tryz.underlying121
  a53 := Tryz.isAgg121
  z53 := Tryz.sizeOf121
  v53 := Tryz.zeroValue121
  t55 := Tryz.underlying42
  a55 := Tryz.isAgg42
  z55 := Tryz.sizeOf42
  v55 := Tryz.zeroValue42
  t66 := Tryz.underlying131
  a66 := Tryz.isAgg131
  z66 := Tryz.sizeOf131
  v66 := Tryz.zeroValue131
  t70 := Tryz.underlying135
  a70 := Tryz.isAgg135
  z70 := Tryz.sizeOf135
  v70 := Tryz.zeroValue135
  t76 := Tryz.underlying143
  a76 := Tryz.isAgg143
  z76 := Tryz.sizeOf143
  v76 := Tryz.zeroValue143
  t77 := Tryz.underlying144
  a77 := Tryz.isAgg144
  z77 := Tryz.sizeOf144
  v77 := Tryz.zeroValue144 }
open Go.RowKit Go.Lib Go.Sort in
/-- **slices.SortFunc AT ONE CELL, UNDER A 'cmp' THAT PARTS WHATEVER TWO THAT ARE NOT ONE: THE ROW HOLDS core's 'mergeSort'.** (LAID AT THE INSTANCE 'slices.SortFunc[[][]int64,[]int64]': no walk: one application.) -/
theorem Tryz.slices_SortFunc_total {α : Type} [Inhabited α] (enc : α → Value) (h1 : OneCell enc) (cf : α → α → Int) (hO : SWO (ltOf cf)) (g : Nat) (cb : Array Value) (blk off cap : Nat) (d : Array α) (w : World) (eg : ∀ args w, (callFunc g args).run Tryz.prog w = .ok (.enter g args) w) (hcmp : CmpLays1 Tryz.prog g cb enc cf blk off d.size w) (hH : Holds enc w blk off d) (hblk : blk < w.heap.size) (hsz : d.size < 4611686018427387904) (hT : ∀ x y, (ltOf cf) x y = false → (ltOf cf) y x = false → x = y) :
    Calls Tryz.prog 49 #[.slice (some ⟨blk, off, none⟩) d.size cap, .func (.func g) #[] cb] w fun e w' =>
      e = .returned (.tuple #[]) ∧ ∃ n os, w' = sortWorld enc w blk off n (d.toList.mergeSort fun x y => !(ltOf cf) y x).toArray os := Any.slices_SortFunc_total Tryz.laysSlF6_f49 enc h1 cf hO g cb blk off cap d w eg hcmp hH hblk hsz hT
end Go.Proofs

/- Groups of permutations, the program's: slices.SortFunc at a spine of lists. -/
namespace Go.Proofs.YtmdhljleaijkbaaGreatDoor
open Go.RowKit Go.Sort

theorem heap_sorted {α : Type} [Inhabited α] (enc : α → Value) (w : World) (g n : Nat) (dk : Array α) (os : Array Obj) (k : Nat) (hk : k < w.heap.size) : (sortWorld enc w g 0 n dk os).heap[k]? = if g = k then (w.heap[k]?).map (onCells (putCells enc 0 dk)) else w.heap[k]? := by
  unfold sortWorld grow putRow mapBlock
  simp only [Array.getElem?_append, Array.size_modify, heap_ahead, hk, if_true, Array.getElem?_modify]
theorem grown_sorted {α : Type} [Inhabited α] (enc : α → Value) (w : World) (g n : Nat) (dk : Array α) (os : Array Obj) : w.grownBy (sortWorld enc w g 0 n dk os) (some g) := by
  refine ⟨rfl, rfl, rfl, ?_, fun k hk hne => ?_⟩
  · unfold sortWorld; rw [size_grow]; simp [putRow, mapBlock]
  · rw [heap_sorted enc w g n dk os k hk, if_neg (fun e => hne (by rw [e]))]
theorem own_sorted {α : Type} [Inhabited α] {enc : α → Value} {w : World} {lo E g m c n : Nat} {xs : List Value} {dk : Array α} {os : Array Obj} (h : Own w lo E (some ⟨g, 0, none⟩) m c xs) (hd : dk.size = m) : Own (sortWorld enc w g 0 n dk os) lo E (some ⟨g, 0, none⟩) m c (dk.toList.map enc) := by
  refine ⟨⟨by simp [hd], ?_⟩, h.2⟩
  rcases h.1.2 with ⟨h2, _⟩ | ⟨g', cap, cur, hv, hb, hh, hc, hcm, hs, ht⟩
  · cases h2
  · right
    injection hv with h1 h2 h3
    injection h1 with h1
    injection h1 with h1
    subst h1 h3
    have hlt : g < w.heap.size := (Array.getElem?_eq_some_iff.1 hh).1
    refine ⟨g, c, putCells enc 0 dk cur, rfl, hb, ?_, hc, hcm, ?_, ?_⟩
    · rw [heap_sorted enc w g n dk os g hlt, if_pos rfl, hh]; rfl
    · simp [putCells, hs]
    · rw [Nat.mul_one] at hs ⊢
      apply List.ext_getElem?
      intro k
      by_cases hk : k < m
      · have hk2 : k < cur.size := by omega
        rw [List.getElem?_take_of_lt hk, Array.getElem?_toList, List.getElem?_map]
        simp only [putCells, Array.getElem?_mapIdx, Array.getElem?_eq_getElem hk2, Option.map_some]
        rw [if_pos ⟨Nat.zero_le _, by omega⟩, Array.getElem?_toList, Array.getElem?_eq_getElem (by omega : k < dk.size), Nat.sub_zero, getElem!_pos dk k (by omega)]
        rfl
      · rw [List.getElem?_eq_none (by simp; omega), List.getElem?_eq_none (by simp; omega)]
theorem cmpL_lt (a b : List Int) : decide (cmpL a b < 0) = ltL a b := by
  unfold cmpL
  cases h : ltL a b with
  | true => simp
  | false =>
    cases h2 : ltL b a with
    | true => simp
    | false => simp
set_option maxHeartbeats 1600000 in
theorem sort_any (w : World) (lo : Nat) (ao : Option Addr) (n c N : Nat) (us : List Value) (ds : List (List Int)) (h : SpF w lo ao n c us ds) (hn : 0 < n) (hN : ∀ d ∈ ds, d.length = N) (hnd : ds.Nodup) :
    Calls Tryz.prog 49 #[.slice ao n c, .func (.func 50) #[] #[]] w fun e w' => e = .returned (.tuple #[]) ∧ ∃ us' ds', SpF w' lo ao n c us' ds' ∧ AscL ds' ∧ (∀ z, z ∈ ds' ↔ z ∈ ds) ∧ w.grownBy w' (bk ao) := by
  obtain ⟨m, rfl⟩ : ∃ m, n = m + 1 := ⟨n - 1, by omega⟩
  have hl := h.own.len
  have hd := h.len
  obtain ⟨g, rfl, hgb, hgl, hcap, hcell, hfr⟩ := h.own.form hn
  have hsm := h.own.2
  -- the elements are the places
  have hinh : Inhabited (_root_.Fin (m + 1)) := ⟨0⟩
  obtain ⟨enc, henc⟩ : ∃ enc : _root_.Fin (m + 1) → Value, enc = fun i => us.getD i.1 undef := ⟨_, rfl⟩
  have hug : ∀ i, i < m + 1 → us[i]? = some (us.getD i undef) := fun i hi => by rw [List.getD_eq_getElem?_getD, List.getElem?_eq_getElem (by omega)]; rfl
  obtain ⟨cf, hcf⟩ : ∃ cf : _root_.Fin (m + 1) → _root_.Fin (m + 1) → Int, cf = fun i j => cmpL (lget ds i.1) (lget ds j.1) := ⟨_, rfl⟩
  have hrow : ∀ i : _root_.Fin (m + 1), ∃ a k, enc i = .slice a N k ∧ Own w lo 2 a N k ((lget ds i.1).map (Value.int .i64)) := fun i => by
    obtain ⟨g', a, q, k, e, hc, hu, ho⟩ := h.at_ i.2
    have hq : q = N := by
      have h1 := ho.len
      rw [List.length_map, hN _ (lget_mem (by omega))] at h1
      exact h1.symm
    subst hq
    refine ⟨a, k, ?_, ho⟩
    rw [henc]
    rw [hug _ i.2] at hu
    exact Option.some.inj hu
  have hlt : ∀ i j, Go.Proofs.ltOf cf i j = ltL (lget ds i.1) (lget ds j.1) := fun i j => by
    unfold Go.Proofs.ltOf; rw [hcf]; exact cmpL_lt _ _
  have hinj : ∀ i j : _root_.Fin (m + 1), lget ds i.1 = lget ds j.1 → i = j := fun i j e => by
    have hi := i.2; have hj := j.2
    rw [lget_lt (by omega), lget_lt (by omega)] at e
    have hp := List.pairwise_iff_getElem.1 hnd
    rcases Nat.lt_trichotomy i.1 j.1 with t | t | t
    · exact absurd e (hp _ _ _ _ t)
    · exact _root_.Fin.ext t
    · exact absurd e.symm (hp _ _ _ _ t)
  have hO : SWO (Go.Proofs.ltOf cf) := ⟨fun x => by rw [hlt]; exact ltL_irr _, fun x y z h1 h2 => by rw [hlt] at *; exact ltL_trans h1 h2, fun x y z h1 h2 => by
    rw [hlt] at *
    cases h3 : ltL (lget ds x.1) (lget ds z.1) with
    | false => rfl
    | true =>
      rcases ltL_tri (lget ds x.1) (lget ds y.1) with t | t | t
      · rw [h1] at t; cases t
      · rw [t, h2] at h3; cases h3
      · have := ltL_trans t h3; rw [h2] at this; cases this⟩
  have hT : ∀ x y, Go.Proofs.ltOf cf x y = false → Go.Proofs.ltOf cf y x = false → x = y := fun x y h1 h2 => by
    rw [hlt] at *
    rcases ltL_tri (lget ds x.1) (lget ds y.1) with t | t | t
    · rw [h1] at t; cases t
    · exact hinj x y t
    · rw [h2] at t; cases t
  obtain ⟨d, hdd⟩ : ∃ d : Array (_root_.Fin (m + 1)), d = Array.ofFn (n := m + 1) id := ⟨_, rfl⟩
  have hds : d.size = m + 1 := by rw [hdd]; simp
  have hdg : ∀ j (hj : j < m + 1), d[j]! = ⟨j, hj⟩ := fun j hj => by rw [getElem!_pos d j (by omega)]; simp [hdd]
  have hH : Holds enc w g 0 d := fun j hj => by
    rw [hds] at hj
    refine ⟨?_, hfr _⟩
    rw [Nat.zero_add, hcell j hj, hug j hj, hdg j hj, henc]
  have hcmp : CmpLays1 Tryz.prog 50 #[] enc cf g 0 d.size w := CmpReads.lays fun m' os dk hs x y => by
    obtain ⟨a1, k1, e1, o1⟩ := hrow x
    obtain ⟨a2, k2, e2, o2⟩ := hrow y
    have hg := grown_sorted enc w g m' dk os
    have keep : ∀ {a k} {z : List Int}, Own w lo 2 a N k (z.map (Value.int .i64)) → Own (sortWorld enc w g 0 m' dk os) lo 2 a N k (z.map (Value.int .i64)) := fun ho => ho.same fun g' eg => hg.block g' (ho.lt g' eg).2 (fun q => own_neT ho h.own (by decide) eg q.symm)
    rw [e1, e2, hcf]
    exact compare_any a1 a2 N k1 k2 _ _ _ (keep o1).ints (keep o2).ints
  have eg : ∀ args w, (callFunc 50 args).run Tryz.prog w = .ok (.enter 50 args) w := enters_of Tryz.func50 (by kernel_rfl) rfl
  have hcon := Tryz.slices_SortFunc_total enc (fun i => by obtain ⟨a, k, e, _⟩ := hrow i; rw [e]; rfl) cf hO 50 #[] g 0 c d w eg hcmp hH hgl (by rw [hds]; omega) hT
  rw [hds] at hcon
  refine hcon.mono ?_
  rintro e w' ⟨rfl, n', os, rfl⟩
  obtain ⟨L, hL⟩ : ∃ L, (d.toList.mergeSort fun x y => !(Go.Proofs.ltOf cf) y x) = L := ⟨_, rfl⟩
  have hperm : L.Perm d.toList := by rw [← hL]; exact List.mergeSort_perm _ _
  have hpw : L.Pairwise (fun x y => (!(Go.Proofs.ltOf cf) y x) = true) := by
    rw [← hL]
    refine List.pairwise_mergeSort ?_ ?_ _
    · intro a b c h1 h2
      simp only [Bool.not_eq_true'] at *
      exact hO.ntrans _ _ _ h2 h1
    · intro a b
      cases h1 : Go.Proofs.ltOf cf b a with
      | false => simp
      | true =>
        cases h2 : Go.Proofs.ltOf cf a b with
        | false => simp
        | true => have := hO.trans _ _ _ h1 h2; rw [hO.irrefl] at this; cases this
  rw [hL]
  have hLn : L.length = m + 1 := by rw [hperm.length_eq]; simp [hds]
  have hnodup : L.Nodup := by
    refine hperm.nodup_iff.2 ?_
    show List.Pairwise _ _
    rw [List.pairwise_iff_getElem]
    intro i j hi hj hij e
    have hi' : i < d.size := by simpa using hi
    have hj' : j < d.size := by simpa using hj
    rw [Array.getElem_toList, Array.getElem_toList] at e
    have h1 := hdg i (by omega)
    have h2 := hdg j (by omega)
    rw [getElem!_pos d i hi'] at h1
    rw [getElem!_pos d j hj'] at h2
    rw [h1, h2] at e
    injection e with e
    omega
  have hall : ∀ i : _root_.Fin (m + 1), i ∈ L := fun i => hperm.mem_iff.2 (by
    have h1 := hdg i.1 i.2
    rw [getElem!_pos d i.1 (by have := i.2; omega)] at h1
    rw [show i = d[i.1]'(by have := i.2; omega) from h1.symm]
    simp)
  have hg := grown_sorted enc w g n' L.toArray os
  have keep : ∀ {a k} {z : List Int}, Own w lo 2 a N k (z.map (Value.int .i64)) → Own (sortWorld enc w g 0 n' L.toArray os) lo 2 a N k (z.map (Value.int .i64)) := fun ho => ho.same fun g' eg => hg.block g' (ho.lt g' eg).2 (fun q => own_neT ho h.own (by decide) eg q.symm)
  refine ⟨rfl, L.map enc, L.map (fun i => lget ds i.1), ⟨?_, by simp [hLn], fun j u x hu hx => ?_⟩, ?_, fun z => ?_, hg⟩
  · have := own_sorted (enc := enc) (n := n') (os := os) (dk := L.toArray) h.own (by simp [hLn])
    simpa using this
  · rw [List.getElem?_map] at hu hx
    cases hj : L[j]? with
    | none => rw [hj] at hu; cases hu
    | some i =>
      rw [hj] at hu hx
      obtain ⟨a, k, e, o⟩ := hrow i
      have hu := Option.some.inj hu
      have hx := Option.some.inj hx
      subst hu hx
      exact ⟨a, N, k, e, keep o⟩
  · show List.Pairwise _ _
    rw [List.pairwise_map]
    have hne : L.Pairwise (fun x y => x ≠ y) := hnodup
    refine (hpw.and hne).imp fun {x y} hxy => ?_
    obtain ⟨h1, h2⟩ := hxy
    simp only [Bool.not_eq_true'] at h1
    rw [hlt] at h1
    rcases ltL_tri (lget ds x.1) (lget ds y.1) with t | t | t
    · exact t
    · exact absurd (hinj x y t) h2
    · rw [h1] at t; cases t
  · constructor
    · intro hz
      obtain ⟨i, hi, rfl⟩ := List.mem_map.1 hz
      have := i.2
      exact lget_mem (by omega)
    · intro hz
      obtain ⟨j, hj, rfl⟩ := List.getElem_of_mem hz
      refine List.mem_map.2 ⟨⟨j, by omega⟩, hall _, ?_⟩
      exact lget_lt hj
end Go.Proofs.YtmdhljleaijkbaaGreatDoor

/- The key of a list of numbers: alike for equal lists alone. No program in sight. -/
namespace Go.Proofs.YtmdhljleaijkbaaGreatDoor

def keyB : List Int → List UInt8
  | [] => []
  | x :: r => Lib.itoa x ++ 32 :: keyB r
def dgV (l : List UInt8) : Nat := l.foldl (fun a b => a * 10 + (b.toNat - 48)) 0
theorem dig_nat {d : Nat} (h : d < 10) : (UInt8.ofNat (48 + d)).toNat = 48 + d := by
  rw [UInt8.toNat_ofNat']; omega
theorem dec_val (u : Nat) : dgV (Lib.decDigits u) = u ∧ ∀ b ∈ Lib.decDigits u, 48 ≤ b.toNat := by
  induction u using Nat.strongRecOn with
  | _ u ih =>
    rw [Lib.decDigits]
    split
    · rename_i h
      refine ⟨?_, fun b hb => ?_⟩
      · unfold dgV; simp only [List.foldl_cons, List.foldl_nil]; rw [dig_nat h]; omega
      · rw [List.mem_singleton] at hb; subst hb; rw [dig_nat h]; omega
    · rename_i h
      obtain ⟨h1, h2⟩ := ih (u / 10) (by omega)
      have hd : u % 10 < 10 := Nat.mod_lt _ (by omega)
      refine ⟨?_, fun b hb => ?_⟩
      · unfold dgV at h1 ⊢
        rw [List.foldl_append, h1]
        simp only [List.foldl_cons, List.foldl_nil]
        rw [dig_nat hd]; omega
      · rcases List.mem_append.1 hb with hb | hb
        · exact h2 b hb
        · rw [List.mem_singleton] at hb; subst hb; rw [dig_nat hd]; omega
theorem split_sep : ∀ {a b c d : List UInt8}, (∀ x ∈ a, 48 ≤ x.toNat) → (∀ x ∈ b, 48 ≤ x.toNat) → a ++ 32 :: c = b ++ 32 :: d → a = b ∧ c = d
  | [], [], c, d, _, _, h => by simp at h; exact ⟨rfl, h⟩
  | [], y :: b, c, d, _, hb, h => by
    simp at h
    have := hb y (by simp)
    rw [← h.1] at this; simp at this
  | x :: a, [], c, d, ha, _, h => by
    simp at h
    have := ha x (by simp)
    rw [h.1] at this; simp at this
  | x :: a, y :: b, c, d, ha, hb, h => by
    simp at h
    obtain ⟨h1, h2⟩ := split_sep (fun z hz => ha z (by simp [hz])) (fun z hz => hb z (by simp [hz])) h.2
    exact ⟨by rw [h.1, h1], h2⟩
theorem itoa_nat (u : Nat) : Lib.itoa (u : Int) = Lib.decDigits u := by unfold Lib.itoa; rw [if_neg (by omega)]; simp
/-- equal keys, equal lists (of naturals) -/
theorem key_inj : ∀ {p q : List Int}, (∀ x ∈ p, 0 ≤ x) → (∀ x ∈ q, 0 ≤ x) → keyB p = keyB q → p = q
  | [], [], _, _, _ => rfl
  | [], y :: q, _, _, h => by simp [keyB] at h
  | x :: p, [], _, _, h => by simp [keyB] at h
  | x :: p, y :: q, hp, hq, h => by
    obtain ⟨u, rfl⟩ := Int.eq_ofNat_of_zero_le (hp x (by simp))
    obtain ⟨v, rfl⟩ := Int.eq_ofNat_of_zero_le (hq y (by simp))
    unfold keyB at h
    rw [itoa_nat, itoa_nat] at h
    obtain ⟨h1, h2⟩ := split_sep (dec_val u).2 (dec_val v).2 h
    have h3 : u = v := by rw [← (dec_val u).1, h1, (dec_val v).1]
    rw [h3, key_inj (fun z hz => hp z (by simp [hz])) (fun z hz => hq z (by simp [hz])) h2]
end Go.Proofs.YtmdhljleaijkbaaGreatDoor

/- The key of a list of numbers, the program's keyOf. -/
namespace Go.Proofs.YtmdhljleaijkbaaGreatDoor
open Go.RowKit

theorem etY : ET Tryz.prog 22 5 (.int .u8 0) 1 := ⟨Tryz.underlying22, by kernel_rfl, rfl, by omega⟩
/-- the table of powers lies as the program lays it -/
def PT (w : World) : Prop := Lib.TabIs Tryz.prog w "internal/strconv.uint64pow10" .u64 Lib.pow10Tab
theorem var_keep {P : Program} {w w' : World} {n : String} {cs : Array Value} (h : w.var? P n = some cs) (hb : Below w.heap.size w w') : w'.var? P n = some cs := by
  unfold World.var? at h ⊢
  cases hg : P.globalNamed n with
  | none => rw [hg] at h; exact h
  | some g =>
    rw [hg] at h
    simp only [Option.bind_some] at h ⊢
    have hlt : g < w.heap.size := by
      cases hx : w.heap[g]? with
      | none => rw [hx] at h; simp at h
      | some o => exact (Array.getElem?_eq_some_iff.1 hx).1
    rw [hb.block g hlt]; exact h
theorem PT.below {w w' : World} (h : PT w) (hb : Below w.heap.size w w') : PT w' := var_keep h hb
theorem keyB_snoc (p : List Int) (x : Int) : keyB (p ++ [x]) = keyB p ++ Lib.itoa x ++ [32] := by
  induction p with
  | nil => simp [keyB]
  | cons y r ih => simp [keyB, ih]
theorem fold_push (ns : List Int) : ∀ (r : ByteArray), (ns.foldl (fun r n => r.push (UInt8.ofNat n.toNat)) r).data = r.data ++ (ns.map fun n => UInt8.ofNat n.toNat).toArray := by
  induction ns with
  | nil => intro r; simp
  | cons n ns ih => intro r; rw [List.foldl_cons, ih]; simp [ByteArray.push]
theorem conv_key {w : World} {base : Nat} {ao : Option Addr} {n c : Nat} {bs : List UInt8} (h : Own w base 5 ao n c (Lib.byteCells bs)) (hn : 0 < n) :
    (convert 22 9 (.slice ao n c)).run Tryz.prog w = .ok (.string ⟨bs.toArray⟩) w := by
  have hl := h.len
  obtain ⟨g, rfl, _, _, _, hc, _⟩ := h.form hn
  have hl2 : bs.length = n := by rw [← hl]; simp [Lib.byteCells]
  refine (run_convert_bytes_string _ 22 9 5 _ n c Tryz.underlying22 Tryz.underlying5 Tryz.underlying9).trans ?_
  have e1 : Lib.byteCells bs = (bs.map fun b => (b.toNat : Int)).map (Value.int .u8) := by simp [Lib.byteCells]
  have e2 : n = (Lib.byteCells bs).length := by rw [hl]
  refine (run_bytesToString _ _ n c (bs.map fun b => (b.toNat : Int)) ?_).trans ?_
  · rw [← e1, e2]
    refine run_loadCells_list _ ⟨g, 0, none⟩ _ fun j v hv => ?_
    have hj : j < n := by rw [e2]; exact (List.getElem?_eq_some_iff.1 hv).1
    rw [Addr.add_lit, Nat.zero_add, hc j hj, hv]
  · have e3 := fold_push (bs.map fun b => (b.toNat : Int)) ByteArray.empty
    refine congrArg (fun s => Result.ok (Value.string s) w) ?_
    have : ∀ (a b : ByteArray), a.data = b.data → a = b := fun a b h => by cases a; cases b; cases h; rfl
    refine this _ _ ?_
    rw [e3, List.map_map]
    have e4 : bs.map ((fun n : Int => UInt8.ofNat n.toNat) ∘ fun b => (b.toNat : Int)) = bs := (List.map_congr_left (fun b _ => by simp)).trans (List.map_id _)
    rw [e4]; simp
theorem own_of_row {w : World} {B E n : Nat} {v : Value} {xs : List Value} (h : w.ownsRow B E 1 v n xs) (h0 : 0 < n) (hn : n ≤ 4398046511104) : ∃ ao c, v = .slice ao n c ∧ Own w B E ao n c xs := by
  obtain ⟨g, cap, rfl, _, _⟩ := h.form h0
  exact ⟨_, _, rfl, h, hn⟩
def inI (x : Int) : Prop := -9223372036854775808 ≤ x ∧ x ≤ 9223372036854775807
theorem itoa_pos (x : Int) : 0 < (Lib.itoa x).length := by
  unfold Lib.itoa
  split
  · simp
  · rw [Lib.decDigits]; split <;> simp
set_option maxRecDepth 100000 in
set_option maxHeartbeats 1600000 in
theorem keyOf_any (ao : Option Addr) (n c : Nat) (zs : List Int) (w : World) (h : Ints w ao n zs) (h0 : 0 < n) (hn : n ≤ 1000) (hi : ∀ k, k < n → inI (iget zs k)) (hT : PT w) :
    Calls Tryz.prog 47 #[.slice ao n c] w fun e w' => e = .returned (.string ⟨(keyB zs).toArray⟩) ∧ Below w.heap.size w w' := by
  have HL := Lib.hid h.1
  have HI := Lib.hid hi
  have HT := Lib.hid hT
  have hE : Own w w.heap.size 5 none 0 0 [] := Own.nil_ _ _ _
  clear hi hT
  go_enter Tryz.func47, Tryz.ntmps47
  go_wp2_with fail
  go_loopw [3, 8] (fun sv iv wr => ∃ (k m : Nat) (a : Option Addr) (cc : Nat), k ≤ n ∧ m ≤ 22 * k ∧ (0 < k → 0 < m) ∧ sv = .slice a m cc ∧ iv = .int .i64 k ∧ Own wr w.heap.size 5 a m cc (Lib.byteCells (keyB (zs.take k))) ∧ Below w.heap.size w wr) (fun _ iv _ => n - (intOf iv).toNat)
  case atStart => exact ⟨0, 0, none, 0, Nat.zero_le _, Nat.zero_le _, fun h => absurd h (by omega), rfl, rfl, hE, Below.refl _ _⟩
  case round =>
    clear hE
    obtain ⟨k, m, a, cc, hk, hm, hm0, rfl, rfl, ho, hb⟩ := hrel
    by_cases hlt : k < n
    · obtain ⟨b, off, rfl, hc⟩ := (h.below hb).at_ hlt
      have hin := HI.out k hlt
      have HK := Lib.hid (keyB_snoc (zs.take k) (iget zs k))
      have HTK := Lib.hid (take_iget (zs := zs) (k := k) (by rw [HL.out]; exact hlt))
      have hlen := Lib.itoa_length_le (iget zs k) hin.1 hin.2
      have hpos := itoa_pos (iget zs k)
      have hsz := hb.size
      have HO := Lib.hid ho
      have TB : Lib.TabBelow Tryz.prog w.heap.size wr "internal/strconv.uint64pow10" .u64 Lib.pow10Tab := fun w' h' => HT.out.below (hb.trans h')
      generalize keyB (zs.take k) = X at *
      generalize iget zs k = x at *
      clear ho h
      have hIN := Lib.hid hin
      clear hin
      go_wp2_with fail
      refine (Tryz.strconv_AppendInt_10 w.heap.size m x hIN.out.1 hIN.out.2 (.slice a m cc) (Lib.byteCells X) wr HO.out.1 hsz (by omega) TB).mono ?_
      rintro e w2 ⟨v2, rfl, o2, b2, -⟩
      obtain ⟨a2, c2, rfl, O2⟩ := own_of_row o2 (by omega) (by omega)
      have HO2 := Lib.hid O2
      have B2 := hb.trans b2
      have z2 := B2.size
      have hlo := fun g hg => (O2.lt g hg).1
      generalize Lib.itoa x = D at *
      clear o2 O2 hb b2 HO TB hc
      obtain ⟨L, hL⟩ : ∃ L, m + D.length = L := ⟨_, rfl⟩
      rw [hL] at HO2
      have hL1 : L ≤ m + 21 := by omega
      have hL2 : 0 < L := by omega
      rw [hL]
      clear hlen hpos
      have HLL := Lib.hid hL
      clear hL
      go_wp2_with (at_builtin; refine wpList_ap1 etY _ rfl _ _ rfl w.heap.size a2 L c2 _ rfl HO2.out (.int .u8 32) rfl rfl (by omega) z2 ?_; intro ao4 c4 w4 o4 g4 h4)
      have O4 := Lib.hid o4
      have B4 := B2.grown g4 z2 hlo
      clear o4 g4 h4 HO2 B2
      go_wp2
      go_roundw
      case rel => exact ⟨k + 1, L + 1, ao4, c4, by omega, by omega, fun _ => by omega, rfl, by go_num, by rw [HTK.out, HK.out]; have := O4.out; simpa [Lib.byteCells] using this, B4⟩
      case measure => simp [intOf]; omega
    · obtain rfl : k = n := by omega
      have ht : zs.take k = zs := List.take_of_length_le (by rw [HL.out]; exact Nat.le_refl _)
      rw [ht] at ho
      have hcv := conv_key ho (hm0 h0)
      go_wp2
      go_ret
      exact ⟨rfl, hb⟩
end Go.Proofs.YtmdhljleaijkbaaGreatDoor

/- Maps from texts: the block's keys and values in order. -/
namespace Go.Proofs.YtmdhljleaijkbaaGreatDoor
open Go.RowKit

def kS (k : List UInt8) : Value := .string ⟨k.toArray⟩
theorem kS_beq (k l : List UInt8) : ((⟨k.toArray⟩ : ByteArray) == ⟨l.toArray⟩) = decide (k = l) := by
  show (k.toArray == l.toArray) = _
  by_cases h : k = l
  · subst h; simp
  · rw [decide_eq_false h, beq_eq_false_iff_ne]
    intro e; injection e with e; exact h e
/-- where a key is -/
def fndS (k : List UInt8) : List (List UInt8) → Nat → Option Nat
  | [], _ => none
  | a :: r, i => if k = a then some i else fndS k r (i + 1)
theorem fndS_none {k : List UInt8} : ∀ {ks : List (List UInt8)} {i : Nat}, k ∉ ks → fndS k ks i = none
  | [], _, _ => rfl
  | a :: r, i, h => by
    unfold fndS
    rw [if_neg (fun e => h (by simp [e])), fndS_none (fun e => h (List.mem_cons_of_mem _ e))]
theorem fndS_some {k : List UInt8} : ∀ {ks : List (List UInt8)} {i : Nat}, k ∈ ks → ∃ m, fndS k ks i = some (i + m) ∧ ks[m]? = some k
  | [], _, h => by simp at h
  | a :: r, i, h => by
    unfold fndS
    by_cases e : k = a
    · exact ⟨0, by rw [if_pos e]; rfl, by rw [e]; rfl⟩
    · obtain ⟨m, h1, h2⟩ := fndS_some (ks := r) (i := i + 1) (by rcases List.mem_cons.1 h with t | t; exact absurd t e; exact t)
      exact ⟨m + 1, by rw [if_neg e, h1]; congr 1; omega, by simpa using h2⟩
theorem findNow_run (k : List UInt8) : ∀ (es : List MapEntry) (ks : List (List UInt8)) (us : List Value) (i : Nat), es.map (·.key) = ks.map kS → es.map (·.val) = us → Instr.findNow .string (kS k) es i = some ((fndS k ks i).map fun m => (m, us.getD (m - i) undef))
  | [], ks, us, i, h, hu => by
    cases ks with
    | nil => rfl
    | cons a r => simp at h
  | e :: es, ks, us, i, h, hu => by
    cases ks with
    | nil => simp at h
    | cons a r =>
      simp at h hu
      subst hu
      have ih := findNow_run k es r _ (i + 1) h.2 rfl
      unfold Instr.findNow
      rw [h.1]
      have e1 : Instr.sameNow .string (kS k) (kS a) = some (decide (k = a)) := by
        show some ((⟨k.toArray⟩ : ByteArray) == ⟨a.toArray⟩) = _
        rw [kS_beq]
      rw [e1]
      unfold fndS
      by_cases hk : k = a
      · rw [decide_eq_true hk, if_pos hk]; simp
      · rw [decide_eq_false hk, if_neg hk]
        simp only
        rw [ih]
        cases hf : fndS k r (i + 1) with
        | none => rfl
        | some m =>
          have hm : ∀ (ks : List (List UInt8)) (i m : Nat), fndS k ks i = some m → i ≤ m := fun ks => by
            induction ks with
            | nil => intro i m h; simp [fndS] at h
            | cons b r ih => intro i m h; unfold fndS at h; split at h; (injection h with h; omega); (have := ih _ _ h; omega)
          have := hm _ _ _ hf
          obtain ⟨d, rfl⟩ : ∃ d, m = i + 1 + d := ⟨m - (i + 1), by omega⟩
          simp only [Option.map_some]
          rw [show i + 1 + d - (i + 1) = d by omega, show i + 1 + d - i = d + 1 by omega]
          rfl
/-- the block holds a map of these keys to these values -/
def MapX (w : World) (b : Nat) (ks : List (List UInt8)) (us : List Value) : Prop :=
  ∃ es clock, w.heap[b]? = some (.map es clock) ∧ es.toList.map (·.key) = ks.map kS ∧ es.toList.map (·.val) = us
theorem MapX.lt {w : World} {b : Nat} {ks : List (List UInt8)} {us : List Value} (h : MapX w b ks us) : b < w.heap.size := by
  obtain ⟨es, k, hb, _⟩ := h
  exact (Array.getElem?_eq_some_iff.1 hb).1
theorem MapX.same {w w' : World} {b : Nat} {ks : List (List UInt8)} {us : List Value} (h : MapX w b ks us) (hs : w'.heap[b]? = w.heap[b]?) : MapX w' b ks us := by
  obtain ⟨es, k, hb, r⟩ := h
  exact ⟨es, k, hs.trans hb, r⟩
theorem MapX.below {w w' : World} {b : Nat} {ks : List (List UInt8)} {us : List Value} (h : MapX w b ks us) (hb : Below w.heap.size w w') : MapX w' b ks us := h.same (hb.block b h.lt)
theorem MapX.new (w : World) : MapX (w.alloc (.map #[] 0)) w.heap.size [] [] := ⟨#[], 0, heap_alloc_new w _, rfl, rfl⟩
theorem keyX_run {kt : TypeId} (hk : Tryz.prog.underlying kt = some .string) (k : List UInt8) (w : World) {es : List MapEntry} {ks : List (List UInt8)} {us : List Value} (h : es.map (·.key) = ks.map kS) (hu : es.map (·.val) = us) : (Instr.findKey kt (kS k) es).run Tryz.prog w = .ok ((fndS k ks 0).map fun m => (m, us.getD m undef)) w := by
  have := findNow_run k es ks us 0 h hu
  unfold Instr.findKey
  simp only [Sem.run_bind, run_underlying hk, Result.andThen_ok, this]
  simp [Sem.run_pure]
theorem checkX {kt : TypeId} (hk : Tryz.prog.underlying kt = some .string) (b : Bool) (k : List UInt8) (w : World) : (Instr.checkKey b 10000 kt (kS k)).run Tryz.prog w = .ok () w := by
  rw [show (10000 : Nat) = 9999 + 1 from rfl, Instr.checkKey]
  simp [Sem.run_bind, run_underlying hk, Result.andThen_ok, kS, Sem.run_pure]
section
variable {mt kt vt : TypeId} {zv : Value}
theorem lookX_run (hm : Tryz.prog.underlying mt = some (.map kt vt)) (hk : Tryz.prog.underlying kt = some .string) (hz : ∀ w, (zeroValue vt).run Tryz.prog w = .ok zv w) (k : List UInt8) {w : World} {b : Nat} {ks : List (List UInt8)} {us : List Value} (h : MapX w b ks us) :
    (Instr.lookup mt (.map (some b)) (kS k) false).run Tryz.prog w = .ok (match fndS k ks 0 with | some m => us.getD m undef | none => zv) w := by
  obtain ⟨es, clock, hb, hm2, hu⟩ := h
  have hr := keyX_run hk k w hm2 hu
  cases hf : fndS k ks 0 with
  | none =>
    rw [hf] at hr
    simp [Instr.lookup, run_underlying hm, MapKept.run_getObj_map hb, checkX hk, hr, hz, Result.andThen]
  | some m =>
    rw [hf] at hr
    simp [Instr.lookup, run_underlying hm, MapKept.run_getObj_map hb, checkX hk, hr, Result.andThen]
theorem putX_new (hm : Tryz.prog.underlying mt = some (.map kt vt)) (hk : Tryz.prog.underlying kt = some .string) (k : List UInt8) {w : World} {b : Nat} {ks : List (List UInt8)} {us : List Value} (h : MapX w b ks us) (hf : k ∉ ks) (v : Value) :
    ∃ o, (Instr.mapUpdate mt (.map (some b)) (kS k) v).run Tryz.prog w = .ok () (Go.ChangeMaps.setBlock w b o) ∧ MapX (Go.ChangeMaps.setBlock w b o) b (ks ++ [k]) (us ++ [v]) := by
  have hlt := h.lt
  obtain ⟨es, clock, hb, hm2, hu⟩ := h
  have hr := keyX_run hk k w hm2 hu
  rw [fndS_none hf] at hr
  refine ⟨.map (es.push { key := kS k, val := v, born := clock }) (clock + 1), ?_, ?_⟩
  · simp [Instr.mapUpdate, run_underlying hm, MapKept.run_getObj_map hb, checkX hk, hr, MapKept.run_setObj_map _ hb, Result.andThen, Go.ChangeMaps.setBlock]
  · exact ⟨es.push { key := kS k, val := v, born := clock }, clock + 1, by simp [Go.ChangeMaps.setBlock, hlt], by simp [hm2], by simp [hu]⟩
end
theorem only_blockX (w : World) (b : Nat) (o : Obj) : Only b (b + 1) w (Go.ChangeMaps.setBlock w b o) := by
  refine ⟨rfl, rfl, rfl, by simp [Go.ChangeMaps.setBlock], fun k hk hd => ?_⟩
  simp [Go.ChangeMaps.setBlock, Array.getElem?_setIfInBounds]
  intro h; omega
section
variable (w : World) {ops : Array Oper} {rest : List Oper} {o : Oper} {a : Act} {Q : Exit → Act → World → Prop} {mt kt vt : TypeId} {zv : Value}
theorem wpList_lookX (um : Tryz.prog.underlying mt = some (.map kt vt)) (uk : Tryz.prog.underlying kt = some .string) (hz : ∀ w, (zeroValue vt).run Tryz.prog w = .ok zv w) (hg : o.guard = none) (m x : Operand) (hop : o.op = Op.lookup mt m x false) (b : Nat) (ks : List (List UInt8)) (us : List Value) (k : List UInt8) (u : Value) (hM : MapX w b ks us) (hf : (match fndS k ks 0 with | some m => us.getD m undef | none => zv) = u) (hm : a.eval m = .map (some b)) (hx : a.eval x = .string ⟨k.toArray⟩)
    (hK : wpList Tryz.prog ops Q rest (a.put o.dst u) w) : wpList Tryz.prog ops Q (o :: rest) a w := by
  refine wpList_plain hg fun K' hK' => ?_
  have hrun := lookX_run um uk hz k hM
  rw [hf] at hrun
  unfold kS at hrun
  unfold Oper.wp
  simp [execOp, hop, hm, hx, hrun, Result.andThen]
  exact hK' _ _ hK
theorem wpList_putX (um : Tryz.prog.underlying mt = some (.map kt vt)) (uk : Tryz.prog.underlying kt = some .string) (hg : o.guard = none) (m x v : Operand) (hop : o.op = Op.mapUpdate mt m x v ∨ o.op = Op.insert mt m x v) (b : Nat) (ks : List (List UInt8)) (us : List Value) (k : List UInt8) (hM : MapX w b ks us) (hf : k ∉ ks) (hm : a.eval m = .map (some b)) (hx : a.eval x = .string ⟨k.toArray⟩)
    (hK : ∀ w', Only b (b + 1) w w' → MapX w' b (ks ++ [k]) (us ++ [a.eval v]) → wpList Tryz.prog ops Q rest (a.put o.dst undef) w') : wpList Tryz.prog ops Q (o :: rest) a w := by
  refine wpList_plain hg fun K' hK' => ?_
  obtain ⟨ob, hrun, hM2⟩ := putX_new um uk k hM hf (a.eval v)
  unfold kS at hrun
  unfold Oper.wp
  rcases hop with hop | hop
  all_goals
    simp [execOp, hop, hm, hx, hrun, Result.andThen]
    exact hK' _ _ (hK _ (only_blockX w b ob) hM2)
end
end Go.Proofs.YtmdhljleaijkbaaGreatDoor

/- Groups of permutations, the program's: groupElements. guards: -/
namespace Go.Proofs.YtmdhljleaijkbaaGreatDoor
open Go.RowKit

theorem Pts.nn {n : Nat} {p : List Int} (h : Pts n p) : ∀ x ∈ p, 0 ≤ x := fun x hx => by
  obtain ⟨j, hj, rfl⟩ := List.getElem_of_mem hx
  obtain ⟨y, h1, _⟩ := h.2 j (by rw [← h.1]; exact hj)
  rw [iget_lt hj] at h1; omega
theorem Pts.inI {n : Nat} {p : List Int} (h : Pts n p) (hn : n ≤ 1000) : ∀ k, k < n → inI (iget p k) := fun k hk => by
  obtain ⟨y, h1, h2⟩ := h.2 k hk
  rw [h1]; unfold Go.Proofs.YtmdhljleaijkbaaGreatDoor.inI; omega
theorem seen_look {es : List (List Int)} {q : List Int} {n nf : Nat} (hl : es.length = nf) (he : ∀ z ∈ es, Pts n z) (hq : Pts n q) :
    (match fndS (keyB q) (es.map keyB) 0 with | some m => (List.replicate nf (Value.bool true)).getD m undef | none => .bool false) = .bool (decide (q ∈ es)) := by
  by_cases h : q ∈ es
  · obtain ⟨m, h1, h2⟩ := fndS_some (k := keyB q) (i := 0) (List.mem_map.2 ⟨q, h, rfl⟩)
    have hm : m < nf := by have := (List.getElem?_eq_some_iff.1 h2).1; simpa [hl] using this
    rw [h1, decide_eq_true h]
    simp only [Nat.zero_add]
    rw [List.getD_eq_getElem?_getD, List.getElem?_replicate, if_pos hm]; rfl
  · have h1 : keyB q ∉ es.map keyB := fun e => by
      obtain ⟨z, hz, ez⟩ := List.mem_map.1 e
      have := key_inj ((he z hz).nn) hq.nn ez
      subst this; exact h hz
    rw [fndS_none h1, decide_eq_false h]
/-- the search, the program's -/
structure GJ (w wr : World) (n : Nat) (af : Option Addr) (nf cf : Nat) (uf : List Value) (es : List (List Int)) (mb : Nat) : Prop where
  fnd : SpF wr w.heap.size af nf cf uf es
  map : MapX wr mb (es.map keyB) (List.replicate nf (.bool true))
  low : w.heap.size ≤ mb
  pts : ∀ z, z ∈ es → Pts n z
  nod : es.Nodup
  bel : Below w.heap.size w wr
theorem SpF.only {w w' : World} {lo n c mb : Nat} {ao : Option Addr} {us : List Value} {ds : List (List Int)} (h : SpF w lo ao n c us ds) (hm : ∃ es k, w.heap[mb]? = some (.map es k)) (ho : Only mb (mb + 1) w w') : SpF w' lo ao n c us ds := by
  obtain ⟨es, k, hm⟩ := hm
  have keep : ∀ {lo E a m k} {xs : List Value}, Own w lo E a m k xs → Own w' lo E a m k xs := fun o => o.same fun g eg => by
    obtain ⟨cs, hc⟩ := o.typG eg
    have hne : g ≠ mb := fun e => by subst e; rw [hc] at hm; cases hm
    exact ho.block g (o.lt g eg).2 (by omega)
  exact ⟨keep h.own, h.len, fun j u d hu hd => by
    obtain ⟨a, m, k, e, o⟩ := h.row j u d hu hd
    exact ⟨a, m, k, e, keep o⟩⟩
theorem MapX.obj {w : World} {b : Nat} {ks : List (List UInt8)} {us : List Value} (h : MapX w b ks us) : ∃ es k, w.heap[b]? = some (.map es k) := by
  obtain ⟨es, k, hb, _⟩ := h; exact ⟨es, k, hb⟩
theorem MapX.grown {w w' : World} {lo E n c b : Nat} {ao : Option Addr} {xs : List Value} {ks : List (List UInt8)} {us : List Value} (h : MapX w b ks us) (o : Own w lo E ao n c xs) (hg : w.grownBy w' (bk ao)) : MapX w' b ks us :=
  h.same (hg.block b h.lt fun e => by
    obtain ⟨cs, hc⟩ := o.typG e.symm
    obtain ⟨es, k, hb⟩ := h.obj
    rw [hc] at hb; cases hb)
theorem Own.onlyM {w w' : World} {lo E a' m mb : Nat} {ao : Option Addr} {xs : List Value} (o : Own w lo E ao a' m xs) (hm : ∃ es k, w.heap[mb]? = some (.map es k)) (ho : Only mb (mb + 1) w w') : Own w' lo E ao a' m xs := by
  obtain ⟨es, k, hm⟩ := hm
  exact o.same fun g eg => by
    obtain ⟨cs, hc⟩ := o.typG eg
    have hne : g ≠ mb := fun e => by subst e; rw [hc] at hm; cases hm
    exact ho.block g (o.lt g eg).2 (by omega)
theorem GJ.below {w wr w' : World} {n nf cf mb : Nat} {af : Option Addr} {uf : List Value} {es : List (List Int)} (h : GJ w wr n af nf cf uf es mb) (b : Below wr.heap.size wr w') : GJ w w' n af nf cf uf es mb :=
  ⟨h.fnd.below b, h.map.below b, h.low, h.pts, h.nod, h.bel.trans (b.mono h.bel.size)⟩
theorem GJ.grow {w wr w2 w4 : World} {n nf cf mb pn pc c4 : Nat} {af pa a4 : Option Addr} {uf : List Value} {es : List (List Int)} {p : List Int} (h : GJ w wr n af nf cf uf es mb) (hp : Pts n p) (hn : p ∉ es) (ho2 : Only mb (mb + 1) wr w2) (hm2 : MapX w2 mb (es.map keyB ++ [keyB p]) (List.replicate nf (.bool true) ++ [.bool true]))
    (ho : Own w2 w.heap.size 2 pa pn pc (p.map (Value.int .i64))) (hown : Own w4 w.heap.size 38 a4 (nf + 1) c4 (uf ++ [.slice pa pn pc])) (hg4 : w2.grownBy w4 (bk af)) : GJ w w4 n a4 (nf + 1) c4 (uf ++ [.slice pa pn pc]) (es ++ [p]) mb := by
  have hf2 := h.fnd.only h.map.obj ho2
  refine ⟨hf2.push ho hg4 hown, ?_, h.low, fun z hz => ?_, ?_, ?_⟩
  · have := hm2.grown hf2.own hg4
    rw [List.map_append, List.replicate_succ']
    exact this
  · rcases List.mem_append.1 hz with t | t
    · exact h.pts z t
    · simp at t; subst t; exact hp
  · rw [List.nodup_append]
    refine ⟨h.nod, by simp, fun a ha b hb => ?_⟩
    simp at hb; subst hb
    intro e; subst e; exact hn ha
  · exact (h.bel.trans (ho2.below h.low h.bel.size)).grown hg4 (Nat.le_trans h.bel.size ho2.size) (fun g e => (h.fnd.own.lt g e).1)
/-- what the search answers -/
def GrpI (w : World) (R : Option (List (List Int))) (e : Ending) (w' : World) : Prop :=
  ∃ (a : Option Addr) (m c : Nat) (us : List Value) (ss : List (List Int)), e = .returned (.tuple #[.slice a m c, .bool R.isSome]) ∧ (R = none → a = none ∧ m = 0 ∧ c = 0) ∧ (∀ es, R = some es → AscL ss ∧ (∀ z, z ∈ ss ↔ z ∈ es) ∧ SpF w' w.heap.size a m c us ss) ∧ Below w.heap.size w w'
theorem zvB (w : World) : (zeroValue 4).run Tryz.prog w = .ok (.bool false) w := by simp [go_sem, run_underlying Tryz.underlying4]
set_option maxRecDepth 100000 in
set_option maxHeartbeats 6400000 in
theorem grpI_any (n gn gc : Nat) (ga : Option Addr) (gs : List (List Int)) (w : World) (hn0 : 1 ≤ n) (hn : n ≤ 400) (hg : Intss w ga gn gs) (hgp : ∀ z ∈ gs, Pts n z) (hg16 : gn ≤ 16) (hT : PT w) :
    Calls Tryz.prog 21 #[.int .i64 n, .slice ga gn gc] w (GrpI w (grpE gs n)) := by
  obtain ⟨R, hR⟩ : ∃ R, R = grpE gs n := ⟨_, rfl⟩
  rw [← hR]
  have HR := Lib.hid hR
  have HG := Lib.hid hg
  have HGP := Lib.hid hgp
  have HT := Lib.hid hT
  have hgl := hg.1
  clear hR hg hgp hT
  go_enter Tryz.func21, Tryz.ntmps21
  go_wp2_with fail
  refine (identity_any n w (by omega)).mono ?_
  rintro e w1 ⟨a1, c1, rfl, o1, b1⟩
  have z1 := b1.size
  have O1 := Lib.hid (o1.alloc (.cells #[.slice a1 n c1] 38))
  have F1 := Lib.hid (own_lit (w := w1) (base := w.heap.size) (E := 38) (us := [.slice a1 n c1]) rfl z1 (by simp))
  have B1 := Lib.hid (b1.alloc z1 (.cells #[.slice a1 n c1] 38))
  clear o1 b1
  go_upto_region 2 with fail
  have hz2 : (w1.alloc (.cells #[.slice a1 n c1] 38)).heap.size = w1.heap.size + 1 := by simp
  generalize w1.alloc (.cells #[.slice a1 n c1] 38) = w2 at *
  have hc2 : w2.cell? ⟨w1.heap.size, 0, none⟩ = some (.slice a1 n c1) := by
    obtain ⟨g, eg, _, _, _, hcell, _⟩ := F1.out.form (by simp)
    injection eg with eg; injection eg with eg; subst eg
    exact hcell 0 (by simp)
  have hmk2 : ∀ W : World, (Instr.makeMap 76 none).run Tryz.prog W = .ok (.map (some W.heap.size)) (W.alloc (.map #[] 0)) := fun W => Go.RowKit.run_makeMap _ W
  have b3 := below_alloc1 w2 (.map #[] 0)
  have zz2 := B1.out.size
  have hc3 : (w2.alloc (.map #[] 0)).cell? ⟨w1.heap.size, 0, none⟩ = some (.slice a1 n c1) := (b3.cell (p := ⟨w1.heap.size, 0, none⟩) (by show w1.heap.size < w2.heap.size; omega)).trans hc2
  have M3 := Lib.hid (show MapX (w2.alloc (.map #[] 0)) (w1.heap.size + 1) [] [] by have := MapX.new w2; rw [hz2] at this; exact this)
  have B3 := Lib.hid (B1.out.trans (b3.mono zz2))
  have O3 := Lib.hid (O1.out.below b3)
  have F3 := Lib.hid (F1.out.below b3)
  have hz3 : (w2.alloc (.map #[] 0)).heap.size = w2.heap.size + 1 := by simp
  clear b3 hc2 O1 F1
  go_wp2_with fail
  generalize w2.alloc (.map #[] 0) = w3 at *
  refine (keyOf_any a1 n c1 (unitL n) w3 O3.out.ints (by omega) (by omega) ((unitL_pts n).inI (by omega)) (HT.out.below B3.out)).mono ?_
  rintro e w4 ⟨rfl, b4⟩
  have M4 := Lib.hid (M3.out.below b4)
  have zz3 := B3.out.size
  have B4 := Lib.hid (B3.out.trans (b4.mono zz3))
  have O4 := Lib.hid (O3.out.below b4)
  have F4 := Lib.hid (F3.out.below b4)
  have hml : w1.heap.size + 1 < w4.heap.size := M4.out.lt
  clear b4 M3 B3 O3 F3 hc3
  go_wp2_with (refine wpList_putX w4 Tryz.underlying76 Tryz.underlying9 rfl _ _ _ (.inr rfl) (w1.heap.size + 1) [] [] (keyB (unitL n)) M4.out (by simp) rfl rfl ?_; intro w5 o5 m5)
  have G5 : GJ w w5 n (some ⟨w1.heap.size, 0, none⟩) 1 1 [.slice a1 n c1] [unitL n] (w1.heap.size + 1) := by
    refine ⟨?_, m5, by omega, fun z hz => ?_, by simp, B4.out.trans (o5.below (by omega) B4.out.size)⟩
    · refine SpF.only ?_ M4.out.obj o5
      refine ⟨F4.out, rfl, fun j u d hu hd => ?_⟩
      match j, hu, hd with
      | 0, hu, hd => simp at hu hd; subst hu hd; exact ⟨_, _, _, rfl, O4.out⟩
    · simp at hz; subst hz; exact unitL_pts n
  have GH := Lib.hid G5
  obtain ⟨mb, hmb⟩ : ∃ mb, w1.heap.size + 1 = mb := ⟨_, rfl⟩
  rw [hmb] at GH ⊢
  clear G5 o5 m5 M4 B4 O4 F4 hz3 hml hmk2 B1
  go_wp2_with fail
  go_loopw [6, 8] (fun fv iv wr => ∃ (i f : Nat) (af : Option Addr) (nf cf : Nat) (uf : List Value) (es : List (List Int)), fv = .slice af nf cf ∧ iv = .int .i64 i ∧ i ≤ nf ∧ 0 < nf ∧ nf ≤ 1000 ∧ f + i = 1002 ∧ R = runG gs f i es ∧ GJ w wr n af nf cf uf es mb) (fun _ iv _ => 1002 - (intOf iv).toNat)
  case atStart => exact ⟨0, 1002, _, 1, 1, _, _, rfl, rfl, by omega, by omega, by omega, rfl, HR.out, GH.out⟩
  case round =>
    clear GH
    obtain ⟨i, f, af, nf, cf, uf, es, rfl, rfl, hi, hpos, hnf, hfi, hR, gr⟩ := hrel
    obtain ⟨f', rfl⟩ : ∃ f', f = f' + 1 := ⟨f - 1, by omega⟩
    have hel := gr.fnd.len
    by_cases hlt : i < nf
    · have GR := Lib.hid gr
      have H0 := Lib.hid hR
      clear gr hR
      have hie : i < es.length := by omega
      go_wp2_with fail
      go_loopw [6, 30] (fun fv kv wr => ∃ (k : Nat) (af : Option Addr) (nf cf : Nat) (uf : List Value) (es' : List (List Int)), fv = .slice af nf cf ∧ kv = .int .i64 k ∧ k ≤ gn ∧ 0 < nf ∧ es' = rowG gs es i k ∧ nf ≤ 1000 + k ∧ GJ w wr n af nf cf uf es' mb) (fun _ kv _ => gn - (intOf kv).toNat)
      case atStart => exact ⟨0, _, _, _, _, _, rfl, rfl, Nat.zero_le _, hpos, rfl, by omega, GR.out⟩
      case round =>
        clear GR hnf hlt hel hi hpos
        obtain ⟨k, af, nf, cf, uf, es', rfl, rfl, hk, hpos, he', hnf, gr⟩ := hrel
        have hel := gr.fnd.len
        have hrl := rowG_len gs es i k
        rw [← he'] at hrl
        have hbel := gr.bel
        by_cases hlt : k < gn
        · have hiN : i < nf := by omega
          obtain ⟨g1, a, b, kk, rfl, hc1, hu1, ho1⟩ := gr.fnd.at_ hiN
          obtain ⟨b2, off2, a2, n2, c2, rfl, hc2, hi2⟩ := (HG.out.below hbel).at_ hlt
          have hp1 := gr.pts (lget es' i) (lget_mem (by omega))
          have hp2 := HGP.out (lget gs k) (lget_mem (by omega))
          have hb1 : n = b := by have := ho1.len; rw [List.length_map, hp1.1] at this; exact this
          have hn2 : n = n2 := by rw [← hi2.1, hp2.1]
          subst hb1 hn2
          have hpt := thenL_pts hp1 hp2
          have hst : rowG gs es i (k + 1) = stepGr gs es' i k := by rw [he']; rfl
          unfold stepGr at hst
          obtain ⟨p, hpe⟩ : ∃ p, p = thenL (lget es' i) (lget gs k) := ⟨_, rfl⟩
          rw [← hpe] at hst hpt
          have HPE := Lib.hid hpe
          have HI1 := Lib.hid ho1
          have HI2 := Lib.hid hi2
          have GR := Lib.hid gr
          have HST := Lib.hid hst
          have HP1 := Lib.hid hp1.2
          have HPT := Lib.hid hpt
          have HLK := Lib.hid (seen_look gr.fnd.len gr.pts hpt)
          have hi0 : (i : Int) < (nf : Int) := by omega
          have hsz := hbel.size
          clear hpe hst ho1 hi2 gr hp1 hp2 hu1 hpt
          go_wp2_with fail
          refine (thenG_any _ _ n n _ _ (lget es' i) (lget gs k) _ HI1.out.ints HI2.out HP1.out (by omega)).mono ?_
          rintro e w5 ⟨a5, c5, rfl, o5, b5⟩
          rw [← HPE.out] at o5
          have GR5 := Lib.hid (GR.out.below b5)
          have O5 := Lib.hid (o5.mono (show w.heap.size ≤ wr.heap.size from hsz))
          clear o5 b5 GR HI1 HI2 hc1 hc2 hbel
          go_wp2_with fail
          refine (keyOf_any a5 n c5 p w5 O5.out.ints (by omega) (by omega) (HPT.out.inI (by omega)) (HT.out.below GR5.out.bel)).mono ?_
          rintro e w6 ⟨rfl, b6⟩
          have GR6 := Lib.hid (GR5.out.below b6)
          have O6 := Lib.hid (O5.out.below b6)
          have z6 := GR6.out.bel.size
          clear GR5 O5 b6
          by_cases hin : p ∈ es'
          · have hst2 : rowG gs es i (k + 1) = es' := by rw [HST.out, if_pos hin]
            have HS2 := Lib.hid hst2
            have HL2 := Lib.hid (HLK.out.trans (by rw [decide_eq_true hin] : _ = Value.bool true))
            clear hst2 HLK
            go_wp2_with (refine wpList_lookX w6 Tryz.underlying76 Tryz.underlying9 zvB rfl _ _ rfl mb _ _ (keyB p) (.bool true) GR6.out.map HL2.out rfl rfl ?_)
            go_roundw
            case rel => exact ⟨k + 1, _, _, _, _, _, rfl, by go_num, by omega, hpos, HS2.out.symm, by omega, GR6.out⟩
            case measure => simp [intOf]; omega
          · have hst2 : rowG gs es i (k + 1) = es' ++ [p] := by rw [HST.out, if_neg hin]
            have HS2 := Lib.hid hst2
            have HL2 := Lib.hid (HLK.out.trans (by rw [decide_eq_false hin] : _ = Value.bool false))
            have HNI := Lib.hid hin
            have hni : keyB p ∉ es'.map keyB := fun e => by
              obtain ⟨z, hz, ez⟩ := List.mem_map.1 e
              have := key_inj (GR6.out.pts z hz).nn HPT.out.nn ez
              subst this; exact hin hz
            have HNK := Lib.hid hni
            clear hst2 HLK hin hni
            go_upto_region 12 with (refine wpList_lookX w6 Tryz.underlying76 Tryz.underlying9 zvB rfl _ _ rfl mb _ _ (keyB p) (.bool false) GR6.out.map HL2.out rfl rfl ?_)
            go_upto_region 13 with (refine wpList_putX w6 Tryz.underlying76 Tryz.underlying9 rfl _ _ _ (.inl rfl) mb _ _ (keyB p) GR6.out.map HNK.out rfl rfl ?_; intro w7 o7 m7)
            have hf7 := Lib.hid (GR6.out.fnd.only GR6.out.map.obj o7)
            have O7 := Lib.hid (O6.out.onlyM GR6.out.map.obj o7)
            have hw7 : w.heap.size ≤ w7.heap.size := Nat.le_trans z6 o7.size
            have ON := Lib.hid o7
            have MN := Lib.hid m7
            clear o7 m7 O6
            go_upto_region 14 with (at_builtin; refine wpList_ap1 etSS _ rfl _ _ rfl w.heap.size _ nf cf uf rfl hf7.out.own (.slice a5 n c5) rfl rfl (by omega) hw7 ?_; intro ao8 c8 w8 o8 g8 hat8)
            have GF := Lib.hid (GR6.out.grow HPT.out HNI.out ON.out MN.out O7.out o8 g8)
            clear o8 g8 hat8 hf7 ON MN O7 GR6 HNK HNI
            go_wp2_with fail
            go_roundw
            case rel => exact ⟨k + 1, _, _, _, _, _, rfl, by go_num, by omega, by omega, HS2.out.symm, by omega, GF.out⟩
            case measure => simp [intOf]; omega
        · obtain rfl : k = gn := by omega
          have hrw : rowG gs es i gs.length = es' := by rw [hgl, ← he']
          by_cases hbig : nf ≤ 1000
          · have hR2 : R = runG gs f' (i + 1) es' := by rw [H0.out, runG_go hie (by rw [hrw]; omega), hrw]
            have HR2 := Lib.hid hR2
            have GR2 := Lib.hid gr
            have hd : decide ((1000 : Int) < (nf : Int)) = false := by simp; omega
            clear gr hR2
            go_wp2_with fail
            go_roundw
            case rel => exact ⟨i + 1, f', _, _, _, _, _, rfl, by go_num, by omega, hpos, hbig, by omega, HR2.out, GR2.out⟩
            case measure => simp [intOf]; omega
          · have hRn : R = none := by rw [H0.out]; exact runG_bad hie (by rw [hrw]; omega)
            have HRN := Lib.hid hRn
            have HB := Lib.hid gr.bel
            have hd : decide ((1000 : Int) < (nf : Int)) = true := by simp; omega
            clear hRn gr
            go_wp2_with fail
            exact bodyPost_ret (v := .tuple #[.slice none 0 0, .bool false]) (by simp [results, Tryz.f21, go_sem]) rfl (by unfold GrpI; exact ⟨none, 0, 0, [], [], by rw [HRN.out]; rfl, fun _ => ⟨rfl, rfl, rfl⟩, fun es h => (by rw [HRN.out] at h; cases h), HB.out⟩)
    · have he := runG_end (gs := gs) (f := f') (i := i) (es := es) (by omega)
      have HRE := Lib.hid (show R = some es by rw [hR, he])
      have GR := Lib.hid gr
      have hsz := gr.bel.size
      clear gr hR he
      go_wp2_with fail
      refine (sort_any wr w.heap.size af nf cf n uf es GR.out.fnd hpos (fun d hd => (GR.out.pts d hd).1) GR.out.nod).mono ?_
      rintro e w9 ⟨rfl, us9, ds9, sp9, asc9, mem9, g9⟩
      have hb9 := Lib.hid (GR.out.bel.grown g9 hsz (fun g e => (GR.out.fnd.own.lt g e).1))
      have S9 := Lib.hid sp9
      clear sp9 g9 GR
      go_wp2_with fail
      exact bodyPost_ret (v := .tuple #[.slice af nf cf, .bool true]) (by simp [results, Tryz.f21, go_sem]) rfl (by unfold GrpI; exact ⟨af, nf, cf, us9, ds9, by rw [HRE.out]; rfl, fun h => (by rw [HRE.out] at h; cases h), fun es' h => (by rw [HRE.out] at h; injection h with h; subst h; exact ⟨asc9, mem9, S9.out⟩), hb9.out⟩)
end Go.Proofs.YtmdhljleaijkbaaGreatDoor

/- The order of the monodromy group. guards: -/
namespace Go.Proofs.YtmdhljleaijkbaaGreatDoor
open Go.RowKit

noncomputable def moC (d : List (List Int)) : Int := if manB d = true then (match grpE d (lget d 0).length with | none => 3 | some _ => 0) else 1
noncomputable def moN (d : List (List Int)) : Nat := if manB d = true then (match grpE d (lget d 0).length with | none => 0 | some es => es.length) else 0
theorem mo_no {d : List (List Int)} (h : manB d = false) : moC d = 1 ∧ moN d = 0 := by unfold moC moN; rw [h]; simp
theorem mo_none {d : List (List Int)} (h : manB d = true) (h2 : grpE d (lget d 0).length = none) : moC d = 3 ∧ moN d = 0 := by unfold moC moN; rw [h, h2]; simp
theorem mo_yes {d es : List (List Int)} (h : manB d = true) (h2 : grpE d (lget d 0).length = some es) : moC d = 0 ∧ moN d = es.length := by unfold moC moN; rw [h, h2]; simp
set_option maxRecDepth 100000 in
set_option maxHeartbeats 6400000 in
theorem api_implMo (ao : Option Addr) (n c : Nat) (d : List (List Int)) (w : World) (h : RdSSc w (.slice ao n c) d) (fd : FewSS d) (hT : PT w) :
    Calls Tryz.prog 9 #[.agg #[.slice ao n c]] w fun e w' => e = .returned (.tuple #[.int .i64 (moN d : Nat), .int .i64 (moC d)]) ∧ Below w.heap.size w w' := by
  have HI := Lib.hid (fun (w : World) (h : RdSSc w (.slice ao n c) d) => implManC h fd)
  have HO := Lib.hid h
  have HT := Lib.hid hT
  obtain ⟨C, hC⟩ : ∃ C, moC d = C := ⟨_, rfl⟩
  obtain ⟨R, hR⟩ : ∃ R, moN d = R := ⟨_, rfl⟩
  rw [hC, hR]
  have HC := Lib.hid hC
  have HR := Lib.hid hR
  clear hC hR hT
  have hn := h.intss.1
  have HIS := Lib.hid h.intss
  clear h
  have b0 := below_alloc1 w (.cells #[.slice ao n c] 26)
  have kb : Blk (w.alloc (.cells #[.slice ao n c] 26)) w.heap.size 26 #[.slice ao n c] := blk_at rfl
  have HO1 := Lib.hid (HO.out.below b0)
  have x0 := kb.cell 0
  simp at x0
  by_cases hb : manB d = true
  case neg =>
    have hb : manB d = false := by simpa using hb
    have h2 := mo_no hb
    obtain rfl := h2.1.symm.trans HC.out
    obtain rfl := h2.2.symm.trans HR.out
    simp only [hb] at HI
    clear hb h2 HC HR
    go_enter Tryz.func9, Tryz.ntmps9
    go_wp2_with fail
    refine (HI.out _ HO1.out).mono ?_
    have z0 := b0.size
    rintro e w1 ⟨rfl, b1⟩
    have B1 := b0.trans (b1.mono z0)
    clear x0 b1 kb HO1 b0 z0
    go_wp2
    exact bodyPost_ret (v := .tuple #[.int .i64 0, .int .i64 1]) (by simp [results, Tryz.f9, go_sem]) rfl ⟨rfl, B1⟩
  case pos =>
    have hM := manB_iff.1 hb
    have hpts := man_pts hM
    have hn5 := hM.n5
    have hn1 := hM.n1
    have hf2 := hM.f2
    have hf4 := hM.f4
    simp only [hb] at HI
    obtain ⟨N, hN⟩ : ∃ N, (lget d 0).length = N := ⟨_, rfl⟩
    rw [hN] at hpts hf2 hf4
    have HN := Lib.hid hN
    have HP := Lib.hid hpts
    have HB := Lib.hid hb
    clear hM hb hpts hN
    go_enter Tryz.func9, Tryz.ntmps9
    go_wp2_with fail
    refine (HI.out _ HO1.out).mono ?_
    have z0 := b0.size
    rintro e w1 ⟨rfl, b1⟩
    have B1 := Lib.hid (b0.trans (b1.mono z0))
    have kb1 := kb.belowS b1
    have IS1 := Lib.hid (HIS.out.below B1.out)
    clear x0 b1 kb HO1 b0 z0 HI HO
    have S0 := Lib.hid (show ∀ w', Below w1.heap.size w1 w' → (Below w1.heap.size w1 w' ∧ w'.cell? ⟨w.heap.size, 0, none⟩ = some (.slice ao n c)) from fun w' hb => ⟨hb, by have := (kb1.belowS hb).cell 0; simpa using this⟩)
    have K0 := Lib.hid (S0.out w1.drew (below_drew1 w1))
    have kd1 := Lib.hid (kb1.drewN 1)
    go_upto_region 3 with fail
    go_region_held3 (fun w' => Below w1.heap.size w1 w' ∧ w'.cell? ⟨w.heap.size, 0, none⟩ = some (.slice ao n c)) (first | exact K0.out | exact K6.out) (first | (go_at_call 22; refine (flagsI_any _ ao n c N d _ kd1.out ⟨ao, n, c, rfl, IS1.out.below (below_drew1 w1)⟩ (by omega) HN.out (by omega)).mono ?_; rintro e w5 ⟨rfl, hw⟩; subst hw) | (go_at_call 21; refine (grpI_any N n c ao d _ (by omega) hf4 (IS1.out.below (below_drew1 w1)) HP.out (by omega) (HT.out.below (below_tr (below_drew1 w1) B1.out))).mono ?_; rintro e w6 hg; obtain ⟨ga, gm, gc, us6, ss, rfl, hg1, hg2, b6⟩ := hg; have B6 : Below w1.heap.size w1 w6 := below_tr b6 (below_drew1 w1); have K6 := Lib.hid (S0.out w6 B6)))
    have hb6 := Lib.hid (B1.out.trans (B6.mono B1.out.size))
    clear B6 K6 K0 S0 IS1 kb1 B1 kd1
    cases hG : grpE d N with
    | none =>
      have h2 := mo_none HB.out (by rw [HN.out]; exact hG)
      obtain rfl := h2.1.symm.trans HC.out
      obtain rfl := h2.2.symm.trans HR.out
      obtain ⟨rfl, rfl, rfl⟩ := hg1 hG
      clear h2 HC HR hg1 hg2 hG b6
      go_wp2_with fail
      exact bodyPost_ret (v := .tuple #[.int .i64 0, .int .i64 3]) (by simp [results, Tryz.f9, go_sem]) rfl ⟨rfl, hb6.out⟩
    | some es =>
      obtain ⟨hasc, hmem, hss⟩ := hg2 es hG
      obtain ⟨hnd, hcl, -⟩ := grpE_ok hG
      have hse := asc_srt hnd hasc hmem
      have hsl := (srtE_ok hnd).2.2
      rw [← hse] at hsl
      have hgl := hss.len
      have hgm : gm = es.length := by omega
      subst hgm
      have h2 := mo_yes HB.out (by rw [HN.out]; exact hG)
      obtain rfl := h2.1.symm.trans HC.out
      obtain rfl := h2.2.symm.trans HR.out
      clear h2 HC HR hg1 hg2 hG b6 hcl hnd hasc hmem hse hss hgl hsl
      go_wp2_with fail
      refine (sizeRM_any _ _ _ _).mono ?_
      rintro e w7 ⟨rfl, hw⟩
      subst hw
      go_wp2_with fail
      exact bodyPost_ret (v := .tuple #[.int .i64 (es.length : Nat), .int .i64 0]) (by simp [results, Tryz.f9, go_sem]) rfl ⟨rfl, hb6.out⟩
end Go.Proofs.YtmdhljleaijkbaaGreatDoor

/- Regular covers, the reference's. guards: -/
namespace Go.Proofs.YtmdhljleaijkbaaGreatDoor
open Go.RowKit

end Go.Proofs.YtmdhljleaijkbaaGreatDoor

/- Numbers of lists, looked up by their keys. -/
namespace Go.Proofs.YtmdhljleaijkbaaGreatDoor
open Go.RowKit

def numU (k : Nat) : List Value := (List.range k).map fun (i : Nat) => Value.int .i64 (i : Int)
theorem numU_succ (k : Nat) : numU (k + 1) = numU k ++ [.int .i64 (k : Int)] := by simp [numU, List.range_succ]
theorem num_look {ss : List (List Int)} {q : List Int} {N : Nat} (ha : AscL ss) (hp : ∀ z ∈ ss, Pts N z) (hq : q ∈ ss) :
    (match fndS (keyB q) (ss.map keyB) 0 with | some m => (numU ss.length).getD m undef | none => .int .i64 0) = .int .i64 (lowL ss q : Int) := by
  obtain ⟨m, h1, h2⟩ := fndS_some (k := keyB q) (i := 0) (List.mem_map.2 ⟨q, hq, rfl⟩)
  have hm : m < ss.length := by have := (List.getElem?_eq_some_iff.1 h2).1; simpa using this
  rw [h1]
  simp only [Nat.zero_add]
  rw [List.getElem?_map, List.getElem?_eq_getElem hm] at h2
  have h3 := key_inj ((hp _ (List.getElem_mem hm)).nn) (hp q hq).nn (Option.some.inj h2)
  have h4 : m = lowL ss q := low_uniq ha hm (by rw [lget_lt hm]; exact h3)
  rw [← h4]
  unfold numU
  rw [List.getD_eq_getElem?_getD, List.getElem?_map, List.getElem?_range hm]; rfl
theorem zvI (w : World) : (zeroValue 2).run Tryz.prog w = .ok (.int .i64 0) w := by simp [go_sem, run_underlying Tryz.underlying2]
end Go.Proofs.YtmdhljleaijkbaaGreatDoor

/- Regular covers, the program's. guards: -/
namespace Go.Proofs.YtmdhljleaijkbaaGreatDoor
open Go.RowKit

set_option maxRecDepth 100000 in
set_option maxHeartbeats 6400000 in
theorem cayley_any (ga ao : Option Addr) (gm gc n c N : Nat) (ss d : List (List Int)) (w : World) (hg : Intss w ga gm ss) (hi : Intss w ao n d) (hn5 : n ≤ 5) (hgm : gm ≤ 400) (hN0 : 0 < N) (hN : N ≤ 400) (hasc : AscL ss) (hsp : ∀ z ∈ ss, Pts N z) (hdp : ∀ z ∈ d, Pts N z)
    (hcl : ∀ i k, i < ss.length → k < d.length → thenL (lget ss i) (lget d k) ∈ ss) (hT : PT w) :
    Calls Tryz.prog 23 #[.slice ga gm gc, .slice ao n c] w fun e w' => ∃ r, e = .returned r ∧ OwM 2 38 w' w.heap.size w'.heap.size r (cayL d ss) ∧ Below w.heap.size w w' := by
  have HG := Lib.hid hg
  have HI := Lib.hid hi
  have HASC := Lib.hid hasc
  have HSP := Lib.hid hsp
  have HDP := Lib.hid hdp
  have HCL := Lib.hid hcl
  have HT := Lib.hid hT
  have hgl := hg.1
  have hdl := hi.1
  clear hg hi hasc hsp hdp hcl hT
  have hmk : ∀ W : World, (Instr.makeMap 80 none).run Tryz.prog W = .ok (.map (some W.heap.size)) (W.alloc (.map #[] 0)) := fun W => Go.RowKit.run_makeMap _ W
  have b1 := below_alloc1 w (.cells #[.slice none 0 0] 26)
  have kr1 : Blk (w.alloc (.cells #[.slice none 0 0] 26)) w.heap.size 26 #[.slice none 0 0] := blk_at rfl
  have hz1 : (w.alloc (.cells #[.slice none 0 0] 26)).heap.size = w.heap.size + 1 := by simp
  go_enter Tryz.func23, Tryz.ntmps23
  go_upto_region 1 with fail
  generalize w.alloc (.cells #[.slice none 0 0] 26) = w1 at *
  have b2 := below_alloc1 w1 (.map #[] 0)
  have M2 := Lib.hid (show MapX (w1.alloc (.map #[] 0)) (w.heap.size + 1) [] [] by have := MapX.new w1; rw [hz1] at this; exact this)
  have B2 := Lib.hid (b1.trans (b2.mono (by omega)))
  have KR2 := Lib.hid (kr1.belowS b2)
  have hz2 : (w1.alloc (.map #[] 0)).heap.size = w.heap.size + 2 := by simp [hz1]
  clear b1 b2 kr1
  go_upto_region 2 with fail
  generalize w1.alloc (.map #[] 0) = w2 at *
  clear hmk hz1
  go_wp2_with fail
  go_loopw [17] (fun kv wr => ∃ k : Nat, kv = .int .i64 k ∧ k ≤ gm ∧ MapX wr (w.heap.size + 1) ((ss.take k).map keyB) (numU k) ∧ Blk wr w.heap.size 26 #[.slice none 0 0] ∧ Below w.heap.size w wr) (fun kv _ => gm - (intOf kv).toNat)
  case atStart => exact ⟨0, rfl, Nat.zero_le _, M2.out, KR2.out, B2.out⟩
  case round =>
    clear M2 KR2 B2
    obtain ⟨k, rfl, hk, hm, hkr, hb⟩ := hrel
    have MM := Lib.hid hm
    have KR := Lib.hid hkr
    have hsz := hb.size
    clear hm hkr
    by_cases hlt : k < gm
    · obtain ⟨b3, off3, a3, n3, c3, rfl, hc3, hi3⟩ := (HG.out.below hb).at_ hlt
      have hp := HSP.out (lget ss k) (lget_mem (by omega))
      have hn3 : N = n3 := by rw [← hi3.1, hp.1]
      subst hn3
      have HI3 := Lib.hid hi3
      have HP := Lib.hid hp
      have hni : keyB (lget ss k) ∉ (ss.take k).map keyB := fun e => by
        obtain ⟨z, hz, ez⟩ := List.mem_map.1 e
        have hzs := List.mem_of_mem_take hz
        have e2 := key_inj (HSP.out z hzs).nn HP.out.nn ez
        obtain ⟨j, hj, ej⟩ := List.getElem_of_mem hz
        have hj2 : j < k := by rw [List.length_take] at hj; omega
        rw [List.getElem_take] at ej
        have h1 := low_uniq HASC.out (m := j) (q := lget ss k) (by omega) (by rw [lget_lt (by omega), ej, e2])
        have h2 := low_uniq HASC.out (m := k) (q := lget ss k) (by omega) rfl
        omega
      have HNI := Lib.hid hni
      have HTK := Lib.hid (show (ss.take (k + 1)).map keyB = (ss.take k).map keyB ++ [keyB (lget ss k)] by rw [List.take_succ_eq_append_getElem (by omega), List.map_append, lget_lt (by omega)]; rfl)
      clear hi3 hp hni
      go_wp2_with fail
      refine (keyOf_any a3 N c3 (lget ss k) wr HI3.out hN0 (by omega) (HP.out.inI (by omega)) (HT.out.below hb)).mono ?_
      rintro e w4 ⟨rfl, b4⟩
      have M4 := Lib.hid (MM.out.below b4)
      have KR4 := Lib.hid (KR.out.belowS b4)
      have B4 := Lib.hid (hb.trans (b4.mono hsz))
      clear MM KR b4
      go_wp2_with (refine wpList_putX w4 Tryz.underlying80 Tryz.underlying9 rfl _ _ _ (.inl rfl) (w.heap.size + 1) _ _ (keyB (lget ss k)) M4.out HNI.out rfl rfl ?_; intro w5 o5 m5)
      have M5 := Lib.hid m5
      have O5 := Lib.hid o5
      have hz4 := B4.out.size
      clear o5 m5
      go_roundw
      case rel => exact ⟨k + 1, by go_num, by omega, by rw [HTK.out, numU_succ]; exact M5.out, KR4.out.only O5.out (.inl (Nat.lt_succ_self _)), B4.out.trans (O5.out.below (by omega) hz4)⟩
      case measure => simp [intOf]; omega
    · obtain rfl : k = gm := by omega
      have hta : ss.take k = ss := List.take_of_length_le (by omega)
      have MM2 := Lib.hid (show MapX wr (w.heap.size + 1) (ss.map keyB) (numU ss.length) by have := MM.out; rw [hta] at this; rw [hgl]; exact this)
      have hml := MM2.out.lt
      clear MM hta
      obtain ⟨wB, rfl⟩ : ∃ x, x = wr := ⟨_, rfl⟩
      have hbB := Lib.hid hb
      have b7 := (Below.refl wB.heap.size wB).alloc (Nat.le_refl _) (.cells #[.slice none 0 0] 26)
      have ST := Lib.hid (MBx.start (w := wB) b7 (Blk.new wB 26 #[.slice none 0 0]) (Nat.le_refl _))
      have hz7 : (wB.alloc (.cells #[.slice none 0 0] 26)).heap.size = wB.heap.size + 1 := by simp
      clear b7 hb
      go_upto_region 8 with fail
      generalize wB.alloc (.cells #[.slice none 0 0] 26) = w7 at *
      obtain ⟨bx, hbx⟩ : ∃ bx, wB.heap.size = bx := ⟨_, rfl⟩
      have HBX := Lib.hid hbx
      rw [hbx] at ST hz7 ⊢
      clear hbx
      go_wp2_with fail
      go_loopw [29] (fun kv wr => ∃ (k : Nat) (ao : Option Addr) (c : Nat) (us : List Value), kv = .int .i64 k ∧ k ≤ n ∧ MBx wB wr bx (bx + 1) ao k c us ((cayL d ss).take k)) (fun kv _ => n - (intOf kv).toNat)
      case atStart => exact ⟨0, none, 0, [], rfl, Nat.zero_le _, ST.out⟩
      case round =>
        clear ST hz7
        obtain ⟨q, am, cm, um, rfl, hq, st⟩ := hrel
        obtain ⟨wA, rfl⟩ : ∃ x, x = wr := ⟨_, rfl⟩
        by_cases hlt : q < n
        · have ST := Lib.hid st
          have hbw := st.bel
          have hzr := hbw.size
          obtain ⟨b2, off2, a2, n2, c2, rfl, hc2, hi2⟩ := (HI.out.below (hbB.out.trans (hbw.mono hsz))).at_ hlt
          have hp2 := HDP.out (lget d q) (lget_mem (by omega))
          have hn2 : N = n2 := by rw [← hi2.1, hp2.1]
          subst hn2
          have HI2 := Lib.hid hi2
          have hE : Own wA wA.heap.size 2 none 0 0 [] := Own.nil_ _ _ _
          clear st hi2 hp2
          go_wp2_with fail
          go_loopw [11, 35] (fun sv iv w8 => ∃ (i : Nat) (a : Option Addr) (cc : Nat), i ≤ k ∧ sv = .slice a i cc ∧ iv = .int .i64 i ∧ Own w8 wA.heap.size 2 a i cc ((cayRow ss (lget d q) i).map (Value.int .i64)) ∧ Below wA.heap.size wA w8) (fun _ iv _ => k - (intOf iv).toNat)
          case atStart => exact ⟨0, _, _, Nat.zero_le _, rfl, rfl, by simpa [cayRow] using hE, Below.refl _ _⟩
          case round =>
            clear hE hc2
            obtain ⟨i, a, cc, hi, rfl, rfl, ho, hb8⟩ := hrel
            obtain ⟨w8, rfl⟩ : ∃ x, x = wr := ⟨_, rfl⟩
            have HBW := Lib.hid (hbw.trans (hb8.mono hzr))
            have HO8 := Lib.hid ho
            have hsz8 := hb8.size
            clear ho
            by_cases hlti : i < k
            · obtain ⟨b1, off1, a1, n1, c1, rfl, hc1, hi1⟩ := (HG.out.below (hbB.out.trans (HBW.out.mono hsz))).at_ hlti
              have hp1 := HSP.out (lget ss i) (lget_mem (by omega))
              have hn1 : N = n1 := by rw [← hi1.1, hp1.1]
              subst hn1
              have hq1 := HCL.out i q (by omega) (by omega)
              have hrw := cayRow_succ (ss := ss) (g := lget d q) (k := i) (by omega)
              obtain ⟨p, hpe⟩ : ∃ p, thenL (lget ss i) (lget d q) = p := ⟨_, rfl⟩
              rw [hpe] at hq1 hrw
              have HPE := Lib.hid hpe
              have HRW := Lib.hid hrw
              have HLK := Lib.hid (num_look HASC.out HSP.out hq1)
              have HPP := Lib.hid (HSP.out p hq1)
              have HI1 := Lib.hid hi1
              have HP1 := Lib.hid hp1.2
              clear hpe hrw hi1 hp1 hq1
              go_wp2_with fail
              refine (thenG_any _ _ N N _ _ (lget ss i) (lget d q) _ HI1.out (HI2.out.below hb8) HP1.out (by omega)).mono ?_
              rintro e w9 ⟨a9, c9, rfl, o9, b9⟩
              rw [HPE.out] at o9
              have O9 := Lib.hid o9
              have HO9 := Lib.hid (HO8.out.below b9)
              have hb9 := Lib.hid (hb8.trans (b9.mono hsz8))
              have HB9 := Lib.hid (HBW.out.trans (b9.mono HBW.out.size))
              clear o9 b9 HI1 HO8
              go_wp2_with fail
              refine (keyOf_any a9 N c9 p w9 O9.out.ints hN0 (by omega) (HPP.out.inI (by omega)) (HT.out.below (hbB.out.trans (HB9.out.mono hsz)))).mono ?_
              rintro e w10 ⟨rfl, b10⟩
              have HO10 := Lib.hid (HO9.out.below b10)
              have hb10 := Lib.hid (hb9.out.trans (b10.mono hb9.out.size))
              have HB10 := Lib.hid (HB9.out.trans (b10.mono HB9.out.size))
              have M10 := Lib.hid (MM2.out.below HB10.out)
              have hz10 := hb10.out.size
              have hlo := fun g hg => (HO10.out.lt g hg).1
              clear b10 HB9 hb9 HO9 O9
              go_wp2_with (first | (refine wpList_lookX w10 Tryz.underlying80 Tryz.underlying9 zvI rfl _ _ rfl (w.heap.size + 1) _ _ (keyB p) (.int .i64 (lowL ss p : Int)) M10.out HLK.out rfl rfl ?_) | (at_builtin; refine wpList_ap1 etI _ rfl _ _ rfl wA.heap.size a i cc _ rfl HO10.out (.int .i64 (lowL ss p : Int)) rfl rfl (by omega) hz10 ?_; intro ao2 c2' w4 ho2 hg2 hblk))
              have HO2 := Lib.hid ho2
              have hb12 := hb10.out.grown hg2 hz10 hlo
              clear ho2 hblk hg2
              go_roundw
              case rel => exact ⟨i + 1, ao2, c2', by omega, rfl, by go_num, by rw [HRW.out, List.map_append]; exact HO2.out, hb12⟩
              case measure => simp [intOf]; omega
            · obtain rfl : i = k := by omega
              have hzs : (cayL d ss).take (q + 1) = (cayL d ss).take q ++ [cayRow ss (lget d q) i] := by rw [cayL_take (by omega), hgl]
              have HZS := Lib.hid hzs
              have STB := Lib.hid (ST.out.below hb8)
              have xb := STB.out.cell
              have hlo8 := STB.out.at_.2.2
              clear hzs
              go_wp2_with (at_builtin; refine wpList_ap1 etSS _ rfl _ _ rfl (bx + 1) am q cm _ rfl STB.out.row.own (.slice a i cc) rfl rfl (by omega) hlo8 ?_; intro ao2 c2' w4 ho2 hg2 hat; have x4 := (STB.out.boxG hg2).cell 0; have f4 := (STB.out.boxG hg2).frozen 0)
              have SP := Lib.hid (ST.out.push (by omega) hb8 HO8.out (Below.refl _ _) ho2 hg2 (hat.imp id fun e => ⟨_, e, Nat.le_succ _⟩))
              clear ho2 hg2 hat STB ST
              go_roundw
              case rel => exact ⟨q + 1, ao2, c2', _, by go_num, by omega, by rw [HZS.out]; exact SP.out⟩
              case measure => simp [intOf]; omega
        · obtain rfl : q = n := by omega
          have hall : (cayL d ss).take q = cayL d ss := List.take_of_length_le (by simp [cayL]; omega)
          rw [hall] at st
          have xb := st.cell
          have KRr := KR.out.belowS st.bel
          have xr := KRr.cell 0
          have fr := KRr.frozen 0
          have BF := Lib.hid (hbB.out.trans (st.bel.mono hsz))
          have ST := Lib.hid st
          simp at xr
          clear st
          go_wp2
          have hfl : w.heap.size < bx := by rw [← HBX.out]; omega
          exact bodyPost_ret (v := .agg #[.slice am q cm]) (by simp [results, Tryz.f23, go_sem, xr]) rfl ⟨_, rfl, ST.out.done hfl _ hsz, BF.out.setCell (by simp) _⟩
end Go.Proofs.YtmdhljleaijkbaaGreatDoor

/- Regular covers of maniplexes that are read, whatever shares their rows. guards: -/
namespace Go.Proofs.YtmdhljleaijkbaaGreatDoor
open Go.RowKit

set_option maxRecDepth 100000 in
set_option maxHeartbeats 6400000 in
theorem api_specRcC (ao : Option Addr) (n c : Nat) (d : List (List Int)) (w : World) (h : RdSSc w (.slice ao n c) d) (fd : FewSS d) :
    Calls Tryz.prog 7 #[.agg #[.slice ao n c]] w fun e w' => ∃ r, e = .returned (.tuple #[r, .int .i64 (rcC d)]) ∧ OwM 2 38 w' w.heap.size w'.heap.size r (rcR d) ∧ Below w.heap.size w w' := by
  have HI := Lib.hid (fun (w : World) (h : RdSSc w (.slice ao n c) d) => specManC h fd)
  have HO := Lib.hid h
  obtain ⟨C, hC⟩ : ∃ C, rcC d = C := ⟨_, rfl⟩
  obtain ⟨R, hR⟩ : ∃ R, rcR d = R := ⟨_, rfl⟩
  rw [hC, hR]
  have HC := Lib.hid hC
  have HR := Lib.hid hR
  clear hC hR
  have hn := h.intss.1
  have HIS := Lib.hid h.intss
  clear h
  have b0 := below_alloc2 w (.cells #[.slice ao n c] 26) (.cells #[.slice none 0 0] 26)
  have kb : Blk ((w.alloc (.cells #[.slice ao n c] 26)).alloc (.cells #[.slice none 0 0] 26)) w.heap.size 26 #[.slice ao n c] := (blk_at rfl).alloc _
  have kr : Blk ((w.alloc (.cells #[.slice ao n c] 26)).alloc (.cells #[.slice none 0 0] 26)) (w.heap.size + 1) 26 #[.slice none 0 0] := blk_at (by simp)
  have HO1 := Lib.hid (HO.out.below b0)
  have x0 := kb.cell 0
  simp at x0
  by_cases hb : manB d = true
  case neg =>
    have hb : manB d = false := by simpa using hb
    have h2 := rc_no hb
    obtain rfl := h2.1.symm.trans HC.out
    obtain rfl := h2.2.symm.trans HR.out
    simp only [hb] at HI
    clear hb h2 HC HR
    go_enter Tryz.func7, Tryz.ntmps7
    go_wp2_with fail
    refine (HI.out _ HO1.out).mono ?_
    have z0 := b0.size
    rintro e w1 ⟨rfl, b1⟩
    have B1 := b0.trans (b1.mono z0)
    have kr1 := kr.belowS b1
    clear x0 b1 kb kr HO1 b0 z0
    have x2 := kr1.cell 0
    have f2 := kr1.frozen 0
    simp at x2
    go_wp2
    exact bodyPost_ret (v := .tuple #[.agg #[.slice none 0 0], .int .i64 1]) (by simp [results, Tryz.f7, go_sem, x2]) rfl ⟨_, rfl, own_nilMx, B1.setCell (by simp) _⟩
  case pos =>
    have hM := manB_iff.1 hb
    have hpts := man_pts hM
    have hn5 := hM.n5
    have hn1 := hM.n1
    have hf2 := hM.f2
    have hf4 := hM.f4
    simp only [hb] at HI
    obtain ⟨N, hN⟩ : ∃ N, (lget d 0).length = N := ⟨_, rfl⟩
    rw [hN] at hpts hf2 hf4
    have HN := Lib.hid hN
    have HP := Lib.hid hpts
    have HB := Lib.hid hb
    clear hM hb hpts hN
    go_enter Tryz.func7, Tryz.ntmps7
    go_wp2_with fail
    refine (HI.out _ HO1.out).mono ?_
    have z0 := b0.size
    rintro e w1 ⟨rfl, b1⟩
    have B1 := Lib.hid (b0.trans (b1.mono z0))
    have kr1 := kr.belowS b1
    have kb1 := kb.belowS b1
    have IS1 := Lib.hid (HIS.out.below B1.out)
    clear x0 b1 kb kr HO1 b0 z0 HI HO
    have xb1 := Lib.hid (kb1.cell 0)
    have S0 := Lib.hid (show ∀ w', Below w1.heap.size w1 w' → (Below w1.heap.size w1 w' ∧ w'.cell? ⟨w.heap.size, 0, none⟩ = some (.slice ao n c)) from fun w' hb => ⟨hb, by have := (kb1.belowS hb).cell 0; simpa using this⟩)
    have K0 := Lib.hid (S0.out w1.drew (below_drew1 w1))
    go_upto_region 3 with fail
    go_region_held3 (fun w' => Below w1.heap.size w1 w' ∧ w'.cell? ⟨w.heap.size, 0, none⟩ = some (.slice ao n c)) (first | exact K0.out | exact K5.out | exact K6.out) (first | (go_at_call 26; refine (flagsS_any ao n c N d _ ⟨ao, n, c, rfl, IS1.out.below (below_drew1 w1)⟩ (by omega) HN.out (by omega)).mono ?_; rintro e w5 ⟨rfl, b5⟩; have B5 : Below w1.heap.size w1 w5 := below_tr b5 (below_drew1 w1); have K5 := Lib.hid (S0.out w5 B5); have IS5 := Lib.hid (IS1.out.below B5)) | (go_at_call 25; refine (specGroup_any N n c ao d _ (by omega) hf4 IS5.out HP.out (by omega)).mono ?_; rintro e w6 hg; obtain ⟨ga, gm, gc, ss, rfl, hg1, hg2, b6⟩ := hg; have B6 : Below w1.heap.size w1 w6 := below_tr b6 B5; have K6 := Lib.hid (S0.out w6 B6)))
    have x6 := (kr1.belowS B6).cell 0
    have f6 := (kr1.belowS B6).frozen 0
    have KR6 := Lib.hid (kr1.belowS B6)
    have KB6 := Lib.hid (kb1.belowS B6)
    have hb6 := Lib.hid (B1.out.trans (B6.mono B1.out.size))
    have IS6 := Lib.hid (IS1.out.below B6)
    have hz6 := B6.size
    have hz1 := B1.out.size
    have hr1 := kr1.lt
    simp at x6
    clear B6 K6 K5 K0 S0 xb1 IS5 IS1 B5 b5 kr1 kb1 B1
    cases hG : grpE d N with
    | none =>
      have h2 := rc_none HB.out (by rw [HN.out]; exact hG)
      obtain rfl := h2.1.symm.trans HC.out
      obtain rfl := h2.2.symm.trans HR.out
      obtain ⟨rfl, rfl, rfl⟩ := hg1 hG
      clear h2 HC HR hg1 hg2 hG b6
      go_wp2_with fail
      exact bodyPost_ret (v := .tuple #[.agg #[.slice none 0 0], .int .i64 3]) (by simp [results, Tryz.f7, go_sem, x6]) rfl ⟨_, rfl, own_nilMx, hb6.out.setCell (by simp) _⟩
    | some es =>
      obtain ⟨hasc, hmem, hss⟩ := hg2 es hG
      obtain ⟨hnd, hcl, -⟩ := grpE_ok hG
      have hse := asc_srt hnd hasc hmem
      have hsl := (srtE_ok hnd).2.2
      rw [← hse] at hsl
      obtain ⟨ga', gm', gc', gus, e1, grow⟩ := hss
      injection e1 with e1 e2 e3
      subst e1 e2 e3
      have hgl := grow.len
      have hpt6 : ∀ z ∈ es, Pts N z := grpE_pts HP.out hG
      by_cases hbig : es.length ≤ 400
      case neg =>
        have h2 := rc_big HB.out (by rw [HN.out]; exact hG) hbig
        obtain rfl := h2.1.symm.trans HC.out
        obtain rfl := h2.2.symm.trans HR.out
        have hd : decide ((400 : Int) < (gm : Int)) = true := by simp; omega
        clear h2 HC HR hg1 hg2 hG b6 hcl hnd hasc hmem hse
        go_wp2_with fail
        exact bodyPost_ret (v := .tuple #[.agg #[.slice none 0 0], .int .i64 3]) (by simp [results, Tryz.f7, go_sem, x6]) rfl ⟨_, rfl, own_nilMx, hb6.out.setCell (by simp) _⟩
      case pos =>
        have h2 := rc_yes HB.out (by rw [HN.out]; exact hG) hbig
        rw [← hse] at h2
        obtain rfl := h2.1.symm.trans HC.out
        obtain rfl := h2.2.symm.trans HR.out
        have hd : decide ((400 : Int) < (gm : Int)) = false := by simp; omega
        have HASC := Lib.hid hasc
        have HSP := Lib.hid (show ∀ z ∈ ss, Pts N z from fun z hz => hpt6 z ((hmem z).1 hz))
        have HCL := Lib.hid (show ∀ i k, i < ss.length → k < d.length → thenL (lget ss i) (lget d k) ∈ ss from fun i k hi hk => by
          have h1 := (hmem _).1 (lget_mem hi)
          obtain ⟨j, hj, ej⟩ := List.getElem_of_mem h1
          have := hcl j k hj hk
          rw [lget_lt hj, ej] at this
          exact (hmem _).2 this)
        have GS6 := Lib.hid grow.intss
        clear h2 HC HR hg1 hg2 hG b6 hcl hnd hasc hmem hse hpt6 grow
        go_upto_region 7 with fail
        have b7 := (Below.refl w6.heap.size w6).alloc (Nat.le_refl _) (.cells #[.slice none 0 0] 26)
        have hz7 : (w6.alloc (.cells #[.slice none 0 0] 26)).heap.size = w6.heap.size + 1 := by simp
        have ST := Lib.hid (MBx.start (w := w6) b7 (Blk.new w6 26 #[.slice none 0 0]) (Nat.le_refl _))
        clear b7
        generalize w6.alloc (.cells #[.slice none 0 0] 26) = w7 at *
        obtain ⟨bx, hbx⟩ : ∃ bx, w6.heap.size = bx := ⟨_, rfl⟩
        have HBX := Lib.hid hbx
        rw [hbx] at ST hz7 ⊢
        clear hbx
        go_wp2_with fail
        go_loopw [7] (fun kv wr => ∃ (k : Nat) (ao : Option Addr) (c : Nat) (us : List Value), kv = .int .i64 k ∧ k ≤ n ∧ MBx w6 wr bx (bx + 1) ao k c us ((cayL d ss).take k)) (fun kv _ => n - (intOf kv).toNat)
        case atStart => exact ⟨0, none, 0, [], rfl, Nat.zero_le _, ST.out⟩
        case round =>
          clear ST hz7
          obtain ⟨k, am, cm, um, rfl, hk, st⟩ := hrel
          obtain ⟨wA, rfl⟩ : ∃ x, x = wr := ⟨_, rfl⟩
          have hx1 := (KB6.out.belowS (st.bel)).cell 0
          simp at hx1
          by_cases hlt : k < n
          · have ST := Lib.hid st
            have hbw := st.bel
            have hzr := hbw.size
            have hE : Own (wA.alloc (.cells #[] 2)) wA.heap.size 2 (some ⟨wA.heap.size, 0, none⟩) 0 0 [] := Own.empty_ wA 2 (Nat.le_refl _)
            have hB := below_alloc1 wA (.cells #[] 2)
            clear st
            go_wp2_with fail
            go_loopw [8, 9] (fun sv iv w8 => ∃ (i : Nat) (a : Option Addr) (cc : Nat), i ≤ gm ∧ sv = .slice a i cc ∧ iv = .int .i64 i ∧ Own w8 wA.heap.size 2 a i cc ((cayRow ss (lget d k) i).map (Value.int .i64)) ∧ Below wA.heap.size wA w8) (fun _ iv _ => gm - (intOf iv).toNat)
            case atStart => exact ⟨0, _, _, Nat.zero_le _, rfl, rfl, by simpa [cayRow] using hE, hB⟩
            case round =>
              clear hE hB hx1
              obtain ⟨i, a, cc, hi, rfl, rfl, ho, hb8⟩ := hrel
              obtain ⟨w8, rfl⟩ : ∃ x, x = wr := ⟨_, rfl⟩
              have HBW := Lib.hid (hbw.trans (hb8.mono hzr))
              have hx8 := (KB6.out.belowS HBW.out).cell 0
              simp at hx8
              have HO8 := Lib.hid ho
              have hsz8 := hb8.size
              clear ho
              by_cases hlti : i < gm
              · obtain ⟨b1, off1, a1, n1, c1, rfl, hc1, hi1⟩ := (GS6.out.below HBW.out).at_ hlti
                obtain ⟨b2, off2, a2, n2, c2, rfl, hc2, hi2⟩ := (IS6.out.below HBW.out).at_ hlt
                have hp1 := HSP.out (lget ss i) (lget_mem (by omega))
                have hp2 := HP.out (lget d k) (lget_mem (by omega))
                have hn1 : N = n1 := by rw [← hi1.1, hp1.1]
                have hn2 : N = n2 := by rw [← hi2.1, hp2.1]
                subst hn1
                subst hn2
                have hq := HCL.out i k (by omega) (by omega)
                have hrw := cayRow_succ (ss := ss) (g := lget d k) (k := i) (by omega)
                obtain ⟨q, hqe⟩ : ∃ q, thenL (lget ss i) (lget d k) = q := ⟨_, rfl⟩
                rw [hqe] at hq hrw
                have HQE := Lib.hid hqe
                have HQ := Lib.hid hq
                have HRW := Lib.hid hrw
                have HI1 := Lib.hid hi1
                have HI2 := Lib.hid hi2
                have HP1 := Lib.hid hp1.2
                have hl1 : b1 < w8.heap.size := World.block_lt_of_cell? w8 _ hc1
                have hl2 : b2 < w8.heap.size := World.block_lt_of_cell? w8 _ hc2
                have hl3 : w.heap.size < w8.heap.size := World.block_lt_of_cell? w8 _ hx8
                have S0 := Lib.hid (show ∀ w', Below w8.heap.size w8 w' → (Below w8.heap.size w8 w' ∧ w'.cell? ⟨b1, off1 + i, none⟩ = some (.slice a1 N c1) ∧ w'.cell? ⟨b2, off2 + k, none⟩ = some (.slice a2 N c2) ∧ w'.cell? ⟨w.heap.size, 0, none⟩ = some (.slice (some ⟨b2, off2, none⟩) n c)) from fun w' hb => ⟨hb, (hb.cell (p := ⟨b1, off1 + i, none⟩) hl1).trans hc1, (hb.cell (p := ⟨b2, off2 + k, none⟩) hl2).trans hc2, (hb.cell (p := ⟨w.heap.size, 0, none⟩) hl3).trans hx8⟩)
                have K0 := Lib.hid (S0.out w8.drew (below_drew1 w8))
                have hi0 : (i : Int) < (gm : Int) := by omega
                clear hqe hq hrw hi1 hi2 hp1 hp2 hc1 hc2 hx8 hl1 hl2 hl3
                go_upto_region 14 with fail
                go_region_held3 (fun w' => Below w8.heap.size w8 w' ∧ w'.cell? ⟨b1, off1 + i, none⟩ = some (.slice a1 N c1) ∧ w'.cell? ⟨b2, off2 + k, none⟩ = some (.slice a2 N c2) ∧ w'.cell? ⟨w.heap.size, 0, none⟩ = some (.slice (some ⟨b2, off2, none⟩) n c)) (first | exact K0.out | exact K5.out) (first | (go_at_call 27; refine (specThen_any _ _ N N _ _ (lget ss i) (lget d k) _ (HI1.out.below (below_drew1 w8)) (HI2.out.below (below_drew1 w8)) HP1.out (by omega)).mono ?_; rintro e w9 ⟨a9, c9, rfl, o9, b9⟩; have B9 : Below w8.heap.size w8 w9 := below_tr b9 (below_drew1 w8); have K5 := Lib.hid (S0.out w9 B9)))
                all_goals
                  rw [HQE.out] at o9
                  have O9 := Lib.hid o9
                  have hbw9 := Lib.hid (HBW.out.trans (B9.mono HBW.out.size))
                  have hsz9 := B9.size
                  have HO9 := Lib.hid (HO8.out.below B9)
                  have hb9 := Lib.hid (hb8.trans (B9.mono hsz8))
                  clear o9 b9 B9 K0 S0 HI1 HI2 HP1 K5
                  go_wp2_with fail
                  go_loopw [11] (fun tv w10 => ∃ t : Nat, tv = .int .i64 t ∧ t ≤ lowL ss q ∧ Below w9.heap.size w9 w10) (fun tv _ => gm - (intOf tv).toNat)
                  case atStart => exact ⟨0, rfl, Nat.zero_le _, Below.refl _ _⟩
                  case round =>
                    obtain ⟨t, rfl, ht, hb10⟩ := hrel
                    obtain ⟨w10, rfl⟩ : ∃ x, x = wr := ⟨_, rfl⟩
                    obtain ⟨hf1, hf2⟩ := low_first HASC.out HQ.out ht
                    have htg : t < gm := by omega
                    have HB10 := Lib.hid (hbw9.out.trans (hb10.mono hbw9.out.size))
                    obtain ⟨b3, off3, a3, n3, c3, e3, hc3, hi3⟩ := (GS6.out.below HB10.out).at_ htg
                    injection e3 with e3
                    injection e3 with e31 e32
                    subst e31 e32
                    have HI3 := Lib.hid hi3
                    have hsz10 := hb10.size
                    have ht0 : (t : Int) < (gm : Int) := by omega
                    clear hi3
                    by_cases hte : t = lowL ss q
                    · have HD := Lib.hid (hf1.2 hte)
                      have HO10 := Lib.hid (HO9.out.below hb10)
                      have hb11 := Lib.hid (hb9.out.trans (hb10.mono hb9.out.size))
                      have hz11 := hb11.out.size
                      have hlo := fun g hg => (HO10.out.lt g hg).1
                      have hte' := Lib.hid hte
                      have O10 := Lib.hid (O9.out.below hb10)
                      clear hte hf1 O9 HO9 hb9
                      go_wp2_with (first | (go_at_call 28; refine (same_any _ _ n3 N c3 c9 (lget ss t) q _ HI3.out O10.out.ints).mono ?_; rw [HD.out]; rintro e w' ⟨rfl, m1, rfl⟩) | (at_builtin; refine wpList_ap1 etI _ rfl _ _ rfl wA.heap.size a i cc _ rfl (HO10.out.drewN _) (.int .i64 (t : Int)) rfl rfl (by omega) hz11 ?_; intro ao2 c2' w4 ho2 hg2 hblk))
                      have HO2 := Lib.hid ho2
                      have hb12 := (below_drewN hb11.out m1).grown hg2 hz11 hlo
                      clear ho2 hblk hg2
                      go_wp2
                      go_roundw
                      case rel => first | exact ⟨i + 1, ao2, c2', by omega, rfl, by go_num, by rw [HRW.out, ← hte'.out, List.map_append]; exact HO2.out, hb12⟩ | ((repeat apply Exists.intro); exact ⟨⟨i + 1, ao2, c2', by omega, rfl, by go_num, by rw [HRW.out, ← hte'.out, List.map_append]; exact HO2.out, hb12⟩, rfl⟩)
                      case measure => simp [intOf]; omega
                    · have HD := Lib.hid (show decide (lget ss t = q) = false from by
                        cases hd : decide (lget ss t = q) with
                        | false => rfl
                        | true => exact absurd (hf1.1 hd) hte)
                      have O10 := Lib.hid (O9.out.below hb10)
                      go_wp2_with (go_at_call 28; refine (same_any _ _ n3 N c3 c9 (lget ss t) q _ HI3.out O10.out.ints).mono ?_; rw [HD.out]; rintro e w' ⟨rfl, m1, rfl⟩)
                      go_roundw
                      case rel => exact ⟨t + 1, by go_num, by omega, below_drewN hb10 m1⟩
                      case measure => simp [intOf]; omega
              · obtain rfl : i = gm := by omega
                have hzs : (cayL d ss).take (k + 1) = (cayL d ss).take k ++ [cayRow ss (lget d k) i] := by rw [cayL_take (by omega), hgl]
                have HZS := Lib.hid hzs
                have STB := Lib.hid (ST.out.below hb8)
                have xb := STB.out.cell
                have hlo8 := STB.out.at_.2.2
                clear hzs hx8
                go_wp2_with (at_builtin; refine wpList_ap1 etSS _ rfl _ _ rfl (bx + 1) am k cm _ rfl STB.out.row.own (.slice a i cc) rfl rfl (by omega) hlo8 ?_; intro ao2 c2' w4 ho2 hg2 hat; have x4 := (STB.out.boxG hg2).cell 0; have f4 := (STB.out.boxG hg2).frozen 0)
                have SP := Lib.hid (ST.out.push (by omega) hb8 HO8.out (Below.refl _ _) ho2 hg2 (hat.imp id fun e => ⟨_, e, Nat.le_succ _⟩))
                clear ho2 hg2 hat STB ST
                go_roundw
                case rel => first | exact ⟨k + 1, ao2, c2', _, by go_num, by omega, by rw [HZS.out]; exact SP.out⟩ | ((repeat apply Exists.intro); exact ⟨⟨k + 1, ao2, c2', _, by go_num, by omega, by rw [HZS.out]; exact SP.out⟩, rfl⟩)
                case measure => simp [intOf]; omega
          · obtain rfl : k = n := by omega
            have hall : (cayL d ss).take k = cayL d ss := List.take_of_length_le (by simp [cayL]; omega)
            rw [hall] at st
            have xb := st.cell
            have KRr := KR6.out.belowS st.bel
            have xr := KRr.cell 0
            have fr := KRr.frozen 0
            have BF := Lib.hid (hb6.out.trans (st.bel.mono hb6.out.size))
            have hzf := hb6.out.size
            have ST := Lib.hid st
            simp at xr
            clear st
            go_wp2
            have hfl : w.heap.size + 1 < bx := by rw [← HBX.out]; omega
            exact bodyPost_ret (v := .tuple #[.agg #[.slice am k cm], .int .i64 0]) (by simp [results, Tryz.f7, go_sem, xr]) rfl ⟨_, rfl, ST.out.done hfl _ hzf, BF.out.setCell (by simp) _⟩
set_option maxRecDepth 100000 in
set_option maxHeartbeats 6400000 in
theorem api_implRcC (ao : Option Addr) (n c : Nat) (d : List (List Int)) (w : World) (h : RdSSc w (.slice ao n c) d) (fd : FewSS d) (hT : PT w) :
    Calls Tryz.prog 6 #[.agg #[.slice ao n c]] w fun e w' => ∃ r, e = .returned (.tuple #[r, .int .i64 (rcC d)]) ∧ OwM 2 38 w' w.heap.size w'.heap.size r (rcR d) ∧ Below w.heap.size w w' := by
  have HI := Lib.hid (fun (w : World) (h : RdSSc w (.slice ao n c) d) => implManC h fd)
  have HO := Lib.hid h
  have HT := Lib.hid hT
  obtain ⟨C, hC⟩ : ∃ C, rcC d = C := ⟨_, rfl⟩
  obtain ⟨R, hR⟩ : ∃ R, rcR d = R := ⟨_, rfl⟩
  rw [hC, hR]
  have HC := Lib.hid hC
  have HR := Lib.hid hR
  clear hC hR hT
  have hn := h.intss.1
  have HIS := Lib.hid h.intss
  clear h
  have b0 := below_alloc2 w (.cells #[.slice ao n c] 26) (.cells #[.slice none 0 0] 26)
  have kb : Blk ((w.alloc (.cells #[.slice ao n c] 26)).alloc (.cells #[.slice none 0 0] 26)) w.heap.size 26 #[.slice ao n c] := (blk_at rfl).alloc _
  have kr : Blk ((w.alloc (.cells #[.slice ao n c] 26)).alloc (.cells #[.slice none 0 0] 26)) (w.heap.size + 1) 26 #[.slice none 0 0] := blk_at (by simp)
  have HO1 := Lib.hid (HO.out.below b0)
  have x0 := kb.cell 0
  simp at x0
  by_cases hb : manB d = true
  case neg =>
    have hb : manB d = false := by simpa using hb
    have h2 := rc_no hb
    obtain rfl := h2.1.symm.trans HC.out
    obtain rfl := h2.2.symm.trans HR.out
    simp only [hb] at HI
    clear hb h2 HC HR
    go_enter Tryz.func6, Tryz.ntmps6
    go_wp2_with fail
    refine (HI.out _ HO1.out).mono ?_
    have z0 := b0.size
    rintro e w1 ⟨rfl, b1⟩
    have B1 := b0.trans (b1.mono z0)
    have kr1 := kr.belowS b1
    clear x0 b1 kb kr HO1 b0 z0
    have x2 := kr1.cell 0
    have f2 := kr1.frozen 0
    simp at x2
    go_wp2
    exact bodyPost_ret (v := .tuple #[.agg #[.slice none 0 0], .int .i64 1]) (by simp [results, Tryz.f6, go_sem, x2]) rfl ⟨_, rfl, own_nilMx, B1.setCell (by simp) _⟩
  case pos =>
    have hM := manB_iff.1 hb
    have hpts := man_pts hM
    have hn5 := hM.n5
    have hn1 := hM.n1
    have hf2 := hM.f2
    have hf4 := hM.f4
    simp only [hb] at HI
    obtain ⟨N, hN⟩ : ∃ N, (lget d 0).length = N := ⟨_, rfl⟩
    rw [hN] at hpts hf2 hf4
    have HN := Lib.hid hN
    have HP := Lib.hid hpts
    have HB := Lib.hid hb
    clear hM hb hpts hN
    go_enter Tryz.func6, Tryz.ntmps6
    go_wp2_with fail
    refine (HI.out _ HO1.out).mono ?_
    have z0 := b0.size
    rintro e w1 ⟨rfl, b1⟩
    have B1 := Lib.hid (b0.trans (b1.mono z0))
    have kr1 := kr.belowS b1
    have kb1 := kb.belowS b1
    have IS1 := Lib.hid (HIS.out.below B1.out)
    clear x0 b1 kb kr HO1 b0 z0 HI HO
    have S0 := Lib.hid (show ∀ w', Below w1.heap.size w1 w' → (Below w1.heap.size w1 w' ∧ w'.cell? ⟨w.heap.size, 0, none⟩ = some (.slice ao n c)) from fun w' hb => ⟨hb, by have := (kb1.belowS hb).cell 0; simpa using this⟩)
    have K0 := Lib.hid (S0.out w1.drew (below_drew1 w1))
    have kd1 := Lib.hid (kb1.drewN 1)
    go_upto_region 3 with fail
    go_region_held3 (fun w' => Below w1.heap.size w1 w' ∧ w'.cell? ⟨w.heap.size, 0, none⟩ = some (.slice ao n c)) (first | exact K0.out | exact K6.out) (first | (go_at_call 22; refine (flagsI_any _ ao n c N d _ kd1.out ⟨ao, n, c, rfl, IS1.out.below (below_drew1 w1)⟩ (by omega) HN.out (by omega)).mono ?_; rintro e w5 ⟨rfl, hw⟩; subst hw) | (go_at_call 21; refine (grpI_any N n c ao d _ (by omega) hf4 (IS1.out.below (below_drew1 w1)) HP.out (by omega) (HT.out.below (below_tr (below_drew1 w1) B1.out))).mono ?_; rintro e w6 hg; obtain ⟨ga, gm, gc, us6, ss, rfl, hg1, hg2, b6⟩ := hg; have B6 : Below w1.heap.size w1 w6 := below_tr b6 (below_drew1 w1); have K6 := Lib.hid (S0.out w6 B6)))
    have x6 := (kr1.belowS B6).cell 0
    have f6 := (kr1.belowS B6).frozen 0
    have KR6 := Lib.hid (kr1.belowS B6)
    have KB6 := Lib.hid (kb1.belowS B6)
    have hb6 := Lib.hid (B1.out.trans (B6.mono B1.out.size))
    have IS6 := Lib.hid (IS1.out.below B6)
    have hz6 := B6.size
    have hz1 := B1.out.size
    have hr1 := kr1.lt
    have xm6 := KB6.out.cell 0
    simp at x6 xm6
    clear B6 K6 K0 S0 IS1 kr1 kb1 B1 kd1
    cases hG : grpE d N with
    | none =>
      have h2 := rc_none HB.out (by rw [HN.out]; exact hG)
      obtain rfl := h2.1.symm.trans HC.out
      obtain rfl := h2.2.symm.trans HR.out
      obtain ⟨rfl, rfl, rfl⟩ := hg1 hG
      clear h2 HC HR hg1 hg2 hG b6
      go_wp2_with fail
      exact bodyPost_ret (v := .tuple #[.agg #[.slice none 0 0], .int .i64 3]) (by simp [results, Tryz.f6, go_sem, x6]) rfl ⟨_, rfl, own_nilMx, hb6.out.setCell (by simp) _⟩
    | some es =>
      obtain ⟨hasc, hmem, hss⟩ := hg2 es hG
      obtain ⟨hnd, hcl, -⟩ := grpE_ok hG
      have hse := asc_srt hnd hasc hmem
      have hsl := (srtE_ok hnd).2.2
      rw [← hse] at hsl
      have hgl := hss.len
      have hpt6 : ∀ z ∈ es, Pts N z := grpE_pts HP.out hG
      by_cases hbig : es.length ≤ 400
      case neg =>
        have h2 := rc_big HB.out (by rw [HN.out]; exact hG) hbig
        obtain rfl := h2.1.symm.trans HC.out
        obtain rfl := h2.2.symm.trans HR.out
        have hd : decide ((400 : Int) < (gm : Int)) = true := by simp; omega
        clear h2 HC HR hg1 hg2 hG b6 hcl hnd hasc hmem hse
        go_wp2_with fail
        exact bodyPost_ret (v := .tuple #[.agg #[.slice none 0 0], .int .i64 3]) (by simp [results, Tryz.f6, go_sem, x6]) rfl ⟨_, rfl, own_nilMx, hb6.out.setCell (by simp) _⟩
      case pos =>
        have h2 := rc_yes HB.out (by rw [HN.out]; exact hG) hbig
        rw [← hse] at h2
        obtain rfl := h2.1.symm.trans HC.out
        obtain rfl := h2.2.symm.trans HR.out
        have hd : decide ((400 : Int) < (gm : Int)) = false := by simp; omega
        have HASC := Lib.hid hasc
        have HSP := Lib.hid (show ∀ z ∈ ss, Pts N z from fun z hz => hpt6 z ((hmem z).1 hz))
        have HCL := Lib.hid (show ∀ i k, i < ss.length → k < d.length → thenL (lget ss i) (lget d k) ∈ ss from fun i k hi hk => by
          have h1 := (hmem _).1 (lget_mem hi)
          obtain ⟨j, hj, ej⟩ := List.getElem_of_mem h1
          have := hcl j k hj hk
          rw [lget_lt hj, ej] at this
          exact (hmem _).2 this)
        have GS6 := Lib.hid hss.intss
        clear h2 HC HR hg1 hg2 hG b6 hcl hnd hasc hmem hse hpt6 hss
        go_wp2_with fail
        refine (cayley_any ga ao gm gc n c N ss d w6 GS6.out IS6.out (by omega) (by omega) (by omega) hf4 HASC.out HSP.out HP.out HCL.out (HT.out.below hb6.out)).mono ?_
        rintro e w9 ⟨r9, rfl, o9, b9⟩
        have KR9 := Lib.hid (KR6.out.belowS b9)
        have x9 := KR9.out.cell 0
        have f9 := KR9.out.frozen 0
        have BF := Lib.hid (hb6.out.trans (b9.mono hb6.out.size))
        obtain ⟨a9, n9, c9, us9, rfl, or9⟩ := o9
        have OR9 := Lib.hid or9
        simp at x9
        clear b9 or9
        go_wp2
        have hzz : (w9.setCell ⟨w.heap.size + 1, 0, none⟩ (.slice a9 n9 c9)).heap.size = w9.heap.size := by simp [World.setCell]
        exact bodyPost_ret (v := .tuple #[.agg #[.slice a9 n9 c9], .int .i64 0]) (by simp [results, Tryz.f6, go_sem, x9]) rfl ⟨_, rfl, ⟨a9, n9, c9, us9, rfl, by rw [hzz]; exact (OR9.out.same (innerS _) fun g h1 _ _ => Below.heap_setCell _ _ _ _ (by simp; omega)).mono (by omega) (Nat.le_refl _)⟩, BF.out.setCell (by simp) _⟩
end Go.Proofs.YtmdhljleaijkbaaGreatDoor

/- Coset enumeration: l11Find. -/
namespace Go.Proofs.YtmdhljleaijkbaaGreatDoor
open Go.RowKit

end Go.Proofs.YtmdhljleaijkbaaGreatDoor

/- Coset enumeration: l11Define. -/
namespace Go.Proofs.YtmdhljleaijkbaaGreatDoor
open Go.RowKit

end Go.Proofs.YtmdhljleaijkbaaGreatDoor

/- The laws' helpers on lists of words: likeInts, same9, run9. -/
namespace Go.Proofs.YtmdhljleaijkbaaGreatDoor
open Go.RowKit

set_option maxHeartbeats 400000 in
theorem likeInts_any (a b : Option Addr) (n ca cb : Nat) (zs : List Int) (w : World) (ha : Ints w a n zs) (hb : Ints w b n zs) :
    Calls Tryz.prog 57 #[.slice a n ca, .slice b n cb] w fun e w' => e = .returned (.bool true) ∧ ∃ m, w' = w.drewN m := by
  have hla := ha.2.1
  have hl' : ((n : Int) != (n:Int)) = false := by simp
  go_enter Tryz.func57, Tryz.ntmps57
  go_wp2
  go_loopw [5] (fun i wr => ∃ k : Nat, k ≤ n ∧ i = .int .i64 k ∧ ∃ m, wr = w.drewN m) (fun i _ => n - (intOf i).toNat)
  case atStart => exact ⟨0, Nat.zero_le _, rfl, 0, rfl⟩
  case round =>
    obtain ⟨k, hk, rfl, m, rfl⟩ := hrel
    by_cases hlt : k < n
    · obtain ⟨ba, oa, rfl, hca⟩ := ha.at_ hlt
      obtain ⟨bb, ob, rfl, hcb⟩ := hb.at_ hlt
      have he' : (iget zs k != iget zs k) = false := by simp
      go_wp2_with fail
      go_quiet (fail)
      go_wp2
      go_roundw
      case rel => exact ⟨k + 1, by omega, by go_num, _, rfl⟩
      case measure => first | (simp [intOf]; done) | (simp [intOf]; omega)
    · obtain rfl : k = n := by omega
      go_wp2
      go_ret
      exact ⟨rfl, _, rfl⟩
end Go.Proofs.YtmdhljleaijkbaaGreatDoor

/- Laws' helpers: likeRows5, like5, flags5. -/
namespace Go.Proofs.YtmdhljleaijkbaaGreatDoor
open Go.RowKit

set_option maxHeartbeats 1600000 in
theorem likeRows5_any {v v' : Value} {zss : List (List Int)} (w : World) (h : RdSS w v zss) (h' : RdSS w v' zss) :
    Calls Tryz.prog 29 #[v, v'] w fun e w' => e = .returned (.bool true) ∧ Below w.heap.size w w' := by
  obtain ⟨ao, n, c, rfl, hi⟩ := h
  obtain ⟨ao', n', c', rfl, hi'⟩ := h'
  obtain rfl : n = n' := by rw [← hi.1, ← hi'.1]
  have hbd := hi.2.1
  have hl' : ((n : Int) != (n:Int)) = false := by simp
  go_enter Tryz.func29, Tryz.ntmps29
  go_wp2
  go_loopw [5] (fun i wr => ∃ k : Nat, k ≤ n ∧ i = .int .i64 k ∧ Below w.heap.size w wr) (fun i _ => n - (intOf i).toNat)
  case atStart => exact ⟨0, Nat.zero_le _, rfl, Below.refl _ _⟩
  case round =>
    obtain ⟨k, hk, rfl, hb⟩ := hrel
    by_cases hlt : k < n
    · obtain ⟨b1, o1, a1, n1, c1, rfl, hc1, hin1⟩ := (hi.below hb).at_ hlt
      obtain ⟨b2, o2, a2, n2, c2, rfl, hc2, hin2⟩ := (hi'.below hb).at_ hlt
      obtain rfl : n1 = n2 := by rw [← hin1.1, ← hin2.1]
      have HH := Lib.hid hi
      have HH' := Lib.hid hi'
      clear hi hi'
      go_wp2_with fail
      go_quiet ((go_at_call 57; exact Calls.quiet_of (likeInts_any a1 a2 n1 c1 c2 (lget zss k) _ (hin1.drewN _) (hin2.drewN _))))
      go_wp2
      go_roundw
      case rel => exact ⟨k + 1, by omega, by go_num, below_drewN hb _⟩
      case measure => first | (simp [intOf]; done) | (simp [intOf]; omega)
    · obtain rfl : k = n := by omega
      go_wp2
      go_ret
      exact ⟨rfl, hb⟩
theorem like5_any {a a' : Option Addr} {n n' c c' : Nat} {zss : List (List Int)} (w : World) (h : RdSS w (.slice a n c) zss) (h' : RdSS w (.slice a' n' c') zss) :
    Calls Tryz.prog 8 #[.agg #[.slice a n c], .agg #[.slice a' n' c']] w fun e w' => e = .returned (.bool true) ∧ Below w.heap.size w w' := by
  have b2 := below_alloc2 w (.cells #[.slice a n c] 26) (.cells #[.slice a' n' c'] 26)
  have x1 := ((blk_at rfl : Blk (w.alloc (.cells #[.slice a n c] 26)) w.heap.size 26 #[.slice a n c]).alloc (.cells #[.slice a' n' c'] 26)).cell 0
  have H1 := Lib.hid (h.below b2)
  have H2 := Lib.hid (h'.below b2)
  clear h h'
  go_enter Tryz.func8, Tryz.ntmps8
  go_wp2_with (go_at_call 29; refine (likeRows5_any _ H1.out H2.out).mono ?_; rintro e w3 ⟨rfl, b3⟩)
  go_ret
  exact ⟨rfl, b2.trans (b3.mono b2.size)⟩
theorem flags5_any {a : Option Addr} {n c m : Nat} {zss : List (List Int)} (w : World) (h : RdSS w (.slice a n c) zss) (hn : 0 < n) (hm : (lget zss 0).length = m) :
    Calls Tryz.prog 10 #[.agg #[.slice a n c]] w fun e w' => e = .returned (.int .i64 m) ∧ Below w.heap.size w w' := by
  obtain ⟨ao', n', c', e, hi⟩ := h
  injection e with e1 e2 e3
  subst e1 e2 e3
  have b1 := below_alloc1 w (.cells #[.slice a n c] 26)
  have x1 := (blk_at rfl : Blk (w.alloc (.cells #[.slice a n c] 26)) w.heap.size 26 #[.slice a n c]).cell 0
  obtain ⟨b, off, a1, n1, c1, rfl, hc, hin⟩ := (hi.below b1).at_ hn
  obtain rfl : n1 = m := by rw [← hm, ← hin.1]
  simp at hc x1
  clear hi hin hm
  go_enter Tryz.func10, Tryz.ntmps10
  go_wp2_with fail
  go_ret
  exact ⟨rfl, b1⟩
end Go.Proofs.YtmdhljleaijkbaaGreatDoor

/- The laws' helpers on words and codes: times9, big. -/
namespace Go.Proofs.YtmdhljleaijkbaaGreatDoor
open Go.RowKit

theorem big_any (ao : Option Addr) (n c : Nat) (w : World) : Calls Tryz.prog 4 #[.slice ao n c] w fun e w' => e = .returned (.bool (decide (4096 < n))) ∧ w' = w := by
  by_cases h : 4096 < n
  · have e0 : decide ((4096 : Int) < n) = true := by simp; omega
    go_enter Tryz.func4, Tryz.ntmps4
    go_wp2
    go_ret
    exact ⟨by simp [h], rfl⟩
  · have e0 : decide ((4096 : Int) < n) = false := by simp; omega
    go_enter Tryz.func4, Tryz.ntmps4
    go_wp2
    go_ret
    exact ⟨by simp [h], rfl⟩
end Go.Proofs.YtmdhljleaijkbaaGreatDoor

/- The walk of FnRegularCovers: true, whatever the draw. guards: -/
namespace Go.Proofs.YtmdhljleaijkbaaGreatDoor
open Go.RowKit

set_option maxHeartbeats 800000 in
theorem isMan_any (ao : Option Addr) (n c : Nat) (d : List (List Int)) (w : World) (h : RdSSc w (.slice ao n c) d) (hM : Man d) :
    Calls Tryz.prog 11 #[.agg #[.slice ao n c]] w fun e w' => e = .returned (.bool true) ∧ Below w.heap.size w w' := by
  have HI := Lib.hid (fun (w : World) (h : RdSSc w (.slice ao n c) d) => implManC h (man_few hM))
  rw [manB_yes hM] at HI
  have b0 := below_alloc1 w (.cells #[.slice ao n c] 26)
  have km : Blk (w.alloc (.cells #[.slice ao n c] 26)) w.heap.size 26 #[.slice ao n c] := blk_at rfl
  have HD := Lib.hid (h.below b0)
  have HB := Lib.hid b0
  have hz0 := b0.size
  have x0 := km.cell 0
  simp at x0
  clear h hM b0 km
  go_enter Tryz.func11, Tryz.ntmps11
  go_wp2_with fail
  generalize w.alloc (.cells #[.slice ao n c] 26) = w0 at *
  refine (HI.out _ HD.out).mono ?_
  rintro e w1 ⟨rfl, b1⟩
  have B1 := Lib.hid (HB.out.trans (b1.mono hz0))
  clear b1 x0
  go_wp2_with fail
  exact bodyPost_ret (v := .bool true) (by simp [results, Tryz.f11, go_sem]) rfl ⟨rfl, B1.out⟩
/-- the boxes: the maniplex, its cover -/
structure RvS (w wr : World) (b3 b4 : Nat) (a : Option Addr) (n c : Nat) (d : List (List Int)) (a' : Option Addr) (n' c' : Nat) (e : List (List Int)) : Prop where
  k1 : Blk wr b3 26 #[.slice a n c]
  k2 : Blk wr b4 26 #[.slice a' n' c']
  r1 : RdSSc wr (.slice a n c) d
  r2 : RdSSc wr (.slice a' n' c') e
  bel : Below w.heap.size w wr
theorem RvS.next {w wr w2 : World} {b3 b4 n c n' c' : Nat} {a a' : Option Addr} {d e : List (List Int)} (h : RvS w wr b3 b4 a n c d a' n' c' e) (b : Below wr.heap.size wr w2) : RvS w w2 b3 b4 a n c d a' n' c' e :=
  ⟨h.k1.belowS b, h.k2.belowS b, h.r1.below b, h.r2.below b, below_tr b h.bel⟩
set_option maxRecDepth 100000 in
set_option maxHeartbeats 6400000 in
theorem walkRegularCovers {ao : Option Addr} {n c : Nat} (w : World) (h : Bts w ao n w.heap.size) (hT : PT w) :
    Calls Tryz.prog 3 #[.slice ao n c] w fun e w' => e = .returned (.bool true) ∧ Below w.heap.size w w' := by
  go_enter Tryz.func3, Tryz.ntmps3
  go_wp2_with fail
  refine (big_any ao n c w).mono ?_
  rintro e w1 ⟨rfl, hw1⟩
  obtain rfl : w = w1 := hw1.symm
  by_cases hbig : 4096 < n
  · go_wp2
    go_ret
    exact ⟨rfl, Below.refl _ _⟩
  · go_wp2_with fail
    refine (drawRc_any ao n c w h).mono ?_
    rintro r w2 ⟨a, n1, c1, d, rfl, r1, f1, b2⟩
    have kA := below_alloc1 w2 (.cells #[.slice a n1 c1] 26)
    have R1 := Lib.hid (r1.below kA)
    have K1 := Lib.hid (show Blk (w2.alloc (.cells #[.slice a n1 c1] 26)) w2.heap.size 26 #[.slice a n1 c1] from blk_at rfl)
    have B1 := Lib.hid (below_tr kA b2)
    have HB := Lib.hid h
    have HT := Lib.hid hT
    have F1 := Lib.hid f1
    have hz2 := b2.size
    clear kA r1 b2 f1 h hT
    go_upto_region 4 with fail
    generalize w2.alloc (.cells #[.slice a n1 c1] 26) = w3 at *
    obtain ⟨b3, hb3⟩ : ∃ b3, w2.heap.size = b3 := ⟨_, rfl⟩
    rw [hb3] at K1 hz2 ⊢
    clear hb3
    have x3 := K1.out.cell 0
    simp at x3
    obtain ⟨C, hC⟩ : ∃ C, rcC d = C := ⟨_, rfl⟩
    obtain ⟨R, hR⟩ : ∃ R, rcR d = R := ⟨_, rfl⟩
    go_wp2_with fail
    refine (api_implRcC a n1 c1 d w3 R1.out F1.out (HT.out.below B1.out)).mono ?_
    rw [hC, hR]
    rintro r w4 ⟨v4, rfl, o4, b4⟩
    obtain ⟨a4, n4, c4, rfl⟩ := o4.form
    have kA := below_alloc1 w4 (.cells #[.slice a4 n4 c4] 26)
    have S4 := Lib.hid (show RvS w (w4.alloc (.cells #[.slice a4 n4 c4] 26)) b3 w4.heap.size a n1 c1 d a4 n4 c4 R from ⟨(K1.out.belowS b4).alloc _, blk_at rfl, (R1.out.below b4).below kA, o4.rdcM.1.below kA, below_tr kA (below_tr b4 B1.out)⟩)
    have hn4 := o4.rdcM.2
    clear kA o4 b4 K1 R1 B1 x3
    go_upto_region 5 with fail
    generalize w4.alloc (.cells #[.slice a4 n4 c4] 26) = w5 at *
    generalize w4.heap.size = b4 at *
    have x5 := S4.out.k1.cell 0
    simp at x5
    go_wp2_with fail
    refine (api_specRcC a n1 c1 d w5 S4.out.r1 F1.out).mono ?_
    rw [hC, hR]
    rintro r w6 ⟨v6, rfl, o6, b6⟩
    obtain ⟨a6, n6, c6, rfl⟩ := o6.form
    have kA := below_alloc1 w6 (.cells #[.slice a6 n6 c6] 26)
    have S6 := Lib.hid ((S4.out.next b6).next kA)
    have K6 := Lib.hid (show Blk (w6.alloc (.cells #[.slice a6 n6 c6] 26)) w6.heap.size 26 #[.slice a6 n6 c6] from blk_at rfl)
    have R6 := Lib.hid (o6.rdcM.1.below kA)
    clear kA o6 b6 S4 x5
    go_upto_region 6 with fail
    generalize w6.alloc (.cells #[.slice a6 n6 c6] 26) = w7 at *
    have x7 := S6.out.k2.cell 0
    have y7 := K6.out.cell 0
    simp at x7 y7
    go_wp2_with fail
    refine (like5_any w7 S6.out.r2.rd R6.out.rd).mono ?_
    rintro r w8 ⟨rfl, b8⟩
    have S8 := Lib.hid (S6.out.next b8)
    clear b8 K6 R6 S6 x7 y7
    have x8 := S8.out.k1.cell 0
    simp at x8
    obtain ⟨M, hM⟩ : ∃ M, moN d = M := ⟨_, rfl⟩
    obtain ⟨C', hC'⟩ : ∃ C', moC d = C' := ⟨_, rfl⟩
    go_wp2_with fail
    refine (api_implMo a n1 c1 d w8 S8.out.r1 F1.out (HT.out.below S8.out.bel)).mono ?_
    rw [hM, hC']
    rintro r w9 ⟨rfl, b9⟩
    have S9 := Lib.hid (S8.out.next b9)
    have BF := Lib.hid S9.out.bel
    clear b9 S8 x8
    by_cases hman : manB d = true
    case neg =>
      have hb : manB d = false := by simpa using hman
      obtain rfl : C = 1 := by rw [← hC]; exact (rc_no hb).1
      obtain rfl : C' = 1 := by rw [← hC']; exact (mo_no hb).1
      clear hC hR hM hC' hman hb
      go_wp2_with fail
      exact bodyPost_ret (v := .bool true) (by simp [results, Tryz.f3, go_sem]) rfl ⟨rfl, BF.out⟩
    case pos =>
      cases hG : grpE d (flg d) with
      | none =>
        obtain rfl : C = 3 := by rw [← hC]; exact (rc_none hman hG).1
        obtain rfl : C' = 3 := by rw [← hC']; exact (mo_none hman hG).1
        clear hC hR hM hC' hman hG
        go_wp2_with fail
        exact bodyPost_ret (v := .bool true) (by simp [results, Tryz.f3, go_sem]) rfl ⟨rfl, BF.out⟩
      | some es =>
        obtain rfl : C' = 0 := by rw [← hC']; exact (mo_yes hman hG).1
        have hMe : M = es.length := by rw [← hM]; exact (mo_yes hman hG).2
        by_cases hfew : es.length ≤ 400
        case neg =>
          obtain rfl : C = 3 := by rw [← hC]; exact (rc_big hman hG hfew).1
          have hbg : (400 : Int) < (M : Int) := by omega
          clear hC hR hM hC' hman hG hMe
          go_wp2_with fail
          exact bodyPost_ret (v := .bool true) (by simp [results, Tryz.f3, go_sem]) rfl ⟨rfl, BF.out⟩
        case pos =>
          have hd := manB_iff.1 hman
          obtain ⟨ss, hss⟩ : ∃ ss, srtE es = ss := ⟨_, rfl⟩
          have hRe : R = cayL d ss := by rw [← hR, ← hss]; exact (rc_yes hman hG hfew).2
          obtain rfl : C = 0 := by rw [← hC]; exact (rc_yes hman hG hfew).1
          have GR := Lib.hid (grp_of hd hG hss.symm hfew)
          have hsl : es.length = ss.length := by rw [← hss]; exact (srtE_ok (grpE_ok hG).1).2.2.symm
          have hMs : M = ss.length := by omega
          clear hC hR hM hC' hman hG hMe hfew hss hsl
          subst hRe hMs
          obtain ⟨N, hN⟩ : ∃ N, flg d = N := ⟨_, rfl⟩
          obtain ⟨K, hK⟩ : ∃ K, ss.length = K := ⟨_, rfl⟩
          obtain ⟨Q, hQ⟩ : ∃ Q, cayL d ss = Q := ⟨_, rfl⟩
          have hQm : Man Q := by rw [← hQ]; exact GR.out.cay_man
          have hQf : flg Q = K := by rw [← hQ, ← hK]; exact GR.out.flg_
          have hQl : Q.length = d.length := by rw [← hQ]; exact cay_len
          have hir : irR Q = true := by unfold irR; rw [manB_yes hQm, if_pos rfl, ← hQ]; exact decide_eq_true GR.out.reg
          have hic : irC Q = 0 := by unfold irC; rw [manB_yes hQm, if_pos rfl]
          obtain ⟨r0, hr0, hr00⟩ := GR.out.cov0
          rw [hQ] at hr0 S9 hn4
          rw [hK]
          obtain ⟨hac1, -, hac3⟩ := cc_ok (manB_yes hQm) (manB_yes hd)
          have hac : acR Q d = true := by rw [hac3]; exact decide_eq_true (List.length_pos_of_mem ((mem_cvs hQm hQl).2 hr0))
          have hirm : irR d = decide (N = K) := by
            unfold irR; rw [manB_yes hd, if_pos rfl, ← hN, ← hK]
            by_cases q : flg d = ss.length
            · rw [decide_eq_true q]; exact decide_eq_true (GR.out.own.2 q)
            · rw [decide_eq_false q]; exact decide_eq_false fun q' => q (GR.out.own.1 q')
          have hicm : irC d = 0 := by unfold irC; rw [manB_yes hd, if_pos rfl]
          have hd1 := hd.n1
          have hd5 := hd.n5
          have hdl := S9.out.r1.intss.1
          have hn41 : n4 = n1 := by omega
          subst hn41
          have hl0 : (lget d 0).length = N := hN
          have hk0 : (lget Q 0).length = K := hQf
          have HMD := Lib.hid hd
          have HMQ := Lib.hid hQm
          have HN := Lib.hid hN
          have HK := Lib.hid hK
          have HQ := Lib.hid hQ
          have HQF := Lib.hid hQf
          have HQL := Lib.hid hQl
          have HIR := Lib.hid (And.intro hir (And.intro hic (And.intro hac (And.intro hac1 (And.intro hirm hicm)))))
          have HR0 := Lib.hid (And.intro hr0 hr00)
          clear hd hQm hN hK hQ hQf hQl hir hic hr0 hr00 hac hac1 hac3 hirm hicm hn4
          have y9 := S9.out.k2.cell 0
          simp at y9
          go_wp2_with fail
          refine (flags5_any w9 S9.out.r2.rd (by omega) hk0).mono ?_
          rintro r w10 ⟨rfl, b10⟩
          have S10 := Lib.hid (S9.out.next b10)
          have y10 := S10.out.k2.cell 0
          simp at y10
          clear b10 S9 y9
          go_wp2_with fail
          refine (isMan_any a4 n4 c4 Q w10 S10.out.r2 HMQ.out).mono ?_
          rintro r w11 ⟨rfl, b11⟩
          have S11 := Lib.hid (S10.out.next b11)
          have y11 := S11.out.k2.cell 0
          simp at y11
          clear b11 S10 y10
          go_wp2_with fail
          refine (api_implIr a4 n4 c4 Q w11 S11.out.r2 (man_few HMQ.out)).mono ?_
          rw [HIR.out.1, HIR.out.2.1]
          rintro r w12 ⟨rfl, b12⟩
          have S12 := Lib.hid (S11.out.next b12)
          have x12 := S12.out.k1.cell 0
          have y12 := S12.out.k2.cell 0
          simp at x12 y12
          clear b12 S11 y11
          go_wp2_with fail
          refine (api_implAc a4 a n4 c4 n4 c1 Q d w12 S12.out.r2 S12.out.r1 (man_few HMQ.out) F1.out).mono ?_
          rw [HIR.out.2.2.1, HIR.out.2.2.2.1]
          rintro r w13 ⟨rfl, b13⟩
          have S13 := Lib.hid (S12.out.next b13)
          clear b13 S12 x12 y12
          go_upto_region 17 with fail
          have h1n : 1 ≤ n4 := by omega
          have h5n : n4 ≤ 5 := by omega
          have TA := Lib.hid (HB.out.upS S13.out.bel)
          have S0 := Lib.hid (show ∀ w', Below w13.heap.size w13 w' → (w'.cell? ⟨b3, 0, none⟩ = some (.slice a n4 c1) ∧ w'.cell? ⟨b4, 0, none⟩ = some (.slice a4 n4 c4)) from fun w' hb => ⟨by have := (S13.out.next hb).k1.cell 0; simpa using this, by have := (S13.out.next hb).k2.cell 0; simpa using this⟩)
          have K0 := Lib.hid (S0.out w13.drew (below_drew1 w13))
          have TD := Lib.hid (TA.out.upS (below_drew1 w13))
          go_region_held3 (fun w' => w'.cell? ⟨b3, 0, none⟩ = some (.slice a n4 c1) ∧ w'.cell? ⟨b4, 0, none⟩ = some (.slice a4 n4 c4)) (first | exact K0.out | exact K5.out | exact K6.out) (first
            | (go_at_call 14; refine (word5_any w13.heap.size n4 wC s5 z5 h1n h5n).mono ?_; rintro r wD ⟨lo, m, lc, p, rfl, ip, wb, o6⟩; have B6 : Below w13.heap.size w13 wD := B5.trans (o6.below (Nat.le_refl _) (Nat.le_of_lt z5)); have K6 := Lib.hid (S0.out wD B6))
            | (go_at_call 15; refine (roll714_any ao n c w13.drew TD.out).mono ?_; rintro r wC ⟨rfl, s5, z5, b5⟩; have B5 : Below w13.heap.size w13 wC := below_tr b5 (below_drew1 w13); have K5 := Lib.hid (S0.out wC B5)))
          all_goals
            have SD := Lib.hid (S13.out.next B6)
            have IP := Lib.hid ip
            have WB := Lib.hid wb
            clear S13 S0 K0 K5 K6 TA TD ip wb o6 B6 s5 z5 b5 B5
            have hpd : ∀ x ∈ p, 0 ≤ x ∧ x < d.length := fun x hx => by rw [hdl]; exact WB.out.2 x hx
            obtain ⟨k0, hk1, hk2, hk3, hk4⟩ := GR.out.some_k hpd
            rw [HK.out, HQ.out] at hk4
            rw [HN.out] at hk3
            have HE1 := Lib.hid (show ∃ k, 0 < k ∧ k ≤ 1000000 ∧ ∀ x, x < N → itr (doL d N p) k x = x from ⟨k0, hk1, hk2, hk3⟩)
            have HE2 := Lib.hid (show ∃ k, 0 < k ∧ k ≤ 1000000 ∧ ∀ x, x < K → itr (doL Q K p) k x = x from ⟨k0, hk1, hk2, hk4⟩)
            have HIF := Lib.hid (show ∀ k, (∀ x, x < N → itr (doL d N p) k x = x) ↔ ∀ i, i < K → itr (doL Q K p) k i = i from fun k => by
              have := GR.out.itr_iff hpd k
              rw [HK.out, HQ.out, HN.out] at this
              exact this)
            clear hk1 hk2 hk3 hk4 hpd
            have xD := SD.out.k1.cell 0
            simp at xD
            go_wp2_with fail
            refine (wordPeriod_any a lo n4 c1 m lc N d p wD SD.out.r1 HMD.out HN.out IP.out WB.out HE1.out).mono ?_
            rintro r wE ⟨q1, rfl, hq1, bE⟩
            have SE := Lib.hid (SD.out.next bE)
            have IE := Lib.hid (IP.out.below bE)
            have HQ1 := Lib.hid hq1
            have yE := SE.out.k2.cell 0
            simp at yE
            clear bE SD IP xD hq1
            go_wp2_with fail
            refine (wordPeriod_any a4 lo n4 c4 m lc K Q p wE SE.out.r2 HMQ.out HQF.out IE.out WB.out HE2.out).mono ?_
            rintro r wF ⟨q2, rfl, hq2, bF⟩
            have hqq : q1 = q2 := ord_uniq HQ1.out hq2 HIF.out
            have SF := Lib.hid (SE.out.next bF)
            have xF := SF.out.k1.cell 0
            have yF := SF.out.k2.cell 0
            simp at xF yF
            subst hqq
            clear bF SE IE yE hq2 HQ1 HE1 HE2 HIF
            go_wp2_with fail
            refine (mixA_any a4 a n4 c4 c1 K N Q d r0 wF SF.out.r2 SF.out.r1 HMQ.out HMD.out HQL.out HQF.out HN.out HR0.out.1 HR0.out.2).mono ?_
            rintro r wG ⟨ax, cx, X, rfl, hX, hXl, bG⟩
            have kA := below_alloc1 wG (.cells #[.slice ax n4 cx] 26)
            have SH := Lib.hid ((SF.out.next bG).next kA)
            have KX := Lib.hid (show Blk (wG.alloc (.cells #[.slice ax n4 cx] 26)) wG.heap.size 26 #[.slice ax n4 cx] from blk_at rfl)
            have RX := Lib.hid (hX.below kA)
            have HXL := Lib.hid hXl
            clear bG kA SF xF yF hX hXl
            go_upto_region 21 with fail
            generalize wG.alloc (.cells #[.slice ax n4 cx] 26) = wH at *
            generalize wG.heap.size = bx at *
            have xH := SH.out.k1.cell 0
            simp at xH
            go_wp2_with fail
            refine (api_implIr a n4 c1 d wH SH.out.r1 F1.out).mono ?_
            obtain ⟨B, hB⟩ : ∃ B, decide (N = K) = B := ⟨_, rfl⟩
            have hBB : (B == ((N : Int) == (K : Int))) = true := by
              rw [← hB]
              by_cases q : N = K
              · simp [q]
              · have : ¬ (N : Int) = (K : Int) := by omega
                simp [q, this]
            rw [HIR.out.2.2.2.2.1, HIR.out.2.2.2.2.2, hB]
            clear hB
            rintro r wI ⟨rfl, bI⟩
            have SI := Lib.hid (SH.out.next bI)
            have KI := Lib.hid (KX.out.belowS bI)
            have RI := Lib.hid (RX.out.below bI)
            clear bI SH KX RX xH
            go_upto_region 24 with fail
            have hqq : ((q1 : Int) == (q1 : Int)) = true := by simp
            have hKK : ((K : Int) == (K : Int)) = true := by simp
            (refine wp_region_calm (by kernel_rfl) (by kernel_rfl) ?_; (repeat (first | go_big_quiet_skip | (go_big_quiet_want; first | (go_big_quiet_op; go_big_quiet_on) | (apply quiet_val; (· (intro _ hw; have y0 := (SI.out.next hw).k1.cell 0; have y1 := (SI.out.next hw).k2.cell 0; have y2 := (KI.out.belowS hw).cell 0; simp at y0 y1 y2; go_simp; exact rfl)); go_simp; go_big_quiet_on) | (apply quiet_call; (· (intro _ _; go_simp; exact ⟨rfl, rfl⟩)); (· (intro _ hw; go_at_call 10; have hx := flags5_any _ (SI.out.next hw).r1.rd (by omega) hl0; have hy := flags5_any _ (SI.out.next hw).r2.rd (by omega) hk0; have hz := flags5_any _ (RI.out.below hw).rd (by omega) HXL.out; (first | (with_reducible refine hx.mono ?_; rintro e w' ⟨rfl, b⟩; exact ⟨rfl, below_tr b hw⟩) | (with_reducible refine hy.mono ?_; rintro e w' ⟨rfl, b⟩; exact ⟨rfl, below_tr b hw⟩) | (with_reducible refine hz.mono ?_; rintro e w' ⟨rfl, b⟩; exact ⟨rfl, below_tr b hw⟩)))); go_simp; go_big_quiet_on)))); refine wpQuiet_nil ?_; intro wq bq)
            have BE := Lib.hid (below_tr bq SI.out.bel)
            clear SI KI RI bq
            go_wp2_with fail
            exact bodyPost_ret (v := .bool true) (by simp [results, Tryz.f3, go_sem]) rfl ⟨rfl, BE.out⟩
end Go.Proofs.YtmdhljleaijkbaaGreatDoor

/- Cards: what a listed table holds, out of the row's condition; the row's frame with the world's shape at hand. -/
namespace Go.Proofs.YtmdhljleaijkbaaGreatDoor
open Go.ChangeShapes Go.WideShapes Go.ChangeAt Go.RowKit Go.WideElems

/-- an array of integers, told as data -/
theorem open_nums {H : Type} {enc : TypeId × Value → H} {P : Program} {W : World} {base f : Nat} {sp : Nat → Bool} {held : Bool} {t e : TypeId} {n : Nat} {q : IntKind} {cs : List Value} {zs : List Int} {p : List MemPlace} (ht : P.underlying t = some (.array n e)) (he : P.underlying e = some (.int q)) (hc : P.cellsOf e = 1)
    (hd : DataW.trod enc P W base sp held f t cs = some (.agg (zs.map fun z => .lit (.int q z)), p)) (ct : P.cellsOf t = n) (hzn : zs.length = n) : cs = zs.map (Value.int q) := by
  obtain ⟨xs, m, rfl, ex, hlen, hl, hel⟩ := DataW.trod_array ht hd
  rw [ct] at hlen
  have e3 : xs.map (·.1) = zs.map fun z => (DataW.lit (.int q z) : DataW H) := (DataW.agg.inj (Prod.mk.inj ex).1).symm
  refine List.ext_getElem? fun i => ?_
  by_cases hi : i < n
  · have hE := hel i hi
    rw [hc, Nat.mul_one, List.getElem?_eq_getElem (by omega)] at hE
    obtain ⟨z, e1, e2, _⟩ := DataW.trod_int he hE
    have e4 : (xs.map (·.1))[i]? = (zs.map fun z => (DataW.lit (.int q z) : DataW H))[i]? := by rw [e3]
    rw [List.getElem?_map, List.getElem?_map, List.getElem?_eq_getElem (by omega : i < xs.length), List.getElem?_eq_getElem (by omega : i < zs.length), e2] at e4
    have hz : z = zs[i] := by
      simpa using e4
    have h0 : ((cs.drop i).take 1)[0]? = some (.int q z) := by rw [e1]; rfl
    have h1 : cs[i]? = some (.int q z) := by simpa using h0
    rw [h1, List.getElem?_map, List.getElem?_eq_getElem (by omega : i < zs.length), hz]; rfl
  · rw [List.getElem?_eq_none (by omega), List.getElem?_eq_none (by rw [List.length_map]; omega)]
theorem pow_laid {H : Type} : (Rows.laid_internal_strconv_uint64pow10 : DataW H) = .agg (Lib.pow10Tab.map fun z => .lit (.int .u64 z)) := rfl
section
variable {H : Type} {enc : TypeId × Value → H}
/-- as returnsInHanded_of_change_and, the world's shape at hand -/
theorem returnsInHanded_shaped {a : Assume} {C : Checked} {os : Os} {f : FuncId} {fn : Func} {s : ChangeSpec} {conds : List PathCond} {apart fresh handsOn again : Bool} {X : World → Array Value → Prop}
    (hX : ∀ (w w' : World) (args : Array Value), w.heap = w'.heap → X w args → X w' args)
    (own : ownKnob C.prog.godebug = none) (started : os.Started) (noInit : C.prog.inits.idxOf? f = none) (hfn : C.prog.funcs[f]? = some fn)
    (witness : ∃ (w : World) (tape : Tape) (i : Input), w.os = os ∧ (w.forCall tape i).Shaped C.prog ∧ i.vars = [] ∧ Input.okWide C.prog (w.forCall tape i) .any w.heap.size f i ∧
      ((s.pre enc C.prog fn conds apart (w.forCall tape i).memory i.args ∧ X (w.forCall tape i).memory i.args) ∧ sizedMet enc C.prog fn (OpenSpec.ofChange s) apart (w.forCall tape i).memory i.args) ∧ a.holds C.prog (lone (Frame.enter C.prog f i.args .normal) [] (w.forCall tape i)))
    (contract : ∀ (W : World) (base : Nat) (args : Array Value) (ds gs : List (DataW H)) (before : List MemPlace),
      (∀ (j : Nat) t v, fn.params[j]? = some t → args[j]? = some v → Value.okWide C.prog W .any base t v) →
      DataW.Whole enc C.prog fn.params.toList s.vars apart W args.toList ds gs before →
      (DataW.weightsEach C.prog (fn.params.toList ++ s.plain.varTypes C.prog) (ds ++ gs)).all (· ≤ reachBytes) = true → X W args → W.ShapedOpen C.prog →
      Calls C.prog f args W fun e W' => ∃ v, e = .returned v ∧ s.post enc C.prog fn apart fresh handsOn again W args v W') :
    ReturnsInHanded a C os f .any (fun w args => (s.pre enc C.prog fn conds apart w args ∧ X w args) ∧ sizedMet enc C.prog fn (OpenSpec.ofChange s) apart w args) (s.post enc C.prog fn apart fresh handsOn again) := by
  refine returnsInHanded_of_calls own started noInit witness ?_
  intro w tape i _ hsh _ hok hpre _
  obtain ⟨_, _, _, fn', hfn', _, _, _, _, hval⟩ := hok
  have e : fn' = fn := Option.some.inj (hfn'.symm.trans hfn)
  subst e
  obtain ⟨⟨⟨ds, gs, before, hw, _⟩, hx⟩, hz⟩ := hpre
  have hw' := DataW.Whole.of_heap (w' := w.forCall tape i) (by rfl) hw
  refine (contract (w.forCall tape i) w.heap.size i.args ds gs before hval hw' (hz.weights hw) (hX _ _ _ (by rfl) hx) hsh).mono fun e W' ⟨v, he, hp⟩ => ?_
  subst he
  exact ChangeSpec.post_blind hp
end
end Go.Proofs.YtmdhljleaijkbaaGreatDoor

/- What the listed tables hold, out of the row's condition (FnRegularCovers). -/
namespace Go.Proofs.YtmdhljleaijkbaaGreatDoor
open Go.ChangeShapes Go.WideShapes Go.ChangeAt Go.RowKit Go.WideElems

theorem pt_of {W : World} (h : laidMetH Tryz.prog Rows.fnRegularCoversRow.laid W) : PT W := by
  rw [MakeChecks.laidMetH_plain _ _ _ (by kernel_rfl)] at h
  obtain ⟨ps, ⟨g0, t0, cs0, f0, p0, q0, hg0, ht0, hv0, hd0, ⟨g1, t1, cs1, f1, p1, q1, hg1, ht1, hv1, hd1, ⟨g2, t2, cs2, f2, p2, q2, hg2, ht2, hv2, hd2, -⟩, -⟩, -⟩, -⟩ := h
  obtain rfl := Option.some.inj ((show (Tryz.prog.globalNamed "internal/strconv.uint64pow10").bind (fun g => (Tryz.prog.globals[g]?).map (·.type)) = some 148 by kernel_rfl).symm.trans (by rw [hg2]; exact ht2))
  rw [pow_laid] at hd2
  have := open_nums Tryz.underlying148 Tryz.underlying42 (by kernel_rfl) hd2 (by kernel_rfl) (by kernel_rfl)
  unfold PT Lib.TabIs
  rw [hv2, ← this]
end Go.Proofs.YtmdhljleaijkbaaGreatDoor
