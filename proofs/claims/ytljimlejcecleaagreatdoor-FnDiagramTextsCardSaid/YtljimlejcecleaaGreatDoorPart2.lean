/- Draws of what mostly is a diagram, and of texts. -/
import Derived.Test.YtljimlejcecleaaGreatDoorPart1
import Derived.Deep.QuietTactic
namespace Go.Proofs.YtljimlejcecleaaGreatDoor
open Go.RowKit

/-- what a draw of labels leaves -/
def DrawnL (w : World) (sb : Nat) (e : Ending) (w' : World) : Prop := ∃ (ao : Option Addr) (n c : Nat) (zs : List Int), e = .returned (.slice ao n c) ∧ zs.length ≤ 7 ∧ Own w' w.heap.size 2 ao n c (zs.map (Value.int .i64)) ∧ Src w' sb ∧ Only sb (sb + 1) w w'
set_option maxHeartbeats 3200000 in
theorem drawAnyD_any (sb : Nat) (w : World) (h : Src w sb) (hsb : sb < w.heap.size) : Calls Tryz.prog 33 #[.pointer (some ⟨sb, 0, none⟩)] w (DrawnL w sb) := by
  go_enter Tryz.func33, Tryz.ntmps33
  go_wp2_with fail
  refine (drawDiag_any sb _ h hsb).mono ?_
  rintro e w1 ⟨ao, n, c, zs, rfl, hd, o1, s1, O1⟩
  have z1 := O1.size
  have hf := isDiag_few hd
  have hn : zs.length = n := by have := o1.len; simpa using this
  clear hd
  go_wp2_with fail
  refine (next_any sb _ _ s1 (by omega)).mono ?_
  rintro e w2 ⟨r, rfl, -, -, s2, o2⟩
  have O2 := O1.trans o2
  have z2 := O2.size
  have P2 := o1.onlyD o2 (by omega)
  have hol := P2.lt
  clear o1 s1 O1 o2
  by_cases h0 : r = 0
  · have e0 : ((r : Int) == 0) = true := by rw [h0]; rfl
    have iL : Ints (w2.alloc (.cells #[.int .i64 1, .int .i64 (-1), .int .i64 33] 2)) (some ⟨w2.heap.size, 0, none⟩) 3 [1, -1, 33] := ints_lit w2 [1, -1, 33] (by decide)
    have s4 : Src (w2.alloc (.cells #[.int .i64 1, .int .i64 (-1), .int .i64 33] 2)) sb := s2.farD fun g hg => Below.heap_alloc w2 _ g (by omega)
    have P4 := P2.alloc (.cells #[.int .i64 1, .int .i64 (-1), .int .i64 33] 2)
    have O4 := O2.trans (below_only (lo := sb) (hi := sb + 1) (below_alloc1 w2 (.cells #[.int .i64 1, .int .i64 (-1), .int .i64 33] 2)))
    clear s2 P2 O2 h0
    go_wp2_with (first | (go_at_call 48; refine (pick_any sb _ 3 _ _ _ s4 iL (by omega) (by omega) (by simp [bk]; omega)).mono ?_; rintro e w5 ⟨q, hq, rfl, s5, o5⟩; have P5 := Lib.hid (P4.onlyD o5 (by omega)); have O5 := O4.trans o5; have z5 := O5.size) | (at_builtin; refine wpList_ap1 etI _ rfl _ _ rfl w.heap.size ao n c _ rfl P5.out (.int .i64 (iget [1, -1, 33] q)) rfl rfl (by omega) (by omega) ?_; intro ao2 c2 w6 ho2 hg2 hblk))
    have HO := Lib.hid ho2
    have s6 := s5.grown hg2 (fun g hg => by have := (hol g hg).1; omega)
    have O6 := only_grown O5 hg2 (fun g hg => (hol g hg).1)
    clear ho2 hblk s5 O5 hg2
    generalize iget [1, -1, 33] q = z at *
    go_wp2
    go_ret
    exact ⟨_, _, _, zs ++ [z], rfl, by simp; omega, by rw [List.map_append]; exact HO.out, s6, O6⟩
  · have e0 : ((r : Int) == 0) = false := by rw [beq_eq_false_iff_ne]; omega
    by_cases h1 : r = 1
    · have e1 : ((r : Int) == 1) = true := by rw [h1]; rfl
      have iL : Ints (w2.alloc (.cells #[.int .i64 2, .int .i64 2, .int .i64 2] 2)) (some ⟨w2.heap.size, 0, none⟩) 3 [2, 2, 2] := ints_lit w2 [2, 2, 2] (by decide)
      have P4 := Lib.hid (P2.alloc (.cells #[.int .i64 2, .int .i64 2, .int .i64 2] 2))
      have s4 : Src (w2.alloc (.cells #[.int .i64 2, .int .i64 2, .int .i64 2] 2)) sb := s2.farD fun g hg => Below.heap_alloc w2 _ g (by omega)
      have O4 := O2.trans (below_only (lo := sb) (hi := sb + 1) (below_alloc1 w2 (.cells #[.int .i64 2, .int .i64 2, .int .i64 2] 2)))
      have z4 := O4.size
      clear s2 P2 O2 h0 h1
      go_wp2_with (at_builtin; refine wpList_apN etI _ rfl _ _ rfl w.heap.size ao n c _ rfl P4.out _ 3 3 _ rfl iL (by omega) z4 ?_; intro ao2 c2 w6 ho2 hg2 hblk)
      have HO := Lib.hid ho2
      have s6 := s4.grown hg2 (fun g hg => by have := (hol g hg).1; omega)
      have O6 := only_grown O4 hg2 (fun g hg => (hol g hg).1)
      clear ho2 hblk s4 O4 hg2
      go_wp2
      go_ret
      exact ⟨_, _, _, zs ++ [2, 2, 2], rfl, by simp; omega, by rw [List.map_append]; exact HO.out, s6, O6⟩
    · have e1 : ((r : Int) == 1) = false := by rw [beq_eq_false_iff_ne]; omega
      go_wp2
      go_ret
      exact ⟨_, _, _, zs, rfl, by omega, P2, s2, O2⟩
theorem drawIsD_any (ao : Option Addr) (n c : Nat) (w : World) (h : Bts w ao n w.heap.size) : Calls Tryz.prog 15 #[.slice ao n c] w fun e w' => ∃ (ao' : Option Addr) (n' c' : Nat) (zs : List Int), e = .returned (.slice ao' n' c') ∧ zs.length ≤ 7 ∧ Own w' w.heap.size 2 ao' n' c' (zs.map (Value.int .i64)) ∧ Below w.heap.size w w' := by
  go_enter Tryz.func15, Tryz.ntmps15
  go_wp2_with fail
  refine (from_any ao n c w h).mono ?_
  rintro e w1 ⟨rfl, s1, z1, b1⟩
  go_wp2_with fail
  refine (drawAnyD_any _ _ s1 z1).mono ?_
  rintro e w2 ⟨a2, n2, c2, zs, rfl, hz, o2, s2, O2⟩
  go_wp2
  go_ret
  exact ⟨_, _, _, zs, rfl, hz, o2.mono (by omega), b1.trans (O2.below (Nat.le_refl _) (by omega))⟩
theorem drawTextD_any (ao : Option Addr) (n c : Nat) (w : World) (h : Bts w ao n w.heap.size) : Calls Tryz.prog 5 #[.slice ao n c] w fun e w' => ∃ (ao' : Option Addr) (n' c' : Nat) (zs : List Int), e = .returned (.slice ao' n' c') ∧ zs.length ≤ 7 ∧ Own w' w.heap.size 2 ao' n' c' (zs.map (Value.int .i64)) ∧ Below w.heap.size w w' := by
  go_enter Tryz.func5, Tryz.ntmps5
  go_wp2_with fail
  refine (drawIsD_any ao n c w h).mono ?_
  rintro e w2 ⟨a2, n2, c2, zs, rfl, hz, o2, b2⟩
  go_wp2
  go_ret
  exact ⟨_, _, _, zs, rfl, hz, o2, b2⟩
def signs : List ByteArray := [⟨#[48]⟩, ⟨#[49]⟩, ⟨#[50]⟩, ⟨#[53]⟩, ⟨#[57]⟩, ⟨#[45]⟩, ⟨#[47]⟩, ⟨#[32]⟩, ⟨#[44]⟩, ⟨#[59]⟩, ⟨#[40]⟩, ⟨#[41]⟩, ⟨#[123]⟩, ⟨#[125]⟩, ⟨#[58]⟩, ⟨#[97]⟩, ⟨#[100]⟩, ⟨#[116]⟩, ⟨#[107]⟩, ⟨#[114]⟩, ⟨#[46]⟩, ⟨#[10]⟩]
theorem signs_one : ∀ x ∈ signs, x.size = 1 := by decide +kernel
set_option maxHeartbeats 3200000 in
theorem damage_any (sb : Nat) (t : ByteArray) (w : World) (h : Src w sb) (hsb : sb < w.heap.size) (ht : t.size ≤ 1000) : Calls Tryz.prog 30 #[.pointer (some ⟨sb, 0, none⟩), .string t] w fun e w' => ∃ u : ByteArray, e = .returned (.string u) ∧ u.size ≤ t.size + 1 ∧ Src w' sb ∧ Only sb (sb + 1) w w' := by
  have hL : ∀ j, j < 22 → (w.alloc (.cells (signs.map Value.string).toArray 9)).cell? ⟨w.heap.size, j, none⟩ = some (.string (wget signs j)) := fun j hj => by
    rw [cell_of_row _ _ _ _ _ (0, 0) (heap_alloc_new w _), List.getElem?_toArray, List.getElem?_map, wget_lt (show j < signs.length from hj)]; rfl
  have h1 : Src (w.alloc (.cells (signs.map Value.string).toArray 9)) sb := h.farD fun g hg => Below.heap_alloc w _ g (by omega)
  have O1 := below_only (lo := sb) (hi := sb + 1) (below_alloc1 w (.cells (signs.map Value.string).toArray 9))
  have hgl : w.heap.size < (w.alloc (.cells (signs.map Value.string).toArray 9)).heap.size := by simp
  go_enter Tryz.func30, Tryz.ntmps30
  go_upto_region 2 with fail
  refine gen_world (P := fun W => Code.wp _ _ _ _ W) (Q := fun W => (∀ j, j < 22 → W.cell? ⟨w.heap.size, j, none⟩ = some (.string (wget signs j))) ∧ Src W sb ∧ Only sb (sb + 1) w W ∧ w.heap.size < W.heap.size) ⟨hL, h1, O1, hgl⟩ fun W ⟨cW, sW, OW, zW⟩ => ?_
  clear hL h1 O1 hgl
  go_wp2_with fail
  refine (next_any sb _ _ sW (by omega)).mono ?_
  rintro e w2 ⟨r, rfl, -, r2, s2, o2⟩
  have hr := r2 (by omega)
  have c2 : w2.cell? ⟨w.heap.size, r, none⟩ = some (.string (wget signs r)) := by rw [World.cell?_of_block (o2.block w.heap.size zW (.inr (by omega)))]; exact cW r (by omega)
  have hx := signs_one (wget signs r) (List.mem_of_getElem? (wget_lt (ws := signs) (k := r) (by show r < 22; omega)))
  have O2 := OW.trans o2
  clear r2 o2 cW sW OW
  generalize wget signs r = x at *
  by_cases h0 : t.size = 0
  · have e0 : ((t.size : Int) == 0) = true := by rw [h0]; rfl
    go_wp2
    go_ret
    exact ⟨x, rfl, by omega, s2, O2⟩
  · have e0 : ((t.size : Int) == 0) = false := by rw [beq_eq_false_iff_ne]; omega
    go_wp2_with fail
    refine (next_any sb _ _ s2 (by omega)).mono ?_
    rintro e w3 ⟨k, rfl, -, r3, s3, o3⟩
    have hk := r3 (by omega)
    have O3 := O2.trans o3
    clear r3 o3 O2 s2
    go_wp2_with fail
    refine (next_any sb _ _ s3 (by omega)).mono ?_
    rintro e w4 ⟨m, rfl, -, -, s4, o4⟩
    have O4 := O3.trans o4
    clear o4 O3 s3
    have x1 : (t.extract 0 k).size ≤ t.size := by rw [ByteArray.size_extract]; omega
    have x2 : (t.extract (k + 1) t.size).size ≤ t.size := by rw [ByteArray.size_extract]; omega
    have x3 : (t.extract k t.size).size ≤ t.size := by rw [ByteArray.size_extract]; omega
    have x4 : (t.extract 0 k ++ x).size = (t.extract 0 k).size + x.size := ByteArray.size_append
    by_cases m0 : m = 0
    · have e1 : ((m : Int) == 0) = true := by rw [m0]; rfl
      go_wp2_with fail
      go_quiet (fail)
      go_wp2
      go_ret
      exact ⟨_, rfl, by rw [ByteArray.size_append, ByteArray.size_append, ByteArray.size_extract, ByteArray.size_extract]; omega, s4.farD fun _ _ => rfl, O4.trans (below_only (below_of_quiet ⟨_, rfl⟩))⟩
    · have e1 : ((m : Int) == 0) = false := by rw [beq_eq_false_iff_ne]; omega
      by_cases m1 : m = 1
      · have e2 : ((m : Int) == 1) = true := by rw [m1]; rfl
        go_wp2_with fail
        go_quiet (fail)
        go_wp2
        go_ret
        exact ⟨_, rfl, by rw [ByteArray.size_append, ByteArray.size_extract, ByteArray.size_extract]; omega, s4.farD fun _ _ => rfl, O4.trans (below_only (below_of_quiet ⟨_, rfl⟩))⟩
      · have e2 : ((m : Int) == 1) = false := by rw [beq_eq_false_iff_ne]; omega
        go_wp2_with fail
        go_quiet (fail)
        go_wp2
        go_ret
        exact ⟨_, rfl, by rw [ByteArray.size_append, ByteArray.size_append, ByteArray.size_extract, ByteArray.size_extract]; omega, s4.farD fun _ _ => rfl, O4.trans (below_only (below_of_quiet ⟨_, rfl⟩))⟩
set_option maxHeartbeats 1600000 in
theorem drawParse_any (ao : Option Addr) (n c : Nat) (w : World) (h : Bts w ao n w.heap.size) : Calls Tryz.prog 13 #[.slice ao n c] w fun e w' => ∃ u : ByteArray, e = .returned (.string u) ∧ u.size ≤ 1000 ∧ Below w.heap.size w w' := by
  go_enter Tryz.func13, Tryz.ntmps13
  go_wp2_with fail
  refine (from_any ao n c w h).mono ?_
  rintro e w1 ⟨rfl, s1, z1, b1⟩
  go_wp2_with fail
  refine (drawDiag_any _ _ s1 z1).mono ?_
  rintro e w2 ⟨a2, n2, c2, zs, rfl, hd, o2, s2, O2⟩
  have B2 := b1.trans (O2.below (Nat.le_refl _) (by omega))
  have z2 := O2.size
  have hI := o2.ints
  clear o2 s1 O2
  go_wp2_with fail
  refine (specText_any a2 n2 c2 zs w2 hI hd).mono ?_
  rintro e w3 ⟨rfl, b3⟩
  have s3 : Src w3 w.heap.size := s2.farD fun g hg => b3.block g (by omega)
  have B3 := B2.trans (b3.mono B2.size)
  have z3 := b3.size
  have ht := (dgS_few hd).2.1
  clear hI hd s2 b3 b1 B2
  generalize dgS zs = t at *
  go_wp2_with fail
  refine (next_any _ _ _ s3 (by omega)).mono ?_
  rintro e w4 ⟨r, rfl, -, -, s4, o4⟩
  have B4 := B3.trans (o4.below (Nat.le_refl _) B3.size)
  have z4 := o4.size
  clear o4 s3 B3
  by_cases h0 : r = 0
  · have e0 : ((r : Int) == 0) = true := by rw [h0]; rfl
    go_wp2_with fail
    refine (damage_any _ t _ s4 (by omega) (by omega)).mono ?_
    rintro e w5 ⟨u, rfl, hu, s5, O5⟩
    go_wp2
    go_ret
    exact ⟨u, rfl, by omega, B4.trans (O5.below (Nat.le_refl _) B4.size)⟩
  · have e0 : ((r : Int) == 0) = false := by rw [beq_eq_false_iff_ne]; omega
    go_wp2
    go_ret
    exact ⟨t, rfl, by omega, B4⟩
end Go.Proofs.YtljimlejcecleaaGreatDoor

/- ParseDiagram, the program's. -/
namespace Go.Proofs.YtljimlejcecleaaGreatDoor
open Go.RowKit

theorem split_comma (s : ByteArray) : (Lib.splitB ⟨#[44]⟩ 0 (Lib.countB s ⟨#[44]⟩) s).map (·.data.toList) = splL s.data.toList := by
  rw [Lib.splitB_data]
  exact split44 _ _ (Nat.le_refl _)
theorem implSplit_any (s : ByteArray) (w : World) (hL : LF w) (hs : s.size ≤ 1048576) : Calls Tryz.prog 41 #[.string s, .string ⟨#[44]⟩] w fun e w' => ∃ (ao : Option Addr) (c : Nat) (ws : List ByteArray), e = .returned (.slice ao ws.length c) ∧ Own w' w.heap.size 9 ao ws.length c (ws.map Value.string) ∧ ws.map (·.data.toList) = splL s.data.toList ∧ (∀ x ∈ ws, x.size ≤ s.size) ∧ Below w.heap.size w w' := by
  obtain ⟨m, hm⟩ := hL.mx
  refine (Any.strings_Split { Tryz.laysM146 with } Tryz.laysM146.i9 s ⟨#[44]⟩ m w (by omega) hm (Nat.le_refl 1)).mono ?_
  have hlen := Lib.splitB_all ⟨#[44]⟩ (Nat.le_refl 1) 0 _ s rfl
  have hle := Lib.countB_le ⟨#[44]⟩ (Nat.le_refl 1) s.size s (Nat.le_refl _)
  have hsp := split_comma s
  have hz := splL_small s.data.toList
  rw [← hsp] at hz
  generalize Lib.splitB ⟨#[44]⟩ 0 (Lib.countB s ⟨#[44]⟩) s = ws at *
  rw [← hlen]
  rintro e w' ⟨rfl, rfl⟩
  refine ⟨_, _, ws, rfl, ⟨?_, by omega⟩, hsp, fun x hx => ?_, below_alloc1 _ _⟩
  · have := World.ownsRow_lit (base := w.heap.size) (e := 9) (size := 1) w (ws.map Value.string).toArray ws.length (Nat.le_refl _) (by simp [maxLen]; omega) (by simp)
    simp at this
    exact this
  · exact hz _ (List.mem_map.2 ⟨x, hx, rfl⟩)
def pnN (ws : List ByteArray) (k : Nat) : List Int := ((ws.take k).filter fun x => !x.data.toList.isEmpty).map fun x => pvL x.data.toList
theorem pnN_in {ws : List ByteArray} {k : Nat} (h : k < ws.length) (hx : (wget ws k).data.toList.isEmpty = false) : pnN ws (k + 1) = pnN ws k ++ [pvL (wget ws k).data.toList] := by
  unfold pnN
  have h1 := wget_lt h
  rw [List.getElem?_eq_getElem h] at h1
  rw [List.take_succ_eq_append_getElem h, Option.some.inj h1, List.filter_append, List.map_append]
  congr 1
  rw [List.filter_cons, hx]; rfl
theorem pnN_out {ws : List ByteArray} {k : Nat} (h : k < ws.length) (hx : (wget ws k).data.toList.isEmpty = true) : pnN ws (k + 1) = pnN ws k := by
  unfold pnN
  have h1 := wget_lt h
  rw [List.getElem?_eq_getElem h] at h1
  rw [List.take_succ_eq_append_getElem h, Option.some.inj h1, List.filter_append]
  rw [List.filter_cons, hx]; simp
theorem pnN_all {ws : List ByteArray} {l : List UInt8} (hw : ws.map (·.data.toList) = splL l) : pnN ws ws.length = pnL l := by
  unfold pnN pnL
  rw [List.take_length, ← hw, List.filter_map, List.map_map]; rfl
def okB (t : ByteArray) : Bool := prC t == 0
set_option maxHeartbeats 1600000 in
theorem implParse_any (t : ByteArray) (w : World) (hL : LF w) (hs : t.size ≤ 1048576) : Calls Tryz.prog 20 #[.string t] w fun e w' => ∃ v, e = .returned (.tuple #[v, .bool (okB t)]) ∧ OwnS 2 w' w.heap.size w'.heap.size v (prR t) ∧ Below w.heap.size w w' := by
  obtain ⟨R, hR⟩ : ∃ R, prR t = R := ⟨_, rfl⟩
  obtain ⟨C, hC⟩ : ∃ C, prC t = C := ⟨_, rfl⟩
  unfold okB
  rw [hR, hC]
  have hR := Lib.hid hR
  have hC := Lib.hid hC
  by_cases h2 : t.size < 2
  · have hn := pr_off (t := t) (.inl h2)
    obtain rfl := hn.1.symm.trans hR.out
    obtain rfl := hn.2.symm.trans hC.out
    have e1 : decide ((t.size : Int) < 2) = true := by simp; omega
    clear hn
    go_enter Tryz.func20, Tryz.ntmps20
    go_wp2
    exact bodyPost_ret (v := .tuple #[.slice none 0 0, .bool false]) (by simp [results, Tryz.f20, go_sem]) rfl ⟨_, rfl, ⟨⟨none, 0, 0, rfl, Own.nil_ _ _ _⟩, in_nil _ _ _ _⟩, Below.refl _ _⟩
  · have e1 : decide ((t.size : Int) < 2) = false := by simp; omega
    by_cases h100 : 100 < t.size
    · have hn := pr_off (t := t) (.inr (.inl h100))
      obtain rfl := hn.1.symm.trans hR.out
      obtain rfl := hn.2.symm.trans hC.out
      have e2 : decide ((100 : Int) < t.size) = true := by simp; omega
      clear hn
      go_enter Tryz.func20, Tryz.ntmps20
      go_wp2
      exact bodyPost_ret (v := .tuple #[.slice none 0 0, .bool false]) (by simp [results, Tryz.f20, go_sem]) rfl ⟨_, rfl, ⟨⟨none, 0, 0, rfl, Own.nil_ _ _ _⟩, in_nil _ _ _ _⟩, Below.refl _ _⟩
    · have e2 : decide ((100 : Int) < t.size) = false := by simp; omega
      have HX := Lib.hid (midL_ext t)
      have HSZ := Lib.hid (show (t.extract 1 (t.size - 1)).size ≤ 1048576 by rw [ByteArray.size_extract]; omega)
      go_enter Tryz.func20, Tryz.ntmps20
      go_wp2_with (go_at_call 41; refine (implSplit_any _ _ hL HSZ.out).mono ?_; rintro e w1 ⟨aw, cw, ws, rfl, hw, hws, hwz, b1⟩)
      rw [HX.out] at hws
      have HZ := Lib.hid (pnN_all hws).symm
      have HWZ := Lib.hid hwz
      have hbig := hw.2
      clear hwz hws
      go_loopw [4, 24] (fun ov iv wr => ∃ (k m : Nat) (ao : Option Addr) (c : Nat), k ≤ ws.length ∧ m ≤ k ∧ iv = .int .i64 k ∧ ov = .slice ao m c ∧ Own wr w.heap.size 2 ao m c ((pnN ws k).map (Value.int .i64)) ∧ Own wr 0 9 aw ws.length cw (ws.map Value.string) ∧ Below w.heap.size w wr) (fun _ iv _ => ws.length - (intOf iv).toNat)
      case atStart => exact ⟨0, 0, none, 0, Nat.zero_le _, Nat.le_refl _, rfl, rfl, Own.nil_ _ _ _, hw.mono (Nat.zero_le _), b1⟩
      case round =>
        clear hw b1
        obtain ⟨k, m, ao, c, hk, hmk, rfl, rfl, ho, hw, hb⟩ := hrel
        have hLr := hL.below hb
        have hbs := hb.size
        by_cases hlt : k < ws.length
        · obtain ⟨g, rfl, -, hgl, -, hcl, -⟩ := hw.form (by omega)
          have hc : wr.cell? ⟨g, k, none⟩ = some (.string (wget ws k)) := by rw [hcl k hlt, List.getElem?_map, wget_lt hlt]; rfl
          have hxs := HWZ.out (wget ws k) (List.mem_of_getElem? (wget_lt hlt))
          have HXS := Lib.hid (Nat.le_trans hxs HSZ.out)
          clear hxs hcl
          by_cases hq : (wget ws k).data.toList.isEmpty = true
          · have e5 : (wget ws k).toList.isEmpty = true := by rw [Lib.toList_data, hq]
            have HT := Lib.hid (pnN_out hlt hq)
            clear hq
            go_wp2_with (go_at_call 42; refine (readNumber_any _ _ hLr HXS.out).mono ?_; rintro e w2 ⟨bb, rfl, b2⟩; have HO2 := Lib.hid (ho.below b2); have HW2 := Lib.hid (hw.below b2); have B2 := hb.trans (b2.mono hb.size))
            go_roundw
            case rel => exact ⟨k + 1, m, ao, c, by omega, by omega, by go_num, rfl, by rw [HT.out]; exact HO2.out, HW2.out, B2⟩
            case measure => simp [intOf]; omega
          · have hq : (wget ws k).data.toList.isEmpty = false := by simpa using hq
            have e5 : (wget ws k).toList.isEmpty = false := by rw [Lib.toList_data, hq]
            have hT : (pnN ws (k + 1)).map (Value.int .i64) = (pnN ws k).map (Value.int .i64) ++ [.int .i64 (pvL (wget ws k).data.toList)] := by rw [pnN_in hlt hq]; simp
            have HT := Lib.hid hT
            clear hq hT
            have hne := hw.otherE ho (by decide)
            have hol := ho.lt
            go_wp2_with (first | (go_at_call 42; refine (readNumber_any _ _ hLr HXS.out).mono ?_; rintro e w2 ⟨bb, rfl, b2⟩; have HO2 := Lib.hid (ho.below b2); have HW2 := Lib.hid (hw.below b2); have B2 := hb.trans (b2.mono hb.size); have s2 := b2.size) | (at_builtin; refine wpList_ap1 etI _ rfl _ _ rfl w.heap.size ao m c _ rfl HO2.out (.int .i64 (pvL (wget ws k).data.toList)) rfl rfl (by omega) (by omega) ?_; intro ao2 c2 w3 ho3 hg3 hblk))
            have HO3 := Lib.hid ho3
            have HW3 := Lib.hid (HW2.out.kept hg3 hne)
            clear ho3 hblk hne ho hw
            go_wp2
            go_roundw
            case rel => exact ⟨k + 1, m + 1, ao2, c2, by omega, by omega, by go_num, rfl, by rw [HT.out]; exact HO3.out, HW3.out, B2.grown hg3 (by omega) (fun g hg => (hol g hg).1)⟩
            case measure => simp [intOf]; omega
        · obtain rfl : k = ws.length := by omega
          have hzz := HZ.out
          generalize pnN ws ws.length = zs at *
          have HZ := Lib.hid hzz
          generalize ws.length = n at *
          clear hw hlt hk hzz HWZ hbig
          go_upto_region 11 with fail
          cases hd : isDiag zs with
          | false =>
            have hn := prR_no (t := t) fun h => by rw [HZ.out, hd] at h; cases h.1
            obtain rfl := hn.1.symm.trans hR.out
            obtain rfl := hn.2.symm.trans hC.out
            have HD := Lib.hid hd
            have HI := Lib.hid ho.ints
            clear hd hn
            go_wp2_with (go_at_call 16; refine (isDiagramImpl_any ao m c zs wr HI.out).mono ?_; rintro e w8 ⟨rfl, b8⟩; rw [HD.out])
            exact bodyPost_ret (v := .tuple #[.slice none 0 0, .bool false]) (by simp [results, Tryz.f20, go_sem]) rfl ⟨_, rfl, ⟨⟨none, 0, 0, rfl, Own.nil_ _ _ _⟩, in_nil _ _ _ _⟩, hb.trans (b8.mono hb.size)⟩
          | true =>
            have HD := Lib.hid hd
            have HI := Lib.hid ho.ints
            have HO := Lib.hid ho
            by_cases ht : dgS zs = t
            · have hn := prR_yes (t := t) (by rw [HZ.out]; exact ⟨hd, ht⟩)
              rw [HZ.out] at hn
              obtain rfl := hn.1.symm.trans hR.out
              obtain rfl := hn.2.symm.trans hC.out
              have HT := Lib.hid (show ((dgS zs).toList == t.toList) = true by rw [ht]; simp)
              clear hd hn ht
              go_wp2_with (first | (go_at_call 16; refine (isDiagramImpl_any ao m c zs wr HI.out).mono ?_; rintro e w8 ⟨rfl, b8⟩; rw [HD.out]) | (go_at_call 17; refine (implText_any ao m c zs _ (HI.out.below b8) HD.out).mono ?_; rintro e w9 ⟨rfl, b9⟩; have ht1 := HT.out))
              have B9 : Below wr.heap.size wr w9 := b8.trans (b9.mono b8.size)
              exact bodyPost_ret (v := .tuple #[.slice ao m c, .bool true]) (by simp [results, Tryz.f20, go_sem]) rfl ⟨_, rfl, ⟨⟨_, _, _, rfl, (HO.out.below B9).mono (Nat.zero_le _)⟩, in_slice fun g hg => ⟨(HO.out.lt g hg).1, Nat.lt_of_lt_of_le (HO.out.lt g hg).2 B9.size⟩⟩, hb.trans (B9.mono hb.size)⟩
            · have hn := prR_no (t := t) fun h => by
                rw [HZ.out] at h; exact ht h.2
              obtain rfl := hn.1.symm.trans hR.out
              obtain rfl := hn.2.symm.trans hC.out
              have HT := Lib.hid (show ((dgS zs).toList == t.toList) = false by rw [beq_eq_false_iff_ne, Lib.toList_data, Lib.toList_data]; exact fun e => ht (bytes_ext e))
              clear hd hn ht
              go_wp2_with (first | (go_at_call 16; refine (isDiagramImpl_any ao m c zs wr HI.out).mono ?_; rintro e w8 ⟨rfl, b8⟩; rw [HD.out]) | (go_at_call 17; refine (implText_any ao m c zs _ (HI.out.below b8) HD.out).mono ?_; rintro e w9 ⟨rfl, b9⟩; have ht1 := HT.out))
              have B9 : Below wr.heap.size wr w9 := b8.trans (b9.mono b8.size)
              exact bodyPost_ret (v := .tuple #[.slice none 0 0, .bool false]) (by simp [results, Tryz.f20, go_sem]) rfl ⟨_, rfl, ⟨⟨none, 0, 0, rfl, Own.nil_ _ _ _⟩, in_nil _ _ _ _⟩, hb.trans (B9.mono hb.size)⟩
set_option maxHeartbeats 1600000 in
theorem implParseDiagram_any (t : ByteArray) (w : World) (hL : LF w) (hs : t.size ≤ 1048576) : Calls Tryz.prog 9 #[.string t] w fun e w' => ∃ v, e = .returned (.tuple #[v, .int .i64 (prC t)]) ∧ OwnS 2 w' w.heap.size w'.heap.size v (prR t) ∧ Below w.heap.size w w' := by
  have hx := implParse_any t w hL hs
  have hcase : (prR t = [] ∧ prC t = 6) ∨ prC t = 0 := by
    by_cases h : isDiag (pnL (midL t.data.toList)) = true ∧ dgS (pnL (midL t.data.toList)) = t
    · exact .inr (prR_yes h).2
    · exact .inl (prR_no h)
  unfold okB at hx
  obtain ⟨R, hR⟩ : ∃ R, prR t = R := ⟨_, rfl⟩
  obtain ⟨C, hC⟩ : ∃ C, prC t = C := ⟨_, rfl⟩
  rw [hR, hC] at hx hcase ⊢
  clear hR hC
  rcases hcase with ⟨rfl, rfl⟩ | rfl
  · go_enter Tryz.func9, Tryz.ntmps9
    go_wp2_with fail
    refine hx.mono ?_
    rintro e w1 ⟨v, rfl, o1, b1⟩
    go_wp2
    exact bodyPost_ret (v := .tuple #[.slice none 0 0, .int .i64 6]) (by simp [results, Tryz.f9, go_sem]) rfl ⟨_, rfl, ⟨⟨none, 0, 0, rfl, Own.nil_ _ _ _⟩, in_nil _ _ _ _⟩, b1⟩
  · go_enter Tryz.func9, Tryz.ntmps9
    go_wp2_with fail
    refine hx.mono ?_
    rintro e w1 ⟨v, rfl, o1, b1⟩
    go_wp2
    exact bodyPost_ret (v := .tuple #[v, .int .i64 0]) (by simp [results, Tryz.f9, go_sem]) rfl ⟨_, rfl, o1, b1⟩
end Go.Proofs.YtljimlejcecleaaGreatDoor

/- Lists of points and of marks; lists that lead points. No program in sight. -/
namespace Go.Proofs.YtljimlejcecleaaGreatDoor

/-- where a word leads a point -/
def leadL (qs : List (List Int)) (c : Int) (w : List Int) : Int := w.foldl (fun c g => iget (lget qs g.toNat) c.toNat) c
/-- each list holds m points, each leads within them -/
structure Leads (qs : List (List Int)) (m : Nat) : Prop where
  len : ∀ k, k < qs.length → (lget qs k).length = m
  within : ∀ k, k < qs.length → ∀ x, x < m → 0 ≤ iget (lget qs k) x ∧ iget (lget qs k) x < m
theorem Leads.lead {qs : List (List Int)} {m : Nat} (h : Leads qs m) {c : Int} (hc : 0 ≤ c ∧ c < m) {w : List Int} (hw : ∀ z ∈ w, 0 ≤ z ∧ z < qs.length) : 0 ≤ leadL qs c w ∧ leadL qs c w < m := by
  induction w generalizing c with
  | nil => exact hc
  | cons g r ih =>
    have h1 := hw g (List.mem_cons_self ..)
    have h2 := h.within g.toNat (by omega) c.toNat (by omega)
    exact ih h2 fun z hz => hw z (List.mem_cons_of_mem _ hz)

def bat (bs : List Bool) (k : Nat) : Bool := bs.getD k false
def bcnt (bs : List Bool) : Nat := (bs.filter fun b => b).length
theorem bcnt_le (bs : List Bool) : bcnt bs ≤ bs.length := List.length_filter_le _ _
def bTo (T : List (List Int)) (c g : Nat) : Nat := (iget (lget T g) c).toNat
end Go.Proofs.YtljimlejcecleaaGreatDoor

/- Cosets that some generators lead to, and the first fault of intersections, on lists. No program in sight. -/
namespace Go.Proofs.YtljimlejcecleaaGreatDoor

/-- whether a mask holds a generator -/
def mBit (mask g : Nat) : Bool := mask / 2 ^ g % 2 == 1
/-- which are met, the queue -/
abbrev MSt := List Bool × List Int
def mStep (T : List (List Int)) (mask c : Nat) (s : MSt) (g : Nat) : MSt := if mBit mask g = true ∧ bat s.1 (bTo T c g) = false then (s.1.set (bTo T c g) true, s.2 ++ [(bTo T c g : Int)]) else s
def mRow (T : List (List Int)) (mask ng c : Nat) (s : MSt) : MSt := (List.range ng).foldl (mStep T mask c) s
def mLoop (T : List (List Int)) (mask ng : Nat) : Nat → Nat → MSt → MSt
  | 0, _, s => s
  | f + 1, i, s => if i < s.2.length then mLoop T mask ng f (i + 1) (mRow T mask ng (iget s.2 i).toNat s) else s
def mStart (n : Nat) : MSt := ((List.replicate n false).set 0 true, [0])
def mem (T : List (List Int)) (ng n mask : Nat) : MSt := mLoop T mask ng (n + 1) 0 (mStart n)
structure MOK (n : Nat) (s : MSt) : Prop where
  l : s.1.length = n
  q : ∀ k, k < s.2.length → ∃ d : Nat, iget s.2 k = (d : Int) ∧ d < n ∧ bat s.1 d = true
  cnt : bcnt s.1 = s.2.length
  cov : ∀ d, d < n → bat s.1 d = true → ∃ k, k < s.2.length ∧ iget s.2 k = (d : Int)
theorem MOK.le {n : Nat} {s : MSt} (h : MOK n s) : s.2.length ≤ n := by
  have := bcnt_le s.1; rw [h.cnt, h.l] at this; exact this
structure MGrow (s s' : MSt) : Prop where
  len : s.2.length ≤ s'.2.length
  pre : ∀ k, k < s.2.length → iget s'.2 k = iget s.2 k
  met : ∀ d, bat s.1 d = true → bat s'.1 d = true
theorem MGrow.refl (s : MSt) : MGrow s s := ⟨Nat.le_refl _, fun _ _ => rfl, fun _ h => h⟩
theorem MGrow.trans {a b c : MSt} (h : MGrow a b) (k : MGrow b c) : MGrow a c :=
  ⟨Nat.le_trans h.len k.len, fun i hi => (k.pre i (Nat.lt_of_lt_of_le hi h.len)).trans (h.pre i hi), fun d hd => k.met d (h.met d hd)⟩
section
variable {T : List (List Int)} {ng n mask : Nat}
end
end Go.Proofs.YtljimlejcecleaaGreatDoor

/- Components of a diagram, and their degrees, on lists. No program in sight. -/
namespace Go.Proofs.YtljimlejcecleaaGreatDoor

/-- components: their masks and their labels -/
abbrev Cmps := List (Nat × List Int)
def cget (ps : Cmps) (k : Nat) : Nat × List Int := ps.getD k (0, [])
theorem cget_lt {ps : Cmps} {k : Nat} (h : k < ps.length) : cget ps k = ps[k] := by simp [cget, h]
theorem cget_mem {ps : Cmps} {k : Nat} (h : k < ps.length) : cget ps k ∈ ps := by rw [cget_lt h]; exact List.getElem_mem h
/-- whether node i goes on with the component of the node ahead of it -/
def jn (zs : List Int) (mask i : Nat) : Bool := decide (0 < i) && (mBit mask (i - 1) && !(iget zs (i - 1) == 2))
def pLast (ps : Cmps) (i : Nat) (z : Int) : Cmps := ps.set (ps.length - 1) ((cget ps (ps.length - 1)).1 ||| 2 ^ i, (cget ps (ps.length - 1)).2 ++ [z])
def pStep (zs : List Int) (mask : Nat) (ps : Cmps) (i : Nat) : Cmps := if mBit mask i then (if jn zs mask i then pLast ps i (iget zs (i - 1)) else ps ++ [(2 ^ i, [])]) else ps
def pTo (zs : List Int) (mask n : Nat) : Cmps := (List.range n).foldl (pStep zs mask) []
def comps (zs : List Int) (mask : Nat) : Cmps := pTo zs mask (zs.length + 1)
theorem pTo_succ (zs : List Int) (mask i : Nat) : pTo zs mask (i + 1) = pStep zs mask (pTo zs mask i) i := by unfold pTo; rw [List.range_succ, List.foldl_append]; rfl
def csum (ps : Cmps) : Nat := (ps.map fun p => p.2.length + 1).sum
theorem csum_app (a b : Cmps) : csum (a ++ b) = csum a + csum b := by simp [csum]
theorem csum_set : ∀ (ps : Cmps) (k : Nat) (p : Nat × List Int), k < ps.length → csum (ps.set k p) + ((cget ps k).2.length + 1) = csum ps + (p.2.length + 1)
  | [], k, _, h => by simp at h
  | a :: r, 0, p, _ => by simp [csum, cget]; omega
  | a :: r, k + 1, p, h => by
    have := csum_set r k p (by simpa using h)
    simp [csum, cget] at this ⊢
    omega
theorem csum_le : ∀ {ps : Cmps} {p : Nat × List Int}, p ∈ ps → p.2.length + 1 ≤ csum ps
  | a :: r, p, h => by
    rcases List.mem_cons.1 h with rfl | h
    · simp [csum]
    · have := csum_le h; simp [csum] at this ⊢; omega
theorem csum_len : ∀ (ps : Cmps), ps.length ≤ csum ps
  | [] => by simp [csum]
  | a :: r => by have := csum_len r; simp [csum] at this ⊢; omega
structure POK (zs : List Int) (mask i : Nat) (ps : Cmps) : Prop where
  lt : ∀ p ∈ ps, p.1 < 2 ^ i
  lab : ∀ p ∈ ps, ∀ z ∈ p.2, z ∈ zs ∧ z ≠ 2
  sum : csum ps ≤ i
  ne : 0 < i → mBit mask (i - 1) = true → 0 < ps.length
theorem or_lt2 {a i : Nat} (h : a < 2 ^ i) : a ||| 2 ^ i < 2 ^ (i + 1) := Nat.or_lt_two_pow (Nat.lt_of_lt_of_le h (Nat.pow_le_pow_right (by decide) (by omega))) (Nat.pow_lt_pow_right (by decide) (by omega))
theorem jn_spec {zs : List Int} {mask i : Nat} (h : jn zs mask i = true) : 0 < i ∧ mBit mask (i - 1) = true ∧ iget zs (i - 1) ≠ 2 := by
  unfold jn at h; simpa using h
theorem pTo_ok (zs : List Int) (mask : Nat) : ∀ i, i ≤ zs.length + 1 → POK zs mask i (pTo zs mask i)
  | 0, _ => ⟨fun p hp => (nomatch hp), fun p hp => (nomatch hp), by simp [pTo, csum], fun h => absurd h (by omega)⟩
  | i + 1, hi => by
    have h := pTo_ok zs mask i (by omega)
    have h2 : 2 ^ i < 2 ^ (i + 1) := Nat.pow_lt_pow_right (by decide) (by omega)
    rw [pTo_succ]
    generalize pTo zs mask i = ps at *
    unfold pStep
    split
    · split
      · rename_i hj
        obtain ⟨j1, j2, j3⟩ := jn_spec hj
        have hne := h.ne j1 j2
        have hk : ps.length - 1 < ps.length := by omega
        have hmem := cget_mem hk
        unfold pLast
        refine ⟨fun p hp => ?_, fun p hp => ?_, ?_, fun _ _ => by rw [List.length_set]; exact hne⟩
        · rcases List.mem_or_eq_of_mem_set hp with hp | rfl
          · exact Nat.lt_trans (h.lt p hp) h2
          · exact or_lt2 (h.lt _ hmem)
        · rcases List.mem_or_eq_of_mem_set hp with hp | rfl
          · exact h.lab p hp
          · intro z hz
            rcases List.mem_append.1 hz with hz | hz
            · exact h.lab _ hmem z hz
            · obtain rfl : z = iget zs (i - 1) := by simpa using hz
              exact ⟨iget_mem (by omega), j3⟩
        · have := csum_set ps (ps.length - 1) ((cget ps (ps.length - 1)).1 ||| 2 ^ i, (cget ps (ps.length - 1)).2 ++ [iget zs (i - 1)]) hk
          have h3 := h.sum
          simp only [List.length_append, List.length_singleton] at this
          omega
      · refine ⟨fun p hp => ?_, fun p hp => ?_, ?_, fun _ _ => by simp⟩
        · rcases List.mem_append.1 hp with hp | hp
          · exact Nat.lt_trans (h.lt p hp) h2
          · obtain rfl : p = (2 ^ i, []) := by simpa using hp
            exact h2
        · rcases List.mem_append.1 hp with hp | hp
          · exact h.lab p hp
          · obtain rfl : p = (2 ^ i, []) := by simpa using hp
            intro z hz; cases hz
        · rw [csum_app]; have h3 := h.sum; simp [csum] at h3 ⊢; omega
    · rename_i hb
      refine ⟨fun p hp => Nat.lt_trans (h.lt p hp) h2, h.lab, by have := h.sum; omega, fun _ h' => ?_⟩
      rw [Nat.add_sub_cancel] at h'; exact absurd h' hb
theorem comps_ok (zs : List Int) (mask : Nat) : POK zs mask (zs.length + 1) (comps zs mask) := pTo_ok zs mask _ (Nat.le_refl _)

/-- a list, or the same the other way round -/
def eith (part list : List Int) : Bool := part == list || part == list.reverse
theorem eith_iff {part list : List Int} : eith part list = true ↔ part = list ∨ part = list.reverse := by simp [eith]
def ramp (n : Nat) (step : Int) : List Int := (List.range n).map fun i : Nat => 2 + step * i
theorem ramp_succ (n : Nat) (step : Int) : ramp (n + 1) step = ramp n step ++ [2 + step * n] := by simp [ramp, List.range_succ]
theorem ramp_len (n : Nat) (step : Int) : (ramp n step).length = n := by simp [ramp]
/-- the degrees of a component, no list if it is not finite -/
def degs (part : List Int) : List Int :=
  if part.length = 0 then [2]
  else if part.length = 1 ∧ 0 < iget part 0 then [2, iget part 0]
  else if eith part [3, 5] then [2, 6, 10]
  else if eith part [3, 3, 5] then [2, 12, 20, 30]
  else if eith part [3, 4, 3] then [2, 6, 8, 12]
  else if part = List.replicate part.length 3 then ramp (part.length + 1) 1
  else if eith part ((List.replicate part.length (3 : Int)).set 0 4) then ramp (part.length + 1) 2
  else []
def affB (part : List Int) : Bool := eith part [0] || (eith part [4, 4] || (eith part [3, 6] || (eith part [4, 3, 4] || (eith part [3, 4, 3, 3] || eith part [4, 3, 3, 4]))))
/-- labels that may stand in a component -/
def Labs (part : List Int) : Prop := part.length ≤ 4 ∧ ∀ z ∈ part, 0 ≤ z ∧ z ≤ 32 ∧ z ≠ 1 ∧ z ≠ 2
/-- what the reference does where all labels but perhaps one at an end are 3 -/
def ends (part : List Int) : List Int := if iget part 0 = 3 then part else part.reverse
end Go.Proofs.YtljimlejcecleaaGreatDoor

/- A memory of names: the state of a walk as named chunks of memory (vectors of plain values, flat cells, rows of rows), with the world behind it. No program in sight. -/
namespace Go.Proofs.YtljimlejcecleaaGreatDoor
open Go.RowKit

abbrev Nm := Nat
/-- a value of one cell, as the walk knows it: a plain value; a slice or a pointer into chunk x; a slice or a pointer into row i of chunk x -/
inductive A1 where
  | val (v : Value)
  | any
  | sl (x : Nm) (off n : Nat)
  | ptr (x : Nm) (off : Nat)
  | esl (x : Nm) (i off n : Nat)
  | eptr (x : Nm) (i off : Nat)
  | clo (f : Fn) (xs : List (Nm × Nat))
inductive A2 where
  | one (a : A1)
  | agg (l : List A1)
inductive AV where
  | s (a : A2)
  | tup (l : List A2)
abbrev o1 (a : A1) : AV := .s (.one a)
abbrev vv (v : Value) : AV := .s (.one (.val v))

structure Hd where
  ao : Option Addr
  c : Nat
  k : Nat
structure Env where
  h : Nm → Option Hd
  r : Nm → Nat → Hd

def slAt (h : Hd) (off n : Nat) (u : Value) : Prop :=
  ∃ ao, u = .slice ao n (h.c - off) ∧ (off = 0 → ao = h.ao) ∧ (0 < off → off < h.c → ao = h.ao.map fun p => ⟨p.block, p.off + off * h.k, none⟩)
def ptAt (h : Hd) (off : Nat) (u : Value) : Prop := ∃ b o, h.ao = some ⟨b, o, none⟩ ∧ u = .pointer (some ⟨b, o + off, none⟩)

def Den1 (η : Env) : A1 → Value → Prop
  | .val v, u => u = v
  | .any, u => u.oneCell' = true
  | .sl x off n, u => (∃ ao c, u = .slice ao n c) ∧ ∀ h, η.h x = some h → slAt h off n u
  | .ptr x off, u => (∃ p, u = .pointer p) ∧ ∀ h, η.h x = some h → ptAt h off u
  | .esl x i off n, u => (∃ ao c, u = .slice ao n c) ∧ ∀ h, η.h x = some h → slAt (η.r x i) off n u
  | .eptr x i off, u => (∃ p, u = .pointer p) ∧ ∀ h, η.h x = some h → ptAt (η.r x i) off u
  | .clo f xs, u => ∃ us : Array Value, u = .func f #[] us ∧ us.size = xs.length ∧ ∀ (j : Nat) (p : Nm × Nat), xs[j]? = some p → ∃ q, us[j]? = some q ∧ (∃ p', q = .pointer p') ∧ ∀ h, η.h p.1 = some h → ptAt h p.2 q
def Den2 (η : Env) : A2 → Value → Prop
  | .one a, u => Den1 η a u
  | .agg l, u => ∃ us : Array Value, u = .agg us ∧ us.size = l.length ∧ ∀ (j : Nat) (a : A1), l[j]? = some a → ∃ u', us[j]? = some u' ∧ Den1 η a u'
def Den (η : Env) : AV → Value → Prop
  | .s a, u => Den2 η a u
  | .tup l, u => ∃ us : Array Value, u = .tuple us ∧ us.size = l.length ∧ ∀ (j : Nat) (a : A2), l[j]? = some a → ∃ u', us[j]? = some u' ∧ Den2 η a u'

def A1.has (x : Nm) : A1 → Bool
  | .sl y _ _ | .ptr y _ | .esl y _ _ _ | .eptr y _ _ => Nat.beq x y
  | .clo _ xs => xs.any fun p => Nat.beq x p.1
  | .val _ | .any => false
def A2.has (x : Nm) : A2 → Bool
  | .one a => a.has x
  | .agg l => l.any (A1.has x)
def AV.has (x : Nm) : AV → Bool
  | .s a => a.has x
  | .tup l => l.any (A2.has x)
def A1.forget (x : Nm) (a : A1) : A1 := bif a.has x then .any else a

/-- a cell of a mixed vector: a plain value; a row of m elements of k cells each; something -/
inductive Cel where
  | v (x : Value)
  | r (F : TypeId) (k m : Nat) (vs : List Value)
  | any
inductive Dat where
  | flat (l : List A1)
  | vals (vs : List Value)
  | rows (E : TypeId) (vss : List (List Value)) (holes : List Nat)
  | mix (cs : List Cel)
structure Ch where
  own : Bool
  E : TypeId
  k : Nat
  d : Dat
def Dat.len : Dat → Nat
  | .flat l => l.length
  | .vals vs => vs.length
  | .rows _ vss _ => vss.length
  | .mix cs => cs.length
def Dat.forget (x : Nm) : Dat → Dat
  | .flat l => .flat (l.map (A1.forget x))
  | d => d
def Ch.forget (x : Nm) (c : Ch) : Ch := { c with d := c.d.forget x }

/-- the owner of a block: a chunk, or a row of a chunk -/
abbrev Own? := Nat → Option (Nm × Option Nat)

def VecO (ω : Own?) (w : World) (ow : Nm × Option Nat) (h : Hd) (E : TypeId) (len : Nat) (cell : Nat → Value → Prop) : Prop :=
  (h.ao = none ∧ h.c = 0 ∧ len = 0) ∨
  ∃ b o cs, h.ao = some ⟨b, o, none⟩ ∧ ω b = some ow ∧ w.heap[b]? = some (.cells cs E (0, 0)) ∧ (o = 0 ∧ cs.size = h.c * h.k) ∧ len ≤ h.c * h.k ∧ h.c ≤ maxLen ∧
    ∀ j, j < len → ∃ u, cs[o + j]? = some u ∧ cell j u
def VecR (ω : Own?) (w : World) (h : Hd) (len : Nat) (cell : Nat → Value → Prop) : Prop :=
  len ≤ h.c * h.k ∧ ∀ j, j < len → ∃ b o u, h.ao = some ⟨b, o, none⟩ ∧ ω b = none ∧ b < w.heap.size ∧ w.cell? ⟨b, o + j, none⟩ = some u ∧ cell j u
def Vec (own : Bool) (ω : Own?) (w : World) (ow : Nm × Option Nat) (h : Hd) (E : TypeId) (len : Nat) (cell : Nat → Value → Prop) : Prop :=
  match own with
  | true => VecO ω w ow h E len cell
  | false => VecR ω w h len cell

def celOK (η : Env) (ω : Own?) (w : World) (own : Bool) (x : Nm) (j : Nat) : Cel → Value → Prop
  | .v y, u => u = y
  | .any, _ => True
  | .r F k m vs, u => vs.length = m * k ∧ u = .slice (η.r x j).ao m (η.r x j).c ∧ (η.r x j).k = k ∧ Vec own ω w (x, some j) (η.r x j) F vs.length fun i u => vs[i]? = some u
theorem celOK.move {η η' : Env} {ω ω' : Own?} {w w' : World} {own own' : Bool} {x x' : Nm} {j : Nat} {c : Cel} {u : Value} (hr : η'.r x' j = η.r x j)
    (hv : ∀ F k m vs, c = .r F k m vs → Vec own ω w (x, some j) (η.r x j) F vs.length (fun i u => vs[i]? = some u) → Vec own' ω' w' (x', some j) (η.r x j) F vs.length (fun i u => vs[i]? = some u)) (h : celOK η ω w own x j c u) : celOK η' ω' w' own' x' j c u := by
  cases c with
  | v y => exact h
  | any => trivial
  | r F k m vs =>
    obtain ⟨h0, h1, h2, h3⟩ := h
    unfold celOK
    rw [hr]
    exact ⟨h0, h1, h2, hv F k m vs rfl h3⟩
def cellsOK (η : Env) (ω : Own?) (w : World) (own : Bool) (x : Nm) : Dat → Nat → Value → Prop
  | .flat l, j, u => ∀ a, l[j]? = some a → Den1 η a u
  | .vals vs, j, u => vs[j]? = some u
  | .rows E vss holes, j, u => u.oneCell' = true ∧ (j ∉ holes → ∀ vs, vss[j]? = some vs → u = .slice (η.r x j).ao vs.length (η.r x j).c ∧ (η.r x j).k = 1 ∧ Vec own ω w (x, some j) (η.r x j) E vs.length fun i u => vs[i]? = some u)
  | .mix cs, j, u => u.oneCell' = true ∧ ∀ c, cs[j]? = some c → celOK η ω w own x j c u

def ChIs (η : Env) (ω : Own?) (w : World) (x : Nm) (h : Hd) (c : Ch) : Prop := h.k = c.k ∧ Vec c.own ω w (x, none) h c.E c.d.len (cellsOK η ω w c.own x c.d)

def Mem (η : Env) (ω : Own?) (w : World) (ch : Nm → Option Ch) : Prop :=
  (∀ x c, ch x = some c → ∃ h, η.h x = some h ∧ ChIs η ω w x h c) ∧ (∀ x, ch x = none → η.h x = none)

/-- what was not owned has not turned -/
structure Fr (ω : Own?) (w : World) (ω' : Own?) (w' : World) : Prop where
  os : w'.os = w.os
  tape : w'.tape = w.tape
  output : w'.output = w.output
  size : w.heap.size ≤ w'.heap.size
  block : ∀ b, b < w.heap.size → ω b = none → w'.heap[b]? = w.heap[b]? ∧ ω' b = none
theorem Fr.refl (ω : Own?) (w : World) : Fr ω w ω w := ⟨rfl, rfl, rfl, Nat.le_refl _, fun _ _ h => ⟨rfl, h⟩⟩
theorem Fr.trans {ω ω' ω'' : Own?} {w w' w'' : World} (h : Fr ω w ω' w') (k : Fr ω' w' ω'' w'') : Fr ω w ω'' w'' :=
  ⟨k.os.trans h.os, k.tape.trans h.tape, k.output.trans h.output, Nat.le_trans h.size k.size, fun b hb hn =>
    have h1 := h.block b hb hn
    have h2 := k.block b (Nat.lt_of_lt_of_le hb h.size) h1.2
    ⟨h2.1.trans h1.1, h2.2⟩⟩

structure St where
  sl : Nat → Option AV
  ch : Nm → Option Ch
  /-- values that stand in no slot (the arguments), as they are known now -/
  ph : Nat → Option AV
/-- what is fixed at the call's begin: the owners, and values to remember -/
structure Beg where
  own : Own?
  ph : List Value
def St.put (S : St) (t : Nat) (av : AV) : St := { S with sl := fun t' => bif Nat.beq t' t then some av else S.sl t' }
def St.putO (S : St) (t : Option Nat) (av : AV) : St := match t with | some t => S.put t av | none => S
def St.new (S : St) (x : Nm) (c : Ch) : St :=
  { sl := fun t => (S.sl t).bind fun av => bif av.has x then none else some av
    ph := fun t => (S.ph t).bind fun av => bif av.has x then none else some av
    ch := fun y => bif Nat.beq y x then some c else (S.ch y).map (Ch.forget x) }
def St.set (S : St) (x : Nm) (c : Ch) : St := { S with ch := fun y => bif Nat.beq y x then some c else S.ch y }
def St.rm (S : St) (x : Nm) : St := { S with ch := fun y => bif Nat.beq y x then none else S.ch y }

/-- the state S holds in the frame a and the world w; w0, ω0: the world and the owners at the call's begin; nt: the number of slots -/
structure SatE (w0 : World) (ω0 : Beg) (nt : Nat) (S : St) (η : Env) (ω : Own?) (a : Act) (w : World) : Prop where
  dfr : a.defers = []
  tsz : a.tmps.size = nt
  slots : ∀ t av, S.sl t = some av → ∃ u, a.tmps[t]? = some u ∧ Den η av u
  phs : ∀ t av, S.ph t = some av → ∃ u, ω0.ph[t]? = some u ∧ Den η av u
  mem : Mem η ω w S.ch
  fr : Fr ω0.own w0 ω w
def Sat (w0 : World) (ω0 : Beg) (nt : Nat) (S : St) (a : Act) (w : World) : Prop := ∃ η ω, SatE w0 ω0 nt S η ω a w

section
variable {w0 w : World} {ω0 : Beg} {ω : Own?} {nt : Nat} {S : St} {η : Env} {a : Act}

theorem beq_true {x y : Nat} (h : Nat.beq x y = true) : x = y := Nat.eq_of_beq_eq_true h
theorem beq_ne {x y : Nat} (h : x ≠ y) : Nat.beq x y = false := by
  cases hb : Nat.beq x y with
  | true => exact absurd (beq_true hb) h
  | false => rfl
theorem sl_put (S : St) (t t' : Nat) (av : AV) : (S.put t av).sl t' = if t' = t then some av else S.sl t' := by
  unfold St.put
  by_cases h : t' = t
  · subst h; simp
  · simp only [beq_ne h, if_neg h, cond_false]
theorem ch_set (S : St) (x y : Nm) (c : Ch) : (S.set x c).ch y = if y = x then some c else S.ch y := by
  unfold St.set
  by_cases h : y = x
  · subst h; simp
  · simp only [beq_ne h, if_neg h, cond_false]
theorem ch_rm (S : St) (x y : Nm) : (S.rm x).ch y = if y = x then none else S.ch y := by
  unfold St.rm
  by_cases h : y = x
  · subst h; simp
  · simp only [beq_ne h, if_neg h, cond_false]
theorem ch_new (S : St) (x y : Nm) (c : Ch) : (S.new x c).ch y = if y = x then some c else (S.ch y).map (Ch.forget x) := by
  unfold St.new
  by_cases h : y = x
  · subst h; simp
  · simp only [beq_ne h, if_neg h, cond_false]
theorem sl_new {S : St} {x : Nm} {c : Ch} {t : Nat} {av : AV} (h : (S.new x c).sl t = some av) : S.sl t = some av ∧ av.has x = false := by
  unfold St.new at h
  simp only at h
  cases hs : S.sl t with
  | none => rw [hs] at h; cases h
  | some b =>
    rw [hs] at h
    simp only [Option.bind_some] at h
    cases hb : b.has x with
    | true => rw [hb] at h; cases h
    | false => rw [hb] at h; simp at h; subst h; exact ⟨rfl, hb⟩

theorem ph_new {S : St} {x : Nm} {c : Ch} {t : Nat} {av : AV} (h : (S.new x c).ph t = some av) : S.ph t = some av ∧ av.has x = false := by
  unfold St.new at h
  simp only at h
  cases hs : S.ph t with
  | none => rw [hs] at h; cases h
  | some b =>
    rw [hs] at h
    simp only [Option.bind_some] at h
    cases hb : b.has x with
    | true => rw [hb] at h; cases h
    | false => rw [hb] at h; simp at h; subst h; exact ⟨rfl, hb⟩
theorem SatE.putV (h : SatE w0 ω0 nt S η ω a w) {t : Nat} {av : AV} {u : Value} (ht : t < nt) (hd : Den η av u) : SatE w0 ω0 nt (S.put t av) η ω (a.put (some t) u) w :=
  { dfr := h.dfr
    tsz := by simp only [Act.put, Array.size_setIfInBounds]; exact h.tsz
    mem := h.mem, fr := h.fr, phs := h.phs
    slots := fun t' av' ht' => by
      rw [sl_put] at ht'
      simp only [Act.put, Array.getElem?_setIfInBounds, h.tsz]
      by_cases e : t' = t
      · subst e
        rw [if_pos rfl] at ht'
        obtain rfl := Option.some.inj ht'
        exact ⟨u, by simp [ht], hd⟩
      · rw [if_neg e] at ht'
        obtain ⟨u', h1, h2⟩ := h.slots t' av' ht'
        exact ⟨u', by rw [if_neg fun e' => e e'.symm]; exact h1, h2⟩ }

theorem Vec.get {own : Bool} {ow : Nm × Option Nat} {h : Hd} {E : TypeId} {len : Nat} {cell : Nat → Value → Prop} (hv : Vec own ω w ow h E len cell) {j : Nat} (hj : j < len) :
    ∃ b o u, h.ao = some ⟨b, o, none⟩ ∧ w.cell? ⟨b, o + j, none⟩ = some u ∧ cell j u := by
  cases own with
  | true =>
    rcases hv with ⟨_, _, h0⟩ | ⟨b, o, cs, h1, _, h2, _, _, _, h3⟩
    · omega
    · obtain ⟨u, hu, hc⟩ := h3 j hj
      exact ⟨b, o, u, h1, by rw [cell_of_row w b (o + j) cs E (0, 0) h2]; exact hu, hc⟩
  | false =>
    obtain ⟨b, o, u, h1, _, _, h2, h3⟩ := hv.2 j hj
    exact ⟨b, o, u, h1, h2, h3⟩
theorem Vec.cap {own : Bool} {ow : Nm × Option Nat} {h : Hd} {E : TypeId} {len : Nat} {cell : Nat → Value → Prop} (hv : Vec own ω w ow h E len cell) : len ≤ h.c * h.k := by
  cases own with
  | true => rcases hv with ⟨_, _, h0⟩ | ⟨b, o, cs, h1, _, h2, _, h3, _⟩ <;> omega
  | false => exact hv.1
end
end Go.Proofs.YtljimlejcecleaaGreatDoor

/- A memory of names: how it goes on when names are laid, dropped, and written. No program in sight. -/
namespace Go.Proofs.YtljimlejcecleaaGreatDoor
open Go.RowKit

def A1.mono (η η' : Env) (a : A1) : Prop := ∀ x, a.has x = true → η'.h x = none ∨ (η'.h x = η.h x ∧ ∀ i, η'.r x i = η.r x i)
theorem beq_r (x : Nat) : Nat.beq x x = true := by simp
theorem Den1.mono {η η' : Env} {a : A1} {u : Value} (hm : a.mono η η') (h : Den1 η a u) : Den1 η' a u := by
  cases a with
  | val v => exact h
  | any => exact h
  | sl x off n => exact ⟨h.1, fun hd he => (hm x (beq_r x)).elim (fun e => by rw [e] at he; cases he) (fun e => h.2 hd (e.1 ▸ he))⟩
  | ptr x off => exact ⟨h.1, fun hd he => (hm x (beq_r x)).elim (fun e => by rw [e] at he; cases he) (fun e => h.2 hd (e.1 ▸ he))⟩
  | esl x i off n => exact ⟨h.1, fun hd he => (hm x (beq_r x)).elim (fun e => by rw [e] at he; cases he) (fun e => by rw [e.2 i]; exact h.2 hd (e.1 ▸ he))⟩
  | eptr x i off => exact ⟨h.1, fun hd he => (hm x (beq_r x)).elim (fun e => by rw [e] at he; cases he) (fun e => by rw [e.2 i]; exact h.2 hd (e.1 ▸ he))⟩
  | clo f xs =>
    obtain ⟨us, h1, h2, h3⟩ := h
    refine ⟨us, h1, h2, fun j p hp => ?_⟩
    obtain ⟨q, hq, hq1, hq2⟩ := h3 j p hp
    refine ⟨q, hq, hq1, fun hd he => ?_⟩
    have hx : (A1.clo f xs).has p.1 = true := by simp only [A1.has, List.any_eq_true]; exact ⟨p, List.mem_of_getElem? hp, beq_r _⟩
    exact (hm p.1 hx).elim (fun e => by rw [e] at he; cases he) (fun e => hq2 hd (e.1 ▸ he))
theorem Den1.one {η : Env} {a : A1} {u : Value} (h : Den1 η a u) (hv : ∀ v, a = .val v → v.oneCell' = true) : u.oneCell' = true := by
  cases a with
  | val v => have h : u = v := h; subst h; exact hv _ rfl
  | any => exact h
  | sl x off n => obtain ⟨⟨ao, c, rfl⟩, _⟩ := h; rfl
  | ptr x off => obtain ⟨⟨ao, rfl⟩, _⟩ := h; rfl
  | esl x i off n => obtain ⟨⟨ao, c, rfl⟩, _⟩ := h; rfl
  | eptr x i off => obtain ⟨⟨ao, rfl⟩, _⟩ := h; rfl
  | clo f xs => obtain ⟨us, rfl, _⟩ := h; rfl
theorem has_not_val {a : A1} {x : Nm} (h : a.has x = true) : ∀ v, a = .val v → v.oneCell' = true := by rintro v rfl; cases h
theorem Den1.forget {η η' : Env} {a : A1} {u : Value} {x : Nm} (hm : ∀ y, y ≠ x → η'.h y = none ∨ (η'.h y = η.h y ∧ ∀ i, η'.r y i = η.r y i)) (h : Den1 η a u) : Den1 η' (a.forget x) u := by
  unfold A1.forget
  cases hx : a.has x with
  | true => exact h.one (has_not_val hx)
  | false => exact Den1.mono (a := a) (fun y hy => hm y fun e => by rw [e, hx] at hy; cases hy) h
def A2.mono (η η' : Env) (a : A2) : Prop := ∀ x, a.has x = true → η'.h x = none ∨ (η'.h x = η.h x ∧ ∀ i, η'.r x i = η.r x i)
theorem Den2.mono {η η' : Env} {a : A2} {u : Value} (hm : a.mono η η') (h : Den2 η a u) : Den2 η' a u := by
  cases a with
  | one a => exact Den1.mono hm h
  | agg l =>
    obtain ⟨us, h1, h2, h3⟩ := h
    refine ⟨us, h1, h2, fun j a ha => ?_⟩
    obtain ⟨u', h4, h5⟩ := h3 j a ha
    exact ⟨u', h4, h5.mono fun x hx => hm x (by simp only [A2.has, List.any_eq_true]; exact ⟨a, List.mem_of_getElem? ha, hx⟩)⟩
def AV.mono (η η' : Env) (a : AV) : Prop := ∀ x, a.has x = true → η'.h x = none ∨ (η'.h x = η.h x ∧ ∀ i, η'.r x i = η.r x i)
theorem Den.mono {η η' : Env} {a : AV} {u : Value} (hm : a.mono η η') (h : Den η a u) : Den η' a u := by
  cases a with
  | s a => exact Den2.mono hm h
  | tup l =>
    obtain ⟨us, h1, h2, h3⟩ := h
    refine ⟨us, h1, h2, fun j a ha => ?_⟩
    obtain ⟨u', h4, h5⟩ := h3 j a ha
    exact ⟨u', h4, h5.mono fun x hx => hm x (by simp only [AV.has, List.any_eq_true]; exact ⟨a, List.mem_of_getElem? ha, hx⟩)⟩

section
variable {w0 w w' : World} {ω0 : Beg} {ω ω' : Own?} {nt : Nat} {S : St} {η η' : Env} {a : Act}

/-- the blocks that answer to p have not turned -/
def Same (ω : Own?) (w : World) (ω' : Own?) (w' : World) (p : Option (Nm × Option Nat) → Prop) : Prop :=
  w.heap.size ≤ w'.heap.size ∧ ∀ b, b < w.heap.size → p (ω b) → w'.heap[b]? = w.heap[b]? ∧ ω' b = ω b

theorem lt_of_heap {b : Nat} {o : Obj} (h : w.heap[b]? = some o) : b < w.heap.size := by
  rcases Nat.lt_or_ge b w.heap.size with hlt | hge
  · exact hlt
  · rw [Array.getElem?_eq_none hge] at h; cases h

theorem Vec.same {own : Bool} {ow : Nm × Option Nat} {h : Hd} {E : TypeId} {len : Nat} {cell cell' : Nat → Value → Prop} {p : Option (Nm × Option Nat) → Prop} (hs : Same ω w ω' w' p) (hp : p none) (hp' : p (some ow))
    (hc : ∀ j u, cell j u → cell' j u) (hv : Vec own ω w ow h E len cell) : Vec own ω' w' ow h E len cell' := by
  cases own with
  | true =>
    rcases hv with h0 | ⟨b, o, cs, h1, h2, h3, h4, h5, h6, h7⟩
    · exact .inl h0
    · have hb := hs.2 b (lt_of_heap h3) (by rw [h2]; exact hp')
      refine .inr ⟨b, o, cs, h1, hb.2.trans h2, hb.1.trans h3, h4, h5, h6, fun j hj => ?_⟩
      obtain ⟨u, hu, hcu⟩ := h7 j hj
      exact ⟨u, hu, hc j u hcu⟩
  | false =>
    refine ⟨hv.1, fun j hj => ?_⟩
    obtain ⟨b, o, u, h1, h2, h3, h4, h5⟩ := hv.2 j hj
    have hb := hs.2 b h3 (by rw [h2]; exact hp)
    exact ⟨b, o, u, h1, hb.2.trans h2, Nat.lt_of_lt_of_le h3 hs.1, (World.cell?_of_block hb.1).trans h4, hc j u h5⟩

theorem ChIs.same {x : Nm} {h : Hd} {c : Ch} {p : Option (Nm × Option Nat) → Prop} (hs : Same ω w ω' w' p) (hp : p none) (hp' : ∀ i, p (some (x, i))) (hr : ∀ i, η'.r x i = η.r x i)
    (hm : ∀ l, c.d = .flat l → ∀ a ∈ l, a.mono η η') (hc : ChIs η ω w x h c) : ChIs η' ω' w' x h c := by
  refine ⟨hc.1, hc.2.same hs hp (hp' none) fun j u hu => ?_⟩
  cases hd : c.d with
  | flat l => rw [hd] at hu; exact fun a ha => (hu a ha).mono (hm l hd a (List.mem_of_getElem? ha))
  | vals vs => rw [hd] at hu; exact hu
  | rows E vss holes =>
    rw [hd] at hu
    refine ⟨hu.1, fun hj vs hvs => ?_⟩
    obtain ⟨h1, h2, h3⟩ := hu.2 hj vs hvs
    rw [hr j]
    exact ⟨h1, h2, h3.same hs hp (hp' (some j)) fun _ _ h => h⟩
  | mix cs => rw [hd] at hu; exact ⟨hu.1, fun c hc => (hu.2 c hc).move (hr j) fun _ _ _ _ _ h3 => h3.same hs hp (hp' (some j)) fun _ _ h => h⟩

theorem ChIs.forget {x y : Nm} {h : Hd} {c : Ch} {p : Option (Nm × Option Nat) → Prop} (hs : Same ω w ω' w' p) (hp : p none) (hp' : ∀ i, p (some (x, i))) (hr : ∀ i, η'.r x i = η.r x i)
    (hm : ∀ z, z ≠ y → η'.h z = none ∨ (η'.h z = η.h z ∧ ∀ i, η'.r z i = η.r z i)) (hc : ChIs η ω w x h c) : ChIs η' ω' w' x h (c.forget y) := by
  refine ⟨hc.1, ?_⟩
  have hl : (c.forget y).d.len = c.d.len := by unfold Ch.forget Dat.forget; cases c.d <;> simp [Dat.len]
  rw [hl]
  refine hc.2.same hs hp (hp' none) fun j u hu => ?_
  unfold Ch.forget Dat.forget
  cases hd : c.d with
  | flat l =>
    rw [hd] at hu
    intro a ha
    simp only [List.getElem?_map, Option.map_eq_some_iff] at ha
    obtain ⟨b, hb, rfl⟩ := ha
    exact (hu b hb).forget hm
  | vals vs => rw [hd] at hu; exact hu
  | rows E vss holes =>
    rw [hd] at hu
    refine ⟨hu.1, fun hj vs hvs => ?_⟩
    obtain ⟨h1, h2, h3⟩ := hu.2 hj vs hvs
    rw [hr j]
    exact ⟨h1, h2, h3.same hs hp (hp' (some j)) fun _ _ h => h⟩
  | mix cs => rw [hd] at hu; exact ⟨hu.1, fun c hc => (hu.2 c hc).move (hr j) fun _ _ _ _ _ h3 => h3.same hs hp (hp' (some j)) fun _ _ h => h⟩

/-- the owners that are alive, and nobody -/
def live (S : St) (o : Option (Nm × Option Nat)) : Prop := o = none ∨ ∃ y i c, o = some (y, i) ∧ S.ch y = some c
structure Calm (S : St) (ω : Own?) (w : World) (ω' : Own?) (w' : World) : Prop where
  os : w'.os = w.os
  tape : w'.tape = w.tape
  output : w'.output = w.output
  same : Same ω w ω' w' (live S)
theorem Calm.fr {ω0 : Own?} (h : Calm S ω w ω' w') (hf : Fr ω0 w0 ω w) : Fr ω0 w0 ω' w' :=
  ⟨h.os.trans hf.os, h.tape.trans hf.tape, h.output.trans hf.output, Nat.le_trans hf.size h.same.1, fun b hb hn => by
    have h1 := hf.block b hb hn
    have h2 := h.same.2 b (Nat.lt_of_lt_of_le hb hf.size) (.inl h1.2)
    exact ⟨h2.1.trans h1.1, h2.2.trans h1.2⟩⟩

/-- the environment with a new name -/
def Env.new (η : Env) (x : Nm) (hd : Hd) (r : Nat → Hd) : Env := { h := fun y => if y = x then some hd else η.h y, r := fun y i => if y = x then r i else η.r y i }
theorem Env.new_ne (η : Env) {x : Nm} (hd : Hd) (r : Nat → Hd) (y : Nm) (h : y ≠ x) : (η.new x hd r).h y = none ∨ ((η.new x hd r).h y = η.h y ∧ ∀ i, (η.new x hd r).r y i = η.r y i) :=
  .inr ⟨by simp [Env.new, h], fun i => by simp [Env.new, h]⟩

/-- a chunk is laid under a name that is free -/
theorem SatE.lay (h : SatE w0 ω0 nt S η ω a w) {x : Nm} {c : Ch} {hd : Hd} {r : Nat → Hd} (hk : Calm S ω w ω' w') (hc : ChIs (η.new x hd r) ω' w' x hd c) : SatE w0 ω0 nt (S.new x c) (η.new x hd r) ω' a w' :=
  { dfr := h.dfr, tsz := h.tsz, fr := hk.fr h.fr
    slots := fun t av ht => by
      obtain ⟨h1, h2⟩ := sl_new ht
      obtain ⟨u, h3, h4⟩ := h.slots t av h1
      exact ⟨u, h3, h4.mono fun y hy => Env.new_ne η hd r y fun e => by rw [e, h2] at hy; cases hy⟩
    phs := fun t av ht => by
      obtain ⟨h1, h2⟩ := ph_new ht
      obtain ⟨u, h3, h4⟩ := h.phs t av h1
      exact ⟨u, h3, h4.mono fun y hy => Env.new_ne η hd r y fun e => by rw [e, h2] at hy; cases hy⟩
    mem := ⟨fun y d hy => by
      rw [ch_new] at hy
      by_cases e : y = x
      · subst e
        rw [if_pos rfl] at hy
        obtain rfl := Option.some.inj hy
        exact ⟨hd, by simp [Env.new], hc⟩
      · rw [if_neg e, Option.map_eq_some_iff] at hy
        obtain ⟨d', hy', rfl⟩ := hy
        obtain ⟨h', e1, e2⟩ := h.mem.1 y d' hy'
        exact ⟨h', by simp [Env.new, e, e1], e2.forget hk.same (.inl rfl) (fun i => .inr ⟨y, i, d', rfl, hy'⟩) (fun i => by simp [Env.new, e]) fun z hz => Env.new_ne η hd r z hz⟩,
     fun y hy => by
      rw [ch_new] at hy
      by_cases e : y = x
      · rw [if_pos e] at hy; cases hy
      · rw [if_neg e, Option.map_eq_none_iff] at hy
        simp [Env.new, e, h.mem.2 y hy]⟩ }

/-- a name is dropped -/
def Env.drop (η : Env) (x : Nm) : Env := { η with h := fun y => if y = x then none else η.h y }
theorem Env.drop_any (η : Env) (x y : Nm) : (η.drop x).h y = none ∨ ((η.drop x).h y = η.h y ∧ ∀ i, (η.drop x).r y i = η.r y i) := by
  by_cases e : y = x
  · exact .inl (by simp [Env.drop, e])
  · exact .inr ⟨by simp [Env.drop, e], fun _ => rfl⟩
theorem Same.refl (ω : Own?) (w : World) (p : Option (Nm × Option Nat) → Prop) : Same ω w ω w p := ⟨Nat.le_refl _, fun _ _ _ => ⟨rfl, rfl⟩⟩
theorem Calm.refl (S : St) (ω : Own?) (w : World) : Calm S ω w ω w := ⟨rfl, rfl, rfl, Same.refl _ _ _⟩
theorem SatE.drop (h : SatE w0 ω0 nt S η ω a w) (x : Nm) : SatE w0 ω0 nt (S.rm x) (η.drop x) ω a w :=
  { dfr := h.dfr, tsz := h.tsz, fr := h.fr
    slots := fun t av ht => by
      obtain ⟨u, h3, h4⟩ := h.slots t av ht
      exact ⟨u, h3, h4.mono fun y _ => Env.drop_any η x y⟩
    phs := fun t av ht => by
      obtain ⟨u, h3, h4⟩ := h.phs t av ht
      exact ⟨u, h3, h4.mono fun y _ => Env.drop_any η x y⟩
    mem := ⟨fun y d hy => by
      rw [ch_rm] at hy
      by_cases e : y = x
      · rw [if_pos e] at hy; cases hy
      · rw [if_neg e] at hy
        obtain ⟨h', e1, e2⟩ := h.mem.1 y d hy
        exact ⟨h', by simp [Env.drop, e, e1], ChIs.same (η := η) (p := fun _ => True) (Same.refl _ _ _) trivial (fun _ => trivial) (fun _ => rfl) (fun l _ a _ z _ => Env.drop_any η x z) e2⟩,
     fun y hy => by
      rw [ch_rm] at hy
      by_cases e : y = x
      · simp [Env.drop, e]
      · rw [if_neg e] at hy
        simp [Env.drop, e, h.mem.2 y hy]⟩ }

/-- a chunk of the call's own is written in its place: its handle stays -/
theorem SatE.write (h : SatE w0 ω0 nt S η ω a w) {x : Nm} {c' : Ch} {hd : Hd} (he : η.h x = some hd) (hk : Calm (S.rm x) ω w ω' w') (hc : ChIs η ω' w' x hd c') :
    SatE w0 ω0 nt (S.set x c') η ω' a w' :=
  { dfr := h.dfr, tsz := h.tsz, fr := hk.fr h.fr, slots := h.slots, phs := h.phs
    mem := ⟨fun y d hy => by
      rw [ch_set] at hy
      by_cases e : y = x
      · subst e
        rw [if_pos rfl] at hy
        obtain rfl := Option.some.inj hy
        exact ⟨hd, he, hc⟩
      · rw [if_neg e] at hy
        obtain ⟨h', e1, e2⟩ := h.mem.1 y d hy
        exact ⟨h', e1, e2.same hk.same (.inl rfl) (fun i => .inr ⟨y, i, d, rfl, by rw [ch_rm, if_neg e]; exact hy⟩) (fun _ => rfl) fun l _ a _ z _ => .inr ⟨rfl, fun _ => rfl⟩⟩,
     fun y hy => by
      rw [ch_set] at hy
      by_cases e : y = x
      · rw [if_pos e] at hy; cases hy
      · rw [if_neg e] at hy; exact h.mem.2 y hy⟩ }
end
end Go.Proofs.YtljimlejcecleaaGreatDoor

/- A memory of names: the operations that make no memory, and the loads. No program in sight. -/
namespace Go.Proofs.YtljimlejcecleaaGreatDoor
open Go.RowKit

def cv : Value → AV
  | .agg cs => .s (.agg (cs.toList.map .val))
  | v => vv v
def St.op (S : St) : Operand → Option AV
  | .tmp t => S.sl t
  | .const v => some (cv v)
  | .func f => some (o1 (.clo (.func f) []))
  | .global _ => none

theorem den_cv (η : Env) (v : Value) : Den η (cv v) v := by
  cases v <;> try exact rfl
  rename_i cs
  refine ⟨cs, rfl, by simp, fun j a ha => ?_⟩
  simp only [List.getElem?_map, Option.map_eq_some_iff] at ha
  obtain ⟨u, hu, rfl⟩ := ha
  exact ⟨u, by simpa using hu, rfl⟩

structure Stp (P : Program) (nt : Nat) (o : Oper) (S S' : St) : Prop where
  go : ∀ (w0 : World) (ω0 : Beg) (a : Act) (w : World) (Q : Exit → Act → World → Prop), Sat w0 ω0 nt S a w → o.wp P a w (Sat w0 ω0 nt S') Q

section
variable {P : Program} {nt : Nat} {S S' : St} {w0 w : World} {ω0 : Beg} {ω : Own?} {η : Env} {a : Act}

theorem SatE.opv (h : SatE w0 ω0 nt S η ω a w) {x : Operand} {av : AV} (hx : S.op x = some av) : Den η av (a.eval x) := by
  cases x with
  | tmp t =>
    obtain ⟨u, h1, h2⟩ := h.slots t av hx
    have : a.eval (.tmp t) = u := by simp [Act.eval, h1]
    rw [this]; exact h2
  | const v => obtain rfl := Option.some.inj hx; exact den_cv η v
  | func f => obtain rfl := Option.some.inj hx; exact ⟨#[], rfl, rfl, fun j p hp => by simp at hp⟩
  | global g => cases hx
theorem SatE.opV (h : SatE w0 ω0 nt S η ω a w) {x : Operand} {v : Value} (hx : S.op x = some (vv v)) : a.eval x = v := h.opv hx

theorem Stp.of (o : Oper) (h : ∀ w0 ω0 η ω a w, SatE w0 ω0 nt S η ω a w → ∃ v w', (execOp a.eval o).run P w = .ok (.value v) w' ∧ Sat w0 ω0 nt S' (a.put o.dst v) w') : Stp P nt o S S' := by
  refine ⟨fun w0 ω0 a w Q ⟨η, ω, hs⟩ => ?_⟩
  obtain ⟨v, w', h1, h2⟩ := h w0 ω0 η ω a w hs
  unfold Oper.wp
  rw [h1]
  exact h2
theorem Stp.pure {o : Oper} {t : Nat} {av : AV} (hd : o.dst = some t) (ht : Nat.blt t nt = true) (h : ∀ w0 ω0 η ω a w, SatE w0 ω0 nt S η ω a w → ∃ v, (execOp a.eval o).run P w = .ok (.value v) w ∧ Den η av v) : Stp P nt o S (S.put t av) := by
  refine Stp.of o fun w0 ω0 η ω a w hs => ?_
  obtain ⟨v, h1, h2⟩ := h w0 ω0 η ω a w hs
  exact ⟨v, w, h1, η, ω, by rw [hd]; exact hs.putV (by simpa using ht) h2⟩

variable {t : Nat} {ty : TypeId} {ps : String} {af : Array Edge} {gd : Option (Nat × Bool)} {x y : Operand} {av : AV}

theorem stp_move (ht : Nat.blt t nt = true) (hx : S.op x = some av) : Stp P nt ⟨some t, .move x, ty, ps, af, gd⟩ S (S.put t av) :=
  Stp.pure rfl ht fun _ _ η _ a _ hs => ⟨a.eval x, by simp [execOp], hs.opv hx⟩
theorem stp_assign (ht : Nat.blt t nt = true) (hx : S.op x = some av) : Stp P nt ⟨some t, .assign x, ty, ps, af, gd⟩ S (S.put t av) :=
  Stp.pure rfl ht fun _ _ η _ a _ hs => ⟨a.eval x, by simp [execOp], hs.opv hx⟩

/-- the integer operations -/
def binI (k : IntKind) : BinOp → Int → Int → Option Value
  | .add, m, n => some (.int k (k.wrap (m + n)))
  | .sub, m, n => some (.int k (k.wrap (m - n)))
  | .mul, m, n => some (.int k (k.wrap (m * n)))
  | .eql, m, n => some (.bool (m == n))
  | .neq, m, n => some (.bool (m != n))
  | .lss, m, n => some (.bool (decide (m < n)))
  | .leq, m, n => some (.bool (decide (m ≤ n)))
  | .gtr, m, n => some (.bool (decide (m > n)))
  | .geq, m, n => some (.bool (decide (m ≥ n)))
  | _, _, _ => none
theorem stp_bin {op : BinOp} {xt yt : TypeId} {k : IntKind} {m n : Int} {r : Value} (ht : Nat.blt t nt = true) (hx : S.op x = some (vv (.int k m))) (hy : S.op y = some (vv (.int k n))) (hr : binI k op m n = some r) :
    Stp P nt ⟨some t, .binOp op xt x y yt, ty, ps, af, gd⟩ S (S.put t (vv r)) :=
  Stp.pure rfl ht fun _ _ η _ a w hs => by
    refine ⟨r, ?_, rfl⟩
    simp only [execOp, hs.opV hx, hs.opV hy]
    cases op <;> simp only [binI, Option.some.injEq, reduceCtorEq] at hr <;> subst hr <;> simp [eqGuard, binOp, Op.intArith, Op.intCmp]
theorem stp_add {xt yt : TypeId} {k : IntKind} {m n r : Int} (ht : Nat.blt t nt = true) (hx : S.op x = some (vv (.int k m))) (hy : S.op y = some (vv (.int k n))) (hr : k.wrap (m + n) = r) :
    Stp P nt ⟨some t, .binOp .add xt x y yt, ty, ps, af, gd⟩ S (S.put t (vv (.int k r))) := hr ▸ stp_bin ht hx hy rfl
theorem stp_sub {xt yt : TypeId} {k : IntKind} {m n r : Int} (ht : Nat.blt t nt = true) (hx : S.op x = some (vv (.int k m))) (hy : S.op y = some (vv (.int k n))) (hr : k.wrap (m - n) = r) :
    Stp P nt ⟨some t, .binOp .sub xt x y yt, ty, ps, af, gd⟩ S (S.put t (vv (.int k r))) := hr ▸ stp_bin ht hx hy rfl
theorem stp_mul {xt yt : TypeId} {k : IntKind} {m n r : Int} (ht : Nat.blt t nt = true) (hx : S.op x = some (vv (.int k m))) (hy : S.op y = some (vv (.int k n))) (hr : k.wrap (m * n) = r) :
    Stp P nt ⟨some t, .binOp .mul xt x y yt, ty, ps, af, gd⟩ S (S.put t (vv (.int k r))) := hr ▸ stp_bin ht hx hy rfl
theorem stp_not {xt : TypeId} {b : Bool} (ht : Nat.blt t nt = true) (hx : S.op x = some (vv (.bool b))) : Stp P nt ⟨some t, .unOp .not xt x, ty, ps, af, gd⟩ S (S.put t (vv (.bool !b))) :=
  Stp.pure rfl ht fun _ _ η _ a w hs => ⟨.bool !b, by simp [execOp, hs.opV hx, Op.unary], rfl⟩
/-- a cell behind a name -/
theorem SatE.chunk (h : SatE w0 ω0 nt S η ω a w) {x : Nm} {c : Ch} (hx : S.ch x = some c) : ∃ hd, η.h x = some hd ∧ hd.k = c.k ∧ Vec c.own ω w (x, none) hd c.E c.d.len (cellsOK η ω w c.own x c.d) :=
  have ⟨hd, h1, h2, h3⟩ := h.mem.1 x c hx
  ⟨hd, h1, h2, h3⟩

theorem stp_nilCheck {n : Nm} {i : Nat} {c : Ch} (ht : Nat.blt t nt = true) (hx : S.op x = some (o1 (.ptr n i))) (hc : S.ch n = some c) : Stp P nt ⟨some t, .nilCheck x, ty, ps, af, gd⟩ S (S.put t (o1 (.ptr n i))) :=
  Stp.pure rfl ht fun _ _ η _ a w hs => by
    obtain ⟨hd, h1, _⟩ := hs.chunk hc
    have hd1 : Den1 η (.ptr n i) (a.eval x) := hs.opv hx
    obtain ⟨b, o, e1, e2⟩ := hd1.2 hd h1
    exact ⟨a.eval x, by simp [execOp, e2], hd1⟩

/-- the field f of the struct T begins at cell d, and has some cells -/
def fieldAtB (P : Program) (T : TypeId) (f d : Nat) : Bool :=
  match P.underlying T with
  | some (.struct fs) => match fs[f]? with
    | some fd => fd.offset == d && (match P.info? fd.type with | some i => i.size != 0 | none => false)
    | none => false
  | _ => false
theorem fieldAtB_run {T : TypeId} {f d : Nat} (h : fieldAtB P T f d = true) (b o : Nat) (w : World) : (Instr.fieldAt T (.pointer (some ⟨b, o, none⟩)) f).run P w = .ok (.pointer (some ⟨b, o + d, none⟩)) w := by
  unfold fieldAtB at h
  split at h
  · rename_i fs hfs
    split at h
    · rename_i fd hfd
      simp only [Bool.and_eq_true, beq_iff_eq] at h
      obtain ⟨h1, h2⟩ := h
      split at h2
      · rename_i i hi
        have h3 : i.size ≠ 0 := by simpa using h2
        subst h1
        simp [Instr.fieldAt, run_underlying hfs, hfd, Instr.sureAddr, fieldPlace, sizeOf, typeInfo, hi, h3, Addr.add_lit]
      · cases h2
    · cases h
  · cases h
theorem stp_fieldAddr {T : TypeId} {f d : Nat} {n : Nm} {i : Nat} {c : Ch} (ht : Nat.blt t nt = true) (hx : S.op x = some (o1 (.ptr n i))) (hc : S.ch n = some c) (hf : fieldAtB P T f d = true) :
    Stp P nt ⟨some t, .fieldAddr T x f, ty, ps, af, gd⟩ S (S.put t (o1 (.ptr n (i + d)))) :=
  Stp.pure rfl ht fun _ _ η _ a w hs => by
    obtain ⟨hd, h1, _⟩ := hs.chunk hc
    have hd1 : Den1 η (.ptr n i) (a.eval x) := hs.opv hx
    obtain ⟨b, o, e1, e2⟩ := hd1.2 hd h1
    refine ⟨.pointer (some ⟨b, o + i + d, none⟩), by simp [execOp, e2, fieldAtB_run hf], ⟨_, rfl⟩, fun hd' he => ?_⟩
    rw [h1] at he; obtain rfl := Option.some.inj he
    exact ⟨b, o, e1, by rw [Nat.add_assoc]⟩

/-- a type of one cell -/
def oneB (P : Program) (T : TypeId) : Bool :=
  match P.underlying T with
  | some (.struct _) | some (.array _ _) | none => false
  | _ => true
theorem oneB_agg {T : TypeId} (h : oneB P T = true) (w : World) : (isAgg T).run P w = .ok false w := by
  unfold oneB at h
  cases hu : P.underlying T with
  | none => rw [hu] at h; cases h
  | some d => rw [hu] at h; cases d <;> first | (cases h; done) | simp [isAgg, run_underlying hu]
theorem run_load1 {T : TypeId} (h : oneB P T = true) {p : Addr} {w : World} {u : Value} (hc : w.cell? p = some u) : (Instr.loadAt T (.pointer (some p))).run P w = .ok u w := by
  simp [Instr.loadAt, Instr.sureAddr, loadVar, oneB_agg h, hc]

/-- what lies in cell j of a chunk -/
def Dat.at_ (x : Nm) : Dat → Nat → Option A1
  | .flat l, j => l[j]?
  | .vals vs, j => vs[j]?.map .val
  | .rows _ vss holes, j => if holes.contains j then none else vss[j]?.map fun vs => .esl x j 0 vs.length
  | .mix cs, j => match cs[j]? with
    | some (.v y) => some (.val y)
    | some (.r _ _ m _) => some (.esl x j 0 m)
    | some .any => some .any
    | none => none
theorem den_at {x : Nm} {own : Bool} {d : Dat} {j : Nat} {u : Value} {b : A1} (hu : cellsOK η ω w own x d j u) (hb : d.at_ x j = some b) : Den1 η b u := by
  cases d with
  | flat l => exact hu b hb
  | vals vs =>
    have hu : vs[j]? = some u := hu
    have hb : vs[j]?.map A1.val = some b := hb
    rw [hu] at hb; simp at hb; subst hb; exact rfl
  | rows E vss holes =>
    have hb : (if holes.contains j then none else vss[j]?.map fun vs => A1.esl x j 0 vs.length) = some b := hb
    split at hb
    · cases hb
    · rename_i hh
      rw [Option.map_eq_some_iff] at hb
      obtain ⟨vs, hvs, rfl⟩ := hb
      obtain ⟨rfl, h2, _⟩ := hu.2 (by simpa using hh) vs hvs
      exact ⟨⟨_, _, rfl⟩, fun hd _ => ⟨_, rfl, fun _ => rfl, fun h => absurd h (by omega)⟩⟩
  | mix cs =>
    simp only [Dat.at_] at hb
    cases hc : cs[j]? with
    | none => rw [hc] at hb; cases hb
    | some c =>
      rw [hc] at hb
      have hk := hu.2 c hc
      cases c with
      | v y => obtain rfl := Option.some.inj hb; exact hk
      | any => obtain rfl := Option.some.inj hb; exact hu.1
      | r F k m vs =>
        obtain rfl := Option.some.inj hb
        obtain ⟨_, rfl, _, _⟩ := hk
        exact ⟨⟨_, _, rfl⟩, fun hd _ => ⟨_, rfl, fun _ => rfl, fun h => absurd h (by omega)⟩⟩
theorem Dat.at_lt {x : Nm} {d : Dat} {j : Nat} {b : A1} (h : d.at_ x j = some b) : j < d.len := by
  cases d with
  | flat l => exact (List.getElem?_eq_some_iff.1 h).1
  | vals vs =>
    have h : vs[j]?.map A1.val = some b := h
    rw [Option.map_eq_some_iff] at h
    obtain ⟨v, hv, _⟩ := h
    exact (List.getElem?_eq_some_iff.1 hv).1
  | rows E vss holes =>
    have h : (if holes.contains j then none else vss[j]?.map fun vs => A1.esl x j 0 vs.length) = some b := h
    split at h
    · cases h
    · rw [Option.map_eq_some_iff] at h
      obtain ⟨vs, hvs, rfl⟩ := h
      exact (List.getElem?_eq_some_iff.1 hvs).1
  | mix cs =>
    simp only [Dat.at_] at h
    cases hc : cs[j]? with
    | none => rw [hc] at h; cases h
    | some c => exact (List.getElem?_eq_some_iff.1 hc).1

theorem stp_load {T : TypeId} {n : Nm} {i : Nat} {c : Ch} {b : A1} (ht : Nat.blt t nt = true) (hT : oneB P T = true) (hx : S.op x = some (o1 (.ptr n i))) (hc : S.ch n = some c) (hb : c.d.at_ n i = some b) :
    Stp P nt ⟨some t, .load T x, ty, ps, af, gd⟩ S (S.put t (o1 b)) :=
  Stp.pure rfl ht fun _ _ η _ a w hs => by
    obtain ⟨hd, h1, _, h3⟩ := hs.chunk hc
    have hd1 : Den1 η (.ptr n i) (a.eval x) := hs.opv hx
    obtain ⟨bb, o, e1, e2⟩ := hd1.2 hd h1
    obtain ⟨b', o', u, f1, f2, f3⟩ := h3.get (Dat.at_lt hb)
    rw [e1] at f1; injection f1 with f1; injection f1 with f1 f1'; subst f1 f1'
    exact ⟨u, by simp [execOp, e2, run_load1 hT f2], den_at f3 hb⟩
/-- the slice type T has elements of k cells -/
def elemB (P : Program) (T : TypeId) (k : Nat) : Bool :=
  match P.underlying T with
  | some (.slice e) => match P.info? e with
    | some i => i.size == k
    | none => false
  | _ => false
theorem elemB_spec {T : TypeId} {k : Nat} (h : elemB P T k = true) : ∃ e i, P.underlying T = some (.slice e) ∧ P.info? e = some i ∧ i.size = k := by
  unfold elemB at h
  split at h
  · rename_i e he
    split at h
    · rename_i i hi
      exact ⟨e, i, he, hi, by simpa using h⟩
    · cases h
  · cases h
theorem run_indexAddr {T : TypeId} {k : Nat} (h : elemB P T k = true) {b o n c j : Nat} (hj : j < n) {ki : IntKind} {i : Int} (hi : i = (j : Int)) (w : World) :
    (Instr.indexAt T (.slice (some ⟨b, o, none⟩) n c) (.int ki i)).run P w = .ok (.pointer (some ⟨b, o + j * k, none⟩)) w := by
  obtain ⟨e, inf, h1, h2, rfl⟩ := elemB_spec h
  subst hi
  have hj' : ((j : Int) < (n : Int)) := by omega
  have h0 : (0 : Int) ≤ (j : Int) := by omega
  simp [Instr.indexAt, asIntOf, run_underlying h1, hj, sizeOf, typeInfo, h2, Addr.add_lit]
theorem stp_indexAddr {T : TypeId} {n : Nm} {off len j k : Nat} {c : Ch} {ki : IntKind} {i : Int} (ht : Nat.blt t nt = true) (hx : S.op x = some (o1 (.sl n off len))) (hy : S.op y = some (vv (.int ki i))) (hc : S.ch n = some c) (hk : c.k = k) (hT : elemB P T k = true)
    (hi : i = (j : Int)) (hj : j < len) (hl : (off + len) * k ≤ c.d.len) (hk0 : 0 < k) : Stp P nt ⟨some t, .indexAddr T x y, ty, ps, af, gd⟩ S (S.put t (o1 (.ptr n ((off + j) * k)))) :=
  Stp.pure rfl ht fun _ _ η _ a w hs => by
    obtain ⟨hd, h1, h2, h3⟩ := hs.chunk hc
    have hd1 : Den1 η (.sl n off len) (a.eval x) := hs.opv hx
    obtain ⟨ao, e1, e2, e3⟩ := hd1.2 hd h1
    have hl0 : 0 < c.d.len := Nat.lt_of_lt_of_le (Nat.mul_pos (by omega) hk0) hl
    obtain ⟨b', o', u, f1, f2, f3⟩ := h3.get hl0
    have hao : ao = some ⟨b', o' + off * k, none⟩ := by
      rcases Nat.eq_zero_or_pos off with h0 | h0
      · rw [e2 h0, f1, h0]; simp
      · rw [e3 h0 ?_, f1]
        · simp [h2, hk]
        · have hcap := h3.cap
          rw [h2, hk] at hcap
          have h5 : (off + len) * k ≤ hd.c * k := Nat.le_trans hl hcap
          have := Nat.le_of_mul_le_mul_right h5 hk0
          omega
    subst hao
    refine ⟨.pointer (some ⟨b', o' + off * k + j * k, none⟩), by simp only [execOp, e1, hs.opV hy]; simp [run_indexAddr hT hj hi], ⟨_, rfl⟩, fun hd' he => ?_⟩
    rw [h1] at he; obtain rfl := Option.some.inj he
    exact ⟨b', o', f1, by rw [Nat.add_mul, Nat.add_assoc]⟩
end
end Go.Proofs.YtljimlejcecleaaGreatDoor

/- A memory of names: indices of rows and arrays, lengths, slices of slices, aggregates, closures. No program in sight. -/
namespace Go.Proofs.YtljimlejcecleaaGreatDoor
open Go.RowKit

section
variable {P : Program} {nt : Nat} {S S' : St} {w0 w : World} {ω0 : Beg} {ω : Own?} {η : Env} {a : Act}
variable {t : Nat} {ty : TypeId} {ps : String} {af : Array Edge} {gd : Option (Nat × Bool)} {x y : Operand} {av : AV}

def sliceB (P : Program) (T : TypeId) : Bool :=
  match P.underlying T with
  | some (.slice _) => true
  | _ => false
theorem sliceB_spec {T : TypeId} (h : sliceB P T = true) : ∃ e, P.underlying T = some (.slice e) := by
  unfold sliceB at h
  split at h
  · exact ⟨_, by assumption⟩
  · cases h
theorem run_len {T : TypeId} (h : sliceB P T = true) (ao : Option Addr) (n c : Nat) (w : World) : (Builtin.len_ #[T] ty #[.slice ao n c]).run P w = .ok (.int .i64 n) w := by
  obtain ⟨e, he⟩ := sliceB_spec h
  simp [Builtin.len_, run_underlying he, goInt]
/-- how long a slice is -/
def A1.len : A1 → Option Nat
  | .sl _ _ n => some n
  | .esl _ _ _ n => some n
  | .val (.slice _ n _) => some n
  | _ => none
theorem Den1.len_ {b : A1} {n : Nat} {u : Value} (h : Den1 η b u) (hn : b.len = some n) : ∃ ao c, u = .slice ao n c := by
  cases b with
  | sl x off m => obtain rfl := Option.some.inj hn; exact h.1
  | esl x i off m => obtain rfl := Option.some.inj hn; exact h.1
  | val v =>
    have h : u = v := h
    subst h
    cases u <;> simp [A1.len] at hn
    rename_i ao m c
    subst hn; exact ⟨ao, c, rfl⟩
  | _ => cases hn
theorem stp_len {T : TypeId} {b : A1} {n : Nat} (ht : Nat.blt t nt = true) (hx : S.op x = some (o1 b)) (hn : b.len = some n) (hT : sliceB P T = true) :
    Stp P nt ⟨some t, .call { callee := .builtin .len, args := #[x], argTypes := #[T] }, ty, ps, af, gd⟩ S (S.put t (vv (.int .i64 n))) :=
  Stp.pure rfl ht fun _ _ η _ a w hs => by
    have hd1 : Den1 η b (a.eval x) := hs.opv hx
    obtain ⟨ao, c, e⟩ := hd1.len_ hn
    exact ⟨.int .i64 n, by simp [execOp, resolve, invoke, builtin, e, run_len hT], rfl⟩

theorem run_max {k : IntKind} {m n : Int} (w : World) (ts : Array TypeId) : (Builtin.max_ ts ty #[.int k m, .int k n]).run P w = .ok (.int k (if n > m then n else m)) w := by
  simp [Builtin.max_, Builtin.max2]
theorem stp_max {ts : Array TypeId} {k : IntKind} {m n : Int} (ht : Nat.blt t nt = true) (hx : S.op x = some (vv (.int k m))) (hy : S.op y = some (vv (.int k n))) :
    Stp P nt ⟨some t, .call { callee := .builtin .max, args := #[x, y], argTypes := ts }, ty, ps, af, gd⟩ S (S.put t (vv (.int k (if n > m then n else m)))) :=
  Stp.pure rfl ht fun _ _ η _ a w hs => ⟨_, by simp [execOp, resolve, invoke, builtin, hs.opV hx, hs.opV hy, run_max], rfl⟩

end
end Go.Proofs.YtljimlejcecleaaGreatDoor

/- A memory of names: new chunks (boxes, variables, literals, make). No program in sight. -/
namespace Go.Proofs.YtljimlejcecleaaGreatDoor
open Go.RowKit

section
variable {P : Program} {nt : Nat} {S S' : St} {w0 w : World} {ω0 : Beg} {ω : Own?} {η : Env} {a : Act}
variable {t : Nat} {ty : TypeId} {ps : String} {af : Array Edge} {gd : Option (Nat × Bool)} {x y : Operand} {av : AV}

def Own?.new (ω : Own?) (b : Nat) (o : Nm × Option Nat) : Own? := fun b' => if b' = b then some o else ω b'
theorem calm_alloc (S : St) (ω : Own?) (w : World) (o : Obj) (ow : Nm × Option Nat) : Calm S ω w (Own?.new ω w.heap.size ow) (w.alloc o) :=
  ⟨rfl, rfl, rfl, by simp, fun b hb _ => ⟨Below.heap_alloc w o b hb, by simp [Own?.new, Nat.ne_of_lt hb]⟩⟩
/-- a new block under the name x -/
theorem SatE.alloc (h : SatE w0 ω0 nt S η ω a w) {x : Nm} {c : Ch} {cs : Array Value} {r : Nat → Hd} {n : Nat} (hown : c.own = true) (hn : cs.size = n * c.k) (hl : c.d.len ≤ n * c.k) (hm : n ≤ maxLen)
    (hc : ∀ j, j < c.d.len → ∃ u, cs[j]? = some u ∧ cellsOK (η.new x ⟨some ⟨w.heap.size, 0, none⟩, n, c.k⟩ r) (Own?.new ω w.heap.size (x, none)) (w.alloc (.cells cs c.E)) true x c.d j u) :
    SatE w0 ω0 nt (S.new x c) (η.new x ⟨some ⟨w.heap.size, 0, none⟩, n, c.k⟩ r) (Own?.new ω w.heap.size (x, none)) a (w.alloc (.cells cs c.E)) :=
  h.lay (calm_alloc S ω w _ _) ⟨rfl, by
    rw [hown]
    refine .inr ⟨w.heap.size, 0, cs, rfl, by simp [Own?.new], heap_alloc_new w _, ⟨rfl, hn⟩, hl, hm, fun j hj => ?_⟩
    obtain ⟨u, h1, h2⟩ := hc j hj
    exact ⟨u, by simpa using h1, h2⟩⟩

def A2.list : A2 → List A1
  | .one a => [a]
  | .agg l => l
theorem den2_cells {a2 : A2} {u : Value} (h : Den2 η a2 u) (h1 : ∀ v, a2 = .one (.val v) → v.oneCell' = true) : u.cells.size = a2.list.length ∧ ∀ (j : Nat) (b : A1), a2.list[j]? = some b → ∃ u', u.cells[j]? = some u' ∧ Den1 η b u' := by
  cases a2 with
  | agg l =>
    obtain ⟨us, rfl, h2, h3⟩ := h
    exact ⟨h2, h3⟩
  | one b =>
    have ho : u.oneCell' = true := Den1.one (a := b) h fun v hv => h1 v (by rw [hv])
    have hc : u.cells = #[u] := by cases u <;> first | rfl | cases ho
    rw [hc]
    refine ⟨rfl, fun j b' hb => ?_⟩
    cases j with
    | zero => simp [A2.list] at hb; subst hb; exact ⟨u, by simp, h⟩
    | succ j => simp [A2.list] at hb
/-- a plain value of the walk's is of one cell -/
def A2.okB : A2 → Bool
  | .one (.val v) => v.oneCell'
  | _ => true
theorem A2.okB_spec {a2 : A2} (h : a2.okB = true) : ∀ v, a2 = .one (.val v) → v.oneCell' = true := by rintro v rfl; exact h

theorem stp_box {T : TypeId} {a2 : A2} (ht : Nat.blt t nt = true) (hx : S.op x = some (.s a2)) (h1 : a2.okB = true) (hf : a2.list.any (A1.has t) = false) :
    Stp P nt ⟨some t, .box T x, ty, ps, af, gd⟩ S ((S.new t ⟨true, T, a2.list.length, .flat a2.list⟩).put t (o1 (.ptr t 0))) :=
  Stp.of _ fun w0 ω0 η ω a w hs => by
    have hd : Den2 η a2 (a.eval x) := hs.opv hx
    obtain ⟨h2, h3⟩ := den2_cells hd (A2.okB_spec h1)
    refine ⟨.pointer (some ⟨w.heap.size, 0, none⟩), w.alloc (.cells (a.eval x).cells T), by simp [execOp, Instr.box, newVar, newRow], ?_⟩
    have hal := hs.alloc (x := t) (c := ⟨true, T, a2.list.length, .flat a2.list⟩) (cs := (a.eval x).cells) (r := fun _ => ⟨none, 0, 1⟩) (n := 1) rfl (by simp [h2]) (by simp [Dat.len]) (by simp [maxLen]) fun j hj => by
      obtain ⟨u, hu, hdu⟩ := h3 j a2.list[j] (List.getElem?_eq_getElem hj)
      refine ⟨u, hu, fun b hb => ?_⟩
      rw [List.getElem?_eq_getElem hj] at hb
      obtain rfl := Option.some.inj hb
      refine hdu.mono fun y hy => Env.new_ne η _ _ y fun e => ?_
      subst e
      have := List.any_eq_false.1 hf _ (List.getElem_mem hj)
      rw [hy] at this; exact this rfl
    exact ⟨_, _, hal.putV (by simpa using ht) ⟨⟨_, rfl⟩, fun hd' he => by simp [Env.new] at he; subst he; exact ⟨_, 0, rfl, by simp⟩⟩⟩

/-- the zero of a type, in cells that are plain -/
theorem stp_alloc {T : TypeId} {z : Value} {i : TypeInfo} (ht : Nat.blt t nt = true) (hi : P.info? T = some i) (hz : i.zero = some z) :
    Stp P nt ⟨some t, .alloc T, ty, ps, af, gd⟩ S ((S.new t ⟨true, T, z.cells.size, .flat (z.cells.toList.map .val)⟩).put t (o1 (.ptr t 0))) :=
  Stp.of _ fun w0 ω0 η ω a w hs => by
    refine ⟨.pointer (some ⟨w.heap.size, 0, none⟩), w.alloc (.cells z.cells T), by simp [execOp, Instr.alloc, zeroValue, typeInfo, hi, hz, newVar, newRow], ?_⟩
    have hal := hs.alloc (x := t) (c := ⟨true, T, z.cells.size, .flat (z.cells.toList.map .val)⟩) (cs := z.cells) (r := fun _ => ⟨none, 0, 1⟩) (n := 1) rfl (by simp) (by simp [Dat.len]) (by simp [maxLen]) fun j hj => by
      have hj' : j < z.cells.size := by simpa [Dat.len] using hj
      refine ⟨z.cells[j], by simp, fun b hb => ?_⟩
      simp [hj'] at hb
      subst hb; exact rfl
    exact ⟨_, _, hal.putV (by simpa using ht) ⟨⟨_, rfl⟩, fun hd' he => by simp [Env.new] at he; subst he; exact ⟨_, 0, rfl, by simp⟩⟩⟩

/-- the slice type T has elements of type E: k cells, few bytes, a zero of k cells -/
def elZ (P : Program) (T E k : Nat) : Bool :=
  match P.underlying T with
  | some (.slice e) => e == E && (match P.info? E with
    | some i => i.size == k && decide (i.bytes ≤ 64) && (match i.zero with | some z => z.cells.size == k | none => false)
    | none => false)
  | _ => false
theorem elZ_spec {T E k : Nat} (h : elZ P T E k = true) : ∃ i z, P.underlying T = some (.slice E) ∧ P.info? E = some i ∧ i.size = k ∧ i.bytes ≤ 64 ∧ i.zero = some z ∧ z.cells.size = k := by
  unfold elZ at h
  split at h
  · rename_i e he
    simp only [Bool.and_eq_true, beq_iff_eq] at h
    obtain ⟨rfl, h⟩ := h
    split at h
    · rename_i i hi
      simp only [Bool.and_eq_true, beq_iff_eq, decide_eq_true_eq] at h
      obtain ⟨⟨h1, h2⟩, h3⟩ := h
      split at h3
      · rename_i z hz
        exact ⟨i, z, he, hi, h1, h2, hz, by simpa using h3⟩
      · cases h3
    · cases h
  · cases h
theorem den_newsl {x : Nm} {b k n c : Nat} {r : Nat → Hd} : Den (η.new x ⟨some ⟨b, 0, none⟩, c, k⟩ r) (o1 (.sl x 0 n)) (.slice (some ⟨b, 0, none⟩) n c) :=
  ⟨⟨_, _, rfl⟩, fun hd' he => by simp [Env.new] at he; subst he; exact ⟨_, rfl, fun _ => rfl, fun h => absurd h (by omega)⟩⟩

theorem range1 (f : Nat → Value) : Array.map f (Array.range 1) = #[f 0] := by apply Array.ext'; simp [Array.toList_range, List.range_succ]
theorem range2 (f : Nat → Value) : Array.map f (Array.range 2) = #[f 0, f 1] := by apply Array.ext'; simp [Array.toList_range, List.range_succ]
theorem cells_one {v : Value} (h : v.oneCell' = true) : v.cells = #[v] := by cases v <;> first | rfl | cases h
end
end Go.Proofs.YtljimlejcecleaaGreatDoor

/- A memory of names: stores. No program in sight. -/
namespace Go.Proofs.YtljimlejcecleaaGreatDoor
open Go.RowKit

section
variable {P : Program} {nt : Nat} {S S' : St} {w0 w : World} {ω0 : Beg} {ω : Own?} {η : Env} {a : Act}
variable {t : Nat} {ty : TypeId} {ps : String} {af : Array Edge} {gd : Option (Nat × Bool)} {x y : Operand} {av : AV}

/-- a type of k cells -/
def sizeB (P : Program) (T : TypeId) (k : Nat) : Bool :=
  match P.info? T with
  | some i => i.size == k
  | none => false
theorem sizeB_run {T : TypeId} {k : Nat} (h : sizeB P T k = true) (w : World) : (sizeOf T).run P w = .ok k w := by
  unfold sizeB at h
  split at h
  · rename_i i hi
    have : i.size = k := by simpa using h
    simp [sizeOf, typeInfo, hi, this]
  · cases h
theorem run_store1 {T : TypeId} (h : sizeB P T 1 = true) {p : Addr} {u v : Value} (hc : w.cell? p = some u) (hf : w.frozen? p = false) (h1 : v.oneCell' = true) : (Instr.storeAt T (.pointer (some p)) v).run P w = .ok () (w.setCell p v) := by
  have hst : (store p v).run P w = .ok () (w.setCell p v) := by
    cases v <;> first | (simp [store, Sem.run, hc, hf]; done) | exact absurd h1 (by simp [Value.oneCell'])
  simp [Instr.storeAt, Instr.sureAddr, storeVar, cells_one h1, sizeB_run h, storeCells, Addr.add, hst]

theorem Stp.unit {o : Oper} (hd : o.dst = none) (h : ∀ w0 ω0 η ω a w, SatE w0 ω0 nt S η ω a w → ∃ w', (execOp a.eval o).run P w = .ok .skip w' ∧ Sat w0 ω0 nt S' a w') : Stp P nt o S S' := by
  refine ⟨fun w0 ω0 a w Q ⟨η, ω, hs⟩ => ?_⟩
  obtain ⟨w', h1, h2⟩ := h w0 ω0 η ω a w hs
  unfold Oper.wp
  rw [h1]
  simp only [Oper.upon, hd, Act.put]
  exact h2

theorem calm_setCell {b : Nat} {ow : Nm × Option Nat} (hb : ω b = some ow) (hn : S.ch ow.1 = none) (p : Addr) (hp : p.block = b) (u : Value) : Calm S ω w ω (w.setCell p u) :=
  ⟨rfl, rfl, rfl, by simp [World.setCell], fun b' _ hl => ⟨Below.heap_setCell w p u b' (by
    intro e
    rw [hp] at e; subst e
    rcases hl with h0 | ⟨y, i, c, h0, h1⟩
    · rw [hb] at h0; cases h0
    · rw [hb] at h0; obtain rfl := Option.some.inj h0
      rw [hn] at h1; cases h1), rfl⟩⟩
theorem heap_set {b o : Nat} {cs : Array Value} {E : TypeId} {fr : Nat × Nat} (h : w.heap[b]? = some (.cells cs E fr)) (u : Value) : (w.setCell ⟨b, o, none⟩ u).heap[b]? = some (.cells (cs.setIfInBounds o u) E fr) := by
  simp [World.setCell, Array.getElem?_modify, h]
theorem frozen_of {b o : Nat} {cs : Array Value} {E : TypeId} (h : w.heap[b]? = some (.cells cs E (0, 0))) : w.frozen? ⟨b, o, none⟩ = false := by
  simp [World.frozen?, h]

theorem same_setCell {b : Nat} {ow : Nm × Option Nat} (hb : ω b = some ow) (p : Addr) (hp : p.block = b) (u : Value) : Same ω w ω (w.setCell p u) (fun o => o ≠ some ow) :=
  ⟨by simp [World.setCell], fun b' _ hl => ⟨Below.heap_setCell w p u b' (by
    intro e
    rw [hp] at e; subst e
    exact hl hb), rfl⟩⟩
theorem cellsOK.keep {own : Bool} {n : Nm} {d : Dat} {j : Nat} {u : Value} {w' : World} {p : Option (Nm × Option Nat) → Prop} (hs : Same ω w ω w' p) (hp : p none) (hp' : ∀ i, p (some (n, some i))) (h : cellsOK η ω w own n d j u) : cellsOK η ω w' own n d j u := by
  cases d with
  | flat l => exact h
  | vals vs => exact h
  | rows E vss holes => exact ⟨h.1, fun hj vs hvs => have ⟨h1, h2, h3⟩ := h.2 hj vs hvs; ⟨h1, h2, h3.same hs hp (hp' j) fun _ _ h => h⟩⟩
  | mix cs => exact ⟨h.1, fun c hc => (h.2 c hc).move rfl fun _ _ _ _ _ h3 => h3.same hs hp (hp' j) fun _ _ h => h⟩
theorem SatE.poke (hs : SatE w0 ω0 nt S η ω a w) {n : Nm} {hd : Hd} {c' : Ch} {b : Nat} {ow : Option Nat} (hn : η.h n = some hd) (hb : ω b = some (n, ow)) (p : Addr) (hp : p.block = b) (u : Value) (hc : ChIs η ω (w.setCell p u) n hd c') :
    SatE w0 ω0 nt (S.set n c') η ω a (w.setCell p u) := hs.write hn (calm_setCell hb (by simp [ch_rm]) p hp u) hc

/-- the cell i of a chunk of the call's own turns into v, and nothing else turns -/
theorem SatE.store1 (hs : SatE w0 ω0 nt S η ω a w) {n : Nm} {c : Ch} {d' : Dat} {i : Nat} {p v : Value} {T : TypeId} (hp : Den1 η (.ptr n i) p) (hc : S.ch n = some c) (hown : c.own = true) (hi : i < c.d.len) (hT : sizeB P T 1 = true) (h1 : v.oneCell' = true)
    (hl : d'.len = c.d.len) (hd : ∀ w' j u, j ≠ i → cellsOK η ω w' true n c.d j u → cellsOK η ω w' true n d' j u) (hv : ∀ w', cellsOK η ω w' true n d' i v) :
    ∃ w', (Instr.storeAt T p v).run P w = .ok () w' ∧ SatE w0 ω0 nt (S.set n { c with d := d' }) η ω a w' := by
  obtain ⟨h, e1, e2, e3⟩ := hs.chunk hc
  obtain ⟨b, o, g1, rfl⟩ := hp.2 h e1
  rw [hown] at e3
  rcases e3 with ⟨_, _, h0⟩ | ⟨b', o', cs, f1, f2, f3, f4, f5, f6, f7⟩
  · omega
  rw [g1] at f1; injection f1 with f1; injection f1 with f1 f1'; subst f1 f1'
  obtain ⟨u, hu, _⟩ := f7 i hi
  have hcell : w.cell? ⟨b, o + i, none⟩ = some u := by rw [cell_of_row w b (o + i) cs c.E (0, 0) f3]; exact hu
  have hsz : o + i < cs.size := by
    rcases Nat.lt_or_ge (o + i) cs.size with hlt | hge
    · exact hlt
    · rw [Array.getElem?_eq_none hge] at hu; cases hu
  refine ⟨_, run_store1 hT hcell (frozen_of f3) h1, hs.poke e1 f2 _ rfl v ⟨e2, ?_⟩⟩
  show Vec c.own ω _ (n, none) h c.E d'.len (cellsOK η ω _ c.own n d')
  rw [hown]
  refine .inr ⟨b, o, _, g1, f2, heap_set f3 v, by simpa using f4, by rw [hl]; exact f5, f6, fun j hj => ?_⟩
  rw [hl] at hj
  obtain ⟨u', hu', hk⟩ := f7 j hj
  by_cases e : j = i
  · subst e
    exact ⟨v, by simp [hsz], hv _⟩
  · refine ⟨u', by rw [Array.getElem?_setIfInBounds_ne (by omega)]; exact hu', hd _ j u' e (hk.keep (same_setCell f2 _ rfl v) (by simp) (by simp))⟩

theorem stp_storeV {T : TypeId} {n : Nm} {i : Nat} {c : Ch} {vs : List Value} {v : Value} (hx : S.op x = some (o1 (.ptr n i))) (hy : S.op y = some (vv v)) (hc : S.ch n = some c) (hown : c.own = true) (hd : c.d = .vals vs) (hi : i < vs.length) (hT : sizeB P T 1 = true) (h1 : v.oneCell' = true) :
    Stp P nt ⟨none, .store T x y, ty, ps, af, gd⟩ S (S.set n { c with d := .vals (vs.set i v) }) :=
  Stp.unit rfl fun w0 ω0 η ω a w hs => by
    have hb : a.eval y = v := hs.opv hy
    obtain ⟨w', k1, k2⟩ := hs.store1 (P := P) (T := T) (d' := .vals (vs.set i v)) (v := v) (hs.opv hx) hc hown (by rw [hd]; exact hi) hT h1 (by rw [hd]; simp [Dat.len])
      (fun w' j u hj hk => by rw [hd] at hk; show (vs.set i v)[j]? = some u; rw [List.getElem?_set_ne (fun e => hj e.symm)]; exact hk)
      (fun w' => by show (vs.set i v)[i]? = some v; rw [List.getElem?_set_self hi])
    exact ⟨w', by simp [execOp, hb, k1], _, _, k2⟩

end
end Go.Proofs.YtljimlejcecleaaGreatDoor

/- A memory of names: the walk over operations and code. No program in sight. -/
namespace Go.Proofs.YtljimlejcecleaaGreatDoor
open Go.RowKit

/-- a state that is written out -/
def lk {α : Type} (t : Nat) : List (Nat × α) → Option α
  | [] => none
  | (t', a) :: r => bif Nat.beq t t' then some a else lk t r
def St.of (sl : List (Nat × AV)) (ch : List (Nm × Ch)) (ph : List (Nat × AV) := []) : St := { sl := fun t => lk t sl, ch := fun x => lk x ch, ph := fun t => lk t ph }

section
variable {P : Program} {nt : Nat} {w0 : World} {ω0 : Beg} {S S1 S' : St} {Q : Exit → Act → World → Prop}

structure Run (P : Program) (w0 : World) (ω0 : Beg) (nt : Nat) (ops : Array Oper) (Q : Exit → Act → World → Prop) (S : St) (rest : List Oper) : Prop where
  go : ∀ a w, Sat w0 ω0 nt S a w → wpList P ops Q rest a w
structure Goes (P : Program) (w0 : World) (ω0 : Beg) (nt : Nat) (S : St) (c : Code) (Q : Exit → Act → World → Prop) : Prop where
  go : ∀ a w, Sat w0 ω0 nt S a w → c.wp P Q a w
structure Fin (w0 : World) (ω0 : Beg) (nt : Nat) (S : St) (e : Exit) (Q : Exit → Act → World → Prop) : Prop where
  go : ∀ a w, Sat w0 ω0 nt S a w → Q e a w
structure Wk (S S' : St) : Prop where
  go : ∀ w0 ω0 nt a w, Sat w0 ω0 nt S a w → Sat w0 ω0 nt S' a w

variable {ops : Array Oper} {rest : List Oper} {o : Oper}
theorem run_nil (h : Fin w0 ω0 nt S .normal Q) : Run P w0 ω0 nt ops Q S [] := ⟨fun a w hs => h.go a w hs⟩
theorem run_step (hg : o.guard = none) (h : Stp P nt o S S1) (k : Run P w0 ω0 nt ops Q S1 rest) : Run P w0 ω0 nt ops Q S (o :: rest) := by
  refine ⟨fun a w hs => ?_⟩
  refine wpList_plain hg fun K hK => ?_
  exact Oper.wp_mono (fun a' w' h' => hK a' w' (k.go a' w' h')) (h.go w0 ω0 a w Q hs)
/-- a guard that is met, or not -/
theorem run_guard {j d : Nat} {want b : Bool} (hg : o.guard = some (j, want)) (hj : (ops[j]?).bind (·.dst) = some d) (hb : S.sl d = some (vv (.bool b))) (h1 : b = want → ∃ S1, Stp P nt o S S1 ∧ Run P w0 ω0 nt ops Q S1 rest)
    (h2 : b ≠ want → ∃ t, o.dst = some t ∧ Nat.blt t nt = true ∧ Run P w0 ω0 nt ops Q (S.put t (vv undef)) rest) : Run P w0 ω0 nt ops Q S (o :: rest) := by
  refine ⟨fun a w hs => ?_⟩
  have hy : yielded ops a.tmps j = some b := by
    obtain ⟨η, ω, hs⟩ := hs
    obtain ⟨u, k1, k2⟩ := hs.slots d _ hb
    have k2 : u = .bool b := k2
    subst k2
    unfold yielded
    cases hoj : ops[j]? with
    | none => rw [hoj] at hj; cases hj
    | some oj =>
      rw [hoj] at hj
      simp only [Option.bind_some] at hj
      simp [hj, k1]
  refine wpList_step fun K hK => ?_
  by_cases e : b = want
  · rw [if_pos (by simp [Region.wanted, hg, hy, e])]
    obtain ⟨S1, h, k⟩ := h1 e
    exact Oper.wp_mono (fun a' w' h' => hK a' w' (k.go a' w' h')) (h.go w0 ω0 a w Q hs)
  · rw [if_neg (by simp [Region.wanted, hg, hy, e])]
    obtain ⟨t, ht, hlt, k⟩ := h2 e
    obtain ⟨η, ω, hs⟩ := hs
    exact hK _ _ (k.go _ _ ⟨η, ω, by rw [ht]; exact hs.putV (by simpa using hlt) rfl⟩)

theorem goes_region {id : Nat} {l : List Oper} (h : Run P w0 ω0 nt l.toArray Q S l) : Goes P w0 ω0 nt S (.region id l.toArray false) Q := ⟨fun a w hs => wp_region_lit (h.go a w hs)⟩
theorem goes_seq {x y : Code} (h : Goes P w0 ω0 nt S x (Exit.then (y.wp P Q) Q)) : Goes P w0 ω0 nt S (.seq x y) Q := ⟨fun a w hs => wp_seq (h.go a w hs)⟩
theorem fin_seq {y : Code} (h : Goes P w0 ω0 nt S y Q) : Fin w0 ω0 nt S .normal (Exit.then (y.wp P Q) Q) := ⟨fun a w hs => h.go a w hs⟩
theorem goes_skip (h : Fin w0 ω0 nt S .normal Q) : Goes P w0 ω0 nt S .skip Q := ⟨fun a w hs => wp_skip (h.go a w hs)⟩
theorem goes_exit {id : Nat} (h : Fin w0 ω0 nt S (.exit id) Q) : Goes P w0 ω0 nt S (.exit id) Q := ⟨fun a w hs => wp_exit (h.go a w hs)⟩
theorem goes_ret (h : Fin w0 ω0 nt S .ret Q) : Goes P w0 ω0 nt S .ret Q := ⟨fun a w hs => wp_ret (h.go a w hs)⟩
theorem goes_block {id : Nat} {c : Code} (h : Goes P w0 ω0 nt S c (Exit.inBlock id Q)) : Goes P w0 ω0 nt S (.block id c) Q := ⟨fun a w hs => wp_block (h.go a w hs)⟩
theorem fin_block {id : Nat} (h : Fin w0 ω0 nt S .normal Q) : Fin w0 ω0 nt S .normal (Exit.inBlock id Q) := ⟨fun a w hs => h.go a w hs⟩
theorem fin_exit_eq {id : Nat} (h : Fin w0 ω0 nt S .normal Q) : Fin w0 ω0 nt S (.exit id) (Exit.inBlock id Q) := ⟨fun a w hs => by simp only [Exit.inBlock, if_true]; exact h.go a w hs⟩
theorem fin_exit_ne {id id' : Nat} (hn : Nat.beq id' id = false) (h : Fin w0 ω0 nt S (.exit id') Q) : Fin w0 ω0 nt S (.exit id') (Exit.inBlock id Q) := by
  refine ⟨fun a w hs => ?_⟩
  have hne : id' ≠ id := fun e => by subst e; simp at hn
  simp only [Exit.inBlock, if_neg hne]; exact h.go a w hs
theorem fin_exit_then {id : Nat} {K : Act → World → Prop} (h : Fin w0 ω0 nt S (.exit id) Q) : Fin w0 ω0 nt S (.exit id) (Exit.then K Q) := ⟨fun a w hs => h.go a w hs⟩
theorem fin_ret_then {K : Act → World → Prop} (h : Fin w0 ω0 nt S .ret Q) : Fin w0 ω0 nt S .ret (Exit.then K Q) := ⟨fun a w hs => h.go a w hs⟩
theorem fin_ret_block {id : Nat} (h : Fin w0 ω0 nt S .ret Q) : Fin w0 ω0 nt S .ret (Exit.inBlock id Q) := ⟨fun a w hs => h.go a w hs⟩
theorem goes_cond {c : Operand} {x y : Code} {b : Bool} (hc : S.op c = some (vv (.bool b))) (ht : b = true → Goes P w0 ω0 nt S x Q) (hf : b = false → Goes P w0 ω0 nt S y Q) : Goes P w0 ω0 nt S (.cond c x y) Q :=
  ⟨fun a w hs => wp_cond_split (t := b) (by obtain ⟨η, ω, hs⟩ := hs; exact hs.opV hc) (fun e => (ht e).go a w hs) (fun e => (hf e).go a w hs)⟩
theorem goes_if {c : Operand} {x y : Code} {p : Prop} [Decidable p] (hc : S.op c = some (vv (.bool (decide p)))) (ht : p → Goes P w0 ω0 nt S x Q) (hf : ¬ p → Goes P w0 ω0 nt S y Q) : Goes P w0 ω0 nt S (.cond c x y) Q :=
  goes_cond hc (fun e => ht (of_decide_eq_true e)) (fun e => hf (of_decide_eq_false e))
theorem Wk.refl (S : St) : Wk S S := ⟨fun _ _ _ _ _ h => h⟩
theorem Wk.trans {S2 : St} (h : Wk S S1) (k : Wk S1 S2) : Wk S S2 := ⟨fun _ _ _ _ _ x => k.go _ _ _ _ _ (h.go _ _ _ _ _ x)⟩

theorem least {p : Nat → Prop} (h : ∃ n, p n) : ∃ n, p n ∧ ∀ m, p m → n ≤ m := by
  obtain ⟨n, hn⟩ := h
  induction n using Nat.strongRecOn with
  | _ n ih =>
    by_cases h' : ∃ m, m < n ∧ p m
    · obtain ⟨m, hm, hp⟩ := h'
      exact ih m hm hp
    · exact ⟨n, hn, fun m hm => Nat.le_of_not_lt fun hlt => h' ⟨m, hlt, hm⟩⟩
theorem fin_join (h : Wk S1 S') : Fin w0 ω0 nt S1 .normal (fun e a w => e = .normal ∧ Sat w0 ω0 nt S' a w) := ⟨fun a w hs => ⟨rfl, h.go _ _ _ a w hs⟩⟩
/-- what a round must end in -/
def LoopPost {ι : Type} (w0 : World) (ω0 : Beg) (nt : Nat) (I : ι → St) (p : ι → Prop) (μ : ι → Nat) (i : ι) (a : Act) (w : World) : Prop := ∃ j, p j ∧ μ j < μ i ∧ Sat w0 ω0 nt (I j) a w
open Classical in
theorem goes_loop {ι : Type} (I : ι → St) (p : ι → Prop) (μ : ι → Nat) (i0 : ι) {c : Code} (hp : p i0) (h0 : Wk S (I i0)) (hr : ∀ i, p i → Goes P w0 ω0 nt (I i) c (Exit.then (LoopPost w0 ω0 nt I p μ i) Q)) : Goes P w0 ω0 nt S (.loop c) Q := by
  refine ⟨fun a w hs => ?_⟩
  have ex : ∀ a w, (∃ i, p i ∧ Sat w0 ω0 nt (I i) a w) → ∃ n i, (p i ∧ Sat w0 ω0 nt (I i) a w) ∧ μ i = n := fun a w ⟨i, hi⟩ => ⟨μ i, i, hi, rfl⟩
  refine wp_loop (fun a w => ∃ i, p i ∧ Sat w0 ω0 nt (I i) a w) (fun a w => if h : ∃ i, p i ∧ Sat w0 ω0 nt (I i) a w then Classical.choose (least (ex a w h)) else 0) ⟨i0, hp, h0.go _ _ _ a w hs⟩ fun a w hI => ?_
  obtain ⟨⟨i, hi, hm⟩, _⟩ := Classical.choose_spec (least (ex a w hI))
  refine Code.wp_mono (fun e a' w' hq => ?_) ((hr i hi.1).go a w hi.2)
  cases e with
  | normal =>
    obtain ⟨j, hpj, hj, hsj⟩ := hq
    refine ⟨⟨j, hpj, hsj⟩, ?_⟩
    simp only [dif_pos hI, dif_pos (⟨j, hpj, hsj⟩ : ∃ i, p i ∧ Sat w0 ω0 nt (I i) a' w')]
    refine Nat.lt_of_le_of_lt ((Classical.choose_spec (least (ex a' w' ⟨j, hpj, hsj⟩))).2 _ ⟨j, ⟨hpj, hsj⟩, rfl⟩) ?_
    rw [← hm]; exact hj
  | _ => exact hq
theorem fin_round {ι : Type} {I : ι → St} {p : ι → Prop} {μ : ι → Nat} {i : ι} (j : ι) (hp : p j) (hm : μ j < μ i) (h : Wk S (I j)) : Fin w0 ω0 nt S .normal (Exit.then (LoopPost w0 ω0 nt I p μ i) Q) :=
  ⟨fun a w hs => ⟨j, hp, hm, h.go _ _ _ a w hs⟩⟩

/-- every row of the list is so in the state -/
def allSl (S : St) : List (Nat × AV) → Prop
  | [] => True
  | (t, av) :: r => S.sl t = some av ∧ allSl S r
def allCh (S : St) : List (Nm × Ch) → Prop
  | [] => True
  | (x, c) :: r => S.ch x = some c ∧ allCh S r
theorem allSl_lk : ∀ {l : List (Nat × AV)} {t : Nat} {av : AV}, allSl S l → lk t l = some av → S.sl t = some av
  | [], _, _, _, h => by cases h
  | (t', av') :: r, t, av, h, hl => by
    unfold lk at hl
    cases hb : Nat.beq t t' with
    | true => rw [hb] at hl; simp at hl; subst hl; rw [beq_true hb]; exact h.1
    | false => rw [hb] at hl; exact allSl_lk h.2 hl
def allPh (S : St) : List (Nat × AV) → Prop
  | [] => True
  | (t, av) :: r => S.ph t = some av ∧ allPh S r
theorem allPh_lk : ∀ {l : List (Nat × AV)} {t : Nat} {av : AV}, allPh S l → lk t l = some av → S.ph t = some av
  | [], _, _, _, h => by cases h
  | (t', av') :: r, t, av, h, hl => by
    unfold lk at hl
    cases hb : Nat.beq t t' with
    | true => rw [hb] at hl; simp at hl; subst hl; rw [beq_true hb]; exact h.1
    | false => rw [hb] at hl; exact allPh_lk h.2 hl
theorem allCh_lk : ∀ {l : List (Nm × Ch)} {t : Nat} {av : Ch}, allCh S l → lk t l = some av → S.ch t = some av
  | [], _, _, _, h => by cases h
  | (t', av') :: r, t, av, h, hl => by
    unfold lk at hl
    cases hb : Nat.beq t t' with
    | true => rw [hb] at hl; simp at hl; subst hl; rw [beq_true hb]; exact h.1
    | false => rw [hb] at hl; exact allCh_lk h.2 hl
open Classical in
theorem Wk.less (hs : ∀ t av, S'.sl t = some av → S.sl t = some av) (hc : ∀ x c, S'.ch x = some c → S.ch x = some c) (hp : ∀ t av, S'.ph t = some av → S.ph t = some av) : Wk S S' := by
  refine ⟨fun w0 ω0 nt a w ⟨η, ω, h⟩ => ?_⟩
  have key : ∀ x, (if S'.ch x = none then none else η.h x) = none ∨ ((if S'.ch x = none then none else η.h x) = η.h x ∧ ∀ i, η.r x i = η.r x i) := fun x => by
    by_cases e : S'.ch x = none
    · exact .inl (if_pos e)
    · exact .inr ⟨if_neg e, fun _ => rfl⟩
  refine ⟨{ η with h := fun x => if S'.ch x = none then none else η.h x }, ω, ⟨h.dfr, h.tsz, fun t av ht => ?_, fun t av ht => ?_, ⟨fun x c hx => ?_, fun x hx => if_pos hx⟩, h.fr⟩⟩
  · obtain ⟨u, h1, h2⟩ := h.slots t av (hs t av ht)
    exact ⟨u, h1, h2.mono fun y _ => key y⟩
  · obtain ⟨u, h1, h2⟩ := h.phs t av (hp t av ht)
    exact ⟨u, h1, h2.mono fun y _ => key y⟩
  · obtain ⟨hd, h1, h2⟩ := h.mem.1 x c (hc x c hx)
    refine ⟨hd, by simp [hx, h1], ChIs.same (η := η) (p := fun _ => True) (Same.refl _ _ _) trivial (fun _ => trivial) (fun _ => rfl) (fun l _ a _ z _ => key z) h2⟩
theorem Wk.of {sl ph : List (Nat × AV)} {ch : List (Nm × Ch)} (hs : allSl S sl) (hc : allCh S ch) (hp : allPh S ph) : Wk S (St.of sl ch ph) := Wk.less (fun _ _ h => allSl_lk hs h) (fun _ _ h => allCh_lk hc h) (fun _ _ h => allPh_lk hp h)
end
end Go.Proofs.YtljimlejcecleaaGreatDoor

/- A memory of names: contracts of functions; how a walk begins and ends; calls. No program in sight. -/
namespace Go.Proofs.YtljimlejcecleaaGreatDoor
open Go.RowKit

def DenL (η : Env) (avs : List AV) (us : List Value) : Prop := us.length = avs.length ∧ ∀ (j : Nat) (av : AV), avs[j]? = some av → ∃ u, us[j]? = some u ∧ Den η av u
/-- what a call leaves: a value, chunks, and what is known of the arguments -/
def Left (w : World) (ω : Own?) (us : List Value) (outs : List (Nm × Ch)) (res : AV) (back : List (Nat × AV)) (e : Ending) (w' : World) : Prop :=
  ∃ v η' ω', e = .returned v ∧ Den η' res v ∧ Mem η' ω' w' (fun x => lk x outs) ∧ Fr ω w ω' w' ∧ ∀ t av, lk t back = some av → ∃ u, us[t]? = some u ∧ Den η' av u
/-- the contract of a function in names: it takes the chunks ins and the arguments args; it leaves the chunks outs and the result res -/
def FC (P : Program) (f : FuncId) (ins : List (Nm × Ch)) (args : List AV) (outs : List (Nm × Ch)) (res : AV) (back : List (Nat × AV)) : Prop :=
  ∀ w η ω us, Mem η ω w (fun x => lk x ins) → DenL η args us → Calls P f us.toArray w (Left w ω us outs res back)

def zipA : Nat → List AV → List (Nat × AV)
  | _, [] => []
  | k, av :: r => (k, av) :: zipA (k + 1) r
theorem lk_zipA : ∀ {k : Nat} {l : List AV} {t : Nat} {av : AV}, lk t (zipA k l) = some av → ∃ j, t = k + j ∧ l[j]? = some av
  | _, [], _, _, h => by cases h
  | k, a :: r, t, av, h => by
    simp only [zipA, lk] at h
    cases hb : Nat.beq t k with
    | true => rw [hb] at h; simp at h; subst h; exact ⟨0, beq_true hb, rfl⟩
    | false =>
      rw [hb] at h
      obtain ⟨j, h1, h2⟩ := lk_zipA (k := k + 1) (l := r) h
      exact ⟨j + 1, by omega, by simpa using h2⟩

section
variable {P : Program} {nt : Nat} {S S' : St} {w0 w : World} {ω0 : Beg} {ω : Own?} {η : Env} {a : Act}

theorem fc_enter {f : FuncId} {fn : Func} {c : Code} {ins outs : List (Nm × Ch)} {args : List AV} {res : AV} {back : List (Nat × AV)} (hf : P.funcs[f]? = some fn) (hb : fn.body = some c) (hn : fn.ntmps = nt) (hl : args.length ≤ nt)
    (h : ∀ w0 ω0, Goes P w0 ω0 nt (St.of (zipA 0 args) ins (zipA 0 args)) c (bodyPost P fn (Left w0 ω0.own ω0.ph outs res back))) : FC P f ins args outs res back := by
  intro w η ω us hm hd
  refine calls_of_wp hf hb ((h w ⟨ω, us⟩).go _ _ ⟨η, ω, ?_⟩)
  have hsz : us.toArray.size = us.length := by simp
  refine { dfr := rfl, tsz := ?_, slots := fun t av ht => ?_, phs := fun t av ht => ?_, mem := hm, fr := Fr.refl _ _ }
  · have := hd.1
    simp; omega
  · obtain ⟨j, rfl, hj⟩ := lk_zipA ht
    obtain ⟨u, h1, h2⟩ := hd.2 j av hj
    refine ⟨u, ?_, h2⟩
    have hlt : j < us.length := (List.getElem?_eq_some_iff.1 h1).1
    simp only [Nat.zero_add]
    rw [Array.getElem?_append_left (by simpa using hlt)]
    simpa using h1
  · obtain ⟨j, rfl, hj⟩ := lk_zipA ht
    obtain ⟨u, h1, h2⟩ := hd.2 j av hj
    exact ⟨u, by simpa using h1, h2⟩

/-- the sum of the cells of a struct or an array -/
def aggB (P : Program) (T : TypeId) (k : Nat) : Bool :=
  match P.underlying T with
  | some (.struct _) | some (.array _ _) => sizeB P T k
  | _ => false
theorem aggB_agg {T : TypeId} {k : Nat} (h : aggB P T k = true) (w : World) : (isAgg T).run P w = .ok true w := by
  unfold aggB at h
  cases hu : P.underlying T with
  | none => rw [hu] at h; cases h
  | some d => rw [hu] at h; cases d <;> first | (cases h; done) | simp [isAgg, run_underlying hu]
theorem aggB_size {T : TypeId} {k : Nat} (h : aggB P T k = true) : sizeB P T k = true := by
  unfold aggB at h
  cases hu : P.underlying T with
  | none => rw [hu] at h; cases h
  | some d => rw [hu] at h; cases d <;> first | (cases h; done) | exact h
theorem run_loadAgg {T : TypeId} {k : Nat} (h : aggB P T k = true) {b o : Nat} {us : List Value} (hl : us.length = k) (hc : ∀ j u, us[j]? = some u → w.cell? ⟨b, o + j, none⟩ = some u) : (loadVar T ⟨b, o, none⟩).run P w = .ok (.agg us.toArray) w := by
  have hr := run_loadCells_list (P := P) w ⟨b, o, none⟩ us fun j u hu => by rw [Addr.add_lit]; exact hc j u hu
  rw [hl] at hr
  simp [loadVar, aggB_agg h, sizeB_run (aggB_size h), hr]
/-- the cells of a flat chunk, read as a struct -/
theorem SatE.readAgg (hs : SatE w0 ω0 nt S η ω a w) {n : Nm} {i k : Nat} {c : Ch} {l : List A1} {T : TypeId} {p : Value} (hp : Den1 η (.ptr n i) p) (hc : S.ch n = some c) (hd : c.d = .flat l) (hk : i + k ≤ l.length) (hk0 : 0 < k) (hT : aggB P T k = true) :
    ∃ ad u, p = .pointer (some ad) ∧ (loadVar T ad).run P w = .ok u w ∧ Den2 η (.agg ((l.drop i).take k)) u := by
  obtain ⟨h, e1, e2, e3⟩ := hs.chunk hc
  obtain ⟨b, o, g1, rfl⟩ := hp.2 h e1
  rw [hd] at e3
  have key : ∀ j, j < k → ∃ u, w.cell? ⟨b, o + i + j, none⟩ = some u ∧ ∀ b1, l[i + j]? = some b1 → Den1 η b1 u := fun j hj => by
    obtain ⟨b', o', u, f1, f2, f3⟩ := e3.get (j := i + j) (by show i + j < l.length; omega)
    rw [g1] at f1; injection f1 with f1; injection f1 with f1 f1'; subst f1 f1'
    exact ⟨u, by rw [Nat.add_assoc]; exact f2, f3⟩
  refine ⟨_, .agg ((List.range k).map fun j => (w.cell? ⟨b, o + i + j, none⟩).getD undef).toArray, rfl, run_loadAgg hT (by simp) fun j u hu => ?_, ⟨_, rfl, by simp; omega, fun j b1 hb1 => ?_⟩⟩
  · rw [List.getElem?_map, Option.map_eq_some_iff] at hu
    obtain ⟨j', hj', rfl⟩ := hu
    have hjk : j < k := by have := (List.getElem?_eq_some_iff.1 hj').1; simpa using this
    rw [List.getElem?_range hjk] at hj'
    obtain rfl := Option.some.inj hj'
    obtain ⟨u, hu, _⟩ := key j hjk
    rw [hu]; rfl
  · have hjk : j < k := by have := (List.getElem?_eq_some_iff.1 hb1).1; simp at this; omega
    rw [List.getElem?_take, if_pos hjk, List.getElem?_drop] at hb1
    obtain ⟨u, hu, hdu⟩ := key j hjk
    exact ⟨u, by simp [hjk, hu], hdu b1 hb1⟩

def resSem (tmps : Array Value) : ResultVar → Sem Value
  | .tmp t => pure (tmps.getD t undef)
  | .cell b t => do loadVar t (← asAddr (tmps.getD b undef))
/-- a result as the state has it -/
inductive ResB (P : Program) (S : St) : ResultVar → A2 → Prop where
  | tmp {t : Nat} {b : A2} (h : S.sl t = some (.s b)) : ResB P S (.tmp t) b
  | cell {t : Nat} {T : TypeId} {n : Nm} {k : Nat} {c : Ch} {l : List A1} (h : S.sl t = some (o1 (.ptr n 0))) (hc : S.ch n = some c) (hd : c.d = .flat l) (hk : l.length = k) (hk0 : Nat.blt 0 k = true) (hT : aggB P T k = true) : ResB P S (.cell t T) (.agg l)
  | one {t : Nat} {T : TypeId} {n : Nm} {c : Ch} {b : A1} (h : S.sl t = some (o1 (.ptr n 0))) (hc : S.ch n = some c) (hb : c.d.at_ n 0 = some b) (hT : oneB P T = true) : ResB P S (.cell t T) (.one b)
theorem SatE.res (hs : SatE w0 ω0 nt S η ω a w) {r : ResultVar} {b : A2} (h : ResB P S r b) : ∃ u, (resSem a.tmps r).run P w = .ok u w ∧ Den2 η b u := by
  cases h with
  | tmp h =>
    obtain ⟨u, h1, h2⟩ := hs.slots _ _ h
    exact ⟨u, by simp [resSem, h1], h2⟩
  | cell h hc hd hk hk0 hT =>
    obtain ⟨p, h1, h2⟩ := hs.slots _ _ h
    obtain ⟨ad, u, rfl, h4, h5⟩ := hs.readAgg (P := P) h2 hc hd (by omega) (by simpa using hk0) hT
    refine ⟨u, by simp [resSem, h1, asAddr, h4], ?_⟩
    rw [List.drop_zero, List.take_of_length_le (by omega)] at h5; exact h5
  | one h hc hb hT =>
    obtain ⟨p, h1, h2⟩ := hs.slots _ _ h
    obtain ⟨hd, e1, e2, e3⟩ := hs.chunk hc
    obtain ⟨bb, o, g1, rfl⟩ := (show Den1 η (.ptr _ 0) p from h2).2 hd e1
    obtain ⟨b', o', u, f1, f2, f3⟩ := e3.get (Dat.at_lt hb)
    rw [g1] at f1; injection f1 with f1; injection f1 with f1 f1'; subst f1 f1'
    simp only [Nat.add_zero] at f2 h1
    exact ⟨u, by simp [resSem, h1, asAddr, loadVar, oneB_agg hT, f2], den_at f3 hb⟩

theorem results_eq (fn : Func) (tmps : Array Value) : results fn tmps = (do let vs ← fn.results.mapM (resSem tmps); pure (if h : vs.size = 1 then vs[0] else .tuple vs)) := by
  unfold results
  congr 1
theorem run_results1 {fn : Func} {tmps : Array Value} {r : ResultVar} {v : Value} (h : fn.results = #[r]) (h1 : (resSem tmps r).run P w = .ok v w) : (results fn tmps).run P w = .ok v w := by
  rw [results_eq, h]; simp [h1]
theorem run_results2 {fn : Func} {tmps : Array Value} {r r' : ResultVar} {v v' : Value} (h : fn.results = #[r, r']) (h1 : (resSem tmps r).run P w = .ok v w) (h2 : (resSem tmps r').run P w = .ok v' w) : (results fn tmps).run P w = .ok (.tuple #[v, v']) w := by
  rw [results_eq, h]; simp [h1, h2]

theorem SatE.left (hs : SatE w0 ω0 nt S η ω a w) {outs : List (Nm × Ch)} {res : AV} {back : List (Nat × AV)} {v : Value} (hc : allCh S outs) (hb : allPh S back) (hv : Den η res v) : Left w0 ω0.own ω0.ph outs res back (.returned v) w := by
  classical
  have key : ∀ x, (if lk x outs = none then none else η.h x) = none ∨ ((if lk x outs = none then none else η.h x) = η.h x ∧ ∀ i, η.r x i = η.r x i) := fun x => by
    by_cases e : lk x outs = none
    · exact .inl (if_pos e)
    · exact .inr ⟨if_neg e, fun _ => rfl⟩
  refine ⟨v, { η with h := fun x => if lk x outs = none then none else η.h x }, ω, rfl, hv.mono fun y _ => key y, ⟨fun x c hx => ?_, fun x hx => if_pos hx⟩, hs.fr, fun t av ht => ?_⟩
  · obtain ⟨hd, h1, h2⟩ := hs.mem.1 x c (allCh_lk hc hx)
    refine ⟨hd, by simp [hx, h1], ChIs.same (η := η) (p := fun _ => True) (Same.refl _ _ _) trivial (fun _ => trivial) (fun _ => rfl) (fun l _ a _ z _ => key z) h2⟩
  · obtain ⟨u, h1, h2⟩ := hs.phs t av (allPh_lk hb ht)
    exact ⟨u, h1, h2.mono fun y _ => key y⟩

theorem fin_ret1 {fn : Func} {e : Exit} {r : ResultVar} {b : A2} {outs : List (Nm × Ch)} {back : List (Nat × AV)} (he : e = .ret ∨ e = .normal) (hf : fn.results = #[r]) (hr : ResB P S r b) (hc : allCh S outs) (hb : allPh S back) :
    Fin w0 ω0 nt S e (bodyPost P fn (Left w0 ω0.own ω0.ph outs (.s b) back)) := by
  refine ⟨fun a w ⟨η, ω, hs⟩ => ?_⟩
  obtain ⟨u, h1, h2⟩ := hs.res hr
  have : a.defers = [] ∧ ∃ v, (results fn a.tmps).run P w = .ok v w ∧ Left w0 ω0.own ω0.ph outs (.s b) back (.returned v) w := ⟨hs.dfr, u, run_results1 hf h1, hs.left hc hb h2⟩
  rcases he with rfl | rfl <;> exact this
theorem fin_ret2 {fn : Func} {e : Exit} {r r' : ResultVar} {b b' : A2} {outs : List (Nm × Ch)} {back : List (Nat × AV)} (he : e = .ret ∨ e = .normal) (hf : fn.results = #[r, r']) (hr : ResB P S r b) (hr' : ResB P S r' b') (hc : allCh S outs) (hb : allPh S back) :
    Fin w0 ω0 nt S e (bodyPost P fn (Left w0 ω0.own ω0.ph outs (.tup [b, b']) back)) := by
  refine ⟨fun a w ⟨η, ω, hs⟩ => ?_⟩
  obtain ⟨u, h1, h2⟩ := hs.res hr
  obtain ⟨u', h1', h2'⟩ := hs.res hr'
  have hd : Den η (.tup [b, b']) (.tuple #[u, u']) := ⟨_, rfl, rfl, fun j c hj => by
    match j, hj with
    | 0, hj => simp at hj; subst hj; exact ⟨u, by simp, h2⟩
    | 1, hj => simp at hj; subst hj; exact ⟨u', by simp, h2'⟩⟩
  have : a.defers = [] ∧ ∃ v, (results fn a.tmps).run P w = .ok v w ∧ Left w0 ω0.own ω0.ph outs (.tup [b, b']) back (.returned v) w := ⟨hs.dfr, _, run_results2 hf h1 h1', hs.left hc hb hd⟩
  rcases he with rfl | rfl <;> exact this
end
end Go.Proofs.YtljimlejcecleaaGreatDoor

/- A memory of names: a call of a function by its contract in names. No program in sight. -/
namespace Go.Proofs.YtljimlejcecleaaGreatDoor
open Go.RowKit

def A1.bad (o k : Nm → Bool) : A1 → Bool
  | .val _ | .any => false
  | .sl x _ _ | .esl x _ _ _ | .eptr x _ _ => o x
  | .ptr x _ => o x && !k x
  | .clo _ xs => xs.any fun p => o p.1 && !k p.1
def A2.bad (o k : Nm → Bool) : A2 → Bool
  | .one a => a.bad o k
  | .agg l => l.any (A1.bad o k)
def AV.bad (o k : Nm → Bool) : AV → Bool
  | .s a => a.bad o k
  | .tup l => l.any (A2.bad o k)
def Dat.clean (o k : Nm → Bool) : Dat → Dat
  | .flat l => .flat (l.map fun a => bif a.bad o k then .any else a)
  | d => d
def Ch.clean (o k : Nm → Bool) (c : Ch) : Ch := { c with d := c.d.clean o k }
def A1.names : A1 → List Nm
  | .sl y _ _ | .ptr y _ | .esl y _ _ _ | .eptr y _ _ => [y]
  | .clo _ xs => xs.map (·.1)
  | .val _ | .any => []
def A2.names : A2 → List Nm
  | .one a => a.names
  | .agg l => l.flatMap A1.names
def AV.names : AV → List Nm
  | .s a => a.names
  | .tup l => l.flatMap A2.names
def Ch.names (c : Ch) : List Nm := match c.d with
  | .flat l => l.flatMap A1.names
  | _ => []
theorem A1.has_names {a : A1} {x : Nm} (h : a.has x = true) : x ∈ a.names := by
  cases a with
  | val v => cases h
  | any => cases h
  | sl y _ _ => rw [beq_true (h : Nat.beq x y = true)]; simp [A1.names]
  | ptr y _ => rw [beq_true (h : Nat.beq x y = true)]; simp [A1.names]
  | esl y _ _ _ => rw [beq_true (h : Nat.beq x y = true)]; simp [A1.names]
  | eptr y _ _ => rw [beq_true (h : Nat.beq x y = true)]; simp [A1.names]
  | clo f xs =>
    simp only [A1.has, List.any_eq_true] at h
    obtain ⟨p, hp, hb⟩ := h
    exact List.mem_map.2 ⟨p, hp, (beq_true hb).symm⟩
theorem A2.has_names {a : A2} {x : Nm} (h : a.has x = true) : x ∈ a.names := by
  cases a with
  | one a => exact A1.has_names h
  | agg l =>
    simp only [A2.has, List.any_eq_true] at h
    obtain ⟨p, hp, hb⟩ := h
    exact List.mem_flatMap.2 ⟨p, hp, A1.has_names hb⟩
theorem AV.has_names {a : AV} {x : Nm} (h : a.has x = true) : x ∈ a.names := by
  cases a with
  | s a => exact A2.has_names h
  | tup l =>
    simp only [AV.has, List.any_eq_true] at h
    obtain ⟨p, hp, hb⟩ := h
    exact List.mem_flatMap.2 ⟨p, hp, A2.has_names hb⟩

/-- how an environment may turn at a call -/
def Turn (η η' : Env) (o k : Nm → Bool) : Prop :=
  ∀ y, η'.h y = none ∨ (η'.h y = η.h y ∧ ∀ i, η'.r y i = η.r y i) ∨ (o y = true ∧ (k y = true → ∀ h', η'.h y = some h' → ∃ h, η.h y = some h ∧ h'.ao = h.ao))
theorem ptAt.ao {h h' : Hd} {off : Nat} {u : Value} (e : h'.ao = h.ao) (p : ptAt h off u) : ptAt h' off u := by
  obtain ⟨b, o, h1, h2⟩ := p
  exact ⟨b, o, e.trans h1, h2⟩
theorem Den1.turn {η η' : Env} {o k : Nm → Bool} {a : A1} {u : Value} (ht : Turn η η' o k) (hb : a.bad o k = false) (h : Den1 η a u) : Den1 η' a u := by
  cases a with
  | val v => exact h
  | any => exact h
  | sl x off n =>
    refine ⟨h.1, fun hd he => ?_⟩
    rcases ht x with e | ⟨e, _⟩ | ⟨e, _⟩
    · rw [e] at he; cases he
    · exact h.2 hd (e ▸ he)
    · exact absurd e (by rw [show o x = false from hb]; simp)
  | ptr x off =>
    refine ⟨h.1, fun hd he => ?_⟩
    rcases ht x with e | ⟨e, _⟩ | ⟨e, e2⟩
    · rw [e] at he; cases he
    · exact h.2 hd (e ▸ he)
    · have hk : k x = true := by
        have hb : (o x && !k x) = false := hb
        rw [e] at hb; simpa using hb
      obtain ⟨h0, h1, h2⟩ := e2 hk hd he
      exact ptAt.ao h2 (h.2 h0 h1)
  | esl x i off n =>
    refine ⟨h.1, fun hd he => ?_⟩
    rcases ht x with e | ⟨e, er⟩ | ⟨e, _⟩
    · rw [e] at he; cases he
    · rw [er i]; exact h.2 hd (e ▸ he)
    · exact absurd e (by rw [show o x = false from hb]; simp)
  | eptr x i off =>
    refine ⟨h.1, fun hd he => ?_⟩
    rcases ht x with e | ⟨e, er⟩ | ⟨e, _⟩
    · rw [e] at he; cases he
    · rw [er i]; exact h.2 hd (e ▸ he)
    · exact absurd e (by rw [show o x = false from hb]; simp)
  | clo f xs =>
    obtain ⟨us, h1, h2, h3⟩ := h
    refine ⟨us, h1, h2, fun j p hp => ?_⟩
    obtain ⟨q, hq, hq1, hq2⟩ := h3 j p hp
    refine ⟨q, hq, hq1, fun hd he => ?_⟩
    rcases ht p.1 with e | ⟨e, _⟩ | ⟨e, e2⟩
    · rw [e] at he; cases he
    · exact hq2 hd (e ▸ he)
    · have hb : (xs.any fun p => o p.1 && !k p.1) = false := hb
      have hk : k p.1 = true := by
        have := List.any_eq_false.1 hb p (List.mem_of_getElem? hp)
        rw [e] at this; simpa using this
      obtain ⟨h0, h1, h2⟩ := e2 hk hd he
      exact ptAt.ao h2 (hq2 h0 h1)
theorem Den2.turn {η η' : Env} {o k : Nm → Bool} {a : A2} {u : Value} (ht : Turn η η' o k) (hb : a.bad o k = false) (h : Den2 η a u) : Den2 η' a u := by
  cases a with
  | one a => exact Den1.turn ht hb h
  | agg l =>
    obtain ⟨us, h1, h2, h3⟩ := h
    refine ⟨us, h1, h2, fun j a ha => ?_⟩
    obtain ⟨u', h4, h5⟩ := h3 j a ha
    exact ⟨u', h4, h5.turn ht (by have := List.any_eq_false.1 (show l.any (A1.bad o k) = false from hb) a (List.mem_of_getElem? ha); simpa using this)⟩
theorem Den.turn {η η' : Env} {o k : Nm → Bool} {a : AV} {u : Value} (ht : Turn η η' o k) (hb : a.bad o k = false) (h : Den η a u) : Den η' a u := by
  cases a with
  | s a => exact Den2.turn ht hb h
  | tup l =>
    obtain ⟨us, h1, h2, h3⟩ := h
    refine ⟨us, h1, h2, fun j a ha => ?_⟩
    obtain ⟨u', h4, h5⟩ := h3 j a ha
    exact ⟨u', h4, h5.turn ht (by have := List.any_eq_false.1 (show l.any (A2.bad o k) = false from hb) a (List.mem_of_getElem? ha); simpa using this)⟩
theorem ChIs.turn {η η' : Env} {ω ω' : Own?} {w w' : World} {o k : Nm → Bool} {x : Nm} {h : Hd} {c : Ch} {p : Option (Nm × Option Nat) → Prop} (hs : Same ω w ω' w' p) (hp : p none) (hp' : ∀ i, p (some (x, i))) (hr : ∀ i, η'.r x i = η.r x i)
    (ht : Turn η η' o k) (hc : ChIs η ω w x h c) : ChIs η' ω' w' x h (c.clean o k) := by
  refine ⟨hc.1, ?_⟩
  have hl : (c.clean o k).d.len = c.d.len := by unfold Ch.clean Dat.clean; cases c.d <;> simp [Dat.len]
  rw [hl]
  refine hc.2.same hs hp (hp' none) fun j u hu => ?_
  unfold Ch.clean Dat.clean
  cases hd : c.d with
  | flat l =>
    rw [hd] at hu
    intro a ha
    simp only [List.getElem?_map, Option.map_eq_some_iff] at ha
    obtain ⟨b, hb, rfl⟩ := ha
    cases hbad : b.bad o k with
    | true =>
      refine (hu b hb).one fun v hv => ?_
      subst hv; cases hbad
    | false => exact (hu b hb).turn ht hbad
  | vals vs => rw [hd] at hu; exact hu
  | rows E vss holes =>
    rw [hd] at hu
    refine ⟨hu.1, fun hj vs hvs => ?_⟩
    obtain ⟨h1, h2, h3⟩ := hu.2 hj vs hvs
    rw [hr j]
    exact ⟨h1, h2, h3.same hs hp (hp' (some j)) fun _ _ h => h⟩
  | mix cs => rw [hd] at hu; exact ⟨hu.1, fun c hc => (hu.2 c hc).move (hr j) fun _ _ _ _ _ h3 => h3.same hs hp (hp' (some j)) fun _ _ h => h⟩

def consB (ins : List (Nm × Ch)) (x : Nm) : Bool := match lk x ins with | some c => c.own | none => false
def inL (l : List (Nm × Ch)) (x : Nm) : Bool := (lk x l).isSome
def memB (l : List Nm) (x : Nm) : Bool := l.any (Nat.beq x)
def St.after (S : St) (ins outs : List (Nm × Ch)) (kp : List Nm) : St :=
  { sl := fun t => (S.sl t).bind fun av => bif av.bad (inL outs) (memB kp) then none else some av
    ph := fun t => (S.ph t).bind fun av => bif av.bad (inL outs) (memB kp) then none else some av
    ch := fun y => match lk y outs with
      | some c => some c
      | none => bif consB ins y then none else (S.ch y).map (Ch.clean (inL outs) (memB kp)) }
theorem bind_bad {o : Option AV} {av : AV} {b : AV → Bool} (h : (o.bind fun av => bif b av then none else some av) = some av) : o = some av ∧ b av = false := by
  cases o with
  | none => cases h
  | some a =>
    simp only [Option.bind_some] at h
    cases hb : b a with
    | true => rw [hb] at h; cases h
    | false => rw [hb] at h; simp at h; subst h; exact ⟨rfl, hb⟩

/-- every chunk that a call takes is there: the call's own, or to be read -/
def allIn (S : St) : List (Nm × Ch) → Prop
  | [] => True
  | (x, c) :: r => (∃ c', S.ch x = some c' ∧ (c' = c ∨ c = { c' with own := false })) ∧ allIn S r
theorem allIn_lk {S : St} : ∀ {l : List (Nm × Ch)} {t : Nat} {c : Ch}, allIn S l → lk t l = some c → ∃ c', S.ch t = some c' ∧ (c' = c ∨ c = { c' with own := false })
  | [], _, _, _, h => by cases h
  | (t', av') :: r, t, av, h, hl => by
    unfold lk at hl
    cases hb : Nat.beq t t' with
    | true => rw [hb] at hl; simp at hl; subst hl; rw [beq_true hb]; exact h.1
    | false => rw [hb] at hl; exact allIn_lk h.2 hl
def opL (S : St) : List Operand → Option (List AV)
  | [] => some []
  | x :: r => (S.op x).bind fun a => (opL S r).map fun l => a :: l
/-- what an argument may be taken for: something that is less known -/
def toL : List A1 → List A1 → Prop
  | [], [] => True
  | a :: r, b :: l => (a = b ∨ (b = .any ∧ (A2.one a).okB = true)) ∧ toL r l
  | _, _ => False
def AV.to : AV → AV → Prop
  | .s (.agg l), .s (.agg l') => toL l l'
  | a, b => a = b
def allTo : List AV → List AV → Prop
  | [], [] => True
  | a :: r, b :: l => a.to b ∧ allTo r l
  | _, _ => False
theorem toL_at : ∀ {l l' : List A1}, toL l l' → l.length = l'.length ∧ ∀ (j : Nat) (b : A1), l'[j]? = some b → ∃ a, l[j]? = some a ∧ (a = b ∨ (b = .any ∧ (A2.one a).okB = true))
  | [], [], _ => ⟨rfl, fun j b h => by simp at h⟩
  | a :: r, b :: l, h => by
    obtain ⟨h1, h2⟩ := toL_at h.2
    refine ⟨by simp [h1], fun j c hj => ?_⟩
    cases j with
    | zero => simp at hj; subst hj; exact ⟨a, by simp, h.1⟩
    | succ j => exact h2 j c (by simpa using hj)
  | [], _ :: _, h => h.elim
  | _ :: _, [], h => h.elim
theorem Den.to {η : Env} {a b : AV} {u : Value} (h : a.to b) (hd : Den η a u) : Den η b u := by
  match a, b, h, hd with
  | .s (.agg l), .s (.agg l'), h, hd =>
    obtain ⟨h1, h2⟩ := toL_at h
    obtain ⟨us, rfl, h3, h4⟩ := hd
    refine ⟨us, rfl, h3.trans h1, fun j c hj => ?_⟩
    obtain ⟨a, ha, hab⟩ := h2 j c hj
    obtain ⟨u', hu', hda⟩ := h4 j a ha
    refine ⟨u', hu', ?_⟩
    rcases hab with rfl | ⟨rfl, ho⟩
    · exact hda
    · exact hda.one fun v hv => A2.okB_spec ho v (by rw [hv])
  | .s (.one _), b, h, hd => have h : _ = b := h; exact h ▸ hd
  | .tup _, b, h, hd => have h : _ = b := h; exact h ▸ hd
  | .s (.agg l), .s (.one _), h, hd => have h : AV.s (.agg l) = _ := h; exact h ▸ hd
  | .s (.agg l), .tup _, h, hd => have h : AV.s (.agg l) = _ := h; exact h ▸ hd
theorem DenL.to {η : Env} : ∀ {avs avs' : List AV} {us : List Value}, allTo avs avs' → DenL η avs us → DenL η avs' us
  | [], [], us, _, hd => hd
  | a :: r, b :: l, us, h, hd => by
    cases us with
    | nil => exact absurd hd.1 (by simp)
    | cons u us =>
      have hd' : DenL η r us := ⟨by simpa using hd.1, fun j av hj => by
        obtain ⟨u', h1, h2⟩ := hd.2 (j + 1) av (by simpa using hj)
        exact ⟨u', by simpa using h1, h2⟩⟩
      obtain ⟨h1, h2⟩ := DenL.to h.2 hd'
      refine ⟨by simpa using h1, fun j av hj => ?_⟩
      cases j with
      | zero =>
        simp at hj; subst hj
        obtain ⟨u', h3, h4⟩ := hd.2 0 a (by simp)
        simp at h3; subst h3
        exact ⟨u, by simp, h4.to h.1⟩
      | succ j =>
        obtain ⟨u', h3, h4⟩ := h2 j av (by simpa using hj)
        exact ⟨u', by simpa using h3, h4⟩
  | [], _ :: _, _, h, _ => h.elim
  | _ :: _, [], _, h, _ => h.elim

/-- the kept names: argument j points to the head of the chunk, before and behind -/
def allKp (ins : List (Nm × Ch)) (args : List AV) (back : List (Nat × AV)) : List (Nat × Nm) → Prop
  | [] => True
  | (j, x) :: r => inL ins x = true ∧ args[j]? = some (o1 (.ptr x 0)) ∧ lk j back = some (o1 (.ptr x 0)) ∧ allKp ins args back r
theorem allKp_mem {ins : List (Nm × Ch)} {args : List AV} {back : List (Nat × AV)} : ∀ {l : List (Nat × Nm)} {x : Nm}, allKp ins args back l → memB (l.map (·.2)) x = true → inL ins x = true ∧ ∃ j, args[j]? = some (o1 (.ptr x 0)) ∧ lk j back = some (o1 (.ptr x 0))
  | [], _, _, h => by cases h
  | (j, y) :: r, x, h, hm => by
    simp only [memB, List.map_cons, List.any_cons, Bool.or_eq_true] at hm
    rcases hm with hm | hm
    · rw [beq_true hm]; exact ⟨h.1, j, h.2.1, h.2.2.1⟩
    · exact allKp_mem h.2.2.2 hm

/-- a Go function with a body -/
def goFnB (P : Program) (f : FuncId) : Bool :=
  match P.funcs[f]? with
  | some fn => fn.body.isSome && !(fn.name == "runtime.NumGoroutine")
  | none => false
theorem goFnB_run {P : Program} {f : FuncId} (h : goFnB P f = true) (args : Array Value) (w : World) : (callFunc f args).run P w = .ok (.enter f args) w := by
  unfold goFnB at h
  split at h
  · rename_i fn hf
    simp only [Bool.and_eq_true, Bool.not_eq_true'] at h
    obtain ⟨h1, h2⟩ := h
    cases hb : fn.body with
    | none => rw [hb] at h1; cases h1
    | some c =>
      have h3 : ¬ fn.name = "runtime.NumGoroutine" := fun e => by rw [e] at h2; simp at h2
      simp [callFunc, hf, h3, hb]
  · cases h

section
variable {P : Program} {nt : Nat} {S S' : St} {w0 w : World} {ω0 : Beg} {ω : Own?} {η : Env} {a : Act}

theorem SatE.opsL (hs : SatE w0 ω0 nt S η ω a w) : ∀ {xs : List Operand} {avs : List AV}, opL S xs = some avs → DenL η avs (xs.map a.eval)
  | [], avs, h => by obtain rfl := Option.some.inj h; exact ⟨rfl, fun j av h => by simp at h⟩
  | x :: r, avs, h => by
    simp only [opL, Option.bind_eq_some_iff, Option.map_eq_some_iff] at h
    obtain ⟨av, hx, l, hl, rfl⟩ := h
    obtain ⟨h1, h2⟩ := hs.opsL hl
    refine ⟨by simpa using h1, fun j b hj => ?_⟩
    cases j with
    | zero => simp at hj; subst hj; exact ⟨a.eval x, by simp, hs.opv hx⟩
    | succ j => exact h2 j b (by simpa using hj)

theorem Vec.view {ω' : Own?} {own : Bool} {ow : Nm × Option Nat} {h : Hd} {E : TypeId} {len : Nat} {cell cell' : Nat → Value → Prop} (hv : Vec own ω w ow h E len cell) (hn : ∀ b, ω b = none → ω' b = none) (ho : ∀ b, ω b = some ow → ω' b = none) (hc : ∀ j u, cell j u → cell' j u) : Vec false ω' w ow h E len cell' := by
  refine ⟨hv.cap, fun j hj => ?_⟩
  cases own with
  | true =>
    rcases hv with ⟨_, _, h0⟩ | ⟨b, o, cs, h1, h2, h3, h4, h5, h6, h7⟩
    · omega
    · obtain ⟨u, hu, hcu⟩ := h7 j hj
      exact ⟨b, o, u, h1, ho b h2, lt_of_heap h3, by rw [cell_of_row w b (o + j) cs E (0, 0) h3]; exact hu, hc j u hcu⟩
  | false =>
    obtain ⟨b, o, u, h1, h2, h3, h4, h5⟩ := hv.2 j hj
    exact ⟨b, o, u, h1, hn b h2, h3, h4, hc j u h5⟩
theorem ChIs.view {ω' : Own?} {x : Nm} {h : Hd} {c : Ch} (hc : ChIs η ω w x h c) (hn : ∀ b, ω b = none → ω' b = none) (ho : ∀ b i, ω b = some (x, i) → ω' b = none) {η' : Env} (hr : ∀ i, η'.r x i = η.r x i) (hm : ∀ l, c.d = .flat l → ∀ a ∈ l, a.mono η η') : ChIs η' ω' w x h { c with own := false } := by
  refine ⟨hc.1, hc.2.view hn (fun b => ho b none) fun j u hu => ?_⟩
  show cellsOK η' ω' w false x c.d j u
  cases hd : c.d with
  | flat l => rw [hd] at hu; exact fun a ha => (hu a ha).mono (hm l hd a (List.mem_of_getElem? ha))
  | vals vs => rw [hd] at hu; exact hu
  | rows E vss holes =>
    rw [hd] at hu
    refine ⟨hu.1, fun hj vs hvs => ?_⟩
    obtain ⟨h1, h2, h3⟩ := hu.2 hj vs hvs
    rw [hr j]
    exact ⟨h1, h2, h3.view hn (fun b => ho b (some j)) fun _ _ h => h⟩
  | mix cs => rw [hd] at hu; exact ⟨hu.1, fun c hc => (hu.2 c hc).move (hr j) fun _ _ _ _ _ h3 => h3.view hn (fun b => ho b (some j)) fun _ _ h => h⟩
theorem ChIs.own {ω' : Own?} {x : Nm} {h : Hd} {c : Ch} (hc : ChIs η ω w x h c) (hs : Same ω w ω' w (fun o => o = none ∨ ∃ i, o = some (x, i))) {η' : Env} (hr : ∀ i, η'.r x i = η.r x i) (hm : ∀ l, c.d = .flat l → ∀ a ∈ l, a.mono η η') : ChIs η' ω' w x h c :=
  ChIs.same hs (.inl rfl) (fun i => .inr ⟨i, rfl⟩) hr hm hc

theorem VecO.same {ω' : Own?} {w' : World} {ow : Nm × Option Nat} {h : Hd} {E : TypeId} {len : Nat} {cell cell' : Nat → Value → Prop} (hs : ∀ b, b < w.heap.size → ω b = some ow → w'.heap[b]? = w.heap[b]? ∧ ω' b = some ow)
    (hc : ∀ j u, cell j u → cell' j u) (hv : VecO ω w ow h E len cell) : VecO ω' w' ow h E len cell' := by
  rcases hv with h0 | ⟨b, o, cs, h1, h2, h3, h4, h5, h6, h7⟩
  · exact .inl h0
  · have hb := hs b (lt_of_heap h3) h2
    refine .inr ⟨b, o, cs, h1, hb.2, hb.1.trans h3, h4, h5, h6, fun j hj => ?_⟩
    obtain ⟨u, hu, hcu⟩ := h7 j hj
    exact ⟨u, hu, hc j u hcu⟩
theorem ChIs.sameO {ω' : Own?} {w' : World} {x : Nm} {h : Hd} {c : Ch} {η' : Env} (hown : c.own = true) (hs : ∀ b i, b < w.heap.size → ω b = some (x, i) → w'.heap[b]? = w.heap[b]? ∧ ω' b = some (x, i)) (hr : ∀ i, η'.r x i = η.r x i)
    (hm : ∀ l, c.d = .flat l → ∀ a ∈ l, a.mono η η') (hc : ChIs η ω w x h c) : ChIs η' ω' w' x h c := by
  obtain ⟨h1, h2⟩ := hc
  refine ⟨h1, ?_⟩
  rw [hown] at h2 ⊢
  refine VecO.same (fun b => hs b none) (fun j u hu => ?_) h2
  cases hd : c.d with
  | flat l => rw [hd] at hu; exact fun a ha => (hu a ha).mono (hm l hd a (List.mem_of_getElem? ha))
  | vals vs => rw [hd] at hu; exact hu
  | rows E vss holes =>
    rw [hd] at hu
    refine ⟨hu.1, fun hj vs hvs => ?_⟩
    obtain ⟨h1, h2, h3⟩ := hu.2 hj vs hvs
    rw [hr j]
    exact ⟨h1, h2, VecO.same (fun b => hs b (some j)) (fun _ _ h => h) h3⟩
  | mix cs => rw [hd] at hu; exact ⟨hu.1, fun c hc => celOK.move (own := true) (own' := true) (hr j) (fun _ _ _ _ _ h3 => VecO.same (fun b => hs b (some j)) (fun _ _ h => h) h3) (hu.2 c hc)⟩
theorem lk_mem {α : Type} : ∀ {l : List (Nat × α)} {t : Nat} {a : α}, lk t l = some a → (t, a) ∈ l
  | [], _, _, h => by cases h
  | (t', a') :: r, t, a, h => by
    unfold lk at h
    cases hb : Nat.beq t t' with
    | true => rw [hb] at h; simp at h; subst h; rw [beq_true hb]; exact List.mem_cons_self
    | false => rw [hb] at h; exact List.mem_cons_of_mem _ (lk_mem h)
theorem Ch.names_mem {c : Ch} {l : List A1} {a : A1} {x : Nm} (hd : c.d = .flat l) (ha : a ∈ l) (hx : a.has x = true) : x ∈ c.names := by
  unfold Ch.names; rw [hd]; exact List.mem_flatMap.2 ⟨a, ha, A1.has_names hx⟩

theorem stp_call {f : FuncId} {xs : Array Operand} {ts : Array TypeId} {dst : Option Nat} {ty : TypeId} {ps : String} {af : Array Edge} {gd : Option (Nat × Bool)} {ins outs : List (Nm × Ch)} {args args' : List AV} {res : AV} {back : List (Nat × AV)} (kp : List (Nat × Nm))
    (hfc : FC P f ins args outs res back) (hf : goFnB P f = true) (ht : (dst.map fun t => Nat.blt t nt) != some false) (hx' : opL S xs.toList = some args') (hto : allTo args' args) (hin : allIn S ins) (hkp : allKp ins args back kp)
    (hnr : (res.names.all (inL outs)) = true) (hno : (outs.all fun p => p.2.own && p.2.names.all (inL outs)) = true) :
    Stp P nt ⟨dst, .call { callee := .value (.func f), args := xs, argTypes := ts }, ty, ps, af, gd⟩ S ((S.after ins outs (kp.map (·.2))).putO dst res) := by
  classical
  refine ⟨fun w0 ω0 a w Q ⟨η, ω, hs⟩ => ?_⟩
  have hopsL : DenL η args (xs.toList.map a.eval) := (hs.opsL hx').to hto
  let η1 : Env := { η with h := fun x => if lk x ins = none then none else η.h x }
  let ω1 : Own? := fun b => match ω b with
    | some (x, i) => if consB ins x = true then some (x, i) else none
    | none => none
  have hω1n : ∀ b, ω b = none → ω1 b = none := fun b h => by simp only [ω1, h]
  have hω1s : ∀ b x i, ω b = some (x, i) → consB ins x = true → ω1 b = some (x, i) := fun b x i h h' => by simp only [ω1, h, if_pos h']
  have hω1f : ∀ b x i, ω b = some (x, i) → consB ins x = false → ω1 b = none := fun b x i h h' => by simp [ω1, h, h']
  have hη1 : ∀ x, η1.h x = none ∨ (η1.h x = η.h x ∧ ∀ i, η1.r x i = η.r x i) := fun x => by
    by_cases e : lk x ins = none
    · exact .inl (if_pos e)
    · exact .inr ⟨if_neg e, fun _ => rfl⟩
  have hmem : Mem η1 ω1 w fun x => lk x ins := by
    refine ⟨fun x c hx => ?_, fun x hx => if_pos hx⟩
    have hx : lk x ins = some c := hx
    obtain ⟨c', hc', hcc⟩ := allIn_lk hin hx
    obtain ⟨hd, h1, h2⟩ := hs.mem.1 x c' hc'
    refine ⟨hd, by simp only [η1]; rw [if_neg (by rw [hx]; simp)]; exact h1, ?_⟩
    by_cases hown : c.own = true
    · have hcc' : c' = c := by
        rcases hcc with h | h
        · exact h
        · rw [h] at hown; cases hown
      subst hcc'
      refine h2.own ⟨Nat.le_refl _, fun b hb hp => ⟨rfl, ?_⟩⟩ (fun _ => rfl) fun l _ a _ z _ => hη1 z
      rcases hp with hp | ⟨i, hp⟩
      · rw [hp]; exact hω1n b hp
      · rw [hp]; exact hω1s b x i hp (by unfold consB; rw [hx]; exact hown)
    · have hcons : consB ins x = false := by unfold consB; rw [hx]; simpa using hown
      have hc0 : c = { c' with own := false } := by
        rcases hcc with h | h
        · rw [h]; have : c.own = false := by simpa using hown
          rw [← this]
        · exact h
      rw [hc0]
      exact h2.view hω1n (fun b i hb => hω1f b x i hb hcons) (fun _ => rfl) fun l _ a _ z _ => hη1 z
  have hargs : DenL η1 args (xs.toList.map a.eval) := by
    obtain ⟨h1, h2⟩ := hopsL
    refine ⟨h1, fun j av hj => ?_⟩
    obtain ⟨u, h3, h4⟩ := h2 j av hj
    exact ⟨u, h3, h4.mono fun y _ => hη1 y⟩
  have hcall := hfc w η1 ω1 _ hmem hargs
  have hrun : (execOp a.eval ⟨dst, .call { callee := .value (.func f), args := xs, argTypes := ts }, ty, ps, af, gd⟩).run P w = .ok (.enter f (xs.toList.map a.eval).toArray) w := by
    have : (xs.toList.map a.eval).toArray = xs.map a.eval := by apply Array.ext'; simp
    rw [this]
    simp [execOp, resolve, Act.eval, Deferred.ofValue, invoke, goFnB_run hf]
  unfold Oper.wp
  rw [hrun, Oper.upon_enter]
  refine hcall.mono fun e w' hl => ?_
  obtain ⟨v, η2, ω2, rfl, hdv, hm2, hfr, hbk⟩ := hl
  have hdst : ∀ t, dst = some t → t < nt := fun t ht' => by subst ht'; simpa using ht
  let ω3 : Own? := fun b => if b < w.heap.size ∧ ω1 b = none then ω b else ω2 b
  let η3 : Env := { h := fun y => if inL outs y = true then η2.h y else if consB ins y = true then none else η.h y
                    r := fun y i => if inL outs y = true then η2.r y i else η.r y i }
  have hturn : Turn η η3 (inL outs) (memB (kp.map (·.2))) := fun y => by
    by_cases ho : inL outs y = true
    · refine .inr (.inr ⟨ho, fun hk h' he => ?_⟩)
      obtain ⟨hin', j, hj, hj'⟩ := allKp_mem hkp hk
      obtain ⟨u, hu, hdu⟩ := hbk j _ hj'
      obtain ⟨u', hu', hdu'⟩ := hopsL.2 j _ hj
      rw [hu] at hu'; obtain rfl := Option.some.inj hu'
      have he2 : η2.h y = some h' := by simp only [η3, if_pos ho] at he; exact he
      obtain ⟨b, o, g1, g2⟩ := (show Den1 η2 (.ptr y 0) u from hdu).2 h' he2
      obtain ⟨u'', hu'', hdu''⟩ := hargs.2 j _ hj
      have hlk : ∃ h, η.h y = some h := by
        obtain ⟨c, hc⟩ := Option.isSome_iff_exists.1 hin'
        obtain ⟨c', hc', _⟩ := allIn_lk hin hc
        obtain ⟨h, hh, _⟩ := hs.mem.1 y c' hc'
        exact ⟨h, hh⟩
      obtain ⟨h, hh⟩ := hlk
      obtain ⟨b', o', g1', g2'⟩ := (show Den1 η (.ptr y 0) u from hdu').2 h hh
      rw [g2] at g2'
      injection g2' with g2'; injection g2' with g2'; injection g2' with g2' g3'
      refine ⟨h, hh, ?_⟩
      rw [g1, g1']
      subst g2'
      simp at g3'
      rw [g3']
    · by_cases hc : consB ins y = true
      · exact .inl (by simp only [η3, if_neg ho, if_pos hc])
      · exact .inr (.inl ⟨by simp only [η3, if_neg ho, if_neg hc], fun i => by simp only [η3, if_neg ho]⟩)
  have hω3 : ∀ b, b < w.heap.size → ω1 b = none → ω3 b = ω b := fun b h1 h2 => by simp only [ω3, if_pos (And.intro h1 h2)]
  have hb3 : ∀ b, b < w.heap.size → ω1 b = none → w'.heap[b]? = w.heap[b]? := fun b h1 h2 => (hfr.block b h1 h2).1
  have hω32 : ∀ b o, ω2 b = some o → ω3 b = some o := fun b o h => by
    by_cases e : b < w.heap.size ∧ ω1 b = none
    · have := (hfr.block b e.1 e.2).2
      rw [this] at h; cases h
    · simp only [ω3, if_neg e, h]
  have hsame : Same ω w ω3 w' (fun o => o = none ∨ ∃ y i, o = some (y, i) ∧ consB ins y = false) := by
    refine ⟨hfr.size, fun b hb hp => ?_⟩
    have h1 : ω1 b = none := by
      rcases hp with h | ⟨y, i, h, hc⟩
      · exact hω1n b h
      · exact hω1f b y i h hc
    exact ⟨hb3 b hb h1, hω3 b hb h1⟩
  have hst : SatE w0 ω0 nt (S.after ins outs (kp.map (·.2))) η3 ω3 a w' := by
    refine { dfr := hs.dfr, tsz := hs.tsz, slots := fun t av ht' => ?_, phs := fun t av ht' => ?_, mem := ⟨fun y c hy => ?_, fun y hy => ?_⟩, fr := ?_ }
    · obtain ⟨h1, h2⟩ := bind_bad ht'
      obtain ⟨u, h3, h4⟩ := hs.slots t av h1
      exact ⟨u, h3, h4.turn hturn h2⟩
    · obtain ⟨h1, h2⟩ := bind_bad ht'
      obtain ⟨u, h3, h4⟩ := hs.phs t av h1
      exact ⟨u, h3, h4.turn hturn h2⟩
    · have hy : (match lk y outs with
        | some c => some c
        | none => bif consB ins y then none else (S.ch y).map (Ch.clean (inL outs) (memB (kp.map (·.2))))) = some c := hy
      cases hl : lk y outs with
      | some c1 =>
        rw [hl] at hy
        obtain rfl := Option.some.inj hy
        have ho : inL outs y = true := by unfold inL; rw [hl]; rfl
        obtain ⟨hd, h1, h2⟩ := hm2.1 y c1 hl
        refine ⟨hd, by simp only [η3, if_pos ho]; exact h1, ?_⟩
        have hall := List.all_eq_true.1 hno _ (lk_mem hl)
        simp only [Bool.and_eq_true] at hall
        refine ChIs.sameO (η := η2) (ω := ω2) (w := w') hall.1 (fun b i _ hb => ⟨rfl, hω32 b _ hb⟩) (fun i => by simp only [η3, if_pos ho]) (fun l hlf b1 hb1 z hz => ?_) h2
        have hz' : inL outs z = true := List.all_eq_true.1 hall.2 z (Ch.names_mem hlf hb1 hz)
        exact .inr ⟨by simp only [η3, if_pos hz'], fun i => by simp only [η3, if_pos hz']⟩
      | none =>
        rw [hl] at hy
        have ho : inL outs y = false := by unfold inL; rw [hl]; rfl
        cases hc : consB ins y with
        | true => rw [hc] at hy; cases hy
        | false =>
          rw [hc] at hy
          simp only [cond_false, Option.map_eq_some_iff] at hy
          obtain ⟨c0, hc0, rfl⟩ := hy
          obtain ⟨hd, h1, h2⟩ := hs.mem.1 y c0 hc0
          refine ⟨hd, by simp only [η3, ho, hc]; exact h1, ?_⟩
          exact h2.turn hsame (.inl rfl) (fun i => .inr ⟨y, i, rfl, hc⟩) (fun i => by simp only [η3, ho]; rfl) hturn
    · have hy : (match lk y outs with
        | some c => some c
        | none => bif consB ins y then none else (S.ch y).map (Ch.clean (inL outs) (memB (kp.map (·.2))))) = none := hy
      cases hl : lk y outs with
      | some c1 => rw [hl] at hy; cases hy
      | none =>
        rw [hl] at hy
        have ho : inL outs y = false := by unfold inL; rw [hl]; rfl
        cases hc : consB ins y with
        | true => simp only [η3, ho, hc]; rfl
        | false =>
          rw [hc] at hy
          simp only [cond_false, Option.map_eq_none_iff] at hy
          simp only [η3, ho, hc]
          exact hs.mem.2 y hy
    · refine ⟨hfr.os.trans hs.fr.os, hfr.tape.trans hs.fr.tape, hfr.output.trans hs.fr.output, Nat.le_trans hs.fr.size hfr.size, fun b hb hn => ?_⟩
      obtain ⟨h1, h2⟩ := hs.fr.block b hb hn
      have hlt := Nat.lt_of_lt_of_le hb hs.fr.size
      exact ⟨(hb3 b hlt (hω1n b h2)).trans h1, (hω3 b hlt (hω1n b h2)).trans h2⟩
  cases dst with
  | none => exact ⟨η3, ω3, hst⟩
  | some t => exact ⟨η3, ω3, hst.putV (hdst t rfl) (hdv.mono fun y hy => by
      have hz' : inL outs y = true := List.all_eq_true.1 hnr y (AV.has_names hy)
      exact .inr ⟨by simp only [η3, if_pos hz'], fun i => by simp only [η3, if_pos hz']⟩)⟩
end
end Go.Proofs.YtljimlejcecleaaGreatDoor

/- A memory of names: a contract under other names. No program in sight. -/
namespace Go.Proofs.YtljimlejcecleaaGreatDoor
open Go.RowKit

def A1.ren (σ : Nm → Nm) : A1 → A1
  | .val v => .val v
  | .any => .any
  | .sl x o n => .sl (σ x) o n
  | .ptr x o => .ptr (σ x) o
  | .esl x i o n => .esl (σ x) i o n
  | .eptr x i o => .eptr (σ x) i o
  | .clo f xs => .clo f (xs.map fun p => (σ p.1, p.2))
def A2.ren (σ : Nm → Nm) : A2 → A2
  | .one a => .one (a.ren σ)
  | .agg l => .agg (l.map (A1.ren σ))
def AV.ren (σ : Nm → Nm) : AV → AV
  | .s a => .s (a.ren σ)
  | .tup l => .tup (l.map (A2.ren σ))
def Dat.ren (σ : Nm → Nm) : Dat → Dat
  | .flat l => .flat (l.map (A1.ren σ))
  | .vals vs => .vals vs
  | .rows E vss holes => .rows E vss holes
  | .mix cs => .mix cs
def Ch.ren (σ : Nm → Nm) (c : Ch) : Ch := ⟨c.own, c.E, c.k, c.d.ren σ⟩
def renL (σ : Nm → Nm) (l : List (Nm × Ch)) : List (Nm × Ch) := l.map fun p => (σ p.1, p.2.ren σ)
def renB (σ : Nm → Nm) (l : List (Nat × AV)) : List (Nat × AV) := l.map fun p => (p.1, p.2.ren σ)

def Env.pull (η : Env) (σ : Nm → Nm) : Env := { h := fun x => η.h (σ x), r := fun x => η.r (σ x) }
theorem den1_ren {η : Env} {σ : Nm → Nm} {a : A1} {u : Value} : Den1 η (a.ren σ) u ↔ Den1 (η.pull σ) a u := by
  cases a with
  | clo f xs =>
    constructor
    · rintro ⟨us, h1, h2, h3⟩
      refine ⟨us, h1, by simpa using h2, fun j p hp => ?_⟩
      exact h3 j (σ p.1, p.2) (by simp [hp])
    · rintro ⟨us, h1, h2, h3⟩
      refine ⟨us, h1, by simpa using h2, fun j p hp => ?_⟩
      simp only [List.getElem?_map, Option.map_eq_some_iff] at hp
      obtain ⟨q, hq, rfl⟩ := hp
      exact h3 j q hq
  | _ => exact Iff.rfl
theorem den2_ren {η : Env} {σ : Nm → Nm} {a : A2} {u : Value} : Den2 η (a.ren σ) u ↔ Den2 (η.pull σ) a u := by
  cases a with
  | one a => exact den1_ren
  | agg l =>
    constructor
    · rintro ⟨us, h1, h2, h3⟩
      refine ⟨us, h1, by simpa using h2, fun j a ha => ?_⟩
      obtain ⟨u', h4, h5⟩ := h3 j (a.ren σ) (by simp [ha])
      exact ⟨u', h4, den1_ren.1 h5⟩
    · rintro ⟨us, h1, h2, h3⟩
      refine ⟨us, h1, by simpa using h2, fun j a ha => ?_⟩
      simp only [List.getElem?_map, Option.map_eq_some_iff] at ha
      obtain ⟨q, hq, rfl⟩ := ha
      obtain ⟨u', h4, h5⟩ := h3 j q hq
      exact ⟨u', h4, den1_ren.2 h5⟩
theorem den_ren {η : Env} {σ : Nm → Nm} {a : AV} {u : Value} : Den η (a.ren σ) u ↔ Den (η.pull σ) a u := by
  cases a with
  | s a => exact den2_ren
  | tup l =>
    constructor
    · rintro ⟨us, h1, h2, h3⟩
      refine ⟨us, h1, by simpa using h2, fun j a ha => ?_⟩
      obtain ⟨u', h4, h5⟩ := h3 j (a.ren σ) (by simp [ha])
      exact ⟨u', h4, den2_ren.1 h5⟩
    · rintro ⟨us, h1, h2, h3⟩
      refine ⟨us, h1, by simpa using h2, fun j a ha => ?_⟩
      simp only [List.getElem?_map, Option.map_eq_some_iff] at ha
      obtain ⟨q, hq, rfl⟩ := ha
      obtain ⟨u', h4, h5⟩ := h3 j q hq
      exact ⟨u', h4, den2_ren.2 h5⟩

section
variable {η : Env} {ω ω' : Own?} {w : World} {σ : Nm → Nm}
theorem Vec.ow {own : Bool} {ow ow' : Nm × Option Nat} {h : Hd} {E : TypeId} {len : Nat} {cell cell' : Nat → Value → Prop} (hn : ∀ b, ω b = none → ω' b = none) (ho : ∀ b, ω b = some ow → ω' b = some ow') (hc : ∀ j u, cell j u → cell' j u) (hv : Vec own ω w ow h E len cell) : Vec own ω' w ow' h E len cell' := by
  cases own with
  | true =>
    rcases hv with h0 | ⟨b, o, cs, h1, h2, h3, h4, h5, h6, h7⟩
    · exact .inl h0
    · refine .inr ⟨b, o, cs, h1, ho b h2, h3, h4, h5, h6, fun j hj => ?_⟩
      obtain ⟨u, hu, hcu⟩ := h7 j hj
      exact ⟨u, hu, hc j u hcu⟩
  | false =>
    refine ⟨hv.1, fun j hj => ?_⟩
    obtain ⟨b, o, u, h1, h2, h3, h4, h5⟩ := hv.2 j hj
    exact ⟨b, o, u, h1, hn b h2, h3, h4, hc j u h5⟩
theorem dat_len_ren (d : Dat) : (d.ren σ).len = d.len := by cases d <;> simp [Dat.ren, Dat.len]
theorem ChIs.pull {x : Nm} {h : Hd} {c : Ch} (hn : ∀ b, ω b = none → ω' b = none) (ho : ∀ b i, ω b = some (σ x, i) → ω' b = some (x, i)) (hc : ChIs η ω w (σ x) h (c.ren σ)) : ChIs (η.pull σ) ω' w x h c := by
  refine ⟨hc.1, ?_⟩
  have h2 : Vec c.own ω w (σ x, none) h c.E (c.d.ren σ).len (cellsOK η ω w c.own (σ x) (c.d.ren σ)) := hc.2
  rw [dat_len_ren] at h2
  refine h2.ow hn (fun b => ho b none) fun j u hu => ?_
  cases hd : c.d with
  | flat l => rw [hd] at hu; exact fun a ha => den1_ren.1 (hu (a.ren σ) (by simp [ha]))
  | vals vs => rw [hd] at hu; exact hu
  | rows E vss holes =>
    rw [hd] at hu
    refine ⟨hu.1, fun hj vs hvs => ?_⟩
    obtain ⟨h1, h2, h3⟩ := hu.2 hj vs hvs
    exact ⟨h1, h2, h3.ow hn (fun b => ho b (some j)) fun _ _ h => h⟩
  | mix cs => rw [hd] at hu; exact ⟨hu.1, fun c hc => celOK.move (η := η) (η' := η.pull σ) (x := σ x) (x' := x) rfl (fun _ _ _ _ _ h3 => h3.ow hn (fun b => ho b (some j)) fun _ _ h => h) (hu.2 c hc)⟩
theorem ChIs.push {x : Nm} {h : Hd} {c : Ch} (hn : ∀ b, ω b = none → ω' b = none) (ho : ∀ b i, ω b = some (x, i) → ω' b = some (σ x, i)) (hc : ChIs (η.pull σ) ω w x h c) : ChIs η ω' w (σ x) h (c.ren σ) := by
  refine ⟨hc.1, ?_⟩
  show Vec c.own ω' w (σ x, none) h c.E (c.d.ren σ).len (cellsOK η ω' w c.own (σ x) (c.d.ren σ))
  rw [dat_len_ren]
  refine hc.2.ow hn (fun b => ho b none) fun j u hu => ?_
  cases hd : c.d with
  | flat l =>
    rw [hd] at hu
    intro a ha
    simp only [List.getElem?_map, Option.map_eq_some_iff] at ha
    obtain ⟨q, hq, rfl⟩ := ha
    exact den1_ren.2 (hu q hq)
  | vals vs => rw [hd] at hu; exact hu
  | rows E vss holes =>
    rw [hd] at hu
    refine ⟨hu.1, fun hj vs hvs => ?_⟩
    obtain ⟨h1, h2, h3⟩ := hu.2 hj vs hvs
    exact ⟨h1, h2, h3.ow hn (fun b => ho b (some j)) fun _ _ h => h⟩
  | mix cs => rw [hd] at hu; exact ⟨hu.1, fun c hc => celOK.move (η := η.pull σ) (η' := η) (x := x) (x' := σ x) rfl (fun _ _ _ _ _ h3 => h3.ow hn (fun b => ho b (some j)) fun _ _ h => h) (hu.2 c hc)⟩
theorem lk_renL (hi : ∀ x y, σ x = σ y → x = y) : ∀ (l : List (Nm × Ch)) (x : Nm), lk (σ x) (renL σ l) = (lk x l).map (Ch.ren σ)
  | [], _ => rfl
  | (y, c) :: r, x => by
    simp only [renL, List.map_cons, lk]
    by_cases e : x = y
    · subst e; simp
    · rw [beq_ne e, beq_ne fun h => e (hi _ _ h)]; exact lk_renL hi r x
theorem lk_renL_mem {l : List (Nm × Ch)} {y : Nm} {c : Ch} (h : lk y (renL σ l) = some c) : ∃ x, σ x = y := by
  obtain ⟨p, _, hp⟩ := List.mem_map.1 (lk_mem h)
  simp only [Prod.mk.injEq] at hp
  exact ⟨p.1, hp.1⟩
theorem lk_renB : ∀ (l : List (Nat × AV)) (t : Nat), lk t (renB σ l) = (lk t l).map (AV.ren σ)
  | [], _ => rfl
  | (y, c) :: r, t => by
    simp only [renB, List.map_cons, lk]
    cases Nat.beq t y with
    | true => rfl
    | false => exact lk_renB r t

open Classical in
theorem FC.ren {P : Program} {f : FuncId} {ins outs : List (Nm × Ch)} {args : List AV} {res : AV} {back : List (Nat × AV)} (hi : ∀ x y, σ x = σ y → x = y) (h : FC P f ins args outs res back) : FC P f (renL σ ins) (args.map (AV.ren σ)) (renL σ outs) (res.ren σ) (renB σ back) := by
  intro w η ω us hm hd
  let inv : Nm → Option Nm := fun y => if h : ∃ x, σ x = y then some (Classical.choose h) else none
  have hinv : ∀ x, inv (σ x) = some x := fun x => by
    have hx : ∃ z, σ z = σ x := ⟨x, rfl⟩
    simp only [inv, dif_pos hx]
    exact congrArg some (hi _ _ (Classical.choose_spec hx))
  let ω1 : Own? := fun b => (ω b).bind fun o => (inv o.1).map fun x => (x, o.2)
  have m1 : Mem (η.pull σ) ω1 w fun x => lk x ins := by
    refine ⟨fun x c hx => ?_, fun x hx => ?_⟩
    · have hx : lk x ins = some c := hx
      obtain ⟨hq, h1, h2⟩ := hm.1 (σ x) (c.ren σ) (by show lk (σ x) (renL σ ins) = _; rw [lk_renL hi, hx]; rfl)
      exact ⟨hq, h1, ChIs.pull (ω := ω) (fun b hb => by simp only [ω1, hb]; rfl) (fun b i hb => by simp only [ω1, hb, Option.bind_some, hinv, Option.map_some]) h2⟩
    · have hx : lk x ins = none := hx
      exact hm.2 (σ x) (by show lk (σ x) (renL σ ins) = none; rw [lk_renL hi, hx]; rfl)
  have d1 : DenL (η.pull σ) args us := by
    refine ⟨by have := hd.1; simpa using this, fun j av hj => ?_⟩
    obtain ⟨u, h1, h2⟩ := hd.2 j (av.ren σ) (by simp [hj])
    exact ⟨u, h1, den_ren.1 h2⟩
  refine (h w _ ω1 us m1 d1).mono fun e w' hl => ?_
  obtain ⟨v, η2, ω2, he, hv, hm2, hfr, hb⟩ := hl
  let η3 : Env := { h := fun y => (inv y).bind η2.h, r := fun y => match inv y with | some x => η2.r x | none => fun _ => ⟨none, 0, 1⟩ }
  have hp : η3.pull σ = η2 := by
    have h1 : (η3.pull σ).h = η2.h := by funext x; simp only [Env.pull, η3, hinv, Option.bind_some]
    have h2 : (η3.pull σ).r = η2.r := by funext x; simp only [Env.pull, η3, hinv]
    cases hq : η3.pull σ; rw [hq] at h1 h2; cases η2; simp only at h1 h2; rw [h1, h2]
  refine ⟨v, η3, fun b => (ω2 b).map fun o => (σ o.1, o.2), he, den_ren.2 (hp ▸ hv), ⟨fun y c hy => ?_, fun y hy => ?_⟩, ⟨hfr.os, hfr.tape, hfr.output, hfr.size, fun b hb1 hb2 => ?_⟩, fun t av ht => ?_⟩
  · have hy : lk y (renL σ outs) = some c := hy
    obtain ⟨x, rfl⟩ := lk_renL_mem hy
    rw [lk_renL hi, Option.map_eq_some_iff] at hy
    obtain ⟨c0, hc0, rfl⟩ := hy
    obtain ⟨hq, h1, h2⟩ := hm2.1 x c0 hc0
    refine ⟨hq, by simp only [η3, hinv, Option.bind_some]; exact h1, ?_⟩
    refine ChIs.push (ω := ω2) (fun b hb => by simp [hb]) (fun b i hb => by simp [hb]) ?_
    rw [hp]; exact h2
  · have hy : lk y (renL σ outs) = none := hy
    cases hiv : inv y with
    | none => simp only [η3, hiv, Option.bind_none]
    | some x =>
      have hxy : σ x = y := by
        simp only [inv] at hiv
        split at hiv
        · rename_i hx; have := Option.some.inj hiv; rw [← this]; exact Classical.choose_spec hx
        · cases hiv
      subst hxy
      rw [lk_renL hi, Option.map_eq_none_iff] at hy
      simp only [η3, hiv, Option.bind_some]
      exact hm2.2 x hy
  · have h1 : ω1 b = none := by simp only [ω1, hb2]; rfl
    obtain ⟨h2, h3⟩ := hfr.block b hb1 h1
    exact ⟨h2, by simp [h3]⟩
  · rw [lk_renB, Option.map_eq_some_iff] at ht
    obtain ⟨a0, ha0, rfl⟩ := ht
    obtain ⟨u, h1, h2⟩ := hb t a0 ha0
    exact ⟨u, h1, den_ren.2 (hp ▸ h2)⟩
end

/-- names by a list of pairs; whoever is not in it moves far away -/
def nm (l : List (Nm × Nm)) (x : Nm) : Nm := match lk x l with
  | some y => y
  | none => x + 1000000
def nmB : List (Nm × Nm) → Bool
  | [] => true
  | (_, y) :: r => Nat.blt y 1000000 && !(r.any fun p => Nat.beq y p.2) && nmB r
theorem nmB_lt : ∀ {l : List (Nm × Nm)}, nmB l = true → ∀ p ∈ l, p.2 < 1000000
  | [], _, p, h => by cases h
  | q :: r, hb, p, h => by
    obtain ⟨x, y⟩ := q
    simp only [nmB, Bool.and_eq_true] at hb
    rcases List.mem_cons.1 h with rfl | h
    · simpa using hb.1.1
    · exact nmB_lt hb.2 p h
theorem nmB_inj : ∀ {l : List (Nm × Nm)}, nmB l = true → ∀ x x' y, lk x l = some y → lk x' l = some y → x = x'
  | [], _, _, _, _, h, _ => by cases h
  | q :: r, hb, x, x', y, h, h' => by
    obtain ⟨z, v⟩ := q
    simp only [nmB, Bool.and_eq_true, Bool.not_eq_true'] at hb
    have hno : ∀ x y, lk x r = some y → y ≠ v := fun x y hx e => by
      have := List.any_eq_false.1 hb.1.2 _ (lk_mem hx)
      rw [e] at this; simp at this
    unfold lk at h h'
    by_cases e : x = z
    · subst e
      simp at h; subst h
      by_cases e' : x' = x
      · exact e'.symm
      · rw [beq_ne e'] at h'; exact absurd rfl (hno x' _ h')
    · rw [beq_ne e] at h
      by_cases e' : x' = z
      · subst e'; simp at h'; subst h'; exact absurd rfl (hno x _ h)
      · rw [beq_ne e'] at h'; exact nmB_inj hb.2 x x' y h h'
theorem nm_inj {l : List (Nm × Nm)} (hb : nmB l = true) : ∀ x y, nm l x = nm l y → x = y := by
  intro x y h
  unfold nm at h
  cases hx : lk x l with
  | none =>
    cases hy : lk y l with
    | none => rw [hx, hy] at h; simpa using h
    | some v =>
      rw [hx, hy] at h
      have h1 : Nat.add x 1000000 = v := h
      have h2 : Nat.lt v 1000000 := nmB_lt hb _ (lk_mem hy)
      rw [← h1] at h2
      exact absurd h2 (Nat.not_lt.2 (Nat.le_add_left _ _))
  | some u =>
    cases hy : lk y l with
    | none =>
      rw [hx, hy] at h
      have h1 : u = Nat.add y 1000000 := h
      have h2 : Nat.lt u 1000000 := nmB_lt hb _ (lk_mem hx)
      rw [h1] at h2
      exact absurd h2 (Nat.not_lt.2 (Nat.le_add_left _ _))
    | some v => rw [hx, hy] at h; simp at h; subst h; exact nmB_inj hb x y _ hx hy
theorem FC.nm {P : Program} {f : FuncId} {ins outs : List (Nm × Ch)} {args : List AV} {res : AV} {back : List (Nat × AV)} (h : FC P f ins args outs res back) (l : List (Nm × Nm)) (hb : nmB l = true) :
    FC P f (renL (nm l) ins) (args.map (AV.ren (nm l))) (renL (nm l) outs) (res.ren (nm l)) (renB (nm l) back) := FC.ren (nm_inj hb) h
end Go.Proofs.YtljimlejcecleaaGreatDoor

/- A memory of names: structs loaded and stored whole; the everyday forms of the rules. No program in sight. -/
namespace Go.Proofs.YtljimlejcecleaaGreatDoor
open Go.RowKit

abbrev I6 (z : Int) : Value := .int .i64 z
def ivals (zs : List Int) : List Value := zs.map I6
def irows (zss : List (List Int)) : List (List Value) := zss.map ivals
theorem ivals_len (zs : List Int) : (ivals zs).length = zs.length := by simp [ivals]
theorem irows_len (zss : List (List Int)) : (irows zss).length = zss.length := by simp [irows]
theorem ivals_get {zs : List Int} {j : Nat} (h : j < zs.length) : (ivals zs)[j]? = some (I6 (iget zs j)) := by simp [ivals, iget_lt h, h]
theorem irows_get {zss : List (List Int)} {j : Nat} (h : j < zss.length) : (irows zss)[j]? = some (ivals (lget zss j)) := by simp [irows, lget_lt h, h]
theorem ivals_set (zs : List Int) (j : Nat) (z : Int) : (ivals zs).set j (I6 z) = ivals (zs.set j z) := by simp [ivals, List.map_set]
theorem ivals_app (zs : List Int) (z : Int) : ivals zs ++ [I6 z] = ivals (zs ++ [z]) := by simp [ivals]
section
variable {P : Program} {nt : Nat} {S S' : St} {w0 w : World} {ω0 : Beg} {ω : Own?} {η : Env} {a : Act}
variable {t : Nat} {ty : TypeId} {ps : String} {af : Array Edge} {gd : Option (Nat × Bool)} {x y : Operand} {av : AV}

theorem stp_loadAgg {T : TypeId} {n : Nm} {k : Nat} {c : Ch} {l : List A1} (ht : Nat.blt t nt = true) (hx : S.op x = some (o1 (.ptr n 0))) (hc : S.ch n = some c) (hd : c.d = .flat l) (hk : l.length = k) (hk0 : Nat.blt 0 k = true) (hT : aggB P T k = true) :
    Stp P nt ⟨some t, .load T x, ty, ps, af, gd⟩ S (S.put t (.s (.agg l))) :=
  Stp.pure rfl ht fun _ _ η _ a w hs => by
    obtain ⟨ad, u, h1, h2, h3⟩ := hs.readAgg (P := P) (hs.opv hx) hc hd (by omega) (by simpa using hk0) hT
    rw [List.drop_zero, List.take_of_length_le (by omega)] at h3
    exact ⟨u, by simp [execOp, h1, Instr.loadAt, Instr.sureAddr, h2], h3⟩
theorem stp_ix {T : TypeId} {n : Nm} {len j : Nat} {c : Ch} {ki : IntKind} {i : Int} (ht : Nat.blt t nt = true) (hx : S.op x = some (o1 (.sl n 0 len))) (hy : S.op y = some (vv (.int ki i))) (hc : S.ch n = some c) (hk : c.k = 1) (hT : elemB P T 1 = true)
    (hi : i = (j : Int)) (hj : j < len) (hl : len ≤ c.d.len) : Stp P nt ⟨some t, .indexAddr T x y, ty, ps, af, gd⟩ S (S.put t (o1 (.ptr n j))) := by
  have := stp_indexAddr (P := P) (nt := nt) (S := S) (t := t) (ty := ty) (ps := ps) (af := af) (gd := gd) (x := x) (y := y) ht hx hy hc hk hT hi hj (by omega) (by omega)
  rwa [Nat.zero_add, Nat.mul_one] at this
theorem stp_loadV {T : TypeId} {n : Nm} {i : Nat} {c : Ch} {vs : List Value} {v : Value} (ht : Nat.blt t nt = true) (hT : oneB P T = true) (hx : S.op x = some (o1 (.ptr n i))) (hc : S.ch n = some c) (hd : c.d = .vals vs) (hv : vs[i]? = some v) :
    Stp P nt ⟨some t, .load T x, ty, ps, af, gd⟩ S (S.put t (vv v)) := stp_load ht hT hx hc (by rw [hd]; show vs[i]?.map A1.val = _; rw [hv]; rfl)
theorem stp_loadF {T : TypeId} {n : Nm} {i : Nat} {c : Ch} {l : List A1} {b : A1} (ht : Nat.blt t nt = true) (hT : oneB P T = true) (hx : S.op x = some (o1 (.ptr n i))) (hc : S.ch n = some c) (hd : c.d = .flat l) (hv : l[i]? = some b) :
    Stp P nt ⟨some t, .load T x, ty, ps, af, gd⟩ S (S.put t (o1 b)) := stp_load ht hT hx hc (by rw [hd]; exact hv)
end
end Go.Proofs.YtljimlejcecleaaGreatDoor

/- A memory of names: append. No program in sight. -/
namespace Go.Proofs.YtljimlejcecleaaGreatDoor
open Go.RowKit

theorem run_append_at {P : Program} (w : World) (t ty e : TypeId) (i : TypeInfo) (ht : P.underlying t = some (.slice e)) (hi : P.info? e = some i)
    (g o sLen sCap : Nat) (cur : Array Value) (hg : w.heap[g]? = some (.cells cur e (0, 0)))
    (a : Addr) (m c : Nat) (news : List Value) (hl : news.length = m * i.size) (hnews : ∀ j u, news[j]? = some u → w.cell? (a.add j) = some u) (h1 : ∀ u ∈ news, u.oneCell' = true)
    (hroom : sLen + m ≤ sCap) (hfit : o + sLen * i.size + news.length ≤ cur.size) :
    (Builtin.append_ #[t, t] ty #[.slice (some ⟨g, o, none⟩) sLen sCap, .slice (some a) m c]).run P w =
      .ok (.slice (some ⟨g, o, none⟩) (sLen + m) sCap) (w.setRow g (cur.toList.take (o + sLen * i.size) ++ news ++ cur.toList.drop (o + sLen * i.size + news.length)).toArray) := by
  have hf := run_firstCells_some (P := P) w i.size m a m c news hl hnews
  have hst := run_storeCells_at P g (o + sLen * i.size) e news 0 cur w hg (by simpa using hfit) h1
  simp only [Nat.add_zero] at hst
  simp [Builtin.append_, run_underlying ht, sizeOf, typeInfo, hi, Builtin.lenOf, hroom, hf, Addr.add_lit, hst]

/-- what append leaves of a vector of the call's own -/
structure Grown (ω : Own?) (w w' : World) (ow : Nm × Option Nat) (h' : Hd) (E : TypeId) (k nk : Nat) (news : List Value) (cell : Nat → Value → Prop) : Prop where
  k_ : h'.k = k
  os : w'.os = w.os
  tape : w'.tape = w.tape
  output : w'.output = w.output
  size : w.heap.size ≤ w'.heap.size
  other : ∀ b, b < w.heap.size → ω b ≠ some ow → w'.heap[b]? = w.heap[b]?
  vec : ∃ b o cs, h'.ao = some ⟨b, o, none⟩ ∧ Own?.new ω w.heap.size ow b = some ow ∧ w'.heap[b]? = some (.cells cs E (0, 0)) ∧ (o = 0 ∧ cs.size = h'.c * k) ∧ nk + news.length ≤ h'.c * k ∧ h'.c ≤ maxLen ∧
    (∀ j, j < nk → ∃ u, cs[o + j]? = some u ∧ cell j u) ∧ ∀ j v, news[j]? = some v → cs[o + nk + j]? = some v
theorem get_app3 {a b c : List Value} {j : Nat} {v : Value} (h : b[j]? = some v) : (a ++ b ++ c)[a.length + j]? = some v := by
  have hj : j < b.length := (List.getElem?_eq_some_iff.1 h).1
  rw [List.append_assoc, List.getElem?_append_right (by omega), Nat.add_sub_cancel_left, List.getElem?_append_left hj]; exact h

theorem run_appendO {P : Program} {ω : Own?} {w : World} {ow : Nm × Option Nat} {h : Hd} {T E k dlen n m off c : Nat} {ty : TypeId} {u : Value} {cell : Nat → Value → Prop} {a : Addr} {news : List Value} (hT : elZ P T E k = true) (hk0 : 0 < k) (hk : h.k = k)
    (hv : VecO ω w ow h E dlen cell) (hu : slAt h off n u) (hoff : off = 0) (hd : (off + n) * k = dlen) (hm0 : 0 < m) (hl : news.length = m * k) (hnews : ∀ j v, news[j]? = some v → w.cell? (a.add j) = some v) (h1 : ∀ v ∈ news, v.oneCell' = true) (hb : n + m ≤ 2199023255552) :
    ∃ h' w', (Builtin.append_ #[T, T] ty #[u, .slice (some a) m c]).run P w = .ok (.slice h'.ao (n + m) h'.c) w' ∧ Grown ω w w' ow h' E k (n * k) news (fun j u => cell (off * k + j) u) := by
  obtain ⟨i, z, e1, e2, e3, e4, e5, e6⟩ := elZ_spec hT
  obtain ⟨ao, rfl, ha0, ha1⟩ := hu
  have hby : (n + m) * i.bytes ≤ 140737488355328 := Nat.le_trans (Nat.mul_le_mul_left _ e4) (by omega)
  have hb0 : 0 + m ≤ maxLen := by simp [maxLen]; omega
  have hbn : n + m ≤ maxLen := by simp [maxLen]; omega
  subst e3
  -- a new block
  have fresh : ∀ (cs0 : List Value) (cap : Nat), cs0.length = n * i.size → n + m ≤ cap → cap ≤ maxLen → (∀ j, j < n * i.size → ∃ u, cs0[j]? = some u ∧ cell (off * i.size + j) u) → ∀ w1 : World, w1.heap = w.heap → w1.os = w.os → w1.tape = w.tape → w1.output = w.output →
      Grown ω w (w1.alloc (.cells (cs0.toArray ++ news.toArray ++ Builtin.zeroCells z.cells (cap - (n + m))) E)) ow ⟨some ⟨w.heap.size, 0, none⟩, cap, i.size⟩ E i.size (n * i.size) news (fun j u => cell (off * i.size + j) u) := by
    intro cs0 cap hc0 hcap hcm hcs w1 hw1 ho1 ht1 hout1
    have hs1 : w1.heap.size = w.heap.size := by rw [hw1]
    refine { k_ := rfl, os := ho1, tape := ht1, output := hout1, size := by simp [hs1], other := fun b hb _ => ?_, vec := ⟨w.heap.size, 0, _, rfl, by simp [Own?.new], by rw [← hs1]; exact heap_alloc_new w1 _, ?_, ?_, hcm, fun j hj => ?_, fun j v hj => ?_⟩ }
    · rw [Below.heap_alloc w1 _ b (by omega), hw1]
    · simp only [Array.size_append, List.size_toArray, size_zeroCells, e6, hc0, hl, ← Nat.add_mul, Nat.zero_add]
      exact ⟨trivial, by congr 1; omega⟩
    · rw [hl, ← Nat.add_mul]; exact Nat.mul_le_mul_right _ hcap
    · obtain ⟨u, hu, hcu⟩ := hcs j hj
      refine ⟨u, ?_, hcu⟩
      rw [Nat.zero_add, Array.getElem?_append_left (by simp [hc0]; omega), Array.getElem?_append_left (by simp [hc0]; omega)]
      simpa using hu
    · have hjl : j < news.length := (List.getElem?_eq_some_iff.1 hj).1
      rw [Nat.zero_add, Array.getElem?_append_left (by simp [hc0]; omega), Array.getElem?_append_right (by simp [hc0])]
      simpa [hc0] using hj
  rcases hv with ⟨hao, hc, hd0⟩ | ⟨b, o, cs, g1, g2, g3, g4, g5, g6, g7⟩
  · have h0 : (off + n) * i.size = 0 := by rw [hd, hd0]
    have h00 : off + n = 0 := by
      rcases Nat.eq_zero_or_pos (off + n) with h8 | h8
      · exact h8
      · have := Nat.mul_pos h8 hk0; omega
    obtain ⟨rfl, rfl⟩ : off = 0 ∧ n = 0 := by omega
    rw [ha0 rfl, hao, hc]
    have hr := run_append_nil (P := P) (ty := ty) w T E i z e1 e2 e5 a m c news hl hnews hm0 (by omega) (by simp only [Nat.zero_add] at hby; omega)
    refine ⟨⟨some ⟨w.heap.size, 0, none⟩, grownCap w m 0 E, i.size⟩, _, by rw [Nat.sub_zero, hr, Nat.zero_add], ?_⟩
    have := fresh [] (grownCap w m 0 E) (by simp) (by rw [Nat.zero_add]; exact grownCap_ge w m 0 E) (grownCap_le_maxLen w m 0 E (by omega)) (fun j hj => absurd hj (by omega)) w.drew rfl rfl rfl rfl
    simpa using this
  · rw [hk] at g4 g5
    have hoc : off + n ≤ h.c := Nat.le_of_mul_le_mul_right (by rw [hd]; exact g5) hk0
    have hmul : ∀ x, x ≤ h.c → x * i.size ≤ h.c * i.size := fun x hx => Nat.mul_le_mul_right _ hx
    have hbs : b < w.heap.size := lt_of_heap g3
    have old : ∀ j, j < n * i.size → ∃ u, cs[o + off * i.size + j]? = some u ∧ cell (off * i.size + j) u := fun j hj => by
      obtain ⟨u, hu, hcu⟩ := g7 (off * i.size + j) (by rw [← hd, Nat.add_mul]; omega)
      exact ⟨u, by rw [Nat.add_assoc]; exact hu, hcu⟩
    have haos : off < h.c → ao = some ⟨b, o + off * i.size, none⟩ := fun hlt => by
      rcases Nat.eq_zero_or_pos off with h0 | h0
      · rw [ha0 h0, g1, h0]; simp
      · rw [ha1 h0 hlt, g1, hk]; rfl
    by_cases hroom : n + m ≤ h.c - off
    · have hlt : off < h.c := by omega
      rw [haos hlt]
      have hfit : o + off * i.size + n * i.size + news.length ≤ cs.size := by
        have h2 := hmul (off + n + m) (by omega)
        rw [Nat.add_mul, Nat.add_mul] at h2
        rw [hl]; omega
      have hr := run_append_at (P := P) (ty := ty) w T E i e1 e2 b (o + off * i.size) n (h.c - off) cs g3 a m c news hl hnews h1 hroom hfit
      have hnl : n * i.size + news.length ≤ (h.c - off) * i.size := by rw [hl, ← Nat.add_mul]; exact Nat.mul_le_mul_right _ hroom
      have htl : (cs.toList.take (o + off * i.size + n * i.size)).length = o + off * i.size + n * i.size := by
        rw [List.length_take, Array.length_toList]; omega
      refine ⟨⟨some ⟨b, o + off * i.size, none⟩, h.c - off, i.size⟩, _, hr, ?_⟩
      refine { k_ := rfl, os := rfl, tape := rfl, output := rfl, size := by simp, other := fun b' _ hne => setRow_other w b b' _ (fun e => hne (e ▸ g2)), vec := ⟨b, o + off * i.size, _, rfl, by simp [Own?.new, Nat.ne_of_lt hbs, g2], setRow_heap w b cs _ E _ g3, ?_, hnl, by show h.c - off ≤ maxLen; omega, fun j hj => ?_, fun j v hj => ?_⟩ }
      · have h2 := Nat.sub_mul h.c off i.size
        have h3 := hmul off (by omega)
        simp only [List.size_toArray, List.length_append, htl, List.length_drop, Array.length_toList]
        subst hoff; rw [Nat.zero_mul, Nat.sub_zero] at h2 ⊢; simp only [Nat.add_zero] at *; constructor <;> omega
      · obtain ⟨u, hu, hcu⟩ := old j hj
        refine ⟨u, ?_, hcu⟩
        simp only [List.getElem?_toArray]
        rw [List.append_assoc, List.getElem?_append_left (by rw [htl]; omega), List.getElem?_take, if_pos (by omega)]
        simpa using hu
      · simp only [List.getElem?_toArray]
        have := get_app3 (a := cs.toList.take (o + off * i.size + n * i.size)) (c := cs.toList.drop (o + off * i.size + n * i.size + news.length)) hj
        rw [htl] at this
        exact this
    · have holds : ∀ u', n * i.size ≠ 0 → ao = some u' → u' = ⟨b, o + off * i.size, none⟩ := fun u' hn0 he => by
        have hnp : 0 < n := by
          rcases Nat.eq_zero_or_pos n with h8 | h8
          · subst h8; simp at hn0
          · exact h8
        rw [haos (by omega)] at he; exact (Option.some.inj he).symm
      have hol : ((cs.toList.drop (o + off * i.size)).take (n * i.size)).length = n * i.size := by
        rw [List.length_take, List.length_drop, Array.length_toList]
        have h2 := hmul (off + n) hoc
        rw [Nat.add_mul] at h2
        omega
      have hoat : ∀ (j : Nat) (u : Value), ((cs.toList.drop (o + off * i.size)).take (n * i.size))[j]? = some u → j < n * i.size ∧ cs[o + off * i.size + j]? = some u := fun j u hj => by
        have hjl : j < n * i.size := by have := (List.getElem?_eq_some_iff.1 hj).1; omega
        rw [List.getElem?_take, if_pos hjl, List.getElem?_drop] at hj
        exact ⟨hjl, by simpa using hj⟩
      have hfresh := fresh ((cs.toList.drop (o + off * i.size)).take (n * i.size)) (grownCap w (n + m) (h.c - off) E) hol (grownCap_ge _ _ _ _) (grownCap_le_maxLen _ _ _ _ hbn) (fun j hj => by
        obtain ⟨u, hu, hcu⟩ := old j hj
        refine ⟨u, ?_, hcu⟩
        rw [List.getElem?_take, if_pos hj, List.getElem?_drop]
        simpa using hu) w.drew rfl rfl rfl rfl
      cases hao : ao with
      | none =>
        have hno : ¬ off < h.c := fun hlt => by rw [haos hlt] at hao; cases hao
        have hn0 : n = 0 := by omega
        subst hn0
        have hc0 : h.c - off = 0 := by omega
        rw [hc0] at hfresh ⊢
        have hr := run_append_nil (P := P) (ty := ty) w T E i z e1 e2 e5 a m c news hl hnews hm0 (by omega) (by simp only [Nat.zero_add] at hby; omega)
        refine ⟨⟨some ⟨w.heap.size, 0, none⟩, grownCap w m 0 E, i.size⟩, _, by rw [hr, Nat.zero_add], ?_⟩
        simpa using hfresh
      | some a' =>
        have hr := run_append_grow (P := P) (ty := ty) w T E i z e1 e2 e5 a' n (h.c - off) _ hol (fun j u hj => by
          obtain ⟨hj1, hj2⟩ := hoat j u hj
          rw [holds a' (by omega) hao, Addr.add_lit]
          show w.cell? ⟨b, o + off * i.size + j, none⟩ = some u
          rw [cell_of_row w b _ cs E (0, 0) g3]; exact hj2) a m c news hl hnews (by omega) (by omega) (growslice_fits (by omega) hby)
        exact ⟨⟨some ⟨w.heap.size, 0, none⟩, grownCap w (n + m) (h.c - off) E, i.size⟩, _, hr, hfresh⟩
end Go.Proofs.YtljimlejcecleaaGreatDoor

/- A memory of names: append and make as operations of the walk. No program in sight. -/
namespace Go.Proofs.YtljimlejcecleaaGreatDoor
open Go.RowKit

/-- what a slice reads as, m elements of k cells -/
structure Reads (S : St) (b : A1) (m k : Nat) (news : List Value) : Prop where
  len : news.length = m * k
  go : ∀ {w0 ω0 nt η ω a w u}, SatE w0 ω0 nt S η ω a w → Den1 η b u → ∃ ad c, u = .slice ad m c ∧ ∀ (j : Nat) (v : Value), news[j]? = some v → ∃ bb o, ad = some ⟨bb, o, none⟩ ∧ w.cell? ⟨bb, o + j, none⟩ = some v
section
variable {P : Program} {nt : Nat} {S S' : St} {w0 w : World} {ω0 : Beg} {ω : Own?} {η : Env} {a : Act}
variable {t : Nat} {ty : TypeId} {ps : String} {af : Array Edge} {gd : Option (Nat × Bool)} {x y : Operand} {av : AV}

/-- the cells of a slice of a chunk -/
theorem SatE.slice (hs : SatE w0 ω0 nt S η ω a w) {n : Nm} {off m k : Nat} {c : Ch} {u : Value} (hd : Den1 η (.sl n off m) u) (hc : S.ch n = some c) (hk : c.k = k) (hk0 : 0 < k) (hl : (off + m) * k ≤ c.d.len) :
    ∃ ad cp, u = .slice ad m cp ∧ ∀ j, j < m * k → ∃ bb o v, ad = some ⟨bb, o, none⟩ ∧ w.cell? ⟨bb, o + j, none⟩ = some v ∧ cellsOK η ω w c.own n c.d (off * k + j) v := by
  obtain ⟨hd', e1, e2, e3⟩ := hs.chunk hc
  obtain ⟨ao, rfl, f1, f2⟩ := hd.2 hd' e1
  refine ⟨ao, _, rfl, fun j hj => ?_⟩
  have hlt : off * k + j < c.d.len := Nat.lt_of_lt_of_le (by rw [Nat.add_mul]; omega) hl
  obtain ⟨b', o', v, g1, g2, g3⟩ := e3.get hlt
  have hcap := e3.cap
  rw [e2, hk] at hcap
  have h5 : off + m ≤ hd'.c := Nat.le_of_mul_le_mul_right (Nat.le_trans hl hcap) hk0
  have hm : 0 < m := by
    rcases Nat.eq_zero_or_pos m with h8 | h8
    · subst h8; simp at hj
    · exact h8
  refine ⟨b', o' + off * k, v, ?_, by rw [Nat.add_assoc]; exact g2, g3⟩
  rcases Nat.eq_zero_or_pos off with h0 | h0
  · rw [f1 h0, g1, h0]; simp
  · rw [f2 h0 (by omega), g1, e2, hk]; rfl

theorem reads_vals {n : Nm} {off m k : Nat} {c : Ch} {vs : List Value} (hc : S.ch n = some c) (hd : c.d = .vals vs) (hk : c.k = k) (hk0 : Nat.blt 0 k = true) (hl : (off + m) * k ≤ vs.length) : Reads S (.sl n off m) m k ((vs.drop (off * k)).take (m * k)) :=
  ⟨by rw [List.length_take, List.length_drop]; rw [Nat.add_mul] at hl; omega, fun hs hu => by
    obtain ⟨ad, cp, e, h⟩ := hs.slice hu hc hk (by simpa using hk0) (by rw [hd]; exact hl)
    refine ⟨ad, cp, e, fun j v hj => ?_⟩
    have hjl : j < m * k := by have := (List.getElem?_eq_some_iff.1 hj).1; simp at this; omega
    rw [List.getElem?_take, if_pos hjl, List.getElem?_drop] at hj
    obtain ⟨bb, o, v', h1, h2, h3⟩ := h j hjl
    rw [hd] at h3
    have h3 : vs[off * k + j]? = some v' := h3
    rw [hj] at h3; obtain rfl := Option.some.inj h3
    exact ⟨bb, o, h1, h2⟩⟩
theorem reads_all {n : Nm} {m : Nat} {c : Ch} {vs : List Value} (hc : S.ch n = some c) (hd : c.d = .vals vs) (hk : c.k = 1) (hl : vs.length = m) : Reads S (.sl n 0 m) m 1 vs := by
  have := reads_vals (S := S) (n := n) (off := 0) (m := m) (k := 1) hc hd hk rfl (by omega)
  simpa [← hl] using this
theorem new_rm (S : St) (x : Nm) (c : Ch) : (S.rm x).new x c = S.new x c := by
  unfold St.new St.rm
  simp only [St.mk.injEq, true_and, and_true]
  funext y
  cases Nat.beq y x <;> rfl
theorem drop_new (η : Env) (x : Nm) (hd : Hd) (r : Nat → Hd) : (η.drop x).new x hd r = η.new x hd r := by
  unfold Env.new Env.drop
  simp only [Env.mk.injEq, and_true]
  funext y
  by_cases e : y = x <;> simp [e]
/-- a chunk of the call's own gets a new handle and a new content -/
theorem SatE.renew (h : SatE w0 ω0 nt S η ω a w) {n : Nm} {c : Ch} {hd : Hd} {r : Nat → Hd} {ω' : Own?} {w' : World} (hk : Calm (S.rm n) ω w ω' w') (hc : ChIs (η.new n hd r) ω' w' n hd c) : SatE w0 ω0 nt (S.new n c) (η.new n hd r) ω' a w' := by
  have := (h.drop n).lay (x := n) (c := c) (hd := hd) (r := r) hk (by rw [drop_new]; exact hc)
  rw [new_rm, drop_new] at this
  exact this
theorem calm_grown {n : Nm} {i : Option Nat} {w' : World} {h' : Hd} {E k nk : Nat} {news : List Value} {cell : Nat → Value → Prop} (hS : S.ch n = none) (g : Grown ω w w' (n, i) h' E k nk news cell) : Calm S ω w (Own?.new ω w.heap.size (n, i)) w' :=
  ⟨g.os, g.tape, g.output, g.size, fun b hb hl => by
    have hne : ω b ≠ some (n, i) := by
      intro e
      rcases hl with h0 | ⟨y, j, c, h0, h1⟩
      · rw [h0] at e; cases e
      · rw [h0] at e; obtain ⟨rfl, rfl⟩ := Prod.mk.inj (Option.some.inj e); rw [hS] at h1; cases h1
    exact ⟨g.other b hb hne, by simp [Own?.new, Nat.ne_of_lt hb]⟩⟩
theorem den_new {n : Nm} {hd : Hd} {r : Nat → Hd} {m : Nat} : Den (η.new n hd r) (o1 (.sl n 0 m)) (.slice hd.ao m hd.c) :=
  ⟨⟨_, _, rfl⟩, fun hd' he => by simp [Env.new] at he; subst he; exact ⟨_, rfl, fun _ => rfl, fun h => absurd h (by omega)⟩⟩

/-- append to a vector of plain values of the call's own -/
theorem stp_append {T E k n off len m : Nat} {c : Ch} {vs news : List Value} {b : A1} (ht : Nat.blt t nt = true) (hT : elZ P T E k = true) (hk0 : Nat.blt 0 k = true) (hx : S.op x = some (o1 (.sl n off len))) (hc : S.ch n = some c) (hce : c = ⟨true, E, k, .vals vs⟩) (hoff : off = 0) (hl : (off + len) * k = vs.length)
    (hy : S.op y = some (o1 b)) (hr : Reads S b m k news) (hm : 0 < m) (h1 : ∀ v ∈ news, v.oneCell' = true) (hb : len + m ≤ 2199023255552) :
    Stp P nt ⟨some t, .call { callee := .builtin .append, args := #[x, y], argTypes := #[T, T] }, ty, ps, af, gd⟩ S ((S.new n ⟨true, E, k, .vals (vs.drop (off * k) ++ news)⟩).put t (o1 (.sl n 0 (len + m)))) :=
  Stp.of _ fun w0 ω0 η ω a w hs => by
    have hk0' : 0 < k := by simpa using hk0
    obtain ⟨hd, e1, e2, e3⟩ := hs.chunk hc
    subst hce
    have e3 : VecO ω w (n, none) hd E vs.length (cellsOK η ω w true n (.vals vs)) := e3
    have hu : Den1 η (.sl n off len) (a.eval x) := hs.opv hx
    obtain ⟨ad, cp, r1, r2⟩ := hr.go hs (hs.opv hy)
    have hnl := hr.len
    have hn0 : 0 < news.length := by rw [hnl]; exact Nat.mul_pos hm hk0'
    obtain ⟨bb, o, r3, _⟩ := r2 0 _ (List.getElem?_eq_getElem hn0)
    subst r3
    obtain ⟨h', w', k1, k2⟩ := run_appendO (P := P) (ty := ty) (c := cp) hT hk0' e2 e3 (hu.2 hd e1) hoff hl hm hnl (a := ⟨bb, o, none⟩) (fun j v hj => by
      obtain ⟨b2, o2, h2, h3⟩ := r2 j v hj
      simp only [Option.some.injEq, Addr.mk.injEq, and_true] at h2
      obtain ⟨rfl, rfl⟩ := h2
      rw [Addr.add_lit]; exact h3) h1 hb
    refine ⟨.slice h'.ao (len + m) h'.c, w', by simp [execOp, resolve, invoke, builtin, r1, k1], ?_⟩
    have hlen : (vs.drop (off * k) ++ news).length = len * k + news.length := by
      rw [List.length_append, List.length_drop, ← hl, Nat.add_mul]; omega
    have := hs.renew (n := n) (c := ⟨true, E, k, .vals (vs.drop (off * k) ++ news)⟩) (hd := h') (r := fun _ => ⟨none, 0, 1⟩) (calm_grown (by simp [ch_rm]) k2) ⟨k2.k_, by
      obtain ⟨b', o', cs', v1, v2, v3, v4, v5, v6, v7, v8⟩ := k2.vec
      refine .inr ⟨b', o', cs', v1, v2, v3, by rw [k2.k_]; exact v4, by rw [k2.k_]; show (vs.drop (off * k) ++ news).length ≤ _; rw [hlen]; exact v5, v6, fun j hj => ?_⟩
      have hj : j < (vs.drop (off * k) ++ news).length := hj
      rw [hlen] at hj
      by_cases hlt : j < len * k
      · obtain ⟨u, q1, q2⟩ := v7 j hlt
        have q2 : vs[off * k + j]? = some u := q2
        refine ⟨u, q1, ?_⟩
        show (vs.drop (off * k) ++ news)[j]? = some u
        rw [List.getElem?_append_left (by rw [List.length_drop, ← hl, Nat.add_mul]; omega), List.getElem?_drop]; exact q2
      · have hdl : (vs.drop (off * k)).length = len * k := by rw [List.length_drop, ← hl, Nat.add_mul]; omega
        have hj2 : j - len * k < news.length := by omega
        refine ⟨news[j - len * k], ?_, ?_⟩
        · have := v8 (j - len * k) _ (List.getElem?_eq_getElem hj2)
          rw [show o' + len * k + (j - len * k) = o' + j by omega] at this; exact this
        · show (vs.drop (off * k) ++ news)[j]? = _
          rw [List.getElem?_append_right (by omega), hdl, List.getElem?_eq_getElem hj2]⟩
    exact ⟨_, _, this.putV (by simpa using ht) den_new⟩
end
end Go.Proofs.YtljimlejcecleaaGreatDoor

/- A memory of names: rows that are appended and laid into rows; make; what is nil; structs stored whole. No program in sight. -/
namespace Go.Proofs.YtljimlejcecleaaGreatDoor
open Go.RowKit

section
variable {P : Program} {nt : Nat} {S S' : St} {w0 w : World} {ω0 : Beg} {ω : Own?} {η : Env} {a : Act}
variable {t : Nat} {ty : TypeId} {ps : String} {af : Array Edge} {gd : Option (Nat × Bool)} {x y : Operand} {av : AV}

/-- the blocks of z go to row j of n -/
def Own?.give (ω : Own?) (z n : Nm) (j : Nat) : Own? := fun b => if ω b = some (z, none) then some (n, some j) else ω b
theorem VecO.give {z n : Nm} {j : Nat} {h : Hd} {E : TypeId} {len : Nat} {cell : Nat → Value → Prop} {ω' : Own?} {w' : World} (hv : VecO ω w (z, none) h E len cell) (hs : ∀ b, b < w.heap.size → ω b = some (z, none) → w'.heap[b]? = w.heap[b]? ∧ ω' b = some (n, some j)) : VecO ω' w' (n, some j) h E len cell := by
  rcases hv with h0 | ⟨b, o, cs, h1, h2, h3, h4⟩
  · exact .inl h0
  · have := hs b (lt_of_heap h3) h2
    exact .inr ⟨b, o, cs, h1, this.2, this.1.trans h3, h4⟩

/-- a nil slice in a slot is taken for an empty vector of the call's own -/
theorem wk_nil {n k : Nat} {E : TypeId} {d : Dat} (hs : S.sl t = some (vv (.slice none 0 0))) (hd : d.len = 0) : Wk S ((S.new n ⟨true, E, k, d⟩).put t (o1 (.sl n 0 0))) := by
  refine ⟨fun w0 ω0 nt a w ⟨η, ω, h⟩ => ?_⟩
  obtain ⟨u, h1, h2⟩ := h.slots t _ hs
  have h2 : u = .slice none 0 0 := h2
  subst h2
  have hl := h.lay (x := n) (c := ⟨true, E, k, d⟩) (hd := ⟨none, 0, k⟩) (r := fun _ => ⟨none, 0, 1⟩) (Calm.refl S ω w) ⟨rfl, .inl ⟨rfl, rfl, hd⟩⟩
  refine ⟨_, ω, { hl with slots := fun t' av ht' => ?_ }⟩
  rw [sl_put] at ht'
  by_cases e : t' = t
  · subst e
    rw [if_pos rfl] at ht'
    obtain rfl := Option.some.inj ht'
    exact ⟨_, h1, den_new (hd := ⟨none, 0, k⟩) (m := 0)⟩
  · rw [if_neg e] at ht'
    exact hl.slots t' av ht'
end
end Go.Proofs.YtljimlejcecleaaGreatDoor
