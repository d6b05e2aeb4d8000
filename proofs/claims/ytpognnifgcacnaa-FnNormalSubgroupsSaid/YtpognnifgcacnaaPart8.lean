/- Draws of presentations: l11Draw. -/
import Derived.Test.YtpognnifgcacnaaPart7
import Derived.Deep.DeepCutAuto
import Derived.Deep.CutBlock
import Derived.Test.YtpognnifgcacnaaPart1
import Derived.Test.YtpognnifgcacnaaPart3
import Derived.Test.YtpognnifgcacnaaPart2
import Derived.Test.YtpognnifgcacnaaPart4
namespace Go.Proofs.Ytpognnifgcacnaa
open Go.RowKit

theorem Src.far {w w' : World} {sb : Nat} (h : Src w sb) (hs : ∀ g, g ≤ sb → w'.heap[g]? = w.heap[g]?) : Src w' sb := by
  obtain ⟨ao, n, c, k, hh, h1, h2, h3, h4⟩ := h.box
  refine ⟨ao, n, c, k, hh, (hs sb (Nat.le_refl _)).trans h1, h2, h3, h4.1, fun hn => ?_⟩
  obtain ⟨b, off, e, hb, hc⟩ := h4.2 hn
  refine ⟨b, off, e, hb, fun j hj => ?_⟩
  obtain ⟨x, hx, hcx⟩ := hc j hj
  exact ⟨x, hx, (World.cell?_of_block (hs b (by omega))).trans hcx⟩
/-- a presentation being drawn: the source's box sb, the result's rb, that of p at pb -/
structure DrSt (w wr : World) (sb rb pb : Nat) (N : Int) (ao : Option Addr) (m c : Nat) (us : List Value) (ds : List (List Int)) : Prop where
  src : Src wr sb
  res : Blk wr rb 72 #[.int .i64 0, .slice none 0 0]
  box : Blk wr pb 72 #[.int .i64 N, .slice ao m c]
  row : OwR (OwS 2) wr (pb + 1) wr.heap.size 49 ao m c us ds
  lo : sb < w.heap.size ∧ w.heap.size ≤ rb ∧ rb < pb ∧ pb < wr.heap.size
  only : Only sb (sb + 1) w wr
section
variable {w wr : World} {sb rb pb : Nat} {N : Int} {ao : Option Addr} {m c : Nat} {us : List Value} {ds : List (List Int)}
theorem DrSt.next {w2 : World} (st : DrSt w wr sb rb pb N ao m c us ds) (s2 : Src w2 sb) (o2 : Only sb (sb + 1) wr w2) : DrSt w w2 sb rb pb N ao m c us ds :=
  have hl := st.lo
  have hsz := o2.size
  ⟨s2, st.res.only o2 (.inr (by omega)), st.box.only o2 (.inr (by omega)), (st.row.only (innerS _) o2 (.inr (by omega))).mono (Nat.le_refl _) hsz, ⟨hl.1, hl.2.1, hl.2.2.1, by omega⟩, st.only.trans o2⟩
theorem DrSt.push {w2 w3 w4 : World} {n1 c1 c2 : Nat} {a1 ao2 : Option Addr} {zs : List Int} (st : DrSt w wr sb rb pb N ao m c us ds)
    (b2 : Below wr.heap.size wr w2) (o1 : Own w2 wr.heap.size 2 a1 n1 c1 (zs.map (Value.int .i64))) (b3 : Below w2.heap.size w2 w3) (o4 : Own w4 (pb + 1) 49 ao2 (m + 1) c2 (us ++ [.slice a1 n1 c1]))
    (g4 : w3.grownBy w4 (bk ao)) (hat : bk ao2 = bk ao ∨ bk ao2 = some w3.heap.size) :
    DrSt w (w4.setCell ⟨pb, 1, none⟩ (.slice ao2 (m + 1) c2)) sb rb pb N ao2 (m + 1) c2 (us ++ [.slice a1 n1 c1]) (ds ++ [zs]) := by
  have hl := st.lo
  have hR := rows_push st.row (by omega) b2 o1 b3 o4 g4 hat
  have s2 := b2.size
  have s3 := b3.size
  have s4 := g4.size
  have B4 : Below (pb + 1) wr w4 := ((b2.trans (b3.mono s2)).mono (by omega)).grown g4 (by omega) (fun g hg => (st.row.own.lt g hg).1)
  have hh : (w4.setCell ⟨pb, 1, none⟩ (.slice ao2 (m + 1) c2)).heap.size = w4.heap.size := by simp [World.setCell]
  have hne : ∀ g, g ≠ pb → (w4.setCell ⟨pb, 1, none⟩ (.slice ao2 (m + 1) c2)).heap[g]? = w4.heap[g]? := fun g hg => Below.heap_setCell _ _ _ _ (by simpa using hg)
  refine ⟨st.src.far fun g hg => (hne g (by omega)).trans (B4.block g (by omega)), (st.res.below B4 (by omega)).far (by simp; omega) _, ?_, ?_, ⟨hl.1, hl.2.1, hl.2.2.1, by rw [hh]; omega⟩, ?_⟩
  · have := (st.box.below B4 (by omega)).set_ 1 (.slice ao2 (m + 1) c2)
    simpa using this
  · rw [hh]
    exact hR.same (innerS _) fun g h1 _ _ => hne g (by omega)
  · have o := st.only
    exact ⟨B4.os.trans o.os, B4.tape.trans o.tape, B4.output.trans o.output, by rw [hh]; have := o.size; omega, fun k hk hd => by rw [hne k (by omega), B4.block k (by omega)]; exact o.block k hk hd⟩
theorem DrSt.done (st : DrSt w wr sb rb pb N ao m c us ds) :
    Blk ((wr.setCell ⟨rb, 0, none⟩ (.int .i64 N)).setCell ⟨rb, 1, none⟩ (.slice ao m c)) rb 72 #[.int .i64 N, .slice ao m c] ∧
    OwP 2 49 ((wr.setCell ⟨rb, 0, none⟩ (.int .i64 N)).setCell ⟨rb, 1, none⟩ (.slice ao m c)) w.heap.size ((wr.setCell ⟨rb, 0, none⟩ (.int .i64 N)).setCell ⟨rb, 1, none⟩ (.slice ao m c)).heap.size (.agg #[.int .i64 N, .slice ao m c]) (N, ds) ∧
    Src ((wr.setCell ⟨rb, 0, none⟩ (.int .i64 N)).setCell ⟨rb, 1, none⟩ (.slice ao m c)) sb ∧
    Only sb (sb + 1) w ((wr.setCell ⟨rb, 0, none⟩ (.int .i64 N)).setCell ⟨rb, 1, none⟩ (.slice ao m c)) := by
  have hl := st.lo
  have hh : ((wr.setCell ⟨rb, 0, none⟩ (.int .i64 N)).setCell ⟨rb, 1, none⟩ (.slice ao m c)).heap.size = wr.heap.size := by simp [World.setCell]
  have hne : ∀ g, g ≠ rb → ((wr.setCell ⟨rb, 0, none⟩ (.int .i64 N)).setCell ⟨rb, 1, none⟩ (.slice ao m c)).heap[g]? = wr.heap[g]? := fun g hg => by
    rw [Below.heap_setCell _ _ _ _ (by simpa using hg), Below.heap_setCell _ _ _ _ (by simpa using hg)]
  refine ⟨?_, ⟨ao, m, c, us, rfl, ?_⟩, st.src.far fun g hg => hne g (by omega), ?_⟩
  · have := (st.res.set_ 0 (.int .i64 N)).set_ 1 (.slice ao m c)
    simpa using this
  · rw [hh]
    exact (st.row.same (innerS _) fun g h1 _ _ => hne g (by omega)).mono (by omega) (Nat.le_refl _)
  · have o := st.only
    exact ⟨o.os, o.tape, o.output, by rw [hh]; exact o.size, fun k hk hd => by rw [hne k (by omega)]; exact o.block k hk hd⟩
end
/-- what a draw of a presentation leaves -/
def DrawnP (w : World) (sb : Nat) (glo ghi : Int) (most : Nat) (e : Ending) (w' : World) : Prop :=
  ∃ v d, e = .returned v ∧ glo ≤ d.1 ∧ d.1 ≤ ghi ∧ d.2.length ≤ most ∧ OwP 2 49 w' w.heap.size w'.heap.size v d ∧ Src w' sb ∧ Only sb (sb + 1) w w'
theorem pick5 {r : Nat} (h : r < 5) : ∃ L : Nat, iget [2, 3, 3, 3, 4] r = (L : Int) ∧ 2 ≤ L ∧ L ≤ 7 := by
  match r, h with
  | 0, _ => exact ⟨2, rfl, by omega, by omega⟩
  | 1, _ => exact ⟨3, rfl, by omega, by omega⟩
  | 2, _ => exact ⟨3, rfl, by omega, by omega⟩
  | 3, _ => exact ⟨3, rfl, by omega, by omega⟩
  | 4, _ => exact ⟨4, rfl, by omega, by omega⟩
theorem pick6 {r : Nat} (h : r < 6) : ∃ L : Nat, iget [2, 3, 4, 5, 6, 7] r = (L : Int) ∧ 2 ≤ L ∧ L ≤ 7 := by
  match r, h with
  | 0, _ => exact ⟨2, rfl, by omega, by omega⟩
  | 1, _ => exact ⟨3, rfl, by omega, by omega⟩
  | 2, _ => exact ⟨4, rfl, by omega, by omega⟩
  | 3, _ => exact ⟨5, rfl, by omega, by omega⟩
  | 4, _ => exact ⟨6, rfl, by omega, by omega⟩
  | 5, _ => exact ⟨7, rfl, by omega, by omega⟩

set_option maxRecDepth 100000 in
set_option maxHeartbeats 3200000 in
theorem draw_any (sb : Nat) (w : World) (h : Src w sb) (hsb : sb < w.heap.size) :
    Calls Try.prog 190 #[.pointer (some ⟨sb, 0, none⟩)] w (DrawnP w sb 1 4 17) := by
  go_enter Try.func190, Try.ntmps190
  have h1 : Src (w.alloc (.cells #[.int .i64 0, .slice none 0 0] 72)) sb := h.grown (row := none) (World.grownBy_alloc w _ none) (fun g hg => by cases hg)
  have r1 : Blk (w.alloc (.cells #[.int .i64 0, .slice none 0 0] 72)) w.heap.size 72 #[.int .i64 0, .slice none 0 0] := blk_at rfl
  have q1 : Only sb (sb + 1) w (w.alloc (.cells #[.int .i64 0, .slice none 0 0] 72)) := only_grown (Only.refl sb (sb + 1) w) (World.grownBy_alloc w _ none) (fun g hg => by cases hg)
  go_wp2_with fail
  have hz1 : (w.alloc (.cells #[.int .i64 0, .slice none 0 0] 72)).heap.size = w.heap.size + 1 := by simp
  generalize w.alloc (.cells #[.int .i64 0, .slice none 0 0] 72) = w1 at *
  have HZ1 := Lib.hid hz1
  clear hz1
  refine (next_any sb _ _ h1 (by omega)).mono ?_
  rintro e w2 ⟨r, rfl, -, r2, s2, o2⟩
  have hr := r2 (by omega)
  obtain ⟨N, hN⟩ : ∃ N : Nat, (1 : Int) + r = N := ⟨1 + r, by omega⟩
  have hN1 : 1 ≤ N := by omega
  have hN4 : N ≤ 4 := by omega
  have r2' := r1.only o2 (.inr (by omega))
  have hz2 := o2.size
  have q2 := q1.trans o2
  clear o2 h1 r1 q1 r2
  go_wp2_with fail
  have st0 : DrSt w (w2.alloc (.cells #[.int .i64 N, .slice none 0 0] 72)) sb w.heap.size w2.heap.size N none 0 0 [] [] :=
    ⟨s2.grown (row := none) (World.grownBy_alloc w2 _ none) (fun g hg => by cases hg), r2'.alloc _, blk_at rfl, OwR.empty_ (Own.nil_ _ _ _) (fun g hg => by cases hg), ⟨hsb, Nat.le_refl _, by have := HZ1.out; omega, by simp⟩, only_grown q2 (World.grownBy_alloc w2 _ none) (fun g hg => by cases hg)⟩
  have hpb : w.heap.size < w2.heap.size := by have := HZ1.out; omega
  generalize w2.alloc (.cells #[.int .i64 N, .slice none 0 0] 72) = w3 at *
  generalize w2.heap.size = pb at *
  clear s2 q2 r2' hz2 HZ1 hN hr
  go_loopw [5, 6] (fun bv iv wr => ∃ (b k m : Nat) (ao : Option Addr) (c : Nat) (us : List Value) (ds : List (List Int)), bv = .int .i64 b ∧ iv = .int .i64 k ∧ k ≤ N ∧ b ≤ 4 * k ∧ m ≤ 4 * k ∧ DrSt w wr sb w.heap.size pb N ao m c us ds) (fun _ iv _ => N - (intOf iv).toNat)
  case atStart => exact ⟨0, 0, 0, none, 0, [], [], rfl, rfl, Nat.zero_le _, by omega, by omega, st0⟩
  case round =>
    obtain ⟨b, k, m, ao, c, us, ds, rfl, rfl, hk, hb, hm, st⟩ := hrel
    clear st0 w3
    by_cases hlt : k < N
    · have ST := Lib.hid st
      clear st
      go_wp2_with fail
      go_loopw [5, 7] (fun bv iv wr => ∃ (b j m : Nat) (ao : Option Addr) (c : Nat) (us : List Value) (ds : List (List Int)), bv = .int .i64 b ∧ iv = .int .i64 j ∧ k < j ∧ j ≤ N ∧ b ≤ 4 * k + j ∧ m ≤ 4 * k + j ∧ DrSt w wr sb w.heap.size pb N ao m c us ds) (fun _ iv _ => N - (intOf iv).toNat)
      case atStart => exact ⟨b, k + 1, m, ao, c, us, ds, rfl, by simp, by omega, by omega, by omega, by omega, ST.out⟩
      case round =>
        obtain ⟨b, j, m, ao, c, us, ds, rfl, rfl, hkj, hj, hb, hm, st⟩ := hrel
        clear ST
        by_cases hlt2 : j < N
        · have ST := Lib.hid st
          clear st
          go_upto_if 30 with (fail)
          go_cut [5, 8] (fun s5 s8 wx => ∃ b' L : Nat, s5 = .int .i64 b' ∧ s8 = .int .i64 L ∧ b' ≤ 4 * k + j + 1 ∧ 2 ≤ L ∧ L ≤ 7 ∧ DrSt w wx sb w.heap.size pb N ao m c us ds)
          case first =>
            by_cases hjk : j = k + 1
            · subst hjk
              have hP : Ints (wr.alloc (.cells #[.int .i64 2, .int .i64 3, .int .i64 3, .int .i64 3, .int .i64 4] 2)) (some ⟨wr.heap.size, 0, none⟩) 5 [2, 3, 3, 3, 4] := Own.ints (zs := [2, 3, 3, 3, 4]) (own_lit (us := [.int .i64 2, .int .i64 3, .int .i64 3, .int .i64 3, .int .i64 4]) rfl (Nat.le_refl _) (by simp))
              have oP : Only sb (sb + 1) wr (wr.alloc (.cells #[.int .i64 2, .int .i64 3, .int .i64 3, .int .i64 3, .int .i64 4] 2)) := only_grown (Only.refl _ _ _) (World.grownBy_alloc wr _ none) (fun g hg => by cases hg)
              have sP : Src (wr.alloc (.cells #[.int .i64 2, .int .i64 3, .int .i64 3, .int .i64 3, .int .i64 4] 2)) sb := ST.out.src.grown (row := none) (World.grownBy_alloc wr _ none) (fun g hg => by cases hg)
              have hne : bk (some ⟨wr.heap.size, 0, none⟩) ≠ some sb := by have := ST.out.lo; simp [bk]; omega
              go_wp2_with fail
              refine (pick_any sb _ 5 5 [2, 3, 3, 3, 4] _ sP hP (by omega) (by omega) hne).mono ?_
              rintro e w4 ⟨q, hq, rfl, s4, o4⟩
              obtain ⟨L, hL, hL2, hL7⟩ := pick5 hq
              rw [hL]
              have ST4 := Lib.hid (ST.out.next s4 (oP.trans o4))
              clear hL hP oP sP hne s4 o4 hq q ST
              go_upto_if 35 with (fail)
              go_cut [8] (fun s8 wx => ∃ L : Nat, s8 = .int .i64 L ∧ 2 ≤ L ∧ L ≤ 7 ∧ DrSt w wx sb w.heap.size pb N ao m c us ds)
              case first =>
                by_cases hN3 : N < 3
                · have hP : Ints (w4.alloc (.cells #[.int .i64 2, .int .i64 3, .int .i64 4, .int .i64 5, .int .i64 6, .int .i64 7] 2)) (some ⟨w4.heap.size, 0, none⟩) 6 [2, 3, 4, 5, 6, 7] := Own.ints (zs := [2, 3, 4, 5, 6, 7]) (own_lit (us := [.int .i64 2, .int .i64 3, .int .i64 4, .int .i64 5, .int .i64 6, .int .i64 7]) rfl (Nat.le_refl _) (by simp))
                  have oP : Only sb (sb + 1) w4 (w4.alloc (.cells #[.int .i64 2, .int .i64 3, .int .i64 4, .int .i64 5, .int .i64 6, .int .i64 7] 2)) := only_grown (Only.refl _ _ _) (World.grownBy_alloc w4 _ none) (fun g hg => by cases hg)
                  have sP : Src (w4.alloc (.cells #[.int .i64 2, .int .i64 3, .int .i64 4, .int .i64 5, .int .i64 6, .int .i64 7] 2)) sb := ST4.out.src.grown (row := none) (World.grownBy_alloc w4 _ none) (fun g hg => by cases hg)
                  have hne : bk (some ⟨w4.heap.size, 0, none⟩) ≠ some sb := by have := ST4.out.lo; simp [bk]; omega
                  go_wp2_with fail
                  refine (pick_any sb _ 6 6 [2, 3, 4, 5, 6, 7] _ sP hP (by omega) (by omega) hne).mono ?_
                  rintro e w5 ⟨q, hq, rfl, s5, o5⟩
                  obtain ⟨L', hL', hL2', hL7'⟩ := pick6 hq
                  rw [hL']
                  have st5 := ST4.out.next s5 (oP.trans o5)
                  clear hL' hP oP sP hne o5 hq q
                  go_wp2_with fail
                  go_meet
                  case rel => exact ⟨L', rfl, hL2', hL7', st5⟩
                · go_wp2_with fail
                  go_meet
                  case rel => exact ⟨L, rfl, hL2, hL7, ST4.out⟩
              case rest =>
                obtain ⟨L', rfl, hL2', hL7', st5⟩ := hcut
                have ST5 := Lib.hid st5
                clear st5 ST4 hL2 hL7
                by_cases hL3 : 3 < L'
                · by_cases hb1 : 0 < b
                  · go_wp2_with fail
                    go_meet
                    case rel => exact ⟨b + 1, 3, by go_num, by go_num, by omega, by omega, by omega, ST5.out⟩
                  · obtain rfl : b = 0 := by omega
                    by_cases hN4' : N = 4
                    · subst hN4'
                      by_cases hk1 : k = 1
                      · subst hk1
                        go_wp2_with fail
                        go_meet
                        case rel => exact ⟨1, 3, by go_num, by go_num, by omega, by omega, by omega, ST5.out⟩
                      · have hk1' : ((k : Int) == 1) = false := by simp; omega
                        go_wp2_with fail
                        go_meet
                        case rel => exact ⟨1, L', by go_num, by go_num, by omega, by omega, by omega, ST5.out⟩
                    · go_wp2_with fail
                      go_meet
                      case rel => exact ⟨1, L', by go_num, by go_num, by omega, by omega, by omega, ST5.out⟩
                · by_cases hb1 : 1 < b
                  · go_wp2_with fail
                    go_meet
                    case rel => exact ⟨b, L', by go_num, by go_num, by omega, by omega, by omega, ST5.out⟩
                  · by_cases hN4' : N = 4
                    · subst hN4'
                      by_cases hk1 : k = 1
                      · subst hk1
                        go_wp2_with fail
                        go_meet
                        case rel => exact ⟨b, L', by go_num, by go_num, by omega, by omega, by omega, ST5.out⟩
                      · have hk1' : ((k : Int) == 1) = false := by simp; omega
                        go_wp2_with fail
                        go_meet
                        case rel => exact ⟨b, L', by go_num, by go_num, by omega, by omega, by omega, ST5.out⟩
                    · go_wp2_with fail
                      go_meet
                      case rel => exact ⟨b, L', by go_num, by go_num, by omega, by omega, by omega, ST5.out⟩
            · go_wp2_with fail
              go_meet
              case rel => exact ⟨b, 2, rfl, rfl, by omega, by omega, by omega, ST.out⟩
          case rest =>
            obtain ⟨b', L, rfl, rfl, hb', hL2, hL7, st2⟩ := hcut
            have ST2 := Lib.hid st2
            clear st2 ST
            have hlo := ST2.out.lo
            have x1 := ST2.out.box.cell 1
            have f1 := ST2.out.box.frozen 1
            simp at x1
            have hP : Ints (wc.alloc (.cells #[.int .i64 k, .int .i64 (j : Int)] 2)).drew (some ⟨wc.heap.size, 0, none⟩) 2 [(k : Int), (j : Int)] := Own.ints (zs := [(k : Int), (j : Int)]) (own_lit (us := [.int .i64 k, .int .i64 (j : Int)]) rfl (Nat.le_refl _) (by simp))
            have bP : Below wc.heap.size wc (wc.alloc (.cells #[.int .i64 k, .int .i64 (j : Int)] 2)) := below_alloc1 _ _
            have HP := Lib.hid hP
            have BP := Lib.hid bP
            clear hP bP
            go_wp2_with fail
            have xP : (wc.alloc (.cells #[.int .i64 k, .int .i64 (j : Int)] 2)).cell? ⟨pb, 1, none⟩ = some (.slice ao m c) := (ST2.out.box.alloc _).cell 1
            go_region_law (first | (refine step_ap1 (o := ⟨some 63, _, _, _, _, _⟩) etSS rfl (.tmp 56) (.tmp 62) rfl (pb + 1) ao m c us rfl (ST2.out.row.own.below B3) (.slice a1 (2 * L) c1) w2.heap.size 1 rfl ((blk_at rfl).cell 0) rfl (by omega) (by have := B3.size; simp at *; omega) ?_; intro ao2 c2 w4 o4 g4 hat; have B4S : Below (pb + 1) wc w4 := (B3S.grown g4 (by have := B3.size; omega) (fun g hg => (ST2.out.row.own.lt g hg).1)); have x4 : w4.cell? ⟨pb, 1, none⟩ = some (.slice ao m c) := (ST2.out.box.below B4S (by omega)).cell 1; have f4 : w4.frozen? ⟨pb, 1, none⟩ = false := (ST2.out.box.below B4S (by omega)).frozen 1) | (go_simp; go_at_call 131; refine (specPower_any _ 2 2 L [(k : Int), (j : Int)] _ HP.out (by omega) (by omega)).mono ?_; rintro e w2 ⟨a1, c1, rfl, o1, b1⟩; have B2 : Below wc.heap.size wc w2 := below_tr b1 BP.out.drew; have B2S := B2.mono (show pb + 1 ≤ wc.heap.size by omega); have B3 : Below wc.heap.size wc (w2.alloc (.cells #[.slice a1 (2 * L) c1] 49)) := B2.alloc B2.size _; have B3S := B3.mono (show pb + 1 ≤ wc.heap.size by omega); have x2 : w2.cell? ⟨pb, 1, none⟩ = some (.slice ao m c) := (ST2.out.box.below B2S (by omega)).cell 1; have x3 : (w2.alloc (.cells #[.slice a1 (2 * L) c1] 49)).cell? ⟨pb, 1, none⟩ = some (.slice ao m c) := (ST2.out.box.below B3S (by omega)).cell 1))
            all_goals
              have st3 := ST2.out.push B2 (o1.mono (by simp [World.drew])) (below_alloc1 _ _) o4 g4 hat
              generalize w4.setCell ⟨pb, 1, none⟩ (.slice ao2 (m + 1) c2) = wf at *
              clear B2 B2S B3 B3S B4S x1 x2 x3 x4 xP f1 f4 o1 b1 o4 g4 hat ST2 HP BP
              go_wp2_with fail
              go_roundw
              case rel => exact ⟨b', j + 1, m + 1, ao2, c2, _, _, rfl, by go_num, by omega, by omega, by omega, by omega, st3⟩
              case measure => simp [intOf]; omega
        · obtain rfl : j = N := by omega
          go_wp2_with fail
          go_roundw
          case rel => exact ⟨b, k + 1, m, ao, c, us, ds, rfl, by go_num, by omega, by omega, by omega, st⟩
          case measure => simp [intOf]; omega
    · obtain rfl : k = N := by omega
      have ST := Lib.hid st
      have hlo := st.lo
      clear st
      go_wp2_with fail
      refine (next_any sb _ _ ST.out.src (by omega)).mono ?_
      rintro e w4 ⟨q, rfl, -, -, s4, o4⟩
      have ST4 := Lib.hid (ST.out.next s4 o4)
      clear s4 o4 ST
      go_upto_if 67 with (fail)
      go_cut [] (fun wx => ∃ (m : Nat) (ao : Option Addr) (c : Nat) (us : List Value) (ds : List (List Int)), m ≤ 17 ∧ DrSt w wx sb w.heap.size pb k ao m c us ds)
      case first =>
        by_cases hq0 : q = 0
        · subst hq0
          go_wp2_with fail
          have hlo4 := ST4.out.lo
          refine (drawWord_any sb k 6 _ ST4.out.src (by omega) (by omega) (by omega) (by omega)).mono ?_
          rintro e w5 ⟨a5, n5, c5, zs, rfl, hn5, -, o5, s5, q5⟩
          have ST5 := Lib.hid (ST4.out.next s5 q5)
          have hi5 := o5.ints
          have hne5 : ∀ g, bk a5 = some g → sb < g := fun g hg => by have := (o5.lt g hg).1; omega
          clear o5 s5 q5 ST4 hlo4
          by_cases hn0 : 0 < n5
          · have hlo5 := ST5.out.lo
            have x1 := ST5.out.box.cell 1
            have f1 := ST5.out.box.frozen 1
            simp at x1
            have HI5 := Lib.hid hi5
            have S5D : Src w5.drew sb := ⟨ST5.out.src.box⟩
            have O5D : Only sb (sb + 1) w5 w5.drew := ⟨rfl, rfl, rfl, Nat.le_refl _, fun _ _ _ => rfl⟩
            clear hi5
            go_wp2_with fail
            go_region_law (first | (refine step_ap1 (o := ⟨some 82, _, _, _, _, _⟩) etSS rfl (.tmp 75) (.tmp 81) rfl (pb + 1) ao m c us rfl (ST6.out.row.own.below B3) (.slice a1 (n5 * Q) c1) w7.heap.size 1 rfl ((blk_at rfl).cell 0) rfl (by omega) (by have := B3.size; simp at *; omega) ?_; intro ao2 c2 w8 o8 g8 hat; have B4S : Below (pb + 1) w6 w8 := (B3S.grown g8 (by have := B3.size; omega) (fun g hg => (ST6.out.row.own.lt g hg).1)); have x4 : w8.cell? ⟨pb, 1, none⟩ = some (.slice ao m c) := (ST6.out.box.below B4S (by omega)).cell 1; have f4 : w8.frozen? ⟨pb, 1, none⟩ = false := (ST6.out.box.below B4S (by omega)).frozen 1) | (go_simp; go_at_call 120; refine (next_any sb _ _ S5D (by omega)).mono ?_; rintro e w6 ⟨q, rfl, -, r6, s6, q6⟩; have ST6 := Lib.hid (ST5.out.next s6 (Only.trans O5D q6)); have hlo6 := ST6.out.lo; have HI6 := Lib.hid (HI5.out.same (w' := w6) fun g hg hlt => q6.block g hlt (.inr (by have := hne5 g hg; omega))); have r6' := r6 (by omega); obtain ⟨Q, hQ, hQ3⟩ : ∃ Q : Nat, IntKind.i64.wrap (1 + (q : Int)) = (Q : Int) ∧ Q ≤ 3 := ⟨1 + q, by rw [IntWalk.i64_in _ (by omega)]; omega, by omega⟩; clear r6 r6' q6 s6; have y6 : w6.cell? ⟨pb, 1, none⟩ = some (.slice ao m c) := ST6.out.box.cell 1) | (go_simp; go_at_call 131; refine (specPower_any a5 n5 c5 Q zs _ HI6.out (by omega) (by have : n5 * Q ≤ 6 * 3 := Nat.mul_le_mul hn5 hQ3; omega)).mono ?_; rintro e w7 ⟨a1, c1, rfl, o7, b7⟩; have B2 : Below w6.heap.size w6 w7 := b7; have B2S := B2.mono (show pb + 1 ≤ w6.heap.size by omega); have B3 : Below w6.heap.size w6 (w7.alloc (.cells #[.slice a1 (n5 * Q) c1] 49)) := B2.alloc B2.size _; have B3S := B3.mono (show pb + 1 ≤ w6.heap.size by omega); have x2 : w7.cell? ⟨pb, 1, none⟩ = some (.slice ao m c) := (ST6.out.box.below B2S (by omega)).cell 1; have x3 : (w7.alloc (.cells #[.slice a1 (n5 * Q) c1] 49)).cell? ⟨pb, 1, none⟩ = some (.slice ao m c) := (ST6.out.box.below B3S (by omega)).cell 1))
            all_goals
              have st3 := ST6.out.push B2 o7 (below_alloc1 _ _) o8 g8 hat
              generalize w8.setCell ⟨pb, 1, none⟩ (.slice ao2 (m + 1) c2) = wf at *
              clear B2 B2S B3 B3S B4S x1 x2 x3 x4 y6 f1 f4 o7 b7 o8 g8 hat ST5 ST6 HI5 HI6 hQ
              go_wp2_with fail
              go_meet
              case rel => exact ⟨m + 1, ao2, c2, _, _, by omega, st3⟩
          · obtain rfl : n5 = 0 := by omega
            go_wp2_with fail
            go_meet
            case rel => exact ⟨m, ao, c, us, ds, by omega, ST5.out⟩
        · have hq1 : ((q : Int) == 0) = false := by simp; omega
          go_wp2_with fail
          go_meet
          case rel => exact ⟨m, ao, c, us, ds, by omega, ST4.out⟩
      case rest =>
        obtain ⟨m, ao, c, us, ds, hm, st⟩ := hcut
        have x0 := st.box.cell 0
        have x1 := st.box.cell 1
        have y0 := st.res.cell 0
        have y1 := st.res.cell 1
        have f0 := st.res.frozen 0
        have f1 := st.res.frozen 1
        simp at x0 x1 y0 y1
        have ST5 := Lib.hid st
        clear st ST4
        go_wp2_with fail
        have st2 := ST5.out.done
        have hlen := ST5.out.row.len
        generalize (wc.setCell ⟨w.heap.size, 0, none⟩ (.int .i64 k)).setCell ⟨w.heap.size, 1, none⟩ (.slice ao m c) = wf at *
        have e0 := st2.1.cell 0
        have e1 := st2.1.cell 1
        simp at e0 e1
        refine bodyPost_ret (v := .agg #[.int .i64 k, .slice ao m c]) (by simp [results, Try.f190, go_sem, e0, e1]) rfl ⟨_, _, rfl, by simp; omega, by simp; omega, by simp; omega, st2.2.1, st2.2.2.1, st2.2.2.2⟩
end Go.Proofs.Ytpognnifgcacnaa

/- Draws of presentations: l11DrawAny. -/
namespace Go.Proofs.Ytpognnifgcacnaa
open Go.RowKit

section
variable {w w' : World} {lo hi E F : Nat} {ao : Option Addr} {n c : Nat} {xs : List Value} {ds : List (List Int)}
/-- an owned block is of the element's type -/
theorem Own.typ (h : Own w lo E ao n c xs) {g : Nat} (hg : bk ao = some g) : ∃ cs, w.heap[g]? = some (.cells cs E (0, 0)) := by
  rcases h.1.2 with h2 | ⟨g', cap, cur, hv, _, hh, _⟩
  · have h2 := h2.1
    injection h2 with h3; subst h3; cases hg
  · injection hv with h3; subst h3
    obtain rfl := Option.some.inj hg
    exact ⟨cur, hh⟩
theorem OwR.sameT (h : OwR (OwS F) w lo hi E ao n c xs ds) (hs : ∀ g cs t, lo ≤ g → g < hi → w.heap[g]? = some (.cells cs t (0, 0)) → t = E ∨ t = F → w'.heap[g]? = w.heap[g]?) : OwR (OwS F) w' lo hi E ao n c xs ds :=
  { own := h.own.same fun g hg => by
      obtain ⟨cs, hc⟩ := h.own.typ hg
      exact hs g cs E (h.own.lt g hg).1 (h.top g hg) hc (.inl rfl)
    top := h.top, len := h.len, rng := h.rng, out := h.out, apart := h.apart
    el := fun j u d hu hd => by
      obtain ⟨ao', n', c', rfl, ho⟩ := h.el j u d hu hd
      refine ⟨ao', n', c', rfl, ho.same fun g hg => ?_⟩
      obtain ⟨cs, hc⟩ := ho.typ hg
      have hr := h.rng j _ hu g (by rw [ownBlock_slice]; exact hg)
      exact hs g cs F hr.1 hr.2 hc (.inr rfl) }
end
/-- a presentation that lies about its box pb; the result's box is rb -/
structure DaSt (w wr : World) (sb rb pb : Nat) (N : Int) (ao : Option Addr) (m c : Nat) (us : List Value) (ds : List (List Int)) : Prop where
  src : Src wr sb
  res : Blk wr rb 72 #[.int .i64 0, .slice none 0 0]
  box : Blk wr pb 72 #[.int .i64 N, .slice ao m c]
  row : OwR (OwS 2) wr w.heap.size wr.heap.size 49 ao m c us ds
  lo : sb < w.heap.size ∧ w.heap.size ≤ rb ∧ rb < pb ∧ pb < wr.heap.size
  only : Only sb (sb + 1) w wr
section
variable {w wr : World} {sb rb pb : Nat} {N : Int} {ao : Option Addr} {m c : Nat} {us : List Value} {ds : List (List Int)}
theorem DaSt.next {w2 : World} (st : DaSt w wr sb rb pb N ao m c us ds) (s2 : Src w2 sb) (o2 : Only sb (sb + 1) wr w2) : DaSt w w2 sb rb pb N ao m c us ds :=
  have hl := st.lo
  have hsz := o2.size
  ⟨s2, st.res.only o2 (.inr (by omega)), st.box.only o2 (.inr (by omega)), (st.row.only (innerS _) o2 (.inr (by omega))).mono (Nat.le_refl _) hsz, ⟨hl.1, hl.2.1, hl.2.2.1, by omega⟩, st.only.trans o2⟩
/-- a box of a presentation is no block of the row -/
theorem pres_off {w w' : World} {lo hi : Nat} (h : OwR (OwS 2) w lo hi 49 ao m c us ds) {pb : Nat} {cs : Array Value} (hb : Blk w pb 72 cs) (hs : ∀ g, g ≠ pb → lo ≤ g → w'.heap[g]? = w.heap[g]?) : OwR (OwS 2) w' lo hi 49 ao m c us ds :=
  h.sameT fun g cs' t h1 h2 hc ht => hs g (fun e => by
    subst e
    unfold Blk at hb
    rw [hb] at hc
    injection hc with hc
    injection hc with _ hc
    subst hc
    rcases ht with ht | ht <;> exact absurd ht (by decide)) h1
theorem DaSt.set0 (st : DaSt w wr sb rb pb N ao m c us ds) (z : Int) : DaSt w (wr.setCell ⟨pb, 0, none⟩ (.int .i64 z)) sb rb pb z ao m c us ds := by
  have hl := st.lo
  have hh : (wr.setCell ⟨pb, 0, none⟩ (.int .i64 z)).heap.size = wr.heap.size := by simp [World.setCell]
  have hne : ∀ g, g ≠ pb → (wr.setCell ⟨pb, 0, none⟩ (.int .i64 z)).heap[g]? = wr.heap[g]? := fun g hg => Below.heap_setCell _ _ _ _ (by simpa using hg)
  have o := st.only
  refine ⟨st.src.far fun g hg => hne g (by omega), st.res.far (by simp; omega) _, ?_, ?_, by rw [hh]; exact hl, ⟨o.os, o.tape, o.output, by rw [hh]; exact o.size, fun k hk hd => by rw [hne k (by omega)]; exact o.block k hk hd⟩⟩
  · have := st.box.set_ 0 (.int .i64 z)
    simpa using this
  · rw [hh]; exact pres_off st.row st.box fun g hg _ => hne g hg
theorem DaSt.nilled (st : DaSt w wr sb rb pb N ao m c us ds) : DaSt w (wr.setCell ⟨pb, 1, none⟩ (.slice none 0 0)) sb rb pb N none 0 0 [] [] := by
  have hl := st.lo
  have hh : (wr.setCell ⟨pb, 1, none⟩ (.slice none 0 0)).heap.size = wr.heap.size := by simp [World.setCell]
  have hne : ∀ g, g ≠ pb → (wr.setCell ⟨pb, 1, none⟩ (.slice none 0 0)).heap[g]? = wr.heap[g]? := fun g hg => Below.heap_setCell _ _ _ _ (by simpa using hg)
  have o := st.only
  refine ⟨st.src.far fun g hg => hne g (by omega), st.res.far (by simp; omega) _, ?_, OwR.empty_ (Own.nil_ _ _ _) (fun g hg => by cases hg), by rw [hh]; exact hl, ⟨o.os, o.tape, o.output, by rw [hh]; exact o.size, fun k hk hd => by rw [hne k (by omega)]; exact o.block k hk hd⟩⟩
  have := st.box.set_ 1 (.slice none 0 0)
  simpa using this
theorem DaSt.box4 {w2 w3 w4 : World} (st : DaSt w wr sb rb pb N ao m c us ds) (b2 : Below wr.heap.size wr w2) (b3 : Below w2.heap.size w2 w3) (g4 : w3.grownBy w4 (bk ao)) : Blk w4 pb 72 #[.int .i64 N, .slice ao m c] := by
  have hl := st.lo
  have s2 := b2.size
  have s3 := b3.size
  refine Eq.trans ?_ st.box
  rw [g4.block pb (by omega) (fun e => ?_), b3.block pb (by omega), b2.block pb (by omega)]
  obtain ⟨cs', hc⟩ := st.row.own.typ e.symm
  have hx := st.box
  unfold Blk at hx
  rw [hx] at hc
  injection hc with hc
  injection hc with _ hc
  exact absurd hc (by decide)
theorem DaSt.push {w2 w3 w4 : World} {n1 c1 c2 : Nat} {a1 ao2 : Option Addr} {zs : List Int} (st : DaSt w wr sb rb pb N ao m c us ds)
    (b2 : Below wr.heap.size wr w2) (o1 : Own w2 wr.heap.size 2 a1 n1 c1 (zs.map (Value.int .i64))) (b3 : Below w2.heap.size w2 w3) (o4 : Own w4 w.heap.size 49 ao2 (m + 1) c2 (us ++ [.slice a1 n1 c1]))
    (g4 : w3.grownBy w4 (bk ao)) (hat : bk ao2 = bk ao ∨ bk ao2 = some w3.heap.size) :
    DaSt w (w4.setCell ⟨pb, 1, none⟩ (.slice ao2 (m + 1) c2)) sb rb pb N ao2 (m + 1) c2 (us ++ [.slice a1 n1 c1]) (ds ++ [zs]) := by
  have hl := st.lo
  have hR := rows_push st.row (by omega) b2 o1 b3 o4 g4 hat
  have s2 := b2.size
  have s3 := b3.size
  have s4 := g4.size
  have hoff : ∀ x cs, Blk wr x 72 cs → bk ao ≠ some x := fun x cs hx e => by
    obtain ⟨cs', hc⟩ := st.row.own.typ e
    unfold Blk at hx
    rw [hx] at hc
    injection hc with hc
    injection hc with _ hc
    exact absurd hc (by decide)
  have B4 : ∀ g, g < wr.heap.size → bk ao ≠ some g → w4.heap[g]? = wr.heap[g]? := fun g hg hne => by
    rw [g4.block g (by omega) (fun e => hne e.symm), b3.block g (by omega), b2.block g hg]
  have old : ∀ g, g < w.heap.size → w4.heap[g]? = wr.heap[g]? := fun g hg => B4 g (by omega) (fun e => by have := (st.row.own.lt g e).1; omega)
  have hh : (w4.setCell ⟨pb, 1, none⟩ (.slice ao2 (m + 1) c2)).heap.size = w4.heap.size := by simp [World.setCell]
  have hne : ∀ g, g ≠ pb → (w4.setCell ⟨pb, 1, none⟩ (.slice ao2 (m + 1) c2)).heap[g]? = w4.heap[g]? := fun g hg => Below.heap_setCell _ _ _ _ (by simpa using hg)
  have box4 : Blk w4 pb 72 #[.int .i64 N, .slice ao m c] := (B4 pb hl.2.2.2 (hoff pb _ st.box)).trans st.box
  have res4 : Blk w4 rb 72 #[.int .i64 0, .slice none 0 0] := (B4 rb (by omega) (hoff rb _ st.res)).trans st.res
  refine ⟨st.src.far fun g hg => (hne g (by omega)).trans (old g (by omega)), res4.far (by simp; omega) _, ?_, ?_, ⟨hl.1, hl.2.1, hl.2.2.1, by rw [hh]; omega⟩, ?_⟩
  · have := box4.set_ 1 (.slice ao2 (m + 1) c2)
    simpa using this
  · rw [hh]
    exact pres_off hR box4 fun g hg _ => hne g hg
  · have o := st.only
    have s0 := o.size
    have b3o := b3.os
    exact ⟨(g4.os.trans (b3.os.trans b2.os)).trans o.os, (g4.tape.trans (b3.tape.trans b2.tape)).trans o.tape, (g4.output.trans (b3.output.trans b2.output)).trans o.output, by rw [hh]; omega, fun k hk hd => by rw [hne k (by omega), old k hk]; exact o.block k hk hd⟩
theorem DaSt.done (st : DaSt w wr sb rb pb N ao m c us ds) :
    Blk ((wr.setCell ⟨rb, 0, none⟩ (.int .i64 N)).setCell ⟨rb, 1, none⟩ (.slice ao m c)) rb 72 #[.int .i64 N, .slice ao m c] ∧
    OwP 2 49 ((wr.setCell ⟨rb, 0, none⟩ (.int .i64 N)).setCell ⟨rb, 1, none⟩ (.slice ao m c)) w.heap.size ((wr.setCell ⟨rb, 0, none⟩ (.int .i64 N)).setCell ⟨rb, 1, none⟩ (.slice ao m c)).heap.size (.agg #[.int .i64 N, .slice ao m c]) (N, ds) ∧
    Src ((wr.setCell ⟨rb, 0, none⟩ (.int .i64 N)).setCell ⟨rb, 1, none⟩ (.slice ao m c)) sb ∧
    Only sb (sb + 1) w ((wr.setCell ⟨rb, 0, none⟩ (.int .i64 N)).setCell ⟨rb, 1, none⟩ (.slice ao m c)) := by
  have hl := st.lo
  have hh : ((wr.setCell ⟨rb, 0, none⟩ (.int .i64 N)).setCell ⟨rb, 1, none⟩ (.slice ao m c)).heap.size = wr.heap.size := by simp [World.setCell]
  have hne : ∀ g, g ≠ rb → ((wr.setCell ⟨rb, 0, none⟩ (.int .i64 N)).setCell ⟨rb, 1, none⟩ (.slice ao m c)).heap[g]? = wr.heap[g]? := fun g hg => by
    rw [Below.heap_setCell _ _ _ _ (by simpa using hg), Below.heap_setCell _ _ _ _ (by simpa using hg)]
  refine ⟨?_, ⟨ao, m, c, us, rfl, ?_⟩, st.src.far fun g hg => hne g (by omega), ?_⟩
  · have := (st.res.set_ 0 (.int .i64 N)).set_ 1 (.slice ao m c)
    simpa using this
  · rw [hh]
    exact pres_off st.row st.res fun g hg _ => hne g hg
  · have o := st.only
    exact ⟨o.os, o.tape, o.output, by rw [hh]; exact o.size, fun k hk hd => by rw [hne k (by omega)]; exact o.block k hk hd⟩
end
theorem vals_one {w : World} {b : Nat} {u : Value} (h : w.cell? ⟨b, 0, none⟩ = some u) : Vals w (some ⟨b, 0, none⟩) 1 [u] :=
  ⟨rfl, by omega, fun _ => ⟨b, 0, rfl, fun j v hv => by
    cases j with
    | zero => simp at hv; subst hv; exact h
    | succ j => simp at hv⟩⟩
theorem pick4 {r : Nat} {z : Int} (h : r < 4) (h1 : 1 ≤ z) (h2 : z ≤ 4) : 0 ≤ iget [0, 6, z - 1, z + 1] r ∧ iget [0, 6, z - 1, z + 1] r ≤ 6 := by
  match r, h with
  | 0, _ => show (0 : Int) ≤ 0 ∧ (0 : Int) ≤ 6; omega
  | 1, _ => show (0 : Int) ≤ 6 ∧ (6 : Int) ≤ 6; omega
  | 2, _ => show 0 ≤ z - 1 ∧ z - 1 ≤ 6; omega
  | 3, _ => show 0 ≤ z + 1 ∧ z + 1 ≤ 6; omega

set_option maxRecDepth 100000 in
set_option maxHeartbeats 3200000 in
theorem drawAny_any (sb : Nat) (w : World) (h : Src w sb) (hsb : sb < w.heap.size) :
    Calls Try.prog 129 #[.pointer (some ⟨sb, 0, none⟩)] w (DrawnP w sb 0 6 18) := by
  go_enter Try.func129, Try.ntmps129
  have h1 : Src (w.alloc (.cells #[.int .i64 0, .slice none 0 0] 72)) sb := h.grown (row := none) (World.grownBy_alloc w _ none) (fun g hg => by cases hg)
  have r1 : Blk (w.alloc (.cells #[.int .i64 0, .slice none 0 0] 72)) w.heap.size 72 #[.int .i64 0, .slice none 0 0] := blk_at rfl
  have q1 : Only sb (sb + 1) w (w.alloc (.cells #[.int .i64 0, .slice none 0 0] 72)) := only_grown (Only.refl sb (sb + 1) w) (World.grownBy_alloc w _ none) (fun g hg => by cases hg)
  go_wp2_with fail
  have hz1 : (w.alloc (.cells #[.int .i64 0, .slice none 0 0] 72)).heap.size = w.heap.size + 1 := by simp
  generalize w.alloc (.cells #[.int .i64 0, .slice none 0 0] 72) = w1 at *
  have HZ1 := Lib.hid hz1
  refine (draw_any sb _ h1 (by omega)).mono ?_
  clear hz1
  rintro e w2 ⟨v, ⟨N, ds⟩, rfl, hN1, hN4, hds, ho, s2, q2⟩
  obtain ⟨ao, m, c, us, rfl, hrow⟩ := ho
  have hlen := hrow.len
  have r2 := r1.only q2 (.inr (by have := HZ1.out; omega))
  have q3 := q1.trans q2
  have z2 := q2.size
  dsimp only at hN1 hN4 hds hrow
  have hm : m ≤ 17 := by dsimp only at hlen; omega
  clear q1 h1 r1 q2 hlen
  go_wp2_with fail
  have st0 : DaSt w (w2.alloc (.cells #[.int .i64 N, .slice ao m c] 72)) sb w.heap.size w2.heap.size N ao m c us ds :=
    ⟨s2.grown (row := none) (World.grownBy_alloc w2 _ none) (fun g hg => by cases hg), r2.alloc _, blk_at rfl, (hrow.below (innerS _) (below_alloc1 _ _)).mono (by have := HZ1.out; omega) (by simp), ⟨hsb, Nat.le_refl _, by have := HZ1.out; omega, by simp⟩, only_grown q3 (World.grownBy_alloc w2 _ none) (fun g hg => by cases hg)⟩
  have hpb : w.heap.size < w2.heap.size := by have := HZ1.out; omega
  generalize w2.alloc (.cells #[.int .i64 N, .slice ao m c] 72) = w3 at *
  generalize w2.heap.size = pb at *
  clear s2 q3 r2 z2 HZ1 hrow hds
  have ST0 := Lib.hid st0
  clear st0
  refine (next_any sb _ _ ST0.out.src (by omega)).mono ?_
  rintro e w4 ⟨q, rfl, -, -, s4, o4⟩
  have ST := Lib.hid (ST0.out.next s4 o4)
  clear s4 o4 ST0 w3
  go_upto_block 0 with (fail)
  go_cut [] (fun wx => ∃ (N' : Int) (m : Nat) (ao : Option Addr) (c : Nat) (us : List Value) (ds : List (List Int)), 0 ≤ N' ∧ N' ≤ 6 ∧ m ≤ 18 ∧ DaSt w wx sb w.heap.size pb N' ao m c us ds)
  case first =>
    have x0 := ST.out.box.cell 0
    have x1 := ST.out.box.cell 1
    have f0 := ST.out.box.frozen 0
    have f1 := ST.out.box.frozen 1
    have hlo := ST.out.lo
    simp at x0 x1
    by_cases hq0 : q = 0
    · subst hq0
      have hP : Ints (w4.alloc (.cells #[.int .i64 0, .int .i64 6, .int .i64 (N - 1), .int .i64 (N + 1)] 2)) (some ⟨w4.heap.size, 0, none⟩) 4 [0, 6, N - 1, N + 1] := Own.ints (zs := [0, 6, N - 1, N + 1]) (own_lit (us := [.int .i64 0, .int .i64 6, .int .i64 (N - 1), .int .i64 (N + 1)]) rfl (Nat.le_refl _) (by simp))
      have oP : Only sb (sb + 1) w4 (w4.alloc (.cells #[.int .i64 0, .int .i64 6, .int .i64 (N - 1), .int .i64 (N + 1)] 2)) := only_grown (Only.refl _ _ _) (World.grownBy_alloc w4 _ none) (fun g hg => by cases hg)
      have sP : Src (w4.alloc (.cells #[.int .i64 0, .int .i64 6, .int .i64 (N - 1), .int .i64 (N + 1)] 2)) sb := ST.out.src.grown (row := none) (World.grownBy_alloc w4 _ none) (fun g hg => by cases hg)
      have hne : bk (some ⟨w4.heap.size, 0, none⟩) ≠ some sb := by simp [bk]; omega
      go_wp2_with fail
      refine (pick_any sb _ 4 4 [0, 6, N - 1, N + 1] _ sP hP (by omega) (by omega) hne).mono ?_
      rintro e w5 ⟨p, hp, rfl, s5, o5⟩
      have hN := pick4 hp hN1 hN4
      generalize iget [0, 6, N - 1, N + 1] p = M at *
      have ST5 := Lib.hid (ST.out.next s5 (oP.trans o5))
      clear hP oP sP hne s5 o5 hp ST x0 x1 f0 f1
      have f0 := ST5.out.box.frozen 0
      have x0 := ST5.out.box.cell 0
      simp at x0
      have hs := ST5.out.set0 M
      go_wp2_with fail
      go_meet
      case rel => exact ⟨M, m, ao, c, us, ds, hN.1, hN.2, by omega, hs⟩
    · by_cases hq1 : q = 1
      · subst hq1
        have hV : Vals ((w4.alloc (.cells #[] 2)).alloc (.cells #[.slice (some ⟨w4.heap.size, 0, none⟩) 0 0] 49)) (some ⟨w4.heap.size + 1, 0, none⟩) 1 [.slice (some ⟨w4.heap.size, 0, none⟩) 0 0] := vals_one ((blk_at (by simp)).cell 0)
        have HV := Lib.hid hV
        have hO : Own ((w4.alloc (.cells #[] 2)).alloc (.cells #[.slice (some ⟨w4.heap.size, 0, none⟩) 0 0] 49)) w.heap.size 49 ao m c us := (ST.out.row.own.alloc _).alloc _
        have HO := Lib.hid hO
        have hS : w.heap.size ≤ ((w4.alloc (.cells #[] 2)).alloc (.cells #[.slice (some ⟨w4.heap.size, 0, none⟩) 0 0] 49)).heap.size := by simp; omega
        have hw3 : Below w4.heap.size w4 (w4.alloc (.cells #[] 2)) := below_alloc1 _ _
        have HW3 := Lib.hid hw3
        have o1 : Own (w4.alloc (.cells #[] 2)) w4.heap.size 2 (some ⟨w4.heap.size, 0, none⟩) 0 0 (([] : List Int).map (Value.int .i64)) := Own.empty_ w4 _ (Nat.le_refl _)
        have O1 := Lib.hid o1
        clear hV hO hw3 o1
        go_wp2_with (at_builtin; refine wpList_apV etSS _ rfl _ _ rfl w.heap.size ao m c us rfl HO.out (some ⟨w4.heap.size + 1, 0, none⟩) 1 1 [.slice (some ⟨w4.heap.size, 0, none⟩) 0 0] rfl HV.out (by intro u hu; simp at hu; subst hu; rfl) (by omega) hS ?_; intro ao2 c2 w8 o8 g8 hat; have k8 := ST.out.box4 HW3.out (below_alloc1 _ _) g8; have x8 := k8.cell 1; have f8 := k8.frozen 1; simp at x8)
        have hs := ST.out.push HW3.out O1.out (below_alloc1 _ _) o8 g8 hat
        generalize w8.setCell ⟨pb, 1, none⟩ (.slice ao2 (m + 1) c2) = wf at *
        go_meet
        case rel => exact ⟨N, m + 1, ao2, c2, _, _, by omega, by omega, by omega, hs⟩
      · by_cases hq2 : q = 2
        · subst hq2
          have S5D : Src w4.drew sb := ⟨ST.out.src.box⟩
          have O5D : Only sb (sb + 1) w4 w4.drew := ⟨rfl, rfl, rfl, Nat.le_refl _, fun _ _ _ => rfl⟩
          go_wp2_with fail
          go_region_law (first | (refine step_ap1 (o := ⟨some 37, _, _, _, _, _⟩) etSS rfl (.tmp 31) (.tmp 36) rfl w.heap.size ao m c us rfl ((ST6.out.row.own.alloc _).alloc _) (.slice (some ⟨w6.heap.size, 0, none⟩) 1 1) (w6.heap.size + 1) 1 rfl ((blk_at (by simp)).cell 0) rfl (by omega) (by simp; omega) ?_; intro ao2 c2 w8 o8 g8 hat; have k8 := ST6.out.box4 B7 (below_alloc1 _ _) g8; have x8 : w8.cell? ⟨pb, 1, none⟩ = some (.slice ao m c) := k8.cell 1; have f8 := k8.frozen 1) | (go_simp; go_at_call 120; refine (next_any sb _ _ S5D (by omega)).mono ?_; rintro e w6 ⟨q, rfl, -, r6, s6, q6⟩; have ST6 := Lib.hid (ST.out.next s6 (Only.trans O5D q6)); have hlo6 := ST6.out.lo; have r6' := r6 (by omega); have hW : IntKind.i64.wrap ((q : Int) - 1) = (q : Int) - 1 := IntWalk.i64_in _ (by omega); have B7 : Below w6.heap.size w6 (w6.alloc (.cells #[.int .i64 ((q : Int) - 1)] 2)) := below_alloc1 _ _; have y6 : w6.cell? ⟨pb, 1, none⟩ = some (.slice ao m c) := ST6.out.box.cell 1; clear r6 q6 s6))
          all_goals
            have o1 : Own (w6.alloc (.cells #[.int .i64 ((q : Int) - 1)] 2)) w6.heap.size 2 (some ⟨w6.heap.size, 0, none⟩) 1 1 ([((q : Int) - 1)].map (Value.int .i64)) := own_lit (us := [.int .i64 ((q : Int) - 1)]) rfl (Nat.le_refl _) (by simp)
            have hs := ST6.out.push B7 o1 (below_alloc1 _ _) o8 g8 hat
            generalize w8.setCell ⟨pb, 1, none⟩ (.slice ao2 (m + 1) c2) = wf at *
            clear hW o1 o8 g8 hat k8 x8 f8 y6 B7
            go_wp2_with fail
            go_meet
            case rel => exact ⟨N, m + 1, ao2, c2, _, _, by omega, by omega, by omega, hs⟩
        · by_cases hq3 : q = 3
          · subst hq3
            have hs := ST.out.nilled
            go_wp2_with fail
            go_meet
            case rel => exact ⟨N, 0, none, 0, [], [], by omega, by omega, by omega, hs⟩
          · have g0 : ((q : Int) == 0) = false := by simp; omega
            have g1 : ((q : Int) == 1) = false := by simp; omega
            have g2 : ((q : Int) == 2) = false := by simp; omega
            have g3 : ((q : Int) == 3) = false := by simp; omega
            go_wp2_with fail
            go_meet
            case rel => exact ⟨N, m, ao, c, us, ds, by omega, by omega, by omega, ST.out⟩
  case rest =>
    obtain ⟨N', m, ao, c, us, ds, hN0, hN6, hm, st⟩ := hcut
    have x0 := st.box.cell 0
    have x1 := st.box.cell 1
    have y0 := st.res.cell 0
    have y1 := st.res.cell 1
    have f0 := st.res.frozen 0
    have f1 := st.res.frozen 1
    simp at x0 x1 y0 y1
    have ST5 := Lib.hid st
    clear st ST
    go_wp2_with fail
    have st2 := ST5.out.done
    have hlen := ST5.out.row.len
    generalize (wc.setCell ⟨w.heap.size, 0, none⟩ (.int .i64 N')).setCell ⟨w.heap.size, 1, none⟩ (.slice ao m c) = wf at *
    have e0 := st2.1.cell 0
    have e1 := st2.1.cell 1
    simp at e0 e1
    refine bodyPost_ret (v := .agg #[.int .i64 N', .slice ao m c]) (by simp [results, Try.f129, go_sem, e0, e1]) rfl ⟨_, _, rfl, by simp; omega, by simp; omega, by simp; omega, st2.2.1, st2.2.2.1, st2.2.2.2⟩
end Go.Proofs.Ytpognnifgcacnaa

/- Draws of presentations and words: DrawIsIdentityWord. -/
namespace Go.Proofs.Ytpognnifgcacnaa
open Go.RowKit

theorem only_sets (w : World) (b : Nat) (u v : Value) : Only b (b + 1) w ((w.setCell ⟨b, 0, none⟩ u).setCell ⟨b, 1, none⟩ v) :=
  ⟨rfl, rfl, rfl, by simp [World.setCell], fun k hk hd => by rw [Below.heap_setCell _ _ _ _ (by show k ≠ b; omega), Below.heap_setCell _ _ _ _ (by show k ≠ b; omega)]⟩
theorem OwP.mono {E1 E : Nat} {w : World} {lo hi lo' hi' : Nat} {v : Value} {d : PresD} (h : OwP E1 E w lo hi v d) (h1 : lo' ≤ lo) (h2 : hi ≤ hi') : OwP E1 E w lo' hi' v d := by
  obtain ⟨ao, n, c, us, rfl, ho⟩ := h
  exact ⟨ao, n, c, us, rfl, ho.mono h1 h2⟩
theorem OwnS.mono {E : Nat} {w : World} {lo hi lo' hi' : Nat} {v : Value} {zs : List Int} (h : OwnS E w lo hi v zs) (h1 : lo' ≤ lo) (h2 : hi ≤ hi') : OwnS E w lo' hi' v zs := ⟨h.1, h.2.mono h1 h2⟩
theorem below_only {a w w' : World} {B lo hi : Nat} (h : Below B a w) (o : Only lo hi w w') (hB : B ≤ lo) (ha : B ≤ w.heap.size) : Below B a w' :=
  ⟨o.os.trans h.os, o.tape.trans h.tape, o.output.trans h.output, Nat.le_trans h.size o.size, fun i hi => (o.block i (by omega) (.inl (by omega))).trans (h.block i hi)⟩

end Go.Proofs.Ytpognnifgcacnaa

/- Draws of presentations and lists of words: l11DrawSubgroup, DrawCosetTable. -/
namespace Go.Proofs.Ytpognnifgcacnaa
open Go.RowKit

theorem rows_push3 {T1 E lo hi : Nat} {w2 w3 w4 : World} {ao ao' ao2 : Option Addr} {m c n' c' c2 : Nat} {us : List Value} {ds : List (List Int)} {zs : List Int}
    (hR : OwR (OwS T1) w2 lo hi E ao m c us ds) (hlo : lo ≤ hi) (hhi : hi ≤ w2.heap.size) (hu : Own w2 hi T1 ao' n' c' (zs.map (Value.int .i64))) (hb3 : Below w2.heap.size w2 w3)
    (hown : Own w4 lo E ao2 (m + 1) c2 (us ++ [.slice ao' n' c'])) (hg : w3.grownBy w4 (bk ao)) (hat : bk ao2 = bk ao ∨ bk ao2 = some w3.heap.size) :
    OwR (OwS T1) w4 lo w4.heap.size E ao2 (m + 1) c2 (us ++ [.slice ao' n' c']) (ds ++ [zs]) := by
  have hR3 : OwR (OwS T1) w3 lo hi E ao m c us ds := hR.below (innerS _) hb3
  have s2 := hb3.size
  have s3 := hg.size
  have hub : ∀ g, bk ao' = some g → hi ≤ g ∧ g < w2.heap.size := hu.lt
  have hne : ∀ g, bk ao' = some g → bk ao ≠ some g := fun g h1 h2 => by have := hub g h1; have := hR.top g h2; omega
  have hu4 : OwS T1 w4 (.slice ao' n' c') zs := (innerS T1).loc (w := w2) ⟨ao', n', c', rfl, hu.mono (Nat.zero_le _)⟩ fun g h => by
    rw [ownBlock_slice] at h
    have := hub g h
    rw [hg.block g (by omega) (fun e => hne g h e.symm)]
    exact hb3.block g this.2
  refine hR3.push (innerS _) hown hg hu4 (in_slice fun g h => ⟨by have := hub g h; omega, by have := hub g h; omega⟩) (fun g h => (hown.lt g h).2) (by omega) ?_ ?_
  · intro g h
    rcases hat with h1 | h1
    · exact .inl (h1 ▸ h)
    · refine .inr fun j u hj e => ?_
      rw [h1] at h; obtain rfl := Option.some.inj h
      have := (hR3.rng j u hj _ e).2
      omega
  · intro g h
    rw [ownBlock_slice] at h
    have hh := hub g h
    refine ⟨fun e => ?_, fun j v hj e => ?_⟩
    · rcases hat with h1 | h1
      · exact hne g h (h1 ▸ e)
      · rw [h1] at e; have := Option.some.inj e; omega
    · have := (hR3.rng j v hj _ e).2; omega
/-- a list of words being drawn: the source's box sb, that of p at w.heap.size -/
structure SgSt (w wr : World) (sb : Nat) (N : Int) (q : Value) (ao : Option Addr) (m c : Nat) (us : List Value) (ds : List (List Int)) : Prop where
  src : Src wr sb
  box : Blk wr w.heap.size 72 #[.int .i64 N, q]
  row : OwR (OwS 2) wr (w.heap.size + 1) wr.heap.size 49 ao m c us ds
  lo : sb < w.heap.size ∧ w.heap.size < wr.heap.size
  only : Only sb (sb + 1) w wr
section
variable {w wr : World} {sb : Nat} {N : Int} {q : Value} {ao : Option Addr} {m c : Nat} {us : List Value} {ds : List (List Int)}
theorem SgSt.next {w2 : World} (st : SgSt w wr sb N q ao m c us ds) (s2 : Src w2 sb) (o2 : Only sb (sb + 1) wr w2) : SgSt w w2 sb N q ao m c us ds :=
  have hl := st.lo
  have hsz := o2.size
  ⟨s2, st.box.only o2 (.inr (by omega)), (st.row.only (innerS _) o2 (.inr (by omega))).mono (Nat.le_refl _) hsz, ⟨hl.1, by omega⟩, st.only.trans o2⟩
theorem SgSt.push {w2 w3 w4 : World} {n1 c1 c2 : Nat} {a1 ao2 : Option Addr} {zs : List Int} (st : SgSt w wr sb N q ao m c us ds)
    (s2 : Src w2 sb) (q2 : Only sb (sb + 1) wr w2) (o1 : Own w2 wr.heap.size 2 a1 n1 c1 (zs.map (Value.int .i64))) (b3 : Below w2.heap.size w2 w3) (o4 : Own w4 (w.heap.size + 1) 49 ao2 (m + 1) c2 (us ++ [.slice a1 n1 c1]))
    (g4 : w3.grownBy w4 (bk ao)) (hat : bk ao2 = bk ao ∨ bk ao2 = some w3.heap.size) :
    SgSt w w4 sb N q ao2 (m + 1) c2 (us ++ [.slice a1 n1 c1]) (ds ++ [zs]) := by
  have hl := st.lo
  have z2 := q2.size
  have z3 := b3.size
  have z4 := g4.size
  have hR := rows_push3 (st.row.only (innerS _) q2 (.inr (by omega))) (by omega) z2 o1 b3 o4 g4 hat
  have B4 : Below (w.heap.size + 1) w2 w4 := (b3.mono (by omega)).grown g4 (by omega) (fun g hg => (st.row.own.lt g hg).1)
  have o := st.only.trans q2
  exact ⟨s2.far fun g hg => B4.block g (by omega), (st.box.only q2 (.inr (by omega))).below B4 (by omega), hR, ⟨hl.1, by omega⟩, ⟨B4.os.trans o.os, B4.tape.trans o.tape, B4.output.trans o.output, by have := o.size; omega, fun k hk hd => (B4.block k (by omega)).trans (o.block k hk hd)⟩⟩
end
/-- what a draw of a list of words leaves -/
def DrawnW (w : World) (sb : Nat) (e : Ending) (w' : World) : Prop :=
  ∃ v ws, e = .returned v ∧ ws.length ≤ 3 ∧ OwSS 2 49 w' w.heap.size w'.heap.size v ws ∧ Src w' sb ∧ Only sb (sb + 1) w w'

set_option maxRecDepth 100000 in
set_option maxHeartbeats 3200000 in
theorem drawSub_any (sb : Nat) (N : Int) (a2 : Option Addr) (n2 c2 : Nat) (w : World) (h : Src w sb) (hsb : sb < w.heap.size) (hN0 : 0 ≤ N) (hN6 : N ≤ 6) :
    Calls Try.prog 140 #[.pointer (some ⟨sb, 0, none⟩), .agg #[.int .i64 N, .slice a2 n2 c2]] w (DrawnW w sb) := by
  go_enter Try.func140, Try.ntmps140
  go_upto_region 2 with (fail)
  have st0 : SgSt w ((w.alloc (.cells #[.int .i64 N, .slice a2 n2 c2] 72)).alloc (.cells #[] 49)) sb N (.slice a2 n2 c2) (some ⟨w.heap.size + 1, 0, none⟩) 0 0 [] [] := by
    have b2 := below_alloc2 w (.cells #[.int .i64 N, .slice a2 n2 c2] 72) (.cells #[] 49)
    have he := Own.empty_ (w.alloc (.cells #[.int .i64 N, .slice a2 n2 c2] 72)) (base := w.heap.size + 1) 49 (by simp)
    have hs : (w.alloc (.cells #[.int .i64 N, .slice a2 n2 c2] 72)).heap.size = w.heap.size + 1 := by simp
    rw [hs] at he
    exact ⟨h.far fun g hg => b2.block g (by omega), (blk_at rfl).alloc _, OwR.empty_ he (fun g hg => by simp [bk] at hg; simp; omega), ⟨hsb, by simp; omega⟩, ⟨b2.os, b2.tape, b2.output, b2.size, fun k hk _ => b2.block k hk⟩⟩
  generalize (w.alloc (.cells #[.int .i64 N, .slice a2 n2 c2] 72)).alloc (.cells #[] 49) = w1 at *
  have ST0 := Lib.hid st0
  clear st0
  go_wp2_with fail
  refine (next_any sb _ _ ST0.out.src (by omega)).mono ?_
  rintro e w2 ⟨r, rfl, -, r2, s2, q2⟩
  have hr := r2 (by omega)
  have ST1 := Lib.hid (ST0.out.next s2 q2)
  clear r2 s2 q2 ST0
  go_wp2_with fail
  go_loopw [5, 6] (fun ov kv wr => ∃ (k m : Nat) (ao : Option Addr) (c : Nat) (us : List Value) (ds : List (List Int)), kv = .int .i64 k ∧ ov = .slice ao m c ∧ m + k ≤ 2 ∧ SgSt w wr sb N (.slice a2 n2 c2) ao m c us ds) (fun _ kv _ => (intOf kv).toNat)
  case atStart => exact ⟨r, 0, _, 0, [], [], rfl, rfl, by omega, ST1.out⟩
  case round =>
    obtain ⟨k, m, ao, c, us, ds, rfl, rfl, hmk, st⟩ := hrel
    clear ST1 w1
    have hlo := st.lo
    have x0 := st.box.cell 0
    simp at x0
    have ST := Lib.hid st
    clear st
    by_cases hk : 0 < k
    · by_cases hN1 : N ≤ 1
      · go_wp2_with fail
        refine (drawWord_any sb 1 3 _ ST.out.src (by omega) (by omega) (by omega) (by omega)).mono ?_
        rintro e w2 ⟨a1, n1, c1, zs, rfl, hn1, -, o1, s2, q2⟩
        have z2 := q2.size
        have O1 := Lib.hid o1
        have Q2 := Lib.hid q2
        have S2 := Lib.hid s2
        have hV : Vals (w2.alloc (.cells #[.slice a1 n1 c1] 49)) (some ⟨w2.heap.size, 0, none⟩) 1 [.slice a1 n1 c1] := vals_one ((blk_at rfl).cell 0)
        have HV := Lib.hid hV
        have hO : Own (w2.alloc (.cells #[.slice a1 n1 c1] 49)) (w.heap.size + 1) 49 ao m c us := ((ST.out.row.only (innerS _) q2 (.inr (by omega))).own).alloc _
        have HO := Lib.hid hO
        have hS : w.heap.size + 1 ≤ (w2.alloc (.cells #[.slice a1 n1 c1] 49)).heap.size := by simp; omega
        clear o1 q2 s2 hV hO x0
        go_wp2_with (at_builtin; refine wpList_apV etSS _ rfl _ _ rfl (w.heap.size + 1) ao m c us rfl HO.out (some ⟨w2.heap.size, 0, none⟩) 1 1 [.slice a1 n1 c1] rfl HV.out (by intro u hu; simp at hu; subst hu; rfl) (by omega) hS ?_; intro ao2 c3 w8 o8 g8 hat)
        have st8 := ST.out.push S2.out Q2.out O1.out (below_alloc1 _ _) o8 g8 hat
        clear o8 g8 hat HO HV O1 Q2 S2 ST hS
        go_wp2_with fail
        go_roundw
        case rel => exact ⟨k - 1, m + 1, ao2, c3, _, _, by go_num, rfl, by omega, st8⟩
        case measure => first | (simp [intOf]; done) | (simp [intOf]; omega)
      · obtain ⟨L, rfl⟩ : ∃ L : Nat, N = L := ⟨N.toNat, by omega⟩
        go_wp2_with fail
        refine (drawWord_any sb L 3 _ ST.out.src (by omega) (by omega) (by omega) (by omega)).mono ?_
        rintro e w2 ⟨a1, n1, c1, zs, rfl, hn1, -, o1, s2, q2⟩
        have z2 := q2.size
        have O1 := Lib.hid o1
        have Q2 := Lib.hid q2
        have S2 := Lib.hid s2
        have hV : Vals (w2.alloc (.cells #[.slice a1 n1 c1] 49)) (some ⟨w2.heap.size, 0, none⟩) 1 [.slice a1 n1 c1] := vals_one ((blk_at rfl).cell 0)
        have HV := Lib.hid hV
        have hO : Own (w2.alloc (.cells #[.slice a1 n1 c1] 49)) (w.heap.size + 1) 49 ao m c us := ((ST.out.row.only (innerS _) q2 (.inr (by omega))).own).alloc _
        have HO := Lib.hid hO
        have hS : w.heap.size + 1 ≤ (w2.alloc (.cells #[.slice a1 n1 c1] 49)).heap.size := by simp; omega
        clear o1 q2 s2 hV hO x0
        go_wp2_with (at_builtin; refine wpList_apV etSS _ rfl _ _ rfl (w.heap.size + 1) ao m c us rfl HO.out (some ⟨w2.heap.size, 0, none⟩) 1 1 [.slice a1 n1 c1] rfl HV.out (by intro u hu; simp at hu; subst hu; rfl) (by omega) hS ?_; intro ao2 c3 w8 o8 g8 hat)
        have st8 := ST.out.push S2.out Q2.out O1.out (below_alloc1 _ _) o8 g8 hat
        clear o8 g8 hat HO HV O1 Q2 S2 ST hS
        go_wp2_with fail
        go_roundw
        case rel => exact ⟨k - 1, m + 1, ao2, c3, _, _, by go_num, rfl, by omega, st8⟩
        case measure => first | (simp [intOf]; done) | (simp [intOf]; omega)
    · obtain rfl : k = 0 := by omega
      go_wp2_with fail
      refine (next_any sb _ _ ST.out.src (by omega)).mono ?_
      rintro e w4 ⟨q, rfl, -, -, s4, q4⟩
      have z4 := q4.size
      have ST4 := Lib.hid (ST.out.next s4 q4)
      clear s4 q4 ST x0
      by_cases hq : q = 0
      · subst hq
        have x0 := ST4.out.box.cell 0
        simp at x0
        have hV : Vals ((w4.alloc (.cells #[.int .i64 N] 2)).alloc (.cells #[.slice (some ⟨w4.heap.size, 0, none⟩) 1 1] 49)) (some ⟨w4.heap.size + 1, 0, none⟩) 1 [.slice (some ⟨w4.heap.size, 0, none⟩) 1 1] := vals_one ((blk_at (by simp)).cell 0)
        have HV := Lib.hid hV
        have hO : Own ((w4.alloc (.cells #[.int .i64 N] 2)).alloc (.cells #[.slice (some ⟨w4.heap.size, 0, none⟩) 1 1] 49)) (w.heap.size + 1) 49 ao m c us := (ST4.out.row.own.alloc _).alloc _
        have HO := Lib.hid hO
        have hS : w.heap.size + 1 ≤ ((w4.alloc (.cells #[.int .i64 N] 2)).alloc (.cells #[.slice (some ⟨w4.heap.size, 0, none⟩) 1 1] 49)).heap.size := by simp; omega
        have s5 : Src (w4.alloc (.cells #[.int .i64 N] 2)) sb := ST4.out.src.grown (row := none) (World.grownBy_alloc w4 _ none) (fun g hg => by cases hg)
        have q5 : Only sb (sb + 1) w4 (w4.alloc (.cells #[.int .i64 N] 2)) := only_grown (Only.refl _ _ _) (World.grownBy_alloc w4 _ none) (fun g hg => by cases hg)
        have S5 := Lib.hid s5
        have Q5 := Lib.hid q5
        have o1 : Own (w4.alloc (.cells #[.int .i64 N] 2)) w4.heap.size 2 (some ⟨w4.heap.size, 0, none⟩) 1 1 ([N].map (Value.int .i64)) := own_lit (us := [.int .i64 N]) rfl (Nat.le_refl _) (by simp)
        have O1 := Lib.hid o1
        clear hV hO s5 q5 o1
        go_wp2_with (at_builtin; refine wpList_apV etSS _ rfl _ _ rfl (w.heap.size + 1) ao m c us rfl HO.out (some ⟨w4.heap.size + 1, 0, none⟩) 1 1 [.slice (some ⟨w4.heap.size, 0, none⟩) 1 1] rfl HV.out (by intro u hu; simp at hu; subst hu; rfl) (by omega) hS ?_; intro ao2 c3 w8 o8 g8 hat)
        have st8 := ST4.out.push S5.out Q5.out O1.out (below_alloc1 _ _) o8 g8 hat
        have hl8 := st8.row.len
        go_ret
        exact ⟨_, _, rfl, by omega, ⟨_, _, _, _, rfl, st8.row.mono (by omega) (Nat.le_refl _)⟩, st8.src, st8.only⟩
      · have g0 : ((q : Int) == 0) = false := by simp; omega
        go_wp2
        have hl8 := ST4.out.row.len
        go_ret
        exact ⟨_, _, rfl, by omega, ⟨_, _, _, _, rfl, ST4.out.row.mono (by omega) (Nat.le_refl _)⟩, ST4.out.src, ST4.out.only⟩
end Go.Proofs.Ytpognnifgcacnaa

/- Draws of presentations and lists of words: DrawCosetTable, DrawCosetWords, DrawIsNormalSubgroup. -/
namespace Go.Proofs.Ytpognnifgcacnaa
open Go.RowKit

/-- what a draw of a presentation and a list of words leaves -/
def DrawnPWs (w : World) (e : Ending) (w' : World) : Prop :=
  ∃ v d u ws, e = .returned (.tuple #[v, u]) ∧ OwP 2 49 w' w.heap.size w'.heap.size v d ∧ OwSS 2 49 w' w.heap.size w'.heap.size u ws ∧ d.2.length ≤ 18 ∧ ws.length ≤ 3 ∧ Below w.heap.size w w'
theorem OwSS.form {E1 E : Nat} {w : World} {lo hi : Nat} {v : Value} {zss : List (List Int)} (h : OwSS E1 E w lo hi v zss) : ∃ ao n c, v = .slice ao n c ∧ zss.length = n := by
  obtain ⟨ao, n, c, us, rfl, ho⟩ := h
  exact ⟨ao, n, c, rfl, ho.len⟩

set_option maxRecDepth 100000 in
set_option maxHeartbeats 3200000 in
theorem drawCT_any (ao : Option Addr) (n c : Nat) (w : World) (h : Bts w ao n w.heap.size) :
    Calls Try.prog 59 #[.slice ao n c] w (DrawnPWs w) := by
  go_enter Try.func59, Try.ntmps59
  have r1 : Blk (w.alloc (.cells #[.int .i64 0, .slice none 0 0] 72)) w.heap.size 72 #[.int .i64 0, .slice none 0 0] := blk_at rfl
  have b1 : Below w.heap.size w (w.alloc (.cells #[.int .i64 0, .slice none 0 0] 72)) := below_alloc1 _ _
  have t1 : Bts (w.alloc (.cells #[.int .i64 0, .slice none 0 0] 72)) ao n (w.alloc (.cells #[.int .i64 0, .slice none 0 0] 72)).heap.size := by
    obtain ⟨x1, x2⟩ := h.below b1
    exact ⟨x1, fun hn => by obtain ⟨b, off, e, hb, hc⟩ := x2 hn; exact ⟨b, off, e, by simp; omega, hc⟩⟩
  have hz1 : w.heap.size < (w.alloc (.cells #[.int .i64 0, .slice none 0 0] 72)).heap.size := by simp
  go_wp2_with fail
  generalize w.alloc (.cells #[.int .i64 0, .slice none 0 0] 72) = w1 at *
  refine (from_any ao n c w1 t1).mono ?_
  rintro e w2 ⟨rfl, s2, z2, b2⟩
  have r2 := r1.belowS b2
  have B2 := b1.trans (b2.mono (by omega))
  clear r1 b1 t1 b2
  go_wp2_with fail
  refine (drawAny_any _ w2 s2 z2).mono ?_
  rintro e w3 ⟨v, ⟨N, ds⟩, rfl, hN0, hN6, hds, ho, s3, q3⟩
  obtain ⟨a3, n3, c3, rfl⟩ := ho.form
  have r3 := r2.only q3 (.inl hz1)
  have B3 := below_only B2 q3 (by omega) (by omega)
  have z3 := q3.size
  dsimp only at hN0 hN6 hds
  clear r2 B2 s2 q3
  go_upto_region 3 with (fail)
  have r4 := r3.alloc (.cells #[.int .i64 N, .slice a3 n3 c3] 72)
  have k4 : Blk (w3.alloc (.cells #[.int .i64 N, .slice a3 n3 c3] 72)) w3.heap.size 72 #[.int .i64 N, .slice a3 n3 c3] := blk_at rfl
  have o4 := ho.below (below_alloc1 w3 (.cells #[.int .i64 N, .slice a3 n3 c3] 72))
  have s4 := s3.grown (row := none) (World.grownBy_alloc w3 (.cells #[.int .i64 N, .slice a3 n3 c3] 72) none) (fun g hg => by cases hg)
  have B4 := B3.trans ((below_alloc1 w3 (.cells #[.int .i64 N, .slice a3 n3 c3] 72)).mono (by omega))
  have z4 : w3.heap.size < (w3.alloc (.cells #[.int .i64 N, .slice a3 n3 c3] 72)).heap.size := by simp
  generalize w3.alloc (.cells #[.int .i64 N, .slice a3 n3 c3] 72) = w4 at *
  clear r3 ho s3 B3
  have x0 := k4.cell 0
  have x1 := k4.cell 1
  simp at x0 x1
  have y0 := r4.cell 0
  have y1 := r4.cell 1
  have f0 := r4.frozen 0
  have f1 := r4.frozen 1
  simp at y0 y1
  have O4 := Lib.hid o4
  have S4D : Src w4.drew w1.heap.size := ⟨s4.box⟩
  have O4D : Only w1.heap.size (w1.heap.size + 1) w4 w4.drew := ⟨rfl, rfl, rfl, Nat.le_refl _, fun _ _ _ => rfl⟩
  clear o4 s4
  go_region_law ((go_simp; go_at_call 140; refine (drawSub_any w1.heap.size N a3 n3 c3 _ S4D (show w1.heap.size < w4.heap.size by omega) hN0 hN6).mono ?_; rintro e w5 ⟨v5, ws, rfl, hws, o5, s5, q5d⟩; have q5 := Only.trans O4D q5d; have k5 := k4.only q5 (.inr (by omega)); have r5 := r4.only q5 (.inl hz1); have u0 := k5.cell 0; have u1 := k5.cell 1; have v0 := r5.cell 0; have v1 := r5.cell 1; have g0 := r5.frozen 0; have g1 := r5.frozen 1; simp at u0 u1 v0 v1; have B5 := below_only B4 q5 (by omega) (by omega); have O5 := Lib.hid (O4.out.only q5 (.inr (by omega))); have z5 := q5.size; have W5 := Lib.hid (o5.mono (show w4.heap.size ≤ w4.drew.heap.size from Nat.le_refl _) (Nat.le_refl _)); clear q5d o5 s5))
  all_goals
    clear x0 x1 y0 y1 f0 f1 S4D O4D q5 k4 r4 B4 O4
    have qf := only_sets w5 w.heap.size (.int .i64 N) (.slice a3 n3 c3)
    have rf : Blk ((w5.setCell ⟨w.heap.size, 0, none⟩ (.int .i64 N)).setCell ⟨w.heap.size, 1, none⟩ (.slice a3 n3 c3)) w.heap.size 72 #[.int .i64 N, .slice a3 n3 c3] := by
      have := (r5.set_ 0 (.int .i64 N)).set_ 1 (.slice a3 n3 c3)
      simpa using this
    have Bf := (B5.setCell (p := ⟨w.heap.size, 0, none⟩) (Nat.le_refl _) (.int .i64 N)).setCell (p := ⟨w.heap.size, 1, none⟩) (Nat.le_refl _) (.slice a3 n3 c3)
    generalize (w5.setCell ⟨w.heap.size, 0, none⟩ (.int .i64 N)).setCell ⟨w.heap.size, 1, none⟩ (.slice a3 n3 c3) = wf at *
    have zf := qf.size
    have e0 := rf.cell 0
    have e1 := rf.cell 1
    simp at e0 e1
    clear u0 u1 v0 v1 g0 g1 k5 r5 B5
    have hp := (O5.out.only qf (.inr (by omega))).mono (show w.heap.size ≤ w2.heap.size by omega) (show w3.heap.size ≤ wf.heap.size by omega)
    have ho := (W5.out.only qf (.inr (by omega))).mono (show w.heap.size ≤ w4.heap.size by omega) (show w5.heap.size ≤ wf.heap.size by omega)
    go_wp2_with fail
    refine bodyPost_ret (v := .tuple #[.agg #[.int .i64 N, .slice a3 n3 c3], v5]) (by simp [results, Try.f59, go_sem, e0, e1]) rfl ⟨_, _, _, _, rfl, hp, ho, hds, hws, Bf⟩

set_option maxRecDepth 100000 in
set_option maxHeartbeats 3200000 in
theorem drawNr_any (ao : Option Addr) (n c : Nat) (w : World) (h : Bts w ao n w.heap.size) :
    Calls Try.prog 76 #[.slice ao n c] w (DrawnPWs w) := by
  go_enter Try.func76, Try.ntmps76
  have r1 : Blk (w.alloc (.cells #[.int .i64 0, .slice none 0 0] 72)) w.heap.size 72 #[.int .i64 0, .slice none 0 0] := blk_at rfl
  have b1 : Below w.heap.size w (w.alloc (.cells #[.int .i64 0, .slice none 0 0] 72)) := below_alloc1 _ _
  have t1 : Bts (w.alloc (.cells #[.int .i64 0, .slice none 0 0] 72)) ao n (w.alloc (.cells #[.int .i64 0, .slice none 0 0] 72)).heap.size := by
    obtain ⟨x1, x2⟩ := h.below b1
    exact ⟨x1, fun hn => by obtain ⟨b, off, e, hb, hc⟩ := x2 hn; exact ⟨b, off, e, by simp; omega, hc⟩⟩
  have hz1 : w.heap.size < (w.alloc (.cells #[.int .i64 0, .slice none 0 0] 72)).heap.size := by simp
  go_wp2_with fail
  generalize w.alloc (.cells #[.int .i64 0, .slice none 0 0] 72) = w1 at *
  refine (drawCT_any ao n c w1 t1).mono ?_
  rintro e w5 ⟨v3, ⟨N, ds⟩, v5, ws, rfl, op, ow, hds, hws, b5⟩
  obtain ⟨a3, n3, c3, rfl⟩ := op.form
  have z5 := b5.size
  have r5 := r1.belowS b5
  have B5 := b1.trans (b5.mono (by omega))
  have v0 := r5.cell 0
  have v1 := r5.cell 1
  have g0 := r5.frozen 0
  have g1 := r5.frozen 1
  simp at v0 v1
  have O5 := Lib.hid op
  have W5 := Lib.hid ow
  clear r1 b1 t1 b5 op ow
  go_wp2_with fail
  have qf := only_sets w5 w.heap.size (.int .i64 N) (.slice a3 n3 c3)
  have rf : Blk ((w5.setCell ⟨w.heap.size, 0, none⟩ (.int .i64 N)).setCell ⟨w.heap.size, 1, none⟩ (.slice a3 n3 c3)) w.heap.size 72 #[.int .i64 N, .slice a3 n3 c3] := by
    have := (r5.set_ 0 (.int .i64 N)).set_ 1 (.slice a3 n3 c3)
    simpa using this
  have Bf := (B5.setCell (p := ⟨w.heap.size, 0, none⟩) (Nat.le_refl _) (.int .i64 N)).setCell (p := ⟨w.heap.size, 1, none⟩) (Nat.le_refl _) (.slice a3 n3 c3)
  generalize (w5.setCell ⟨w.heap.size, 0, none⟩ (.int .i64 N)).setCell ⟨w.heap.size, 1, none⟩ (.slice a3 n3 c3) = wf at *
  have zf := qf.size
  have e0 := rf.cell 0
  have e1 := rf.cell 1
  simp at e0 e1
  clear v0 v1 g0 g1 r5 B5
  have hp := (O5.out.only qf (.inr (by omega))).mono (show w.heap.size ≤ w1.heap.size by omega) (show w5.heap.size ≤ wf.heap.size by omega)
  have ho := (W5.out.only qf (.inr (by omega))).mono (show w.heap.size ≤ w1.heap.size by omega) (show w5.heap.size ≤ wf.heap.size by omega)
  refine bodyPost_ret (v := .tuple #[.agg #[.int .i64 N, .slice a3 n3 c3], v5]) (by simp [results, Try.f76, go_sem, e0, e1]) rfl ⟨_, _, _, _, rfl, hp, ho, hds, hws, Bf⟩
end Go.Proofs.Ytpognnifgcacnaa

/- The laws' helpers on words and codes: times9, big. -/
namespace Go.Proofs.Ytpognnifgcacnaa
open Go.RowKit

theorem big_any (ao : Option Addr) (n c : Nat) (w : World) : Calls Try.prog 47 #[.slice ao n c] w fun e w' => e = .returned (.bool (decide (4096 < n))) ∧ w' = w := by
  by_cases h : 4096 < n
  · have e0 : decide ((4096 : Int) < n) = true := by simp; omega
    go_enter Try.func47, Try.ntmps47
    go_wp2
    go_ret
    exact ⟨by simp [h], rfl⟩
  · have e0 : decide ((4096 : Int) < n) = false := by simp; omega
    go_enter Try.func47, Try.ntmps47
    go_wp2
    go_ret
    exact ⟨by simp [h], rfl⟩
end Go.Proofs.Ytpognnifgcacnaa

/- The laws' helpers on lists of words: likeInts, same9, run9. -/
namespace Go.Proofs.Ytpognnifgcacnaa
open Go.RowKit

set_option maxHeartbeats 400000 in
theorem likeInts_any (a b : Option Addr) (n ca cb : Nat) (zs : List Int) (w : World) (ha : Ints w a n zs) (hb : Ints w b n zs) :
    Calls Try.prog 142 #[.slice a n ca, .slice b n cb] w fun e w' => e = .returned (.bool true) ∧ ∃ m, w' = w.drewN m := by
  have hla := ha.2.1
  have hl' : ((n : Int) != (n:Int)) = false := by simp
  go_enter Try.func142, Try.ntmps142
  go_wp2
  go_loopw [5] (fun i wr => ∃ k : Nat, k ≤ n ∧ i = .int .i64 k ∧ ∃ m, wr = w.drewN m) (fun i _ => n - (intOf i).toNat)
  case atStart => exact ⟨0, Nat.zero_le _, rfl, 0, rfl⟩
  case round =>
    obtain ⟨k, hk, rfl, m, rfl⟩ := hrel
    by_cases hlt : k < n
    · obtain ⟨ba, oa, rfl, hca⟩ := ha.at_ hlt
      obtain ⟨bb, ob, rfl, hcb⟩ := hb.at_ hlt
      have he' : (iget zs k != iget zs k) = false := by simp
      go_wp2_with fail
      go_quiet (fail)
      go_wp2
      go_roundw
      case rel => exact ⟨k + 1, by omega, by go_num, _, rfl⟩
      case measure => first | (simp [intOf]; done) | (simp [intOf]; omega)
    · obtain rfl : k = n := by omega
      go_wp2
      go_ret
      exact ⟨rfl, _, rfl⟩
set_option maxHeartbeats 400000 in
theorem same9_any {v v' : Value} {zss : List (List Int)} (w : World) (h : RdSS w v zss) (h' : RdSS w v' zss) :
    Calls Try.prog 62 #[v, v'] w fun e w' => e = .returned (.bool true) ∧ Below w.heap.size w w' := by
  obtain ⟨ao, n, c, rfl, hi⟩ := h
  obtain ⟨ao', n', c', rfl, hi'⟩ := h'
  obtain rfl : n = n' := by rw [← hi.1, ← hi'.1]
  have hbd := hi.2.1
  have hl' : ((n : Int) != (n:Int)) = false := by simp
  go_enter Try.func62, Try.ntmps62
  go_wp2
  go_loopw [5] (fun i wr => ∃ k : Nat, k ≤ n ∧ i = .int .i64 k ∧ Below w.heap.size w wr) (fun i _ => n - (intOf i).toNat)
  case atStart => exact ⟨0, Nat.zero_le _, rfl, Below.refl _ _⟩
  case round =>
    obtain ⟨k, hk, rfl, hb⟩ := hrel
    by_cases hlt : k < n
    · obtain ⟨b1, o1, a1, n1, c1, rfl, hc1, hin1⟩ := (hi.below hb).at_ hlt
      obtain ⟨b2, o2, a2, n2, c2, rfl, hc2, hin2⟩ := (hi'.below hb).at_ hlt
      obtain rfl : n1 = n2 := by rw [← hin1.1, ← hin2.1]
      have HH := Lib.hid hi
      have HH' := Lib.hid hi'
      clear hi hi'
      go_wp2_with fail
      go_quiet ((go_at_call 142; exact Calls.quiet_of (likeInts_any a1 a2 n1 c1 c2 (lget zss k) _ (hin1.drewN _) (hin2.drewN _))))
      go_wp2
      go_roundw
      case rel => exact ⟨k + 1, by omega, by go_num, below_drewN hb _⟩
      case measure => first | (simp [intOf]; done) | (simp [intOf]; omega)
    · obtain rfl : k = n := by omega
      go_wp2
      go_ret
      exact ⟨rfl, hb⟩

end Go.Proofs.Ytpognnifgcacnaa

/- The walk of FnNormalSubgroups: true, whatever the draws. Written by gen_wnr.py. -/
namespace Go.Proofs.Ytpognnifgcacnaa
open Go.RowKit

theorem OwP.rdR {E1 E : Nat} {w : World} {lo hi : Nat} {g : Value} {ao : Option Addr} {n c : Nat} {d : PresD} (h : OwP E1 E w lo hi (.agg #[g, .slice ao n c]) d) : RdSS w (.slice ao n c) d.2 := by
  obtain ⟨ao', n', c', e, hi⟩ := h.rd
  injection e with e
  have e2 : Value.slice ao n c = .slice ao' n' c' := by
    have := congrArg (fun x : Array Value => x[1]?) e
    simpa using this
  rw [e2]
  exact ⟨ao', n', c', rfl, hi⟩
set_option maxRecDepth 100000 in
set_option maxHeartbeats 6400000 in
theorem walkNormalSubgroups {ao : Option Addr} {n c : Nat} (w : World) (h : Bts w ao n w.heap.size) :
    Calls Try.prog 14 #[.slice ao n c] w fun e w' => e = .returned (.bool true) ∧ Below w.heap.size w w' := by
  go_enter Try.func14, Try.ntmps14
  go_wp2_with fail
  refine (big_any ao n c w).mono ?_
  rintro e w1 ⟨rfl, hw1⟩
  obtain rfl : w = w1 := hw1.symm
  by_cases hbig : 4096 < n
  · go_wp2
    go_ret
    exact ⟨rfl, Below.refl _ _⟩
  · go_wp2_with fail
    refine (drawNr_any ao n c w h).mono ?_
    rintro e w2 ⟨v, d, u, ws, rfl, op, ow, hd, hws, B2⟩
    obtain ⟨a2, n2, c2, rfl⟩ := op.form
    obtain ⟨a3, n3, c3, rfl, hwl⟩ := ow.form
    have z2 := B2.size
    have HWL := Lib.hid hwl
    have hn3 : n3 ≤ 3 := by omega
    clear hwl hd hws
    go_upto_region 4 with (fail)
    have bx := below_alloc1 w2 (.cells #[.int .i64 d.1, .slice a2 n2 c2] 72)
    have kb3 : Blk (w2.alloc (.cells #[.int .i64 d.1, .slice a2 n2 c2] 72)) w2.heap.size 72 #[.int .i64 d.1, .slice a2 n2 c2] := blk_at rfl
    generalize w2.alloc (.cells #[.int .i64 d.1, .slice a2 n2 c2] 72) = w3 at *
    have B3 := B2.trans (bx.mono z2)
    have OP3 := Lib.hid (op.below bx)
    have OW3 := Lib.hid (ow.below bx)
    have z3 := bx.size
    have zk := kb3.lt
    clear bx op ow B2
    have ckb0_3 := kb3.cell 0
    simp at ckb0_3
    have ckb1_3 := kb3.cell 1
    simp at ckb1_3
    go_wp2_with fail
    refine (api_implNr _ OP3.out OW3.out).mono ?_
    rintro e w4 ⟨rfl, b4⟩
    have z4 := b4.size
    have B4 := B3.trans (b4.mono (by omega))
    have OP4 := Lib.hid (OP3.out.below b4)
    have OW4 := Lib.hid (OW3.out.below b4)
    have kb4 := kb3.belowS b4
    have ckb0_4 := kb4.cell 0
    simp at ckb0_4
    have ckb1_4 := kb4.cell 1
    simp at ckb1_4
    clear B3 OP3 OW3 kb3 ckb0_3 ckb1_3 b4
    go_wp2_with fail
    refine (api_specNr _ OP4.out OW4.out).mono ?_
    rintro e w5 ⟨rfl, b5⟩
    have z5 := b5.size
    have B5 := B4.trans (b5.mono (by omega))
    have OP5 := Lib.hid (OP4.out.below b5)
    have OW5 := Lib.hid (OW4.out.below b5)
    have kb5 := kb4.belowS b5
    have ckb0_5 := kb5.cell 0
    simp at ckb0_5
    have ckb1_5 := kb5.cell 1
    simp at ckb1_5
    clear B4 OP4 OW4 kb4 ckb0_4 ckb1_4 b5
    generalize hC : ctC d ws = C at *
    generalize hY : nrR d ws = Y at *
    have HC := Lib.hid hC
    have HY := Lib.hid hY
    clear hC hY
    go_wp2_with fail
    refine (api_implWR _ OP5.out.rd OW5.out.rd).mono ?_
    rintro e w6 ⟨vq, rfl, oq, b6⟩
    have z6 := b6.size
    have B6 := B5.trans (b6.mono (by omega))
    have OP6 := Lib.hid (OP5.out.below b6)
    have OW6 := Lib.hid (OW5.out.below b6)
    have kb6 := kb5.belowS b6
    have ckb0_6 := kb6.cell 0
    simp at ckb0_6
    have ckb1_6 := kb6.cell 1
    simp at ckb1_6
    clear B5 OP5 OW5 kb5 ckb0_5 ckb1_5 b6
    obtain ⟨aq, nq, cq, rfl⟩ := oq.form
    have Oq6 := Lib.hid (oq)
    clear oq
    go_upto_region 9 with (fail)
    have bx := below_alloc1 w6 (.cells #[.int .i64 (wrR d ws).1, .slice aq nq cq] 72)
    have kq7 : Blk (w6.alloc (.cells #[.int .i64 (wrR d ws).1, .slice aq nq cq] 72)) w6.heap.size 72 #[.int .i64 (wrR d ws).1, .slice aq nq cq] := blk_at rfl
    generalize w6.alloc (.cells #[.int .i64 (wrR d ws).1, .slice aq nq cq] 72) = w7 at *
    have z7 := bx.size
    have B7 := B6.trans (bx.mono (by omega))
    have OP7 := Lib.hid (OP6.out.below bx)
    have OW7 := Lib.hid (OW6.out.below bx)
    have kb7 := kb6.belowS bx
    have Oq7 := Lib.hid (Oq6.out.below bx)
    have ckb0_7 := kb7.cell 0
    simp at ckb0_7
    have ckb1_7 := kb7.cell 1
    simp at ckb1_7
    clear B6 OP6 OW6 kb6 Oq6 ckb0_6 ckb1_6 bx
    have ckq0_7 := kq7.cell 0
    simp at ckq0_7
    have ckq1_7 := kq7.cell 1
    simp at ckq1_7
    go_wp2_with fail
    refine (api_specWR _ OP7.out.rd OW7.out.rd).mono ?_
    rintro e w8 ⟨vr, rfl, oq, b8⟩
    have z8 := b8.size
    have B8 := B7.trans (b8.mono (by omega))
    have OP8 := Lib.hid (OP7.out.below b8)
    have OW8 := Lib.hid (OW7.out.below b8)
    have kb8 := kb7.belowS b8
    have Oq8 := Lib.hid (Oq7.out.below b8)
    have kq8 := kq7.belowS b8
    have ckb0_8 := kb8.cell 0
    simp at ckb0_8
    have ckb1_8 := kb8.cell 1
    simp at ckb1_8
    have ckq0_8 := kq8.cell 0
    simp at ckq0_8
    have ckq1_8 := kq8.cell 1
    simp at ckq1_8
    clear B7 OP7 OW7 kb7 Oq7 kq7 ckb0_7 ckb1_7 ckq0_7 ckq1_7 b8
    obtain ⟨ar, nr, cr, rfl⟩ := oq.form
    have Or8 := Lib.hid (oq)
    clear oq
    go_upto_region 10 with (fail)
    have bx := below_alloc1 w8 (.cells #[.int .i64 (wrR d ws).1, .slice ar nr cr] 72)
    have kr9 : Blk (w8.alloc (.cells #[.int .i64 (wrR d ws).1, .slice ar nr cr] 72)) w8.heap.size 72 #[.int .i64 (wrR d ws).1, .slice ar nr cr] := blk_at rfl
    generalize w8.alloc (.cells #[.int .i64 (wrR d ws).1, .slice ar nr cr] 72) = w9 at *
    have z9 := bx.size
    have B9 := B8.trans (bx.mono (by omega))
    have OP9 := Lib.hid (OP8.out.below bx)
    have OW9 := Lib.hid (OW8.out.below bx)
    have kb9 := kb8.belowS bx
    have Oq9 := Lib.hid (Oq8.out.below bx)
    have kq9 := kq8.belowS bx
    have Or9 := Lib.hid (Or8.out.below bx)
    have ckb0_9 := kb9.cell 0
    simp at ckb0_9
    have ckb1_9 := kb9.cell 1
    simp at ckb1_9
    have ckq0_9 := kq9.cell 0
    simp at ckq0_9
    have ckq1_9 := kq9.cell 1
    simp at ckq1_9
    clear B8 OP8 OW8 kb8 Oq8 kq8 Or8 ckb0_8 ckb1_8 ckq0_8 ckq1_8 bx
    have ckr0_9 := kr9.cell 0
    simp at ckr0_9
    have ckr1_9 := kr9.cell 1
    simp at ckr1_9
    generalize hE : wrC d ws = E at *
    have HE := Lib.hid hE
    clear hE
    go_wp2_with fail
    refine (same9_any _ Oq9.out.rdR Or9.out.rdR).mono ?_
    rintro e w10 ⟨rfl, b10⟩
    have z10 := b10.size
    have B10 := B9.trans (b10.mono (by omega))
    have OP10 := Lib.hid (OP9.out.below b10)
    have OW10 := Lib.hid (OW9.out.below b10)
    have kb10 := kb9.belowS b10
    have Oq10 := Lib.hid (Oq9.out.below b10)
    have kq10 := kq9.belowS b10
    have Or10 := Lib.hid (Or9.out.below b10)
    have kr10 := kr9.belowS b10
    have ckb0_10 := kb10.cell 0
    simp at ckb0_10
    have ckb1_10 := kb10.cell 1
    simp at ckb1_10
    have ckq0_10 := kq10.cell 0
    simp at ckq0_10
    have ckq1_10 := kq10.cell 1
    simp at ckq1_10
    have ckr0_10 := kr10.cell 0
    simp at ckr0_10
    have ckr1_10 := kr10.cell 1
    simp at ckr1_10
    clear B9 OP9 OW9 kb9 Oq9 kq9 Or9 kr9 ckb0_9 ckb1_9 ckq0_9 ckq1_9 ckr0_9 ckr1_9 b10
    by_cases hE0 : E = 0
    · skip
      subst hE0
      by_cases hC0 : C = 0
      · skip
        subst hC0
        obtain ⟨m, H1, H2, H3, H4, H5⟩ := nr_ok HC.out HE.out
        have HH := Lib.hid H5
        have HI1 := Lib.hid H1
        have HI2 := Lib.hid H2
        clear H1 H2 H5
        go_wp2_with fail
        refine (api_implIndex _ OP10.out OW10.out).mono ?_
        rintro e w11 ⟨rfl, b11⟩
        have z11 := b11.size
        have B11 := B10.trans (b11.mono (by omega))
        have OP11 := Lib.hid (OP10.out.below b11)
        have OW11 := Lib.hid (OW10.out.below b11)
        have kb11 := kb10.belowS b11
        have Oq11 := Lib.hid (Oq10.out.below b11)
        have kq11 := kq10.belowS b11
        have Or11 := Lib.hid (Or10.out.below b11)
        have kr11 := kr10.belowS b11
        have ckb0_11 := kb11.cell 0
        simp at ckb0_11
        have ckb1_11 := kb11.cell 1
        simp at ckb1_11
        have ckq0_11 := kq11.cell 0
        simp at ckq0_11
        have ckq1_11 := kq11.cell 1
        simp at ckq1_11
        have ckr0_11 := kr11.cell 0
        simp at ckr0_11
        have ckr1_11 := kr11.cell 1
        simp at ckr1_11
        clear B10 OP10 OW10 kb10 Oq10 kq10 Or10 kr10 ckb0_10 ckb1_10 ckq0_10 ckq1_10 ckr0_10 ckr1_10 b11
        rw [HI1.out, HI2.out]
        go_wp2_with fail
        refine (api_implGroup _ Oq11.out).mono ?_
        rintro e w12 ⟨rfl, b12⟩
        have z12 := b12.size
        have B12 := B11.trans (b12.mono (by omega))
        have OP12 := Lib.hid (OP11.out.below b12)
        have OW12 := Lib.hid (OW11.out.below b12)
        have kb12 := kb11.belowS b12
        have Oq12 := Lib.hid (Oq11.out.below b12)
        have kq12 := kq11.belowS b12
        have Or12 := Lib.hid (Or11.out.below b12)
        have kr12 := kr11.belowS b12
        have ckb0_12 := kb12.cell 0
        simp at ckb0_12
        have ckb1_12 := kb12.cell 1
        simp at ckb1_12
        have ckq0_12 := kq12.cell 0
        simp at ckq0_12
        have ckq1_12 := kq12.cell 1
        simp at ckq1_12
        have ckr0_12 := kr12.cell 0
        simp at ckr0_12
        have ckr1_12 := kr12.cell 1
        simp at ckr1_12
        clear B11 OP11 OW11 kb11 Oq11 kq11 Or11 kr11 ckb0_11 ckb1_11 ckq0_11 ckq1_11 ckr0_11 ckr1_11 b12
        go_wp2_with fail
        refine (api_specGroup _ Oq12.out).mono ?_
        rintro e w13 ⟨rfl, b13⟩
        have z13 := b13.size
        have B13 := B12.trans (b13.mono (by omega))
        have OP13 := Lib.hid (OP12.out.below b13)
        have OW13 := Lib.hid (OW12.out.below b13)
        have kb13 := kb12.belowS b13
        have Oq13 := Lib.hid (Oq12.out.below b13)
        have kq13 := kq12.belowS b13
        have Or13 := Lib.hid (Or12.out.below b13)
        have kr13 := kr12.belowS b13
        have ckb0_13 := kb13.cell 0
        simp at ckb0_13
        have ckb1_13 := kb13.cell 1
        simp at ckb1_13
        have ckq0_13 := kq13.cell 0
        simp at ckq0_13
        have ckq1_13 := kq13.cell 1
        simp at ckq1_13
        have ckr0_13 := kr13.cell 0
        simp at ckr0_13
        have ckr1_13 := kr13.cell 1
        simp at ckr1_13
        clear B12 OP12 OW12 kb12 Oq12 kq12 Or12 kr12 ckb0_12 ckb1_12 ckq0_12 ckq1_12 ckr0_12 ckr1_12 b13
        by_cases h3 : idxC (wrR d ws) [] = 0
        · obtain ⟨q, q1, q2, q3, q4, q5⟩ := HH.out h3
          rw [h3, q1]
          have hY2 : Y = decide (m = q) := by rw [← HY.out]; exact q5
          have g4 : (m : Int).tmod q = 0 := by
            obtain ⟨k, hk⟩ := q4
            rw [hk, Int.natCast_mul, Int.mul_tmod_right]
          have g5 : (m : Int) % q = 0 := by
            obtain ⟨k, hk⟩ := q4
            rw [hk, Int.natCast_mul, Int.mul_emod_right]
          have g6 : ((q : Int) == 0) = false := beq_false_of_ne (by omega)
          have g7 : ((m : Int) == q) = Y := by
            rw [hY2]
            by_cases e : m = q
            · simp [e]
            · rw [decide_eq_false e]; exact beq_false_of_ne (by omega)
          clear q1 q4 q5 h3 hY2
          go_wp2
          go_ret
          exact ⟨rfl, B13⟩
        · generalize idxC (wrR d ws) [] = X at *
          generalize idxR (wrR d ws) [] = Z at *
          have g7 : (X != 0) = true := by simpa using h3
          go_wp2
          go_ret
          exact ⟨rfl, B13⟩
      · have g7 : (C != 0) = true := by simpa using hC0
        go_wp2
        go_ret
        exact ⟨rfl, B10⟩
    · have g7 : (E != 0) = true := by simpa using hE0
      by_cases hC0 : C = 0
      · subst hC0
        go_wp2
        go_ret
        exact ⟨rfl, B10⟩
      · have g8 : (C != 0) = true := by simpa using hC0
        go_wp2
        go_ret
        exact ⟨rfl, B10⟩
end Go.Proofs.Ytpognnifgcacnaa
