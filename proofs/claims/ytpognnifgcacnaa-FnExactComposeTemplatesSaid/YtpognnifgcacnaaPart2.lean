/- The laws' helpers on templates: marks. -/
import Derived.Test.YtpognnifgcacnaaPart1
import Derived.Test.YtpognnifgcacnaaProg
import Derived.Deep.AppendLies
import Derived.Deep.RegionHeld3
import Derived.Deep.RegionLaw
namespace Go.Proofs.Ytpognnifgcacnaa
open Go.RowKit

/-- what the laws' marks leave in lists of lists of structs -/
def marksTT (k : Int) : List (List (Int × Int)) → List (List (Int × Int))
  | [] => []
  | z :: r => marksK k z.length :: marksTT (k + 2 * z.length) r
def lenTT (d : List (List (Int × Int))) : Nat := 2 * lenTT0 d
theorem length_marksTT (k : Int) (d : List (List (Int × Int))) : (marksTT k d).length = d.length := by
  induction d generalizing k with
  | nil => rfl
  | cons z r ih => simp [marksTT, ih]
theorem lenTT_take {d : List (List (Int × Int))} {k : Nat} (h : k < d.length) : lenTT (d.take (k + 1)) = lenTT (d.take k) + 2 * (lget d k).length := by unfold lenTT; rw [lenTT0_take h]; omega
theorem lenTT_take_le (d : List (List (Int × Int))) (k : Nat) : lenTT (d.take k) ≤ lenTT d := by unfold lenTT; have := lenTT0_take_le d k; omega
theorem lget_marksTT {k : Int} {d : List (List (Int × Int))} {j : Nat} (h : j < d.length) : lget (marksTT k d) j = marksK (k + lenTT (d.take j)) (lget d j).length := by
  induction d generalizing k j with
  | nil => simp at h
  | cons z r ih =>
    cases j with
    | zero => simp [marksTT, lget, lenTT, lenTT0]
    | succ j =>
      have := ih (k := k + 2 * z.length) (j := j) (by simpa using h)
      simp only [marksTT, lget, List.getD_cons_succ, List.take_succ_cons] at this ⊢
      rw [this]
      congr 1
      simp [lenTT, lenTT0]; omega
theorem marksTT_take {k : Int} {d : List (List (Int × Int))} {j : Nat} (h : j < d.length) : (marksTT k d).take (j + 1) = (marksTT k d).take j ++ [marksK (k + lenTT (d.take j)) (lget d j).length] := by
  rw [take_lget (by rw [length_marksTT]; exact h), lget_marksTT h]

set_option maxHeartbeats 800000 in
theorem markTs_any (g n c : Nat) (ks : List (Int × Int)) (k0 : Int) (w : World) (base : Nat) (h : Own2 w base 143 (some ⟨g, 0, none⟩) n c ks) (hk0 : 0 ≤ k0) (hk1 : k0 ≤ 1125899906842624) :
    Calls Try.prog 160 #[.slice (some ⟨g, 0, none⟩) n c, .int .i64 k0] w fun e w' => e = .returned (.int .i64 (k0 + 2 * n)) ∧ Own2 w' base 143 (some ⟨g, 0, none⟩) n c (marksK k0 n) ∧ w.grownBy w' (some g) := by
  have hn := h.2
  have hlen : ks.length = n := h.len
  go_enter Try.func160, Try.ntmps160
  go_wp2
  go_loopw [1, 5] (fun m i wr => ∃ k : Nat, k ≤ n ∧ i = .int .i64 k ∧ m = .int .i64 (k0 + 2 * k) ∧ Own2 wr base 143 (some ⟨g, 0, none⟩) n c (marksK k0 k ++ ks.drop k) ∧ w.grownBy wr (some g)) (fun _ i _ => (n - intOf i).toNat)
  case atStart => exact ⟨0, Nat.zero_le _, rfl, by simp, by simpa [marksK] using h, World.grownBy.refl _ _⟩
  case round =>
    obtain ⟨k, hk, rfl, rfl, ho, hg⟩ := hrel
    have HO := Lib.hid ho
    have HG := Lib.hid hg
    have HL := Lib.hid hlen
    clear ho hg hlen
    by_cases hlt : k < n
    · obtain ⟨g', hgg, _, hgl, _, hcell, hfr⟩ := HO.out.form (by omega)
      injection hgg with hgg; injection hgg with hgg
      subst hgg
      have hc2 := (hcell k hlt).1
      have hc3 := (hcell k hlt).2
      have hf := hfr (k * 2)
      have hf2 := hfr (k * 2 + 1)
      have ho2 := HO.out
      rw [List.drop_eq_getElem_cons (by rw [HL.out]; omega)] at ho2
      have hst := ho2.stored (k0 + 2 * k) (k0 + 2 * k + 1)
      rw [length_marksK] at hst
      have HS := Lib.hid hst
      clear hst hcell hfr ho2
      go_wp2
      go_roundw
      case rel => exact ⟨k + 1, by omega, by go_num, by congr 1; omega, by rw [marksK_succ, List.append_assoc]; exact HS.out.1, grown_tr HG.out HS.out.2⟩
      case measure => simp [intOf]; omega
    · obtain rfl : k = n := by omega
      go_wp2
      go_ret
      exact ⟨rfl, by simpa [List.drop_of_length_le (Nat.le_of_eq HL.out)] using HO.out, HG.out⟩
set_option maxHeartbeats 400000 in
theorem markTs_none (ao : Option Addr) (c : Nat) (k0 : Int) (w : World) : Calls Try.prog 160 #[.slice ao 0 c, .int .i64 k0] w fun e w' => e = .returned (.int .i64 k0) ∧ w' = w := by
  go_enter Try.func160, Try.ntmps160
  go_wp2
  go_loop [1, 5] (fun m i => i = .int .i64 0 ∧ m = .int .i64 k0) (fun _ _ => 0)
  case atStart => exact ⟨rfl, rfl⟩
  case round =>
    obtain ⟨rfl, rfl⟩ := hrel
    go_wp2
    go_ret
    exact ⟨rfl, rfl⟩
theorem markTs (ao : Option Addr) (n c : Nat) (ks : List (Int × Int)) (k0 : Int) (w : World) (base : Nat) (h : Own2 w base 143 ao n c ks) (hk0 : 0 ≤ k0) (hk1 : k0 ≤ 1125899906842624) :
    Calls Try.prog 160 #[.slice ao n c, .int .i64 k0] w fun e w' => e = .returned (.int .i64 (k0 + 2 * n)) ∧ Own2 w' base 143 ao n c (marksK k0 n) ∧ w.grownBy w' (bk ao) := by
  have hl := h.len
  rcases Nat.eq_zero_or_pos n with h0 | h0
  · subst h0
    refine (markTs_none ao c k0 w).mono ?_
    rintro e w' ⟨rfl, rfl⟩
    have : ks = [] := List.length_eq_zero_iff.1 hl
    subst this
    exact ⟨ret_int (by simp), h, World.grownBy.refl _ _⟩
  · obtain ⟨g, rfl, _⟩ := h.form h0
    exact markTs_any g n c ks k0 w base h hk0 hk1
set_option maxHeartbeats 400000 in
theorem heldTs_any (ao : Option Addr) (n c : Nat) (k0 : Int) (w : World) (h : Tgts w ao n (marksK k0 n)) (hk0 : 0 ≤ k0) (hk1 : k0 ≤ 1125899906842624) :
    Calls Try.prog 161 #[.slice ao n c, .int .i64 k0] w fun e w' => e = .returned (.int .i64 (k0 + 2 * n)) ∧ w' = w := by
  have H := Lib.hid h
  have hn := h.2.1
  clear h
  go_enter Try.func161, Try.ntmps161
  go_wp2
  go_loop [1, 5] (fun m i => ∃ k : Nat, k ≤ n ∧ i = .int .i64 k ∧ m = .int .i64 (k0 + 2 * k)) (fun _ i => n - (intOf i).toNat)
  case atStart => exact ⟨0, Nat.zero_le _, rfl, by simp⟩
  case round =>
    obtain ⟨k, hk, rfl, rfl⟩ := hrel
    by_cases hlt : k < n
    · obtain ⟨b, off, rfl, hc, hc2⟩ := H.out.at_ hlt
      have hm := marksK_get k0 n k hlt
      rw [hm.1] at hc
      rw [hm.2] at hc2
      have he : ((k0 + 2 * k : Int) != (k0 + 2 * k : Int)) = false := by simp
      have he2 : ((k0 + 2 * k + 1 : Int) != (k0 + 2 * k + 1 : Int)) = false := by simp
      clear hm
      go_wp2
      go_round
      case rel => exact ⟨k + 1, by omega, by go_num, by congr 1; omega⟩
      case measure => simp [intOf]; omega
    · obtain rfl : k = n := by omega
      go_wp2
      go_ret
      exact ⟨rfl, rfl⟩

set_option maxHeartbeats 800000 in
theorem law_markTT {v : Value} {d : List (List (Int × Int))} {lo hi : Nat} (k0 : Int) (w : World) (h : OwTT 143 100 w lo hi v d) (hk0 : 0 ≤ k0) (hk1 : k0 + lenTT d ≤ 1125899906842624) :
    Calls Try.prog 89 #[v, .int .i64 k0] w fun e w' => e = .returned (.int .i64 (k0 + lenTT d)) ∧ OwTT 143 100 w' lo hi v (marksTT k0 d) ∧ Only lo hi w w' := by
  obtain ⟨ao, n, c, us, rfl, ho⟩ := h
  have hl := ho.len
  have hn := ho.own.2
  have HL := Lib.hid hl
  clear hl
  go_enter Try.func89, Try.ntmps89
  go_wp2
  go_loopw [1, 5] (fun m i wr => ∃ k : Nat, k ≤ n ∧ i = .int .i64 k ∧ m = .int .i64 (k0 + lenTT (d.take k)) ∧ OwR (OwTs 143) wr lo hi 100 ao n c us ((marksTT k0 d).take k ++ d.drop k) ∧ Only lo hi w wr) (fun _ i _ => n - (intOf i).toNat)
  case atStart => exact ⟨0, Nat.zero_le _, rfl, by simp [lenTT, lenTT0], by simpa using ho, Only.refl _ _ _⟩
  case round =>
    obtain ⟨k, hk, rfl, rfl, h1, hon⟩ := hrel
    have hle := lenTT_take_le d k
    by_cases hlt : k < n
    · have hkz : k < d.length := by rw [HL.out]; exact hlt
      have HK := Lib.hid hkz
      obtain ⟨u, d', hu, hd, hou, hru⟩ := h1.get hlt
      have hdz : d' = lget d k := by
        rw [List.getElem?_append_right (by simp [length_marksTT]; omega)] at hd
        rw [show k - ((marksTT k0 d).take k).length = 0 by simp [length_marksTT]; omega, drop_lget hkz] at hd
        simpa using hd.symm
      subst hdz
      obtain ⟨a', n', c', rfl, ho'⟩ := hou
      obtain ⟨g, rfl, -, -, -, -, -⟩ := ho.own.form (by omega)
      have hc := h1.cell hu
      have hsum := lenTT_take hkz
      have hle2 := lenTT_take_le d (k + 1)
      have HS := Lib.hid hsum
      have HD := Lib.hid hd
      have HU := Lib.hid hu
      have HR := Lib.hid hru
      have hk2 : k0 + (lenTT (d.take k) : Int) ≤ 1125899906842624 := by omega
      have hk3 : 0 ≤ k0 + (lenTT (d.take k) : Int) := by omega
      clear hsum hle2 hd hu hru hkz
      go_wp2_with fail
      refine (markTs a' n' c' (lget d k) _ wr 0 ho' hk3 hk2).mono ?_
      rintro e w2 ⟨rfl, o2, g2⟩
      have hn' : (lget d k).length = n' := ho'.len
      have HN := Lib.hid hn'
      have hup := h1.upd (innerTs _) (d' := marksK (k0 + lenTT (d.take k)) n') HU.out (by rw [ownBlock_slice]; exact g2) ⟨a', n', c', rfl, o2⟩
      have HP := Lib.hid hup
      have hon2 : Only lo hi w w2 := hon.trans (Only.of_grown g2 (fun g hg => HR.out g (by rw [ownBlock_slice]; exact hg)))
      clear hup hn' h1 o2 g2 ho'
      go_wp2
      go_roundw
      case rel =>
        refine ⟨k + 1, by omega, by go_num, ?_, ?_, hon2⟩
        · congr 1
          rw [HS.out, HN.out]; omega
        · have := HP.out
          rw [List.set_append_right _ _ (by simp [length_marksTT]; omega), show k - ((marksTT k0 d).take k).length = 0 by simp [length_marksTT, HL.out]; omega, drop_lget HK.out] at this
          rw [marksTT_take HK.out, HN.out, List.append_assoc]
          exact this
      case measure => simp [intOf]; omega
    · obtain rfl : k = n := by omega
      go_wp2
      go_ret
      refine ⟨ret_int (by rw [List.take_of_length_le (Nat.le_of_eq HL.out)]), ⟨_, _, _, us, rfl, ?_⟩, hon⟩
      simpa [List.take_of_length_le, List.drop_of_length_le, length_marksTT, HL.out] using h1

set_option maxHeartbeats 800000 in
theorem law_heldTT {v : Value} {d : List (List (Int × Int))} (k0 : Int) (w : World) (h : RdTT w v (marksTT k0 d)) (hk0 : 0 ≤ k0) (hk1 : k0 + lenTT d ≤ 1125899906842624) :
    Calls Try.prog 90 #[v, .int .i64 k0] w fun e w' => e = .returned (.int .i64 (k0 + lenTT d)) ∧ Below w.heap.size w w' := by
  obtain ⟨ao, n, c, rfl, hi⟩ := h
  have hbd := hi.2.1
  have hl : d.length = n := by rw [← hi.1, length_marksTT]
  have HL := Lib.hid hl
  clear hl
  go_enter Try.func90, Try.ntmps90
  go_wp2
  go_loopw [1, 5] (fun m i wr => ∃ k : Nat, k ≤ n ∧ i = .int .i64 k ∧ m = .int .i64 (k0 + lenTT (d.take k)) ∧ Below w.heap.size w wr) (fun _ i _ => n - (intOf i).toNat)
  case atStart => exact ⟨0, Nat.zero_le _, rfl, by simp [lenTT, lenTT0], Below.refl _ _⟩
  case round =>
    obtain ⟨k, hk, rfl, rfl, hb⟩ := hrel
    have hle := lenTT_take_le d k
    by_cases hlt : k < n
    · obtain ⟨b1, o1, a1, n1, c1, rfl, hc1, hin1⟩ := (hi.below hb).at_ hlt
      have hkz : k < d.length := by rw [HL.out]; exact hlt
      rw [lget_marksTT hkz] at hin1
      have hn1 : (lget d k).length = n1 := by have := hin1.1; rwa [length_marksK] at this
      have hsum := lenTT_take hkz
      have hle2 := lenTT_take_le d (k + 1)
      rw [hn1] at hin1 hsum
      have HS := Lib.hid hsum
      have HH := Lib.hid hi
      have hk2 : k0 + (lenTT (d.take k) : Int) ≤ 1125899906842624 := by omega
      have hk3 : 0 ≤ k0 + (lenTT (d.take k) : Int) := by omega
      have hk4 : 0 ≤ k0 + (lenTT (d.take k) : Int) + 2 * n1 := by omega
      clear hsum hle2 hkz hn1 hi
      go_wp2_with fail
      refine (heldTs_any a1 n1 c1 _ wr hin1 hk3 hk2).mono ?_
      rintro e w2 ⟨rfl, rfl⟩
      go_wp2
      go_roundw
      case rel => exact ⟨k + 1, by omega, by go_num, by congr 1; rw [HS.out]; omega, hb⟩
      case measure => simp [intOf]; omega
    · obtain rfl : k = n := by omega
      go_wp2
      go_ret
      exact ⟨ret_int (by rw [List.take_of_length_le (Nat.le_of_eq HL.out)]), hb⟩

set_option maxHeartbeats 400000 in
theorem law_markT {v : Value} {d : List (List (Int × Int))} {lo hi : Nat} (k0 : Int) (w : World) (h : OwT 143 100 w lo hi v d) (hk0 : 0 ≤ k0) (hk1 : k0 + lenTT d ≤ 1125899906842624) :
    Calls Try.prog 22 #[v, .int .i64 k0] w fun e w' => e = .returned (.int .i64 (k0 + lenTT d)) ∧ OwT 143 100 w' lo hi v (marksTT k0 d) ∧ Only lo hi w w' := by
  obtain ⟨ao, n, c, us, rfl, ho⟩ := h
  go_enter Try.func22, Try.ntmps22
  go_wp2_with fail
  have hb : Below w.heap.size w (w.alloc (.cells #[.slice ao n c] 29)) := (Below.refl _ _).alloc (Nat.le_refl _) _
  refine (law_markTT k0 _ ⟨ao, n, c, us, rfl, ho.below (innerTs _) hb⟩ hk0 hk1).mono ?_
  rintro e w1 ⟨rfl, ⟨a2, n2, c2, us2, e2, o2⟩, q1⟩
  injection e2 with e3 e4 e5
  subst e3 e4 e5
  go_wp2
  go_ret
  refine ⟨rfl, ⟨_, _, _, us2, rfl, o2⟩, ⟨q1.os.trans hb.os, q1.tape.trans hb.tape, q1.output.trans hb.output, Nat.le_trans hb.size q1.size, fun g hg hd => (q1.block g (Nat.lt_of_lt_of_le hg hb.size) hd).trans (hb.block g hg)⟩⟩

set_option maxHeartbeats 400000 in
theorem law_heldT {v : Value} {d : List (List (Int × Int))} (k0 : Int) (w : World) (h : RdT w v (marksTT k0 d)) (hk0 : 0 ≤ k0) (hk1 : k0 + lenTT d ≤ 1125899906842624) :
    Calls Try.prog 23 #[v, .int .i64 k0] w fun e w' => e = .returned (.int .i64 (k0 + lenTT d)) ∧ Below w.heap.size w w' := by
  obtain ⟨ao, n, c, rfl, hi⟩ := h
  go_enter Try.func23, Try.ntmps23
  go_wp2_with fail
  have hb : Below w.heap.size w (w.alloc (.cells #[.slice ao n c] 29)) := (Below.refl _ _).alloc (Nat.le_refl _) _
  refine (law_heldTT k0 _ ⟨_, _, _, rfl, hi.below hb⟩ hk0 hk1).mono ?_
  rintro e w1 ⟨rfl, b1⟩
  have h2 : 0 ≤ k0 + (lenTT d : Int) := by omega
  go_wp2
  go_ret
  exact ⟨rfl, hb.trans (b1.mono hb.size)⟩
end Go.Proofs.Ytpognnifgcacnaa

/- within and its twin in the reference; slices.IndexFunc and slices.ContainsFunc at []int64, over any predicate that only reads or makes memory. -/
namespace Go.Proofs.Ytpognnifgcacnaa
open Go.RowKit

/-- n lies between lo and hi -/
def inB (n lo hi : Int) : Bool := decide (lo ≤ n) && decide (n ≤ hi)
theorem inB_true {n lo hi : Int} : inB n lo hi = true ↔ lo ≤ n ∧ n ≤ hi := by simp [inB]
theorem inB_false {n lo hi : Int} : inB n lo hi = false ↔ ¬ (lo ≤ n ∧ n ≤ hi) := by rw [← Bool.not_eq_true, inB_true]

theorem within_any (n lo hi : Int) (w : World) : Calls Try.prog 97 #[.int .i64 n, .int .i64 lo, .int .i64 hi] w fun e w' => e = .returned (.bool (inB n lo hi)) ∧ w' = w := by
  by_cases h : lo ≤ n
  · have h1 : decide (lo ≤ n) = true := by simpa using h
    go_enter Try.func97, Try.ntmps97
    go_wp2
    go_ret
    exact ⟨ret_bool (by simp [inB, h]), rfl⟩
  · have h1 : decide (lo ≤ n) = false := by simpa using h
    have h2 : inB n lo hi = false := by simp [inB, h1]
    have H2 := Lib.hid h2
    clear h2
    go_enter Try.func97, Try.ntmps97
    go_wp2
    go_ret
    exact ⟨ret_bool H2.out.symm, rfl⟩

theorem specIn_any (n lo hi : Int) (w : World) : Calls Try.prog 95 #[.int .i64 n, .int .i64 lo, .int .i64 hi] w fun e w' => e = .returned (.bool (inB n lo hi)) ∧ w' = w := by
  by_cases h : lo ≤ n
  · have h1 : decide (lo ≤ n) = true := by simpa using h
    go_enter Try.func95, Try.ntmps95
    go_wp2
    go_ret
    exact ⟨ret_bool (by simp [inB, h]), rfl⟩
  · have h1 : decide (lo ≤ n) = false := by simpa using h
    have h2 : inB n lo hi = false := by simp [inB, h1]
    have H2 := Lib.hid h2
    clear h2
    go_enter Try.func95, Try.ntmps95
    go_wp2
    go_ret
    exact ⟨ret_bool H2.out.symm, rfl⟩

end Go.Proofs.Ytpognnifgcacnaa

/- Templates: what a template is; the reference's test. -/
namespace Go.Proofs.Ytpognnifgcacnaa
open Go.RowKit

/-- the piece and the move that are kept for piece j and index i -/
def tP (d : List (List (Int × Int))) (j i : Nat) : Int := kA (lget d j) i
def tM (d : List (List (Int × Int))) (j i : Nat) : Int := kB (lget d j) i
/-- moves x and y commute -/
def cmM (x y : Int) : Bool := decide (x = y ∨ x < 0 ∨ y < 0 ∨ (x + y = 2 ∧ x ≠ 1))
/-- index 0 and index 2 commute at piece j -/
def CmT (d : List (List (Int × Int))) (j : Nat) : Prop :=
  tP d (tP d j 0).toNat 2 = tP d (tP d j 2).toNat 0 ∧ tM d (tP d j 0).toNat 2 = tM d j 2 ∧ tM d (tP d j 2).toNat 0 = tM d j 0 ∧ cmM (tM d j 0) (tM d j 2) = true ∧ ¬ (tM d j 0 = tM d j 2 ∧ tP d (tP d j 0).toNat 2 = j)
def RgT (d : List (List (Int × Int))) (j i : Nat) : Prop := (0 ≤ tP d j i ∧ tP d j i ≤ (d.length : Int) - 1) ∧ -1 ≤ tM d j i ∧ tM d j i ≤ 2
def FxT (d : List (List (Int × Int))) (j i : Nat) : Prop := tP d j i = j ∧ tM d j i < 0
def BkT (d : List (List (Int × Int))) (j i : Nat) : Prop := tP d (tP d j i).toNat i = j ∧ tM d (tP d j i).toNat i = tM d j i
structure Tmp (d : List (List (Int × Int))) : Prop where
  one : 1 ≤ d.length
  few : d.length ≤ 12
  three : ∀ j, j < d.length → (lget d j).length = 3
  rng : ∀ j, j < d.length → ∀ i, i < 3 → RgT d j i
  fix : ∀ j, j < d.length → ∀ i, i < 3 → ¬ FxT d j i
  back : ∀ j, j < d.length → ∀ i, i < 3 → BkT d j i
  comm : ∀ j, j < d.length → CmT d j
open Classical in
noncomputable def tmpB (d : List (List (Int × Int))) : Bool := decide (Tmp d)
theorem tmpB_no {d : List (List (Int × Int))} (h : ¬ Tmp d) : tmpB d = false := by unfold tmpB; simp [h]
theorem tmpB_yes {d : List (List (Int × Int))} (h : Tmp d) : tmpB d = true := by unfold tmpB; simp [h]

set_option maxHeartbeats 800000 in
theorem specCm_any (x y : Int) (w : World) (hx : -1 ≤ x ∧ x ≤ 2) (hy : -1 ≤ y ∧ y ≤ 2) : Calls Try.prog 154 #[.int .i64 x, .int .i64 y] w fun e w' => e = .returned (.bool (cmM x y)) ∧ w' = w := by
  have h1 : x = -1 ∨ x = 0 ∨ x = 1 ∨ x = 2 := by omega
  have h2 : y = -1 ∨ y = 0 ∨ y = 1 ∨ y = 2 := by omega
  clear hx hy
  rcases h1 with rfl | rfl | rfl | rfl <;> rcases h2 with rfl | rfl | rfl | rfl <;>
  · go_enter Try.func154, Try.ntmps154
    go_wp2
    go_ret
    exact ⟨rfl, rfl⟩
end Go.Proofs.Ytpognnifgcacnaa

/- The composition of two templates: what it is; the state of both walks. -/
namespace Go.Proofs.Ytpognnifgcacnaa
open Go.RowKit

section
variable {P : Program} {ops : Array Oper} {rest : List Oper} {o : Oper} {a : Act} {Q : Exit → Act → World → Prop}
/-- append(s, x) of one struct: x lies in a block of its own, just laid -/
theorem wpList_ap2 {S E : TypeId} {bytes : Nat} (et : ET2 P S E bytes) (w : World) (hg : o.guard = none) (s x : Operand) (ho : o.op = .call { callee := .builtin .append, args := #[s, x], argTypes := #[S, S] })
    (base : Nat) (ao : Option Addr) (n c : Nat) (ks : List (Int × Int)) (hs : a.eval s = .slice ao n c) (hown : Own2 w base E ao n c ks) (u v : Int)
    (hx : a.eval x = .slice (some ⟨w.heap.size, 0, none⟩) 1 1) (hn : n + 1 ≤ 4398046511104) (hbase : base ≤ w.heap.size)
    (hK : ∀ ao' c' w', Own2 w' base E ao' (n + 1) c' (ks ++ [(u, v)]) → w.grownBy w' (bk ao) → (bk ao' = bk ao ∨ bk ao' = some (w.heap.size + 1)) → wpList P ops Q rest (a.put o.dst (.slice ao' (n + 1) c')) w') :
    wpList P ops Q (o :: rest) a (w.alloc (.cells #[.int .i64 u, .int .i64 v] E)) := by
  obtain ⟨i, hi, hz, hsz, hby⟩ := info_parts et.info
  refine wpList_append_own_at _ hg s x S ho base E i (.agg #[.int .i64 0, .int .i64 0]) 2 bytes et.und hi hz hsz hby rfl (by omega) (.slice ao n c) n (ivals (pflat ks)) hs (hown.1.alloc _) ⟨w.heap.size, 0, none⟩ 1 1 [.int .i64 u, .int .i64 v] hx rfl (by
      intro j y hj
      match j, hj with
      | 0, hj => simp at hj; subst hj; simp [Addr.add]
      | 1, hj => simp at hj; subst hj; simp [Addr.add]
      | j + 2, hj => simp at hj)
    (by intro y hy; simp at hy; rcases hy with rfl | rfl <;> rfl) (by simp [maxLen]; omega) (by have := et.small; have : (n + 1) * bytes ≤ (n + 1) * 32 := Nat.mul_le_mul_left _ this; omega) (by simp; omega) ?_
  intro v' w' h1 h2 _ h4
  rw [ownBlock_slice] at h2 h4
  have e : ivals (pflat ks) ++ [.int .i64 u, .int .i64 v] = ivals (pflat (ks ++ [(u, v)])) := by simp [pflat, ivals]
  rw [e] at h1
  have hl : ks.length = n := hown.len
  obtain ⟨g, cap, rfl, hb, hlt⟩ := h1.form (by omega)
  refine hK _ _ _ ⟨h1, hn⟩ (grown_tr (World.grownBy_alloc w _ _) h2) ?_
  rw [ownBlock_slice] at h4
  simpa using h4
end
theorem Own2.empty_ (w : World) {base E : Nat} (hb : base ≤ w.heap.size) : Own2 (w.alloc (.cells #[] E)) base E (some ⟨w.heap.size, 0, none⟩) 0 0 [] := by
  refine ⟨?_, by omega⟩
  have := World.ownsRow_lit (e := E) (size := 2) w #[] 0 hb (by simp [maxLen]) (by simp)
  simpa [pflat, ivals] using this
theorem Own2.nil_ (w : World) (base E : Nat) : Own2 w base E none 0 0 [] := ⟨World.ownsRow_nil _ _ _ _, by omega⟩
theorem Own2.below {w w' : World} {base E : Nat} {ao : Option Addr} {n c : Nat} {ks : List (Int × Int)} (h : Own2 w base E ao n c ks) (hb : Below w.heap.size w w') : Own2 w' base E ao n c ks := h.same fun g hg => hb.block g (h.lt g hg).2

/-- one target of the composition -/
def cmT (d e : List (List (Int × Int))) (j k i : Nat) : Int × Int :=
  if 0 ≤ tM e k i then (tP d j (tM e k i).toNat * (e.length : Int) + tP e k i, tM d j (tM e k i).toNat) else ((j : Int) * (e.length : Int) + tP e k i, -1)
def cmRow (d e : List (List (Int × Int))) (j k i : Nat) : List (Int × Int) := (List.range i).map (cmT d e j k)
theorem cmRow_succ (d e : List (List (Int × Int))) (j k i : Nat) : cmRow d e j k (i + 1) = cmRow d e j k i ++ [cmT d e j k i] := by simp [cmRow, List.range_succ]
theorem cmRow_len (d e : List (List (Int × Int))) (j k i : Nat) : (cmRow d e j k i).length = i := by simp [cmRow]
def cmPart (d e : List (List (Int × Int))) (j k : Nat) : List (List (Int × Int)) := (List.range k).map fun k => cmRow d e j k 3
theorem cmPart_succ (d e : List (List (Int × Int))) (j k : Nat) : cmPart d e j (k + 1) = cmPart d e j k ++ [cmRow d e j k 3] := by simp [cmPart, List.range_succ]
def cmUp (d e : List (List (Int × Int))) : Nat → List (List (Int × Int))
  | 0 => []
  | j + 1 => cmUp d e j ++ cmPart d e j e.length
def cmD (d e : List (List (Int × Int))) : List (List (Int × Int)) := cmUp d e d.length
theorem cmPart_len (d e : List (List (Int × Int))) (j k : Nat) : (cmPart d e j k).length = k := by simp [cmPart]
theorem cmUp_len (d e : List (List (Int × Int))) : ∀ j, (cmUp d e j).length = j * e.length
  | 0 => by simp [cmUp]
  | j + 1 => by rw [cmUp, List.length_append, cmUp_len d e j, cmPart_len, Nat.succ_mul]

/-- pushing a row of structs -/
theorem trows_push {T1 E lo : Nat} {wr w2 w3 w4 : World} {ao ao' ao2 : Option Addr} {m c n' c' c2 : Nat} {us : List Value} {ds : List (List (Int × Int))} {ks : List (Int × Int)}
    (hR : OwR (OwTs T1) wr lo wr.heap.size E ao m c us ds) (hlo : lo ≤ wr.heap.size) (hb : Below wr.heap.size wr w2) (hu : Own2 w2 wr.heap.size T1 ao' n' c' ks) (hb3 : Below w2.heap.size w2 w3)
    (hown : Own w4 lo E ao2 (m + 1) c2 (us ++ [.slice ao' n' c'])) (hg : w3.grownBy w4 (bk ao)) (hat : bk ao2 = bk ao ∨ ∃ g, bk ao2 = some g ∧ w2.heap.size ≤ g) :
    OwR (OwTs T1) w4 lo w4.heap.size E ao2 (m + 1) c2 (us ++ [.slice ao' n' c']) (ds ++ [ks]) := by
  have hR3 : OwR (OwTs T1) w3 lo wr.heap.size E ao m c us ds := hR.below (innerTs _) (hb.trans (hb3.mono hb.size))
  have s1 := hb.size
  have s2 := hb3.size
  have s3 := hg.size
  have hub : ∀ g, bk ao' = some g → wr.heap.size ≤ g ∧ g < w2.heap.size := hu.lt
  have hne : ∀ g, bk ao' = some g → bk ao ≠ some g := fun g h1 h2 => by have := hub g h1; have := hR.top g h2; omega
  have hu4 : OwTs T1 w4 (.slice ao' n' c') ks := (innerTs T1).loc (w := w2) ⟨ao', n', c', rfl, hu.mono (Nat.zero_le _)⟩ fun g h => by
    rw [ownBlock_slice] at h
    have := hub g h
    rw [hg.block g (by omega) (fun e => hne g h e.symm)]
    exact hb3.block g this.2
  refine hR3.push (innerTs _) hown hg hu4 (in_slice fun g h => ⟨by have := hub g h; omega, by have := hub g h; omega⟩) (fun g h => (hown.lt g h).2) (by omega) ?_ ?_
  · intro g h
    rcases hat with h1 | ⟨g1, h1, h5⟩
    · exact .inl (h1 ▸ h)
    · refine .inr fun j u hj e => ?_
      rw [h1] at h; obtain rfl := Option.some.inj h
      have := (hR3.rng j u hj _ e).2
      omega
  · intro g h
    rw [ownBlock_slice] at h
    have hh := hub g h
    refine ⟨fun e => ?_, fun j v hj e => ?_⟩
    · rcases hat with h1 | ⟨g1, h1, h5⟩
      · exact hne g h (h1 ▸ e)
      · rw [h1] at e; have := Option.some.inj e; omega
    · have := (hR3.rng j v hj _ e).2; omega

/-- the boxes of the arguments, of the result, of out; the rows of out -/
structure CmpSt (w wr : World) (va vb : Value) (ao : Option Addr) (m c : Nat) (us : List Value) (ds : List (List (Int × Int))) : Prop where
  tt : Blk wr w.heap.size 29 #[va]
  uu : Blk wr (w.heap.size + 1) 29 #[vb]
  res : Blk wr (w.heap.size + 2) 29 #[.slice none 0 0]
  box : Blk wr (w.heap.size + 3) 29 #[.slice ao m c]
  row : OwR (OwTs 143) wr (w.heap.size + 4) wr.heap.size 100 ao m c us ds
  size : w.heap.size + 4 ≤ wr.heap.size
  below : Below w.heap.size w wr
theorem CmpSt.push {w wr w2 w3 w4 : World} {va vb : Value} {m c' n1 c1 c2 : Nat} {ao' a1 ao2 : Option Addr} {us : List Value} {ds : List (List (Int × Int))} {ks : List (Int × Int)} (st : CmpSt w wr va vb ao' m c' us ds)
    (b2 : Below wr.heap.size wr w2) (o1 : Own2 w2 wr.heap.size 143 a1 n1 c1 ks) (b3 : Below w2.heap.size w2 w3) (o4 : Own w4 (w.heap.size + 4) 100 ao2 (m + 1) c2 (us ++ [.slice a1 n1 c1]))
    (g4 : w3.grownBy w4 (bk ao')) (hat : bk ao2 = bk ao' ∨ ∃ g, bk ao2 = some g ∧ w2.heap.size ≤ g) :
    CmpSt w (w4.setCell ⟨w.heap.size + 3, 0, none⟩ (.slice ao2 (m + 1) c2)) va vb ao2 (m + 1) c2 (us ++ [.slice a1 n1 c1]) (ds ++ [ks]) := by
  have hR := trows_push st.row (by have := st.size; omega) b2 o1 b3 o4 g4 hat
  have hsz := st.size
  have s2 := b2.size
  have s3 := b3.size
  have s4 := g4.size
  have B4 : Below (w.heap.size + 4) wr w4 := ((b2.trans (b3.mono s2)).mono hsz).grown g4 (by omega) (fun g hg => (st.row.own.lt g hg).1)
  have hh : (w4.setCell ⟨w.heap.size + 3, 0, none⟩ (.slice ao2 (m + 1) c2)).heap.size = w4.heap.size := by simp [World.setCell]
  refine ⟨(st.tt.below B4 (by omega)).far (by simp) _, (st.uu.below B4 (by omega)).far (by simp) _, (st.res.below B4 (by omega)).far (by simp) _, ?_, ?_, by rw [hh]; omega, (st.below.trans (B4.mono (by omega))).setCell (by simp) _⟩
  · have := (st.box.below B4 (by omega)).set_ 0 (.slice ao2 (m + 1) c2)
    simpa using this
  · rw [hh]
    exact hR.same (innerTs _) fun g h1 _ _ => Below.heap_setCell _ _ _ _ (by simp; omega)
theorem CmpSt.done {w wr : World} {va vb : Value} {m c' : Nat} {ao' : Option Addr} {us : List Value} {ds : List (List (Int × Int))} (st : CmpSt w wr va vb ao' m c' us ds) :
    Blk (wr.setCell ⟨w.heap.size + 2, 0, none⟩ (.slice ao' m c')) (w.heap.size + 2) 29 #[.slice ao' m c'] ∧
    OwR (OwTs 143) (wr.setCell ⟨w.heap.size + 2, 0, none⟩ (.slice ao' m c')) (w.heap.size + 4) (wr.setCell ⟨w.heap.size + 2, 0, none⟩ (.slice ao' m c')).heap.size 100 ao' m c' us ds ∧
    Below w.heap.size w (wr.setCell ⟨w.heap.size + 2, 0, none⟩ (.slice ao' m c')) := by
  have hh : (wr.setCell ⟨w.heap.size + 2, 0, none⟩ (.slice ao' m c')).heap.size = wr.heap.size := by simp [World.setCell]
  refine ⟨?_, ?_, st.below.setCell (by simp) _⟩
  · have := st.res.set_ 0 (.slice ao' m c')
    simpa using this
  · rw [hh]
    exact st.row.same (innerTs _) fun g h1 _ _ => Below.heap_setCell _ _ _ _ (by simp; omega)
theorem CmpSt.start {w w' : World} {va vb : Value} (hb : Below w.heap.size w w') (h1 : Blk w' w.heap.size 29 #[va]) (h2 : Blk w' (w.heap.size + 1) 29 #[vb]) (h3 : Blk w' (w.heap.size + 2) 29 #[.slice none 0 0]) (h4 : Blk w' (w.heap.size + 3) 29 #[.slice none 0 0]) (hs : w.heap.size + 4 ≤ w'.heap.size) :
    CmpSt w w' va vb none 0 0 [] [] := ⟨h1, h2, h3, h4, OwR.empty_ (Own.nil_ _ _ _) (fun g hg => by cases hg), hs, hb⟩
end Go.Proofs.Ytpognnifgcacnaa

/- The composition of two templates, the reference's. -/
namespace Go.Proofs.Ytpognnifgcacnaa
open Go.RowKit

theorem Tgtss.rows {w : World} {ao : Option Addr} {n : Nat} {d : List (List (Int × Int))} (h : Tgtss w ao n d) (hn : 0 < n) :
    ∃ b off, ao = some ⟨b, off, none⟩ ∧ ∀ j, j < n → ∃ a' n' c', w.cell? ⟨b, off + j, none⟩ = some (.slice a' n' c') ∧ Tgts w a' n' (lget d j) := by
  obtain ⟨b, off, e, hc⟩ := h.2.2 hn
  refine ⟨b, off, e, fun j hj => ?_⟩
  obtain ⟨u, h2, a', n', c', rfl, h3⟩ := hc j hj
  exact ⟨a', n', c', h2, h3⟩

theorem et2T : ET2 Try.prog 100 143 16 := ⟨Try.underlying100, by kernel_rfl, by omega⟩
theorem etTT : ET Try.prog 27 100 (.slice none 0 0) 24 := ⟨Try.underlying27, by kernel_rfl, rfl, by omega⟩
theorem mul_small {x y : Int} (hx : 0 ≤ x ∧ x ≤ 12) (hy : 0 ≤ y ∧ y ≤ 12) : 0 ≤ x * y ∧ x * y ≤ 144 :=
  ⟨Int.mul_nonneg hx.1 hy.1, by have := Int.mul_le_mul hx.2 hy.2 hy.1 (by omega : (0:Int) ≤ 12); omega⟩

set_option maxRecDepth 100000 in
set_option maxHeartbeats 3200000 in
theorem specCmp_any (ao bo : Option Addr) (n c m c2 : Nat) (d e : List (List (Int × Int))) (w : World) (h : Tgtss w ao n d) (h' : Tgtss w bo m e) (hT : Tmp d) (hU : Tmp e) :
    Calls Try.prog 86 #[.agg #[.slice ao n c], .agg #[.slice bo m c2]] w fun r w' => ∃ v, r = .returned v ∧ OwT 143 100 w' w.heap.size w'.heap.size v (cmD d e) ∧ Below w.heap.size w w' := by
  have hl := h.1
  have hl' := h'.1
  have n1 := hT.one
  have n2 := hT.few
  have m1 := hU.one
  have m2 := hU.few
  rw [hl] at n1 n2
  rw [hl'] at m1 m2
  obtain ⟨b, off, rfl, hrow⟩ := h.rows (by omega)
  obtain ⟨b', off', rfl, hrow'⟩ := h'.rows (by omega)
  have HL := Lib.hid hl
  have HL' := Lib.hid hl'
  have H1 := Lib.hid hrow
  have H2 := Lib.hid hrow'
  have HT := Lib.hid hT
  have HU := Lib.hid hU
  clear h h' hT hU hl hl' hrow hrow'
  go_enter Try.func86, Try.ntmps86
  go_wp2_with fail
  have st0 : CmpSt w ((((w.alloc (.cells #[.slice (some ⟨b, off, none⟩) n c] 29)).alloc (.cells #[.slice (some ⟨b', off', none⟩) m c2] 29)).alloc (.cells #[.slice none 0 0] 29)).alloc (.cells #[.slice none 0 0] 29)) (.slice (some ⟨b, off, none⟩) n c) (.slice (some ⟨b', off', none⟩) m c2) none 0 0 [] [] :=
    CmpSt.start ((below_alloc3 w _ _ _).alloc (by simp; omega) _) ((((blk_at rfl).alloc _).alloc _).alloc _) (((blk_at (by simp)).alloc _).alloc _) ((blk_at (by simp)).alloc _) (blk_at (by simp)) (by simp)
  generalize (((w.alloc (.cells #[.slice (some ⟨b, off, none⟩) n c] 29)).alloc (.cells #[.slice (some ⟨b', off', none⟩) m c2] 29)).alloc (.cells #[.slice none 0 0] 29)).alloc (.cells #[.slice none 0 0] 29) = w1 at *
  go_loopw [7] (fun i wr => ∃ (j q : Nat) (ao' : Option Addr) (c' : Nat) (us : List Value), i = .int .i64 j ∧ j ≤ n ∧ CmpSt w wr (.slice (some ⟨b, off, none⟩) n c) (.slice (some ⟨b', off', none⟩) m c2) ao' q c' us (cmUp d e j)) (fun i _ => n - (intOf i).toNat)
  case atStart => exact ⟨0, 0, none, 0, [], rfl, Nat.zero_le _, st0⟩
  case round =>
    obtain ⟨j, q, ao', c', us, rfl, hj, st⟩ := hrel
    clear st0
    have x0 := st.tt.cell 0
    have x1 := st.uu.cell 0
    simp at x0 x1
    have ST := Lib.hid st
    clear st
    by_cases hlt : j < n
    · go_wp2_with fail
      go_loopw [8] (fun i wr => ∃ (k q : Nat) (ao' : Option Addr) (c' : Nat) (us : List Value), i = .int .i64 k ∧ k ≤ m ∧ CmpSt w wr (.slice (some ⟨b, off, none⟩) n c) (.slice (some ⟨b', off', none⟩) m c2) ao' q c' us (cmUp d e j ++ cmPart d e j k)) (fun i _ => m - (intOf i).toNat)
      case atStart => exact ⟨0, q, ao', c', us, rfl, Nat.zero_le _, by rw [show cmPart d e j 0 = [] from rfl, List.append_nil]; exact ST.out⟩
      case round =>
        clear x0 x1 ST
        obtain ⟨k, q, ao', c', us, rfl, hk, st⟩ := hrel
        have x0 := st.tt.cell 0
        have x1 := st.uu.cell 0
        simp at x0 x1
        have ST := Lib.hid st
        clear st
        by_cases hlt2 : k < m
        · obtain ⟨w2, hw2⟩ : ∃ w2, w2 = wr := ⟨_, rfl⟩
          subst hw2
          go_wp2_with fail
          go_loopw [9, 10] (fun v i wi => ∃ (s : Nat) (a' : Option Addr) (c' : Nat), v = .slice a' s c' ∧ i = .int .i64 s ∧ s ≤ 3 ∧ Below w2.heap.size w2 wi ∧ Own2 wi w2.heap.size 143 a' s c' (cmRow d e j k s)) (fun _ i _ => 3 - (intOf i).toNat)
          case atStart => exact ⟨0, _, _, rfl, rfl, by omega, below_alloc1 _ _, Own2.empty_ w2 (Nat.le_refl _)⟩
          case round =>
            obtain ⟨s, a', c'', rfl, rfl, hs, hb, ho⟩ := hrel
            clear x0 x1
            have x0 := (ST.out.tt.belowS hb).cell 0
            have x1 := (ST.out.uu.belowS hb).cell 0
            simp at x0 x1
            have HB := Lib.hid hb
            have HO := Lib.hid ho
            have HBW := Lib.hid (below_tr hb ST.out.below)
            clear hb ho
            by_cases hlt3 : s < 3
            · obtain ⟨a1, n1', c1, hc, hi⟩ := H2.out k hlt2
              obtain rfl : n1' = 3 := by rw [← hi.1]; exact HU.out.three k (by rw [HL'.out]; exact hlt2)
              have hc' := (HBW.out.cell (p := ⟨b', off' + k, none⟩) (World.block_lt_of_cell? w _ hc)).trans hc
              obtain ⟨b1, o1, rfl, p1, p2⟩ := (hi.below HBW.out).at_ hlt3
              have hR := HU.out.rng k (by rw [HL'.out]; exact hlt2) s hlt3
              have hTP : tP e k s = kA (lget e k) s := rfl
              have hTM : tM e k s = kB (lget e k) s := rfl
              unfold RgT at hR
              rw [hTP, hTM, HL'.out] at hR
              generalize kA (lget e k) s = X at *
              generalize kB (lget e k) s = Y at *
              have HTP := Lib.hid hTP
              have HTM := Lib.hid hTM
              obtain ⟨hR1, hR2, hR3⟩ := hR
              clear hTP hTM hc hi
              by_cases hY : 0 ≤ Y
              · obtain ⟨y, rfl⟩ : ∃ y : Nat, Y = (y : Int) := ⟨Y.toNat, by omega⟩
                obtain ⟨a3, n3, c3, gc, gi⟩ := H1.out j hlt
                obtain rfl : n3 = 3 := by rw [← gi.1]; exact HT.out.three j (by rw [HL.out]; exact hlt)
                have gc' := (HBW.out.cell (p := ⟨b, off + j, none⟩) (World.block_lt_of_cell? w _ gc)).trans gc
                obtain ⟨b3, o3, rfl, q1, q2⟩ := (gi.below HBW.out).at_ (k := y) (by omega)
                have hR := HT.out.rng j (by rw [HL.out]; exact hlt) y (by omega)
                have hTP2 : tP d j y = kA (lget d j) y := rfl
                have hTM2 : tM d j y = kB (lget d j) y := rfl
                unfold RgT at hR
                rw [hTP2, hTM2, HL.out] at hR
                generalize kA (lget d j) y = U at *
                generalize kB (lget d j) y = V at *
                have HTP2 := Lib.hid hTP2
                have HTM2 := Lib.hid hTM2
                obtain ⟨hR4, hR5, hR6⟩ := hR
                clear hTP2 hTM2 gc gi
                have hbw := below_alloc2 wr (.cells #[.int .i64 X, .int .i64 y] 143) (.cells #[.int .i64 j, .int .i64 (-1)] 143)
                have k11 : Blk ((wr.alloc (.cells #[.int .i64 X, .int .i64 y] 143)).alloc (.cells #[.int .i64 j, .int .i64 (-1)] 143)) wr.heap.size 143 #[.int .i64 X, .int .i64 y] := (blk_at rfl).alloc _
                have k12 : Blk ((wr.alloc (.cells #[.int .i64 X, .int .i64 y] 143)).alloc (.cells #[.int .i64 j, .int .i64 (-1)] 143)) (wr.heap.size + 1) 143 #[.int .i64 j, .int .i64 (-1)] := blk_at (by simp)
                have HK11 := Lib.hid k11
                have HK12 := Lib.hid k12
                have HBX := Lib.hid hbw
                have HC0 := Lib.hid (And.intro x0 (And.intro gc' (And.intro q1 q2)))
                have HM1 := Lib.hid (mul_small (x := U) (y := m) (by omega) (by omega))
                clear k11 k12
                go_wp2_with fail
                obtain ⟨wf, hwf⟩ : ∃ wf, wf = ((wr.alloc (.cells #[.int .i64 X, .int .i64 y] 143)).alloc (.cells #[.int .i64 j, .int .i64 (-1)] 143)) := ⟨_, rfl⟩
                rw [← hwf] at HK11 HK12 HBX ⊢
                clear hwf hbw x0 x1 gc' q1 q2 p1 p2 hc'
                have HS : Hid (∀ w', Below wf.heap.size wf w' → Below wf.heap.size wf w' ∧ w'.cell? ⟨w.heap.size, 0, none⟩ = some (.slice (some ⟨b, off, none⟩) n c) ∧ w'.cell? ⟨b, off + j, none⟩ = some (.slice (some ⟨b3, o3, none⟩) 3 c3) ∧ w'.cell? ⟨b3, o3 + y * 2, none⟩ = some (.int .i64 U) ∧ w'.cell? ⟨b3, o3 + y * 2 + 1, none⟩ = some (.int .i64 V) ∧ w'.cell? ⟨wr.heap.size, 1, none⟩ = some (.int .i64 (y : Int)) ∧ w'.cell? ⟨wr.heap.size + 1, 0, none⟩ = some (.int .i64 (j : Int)) ∧ w'.cell? ⟨wr.heap.size + 1, 1, none⟩ = some (.int .i64 (-1)) ∧ w'.frozen? ⟨wr.heap.size + 1, 0, none⟩ = false ∧ w'.frozen? ⟨wr.heap.size + 1, 1, none⟩ = false) := Lib.hid (fun w' hb' => by
                  have hb2 : Below wr.heap.size wr w' := below_tr hb' HBX.out
                  obtain ⟨c0, c1, c2, c3⟩ := HC0.out
                  exact ⟨hb', (hb2.cell (World.block_lt_of_cell? wr _ c0)).trans c0, (hb2.cell (World.block_lt_of_cell? wr _ c1)).trans c1, (hb2.cell (World.block_lt_of_cell? wr _ c2)).trans c2, (hb2.cell (World.block_lt_of_cell? wr _ c3)).trans c3, (HK11.out.belowS hb').cell 1, (HK12.out.belowS hb').cell 0, (HK12.out.belowS hb').cell 1, (HK12.out.belowS hb').frozen 0, (HK12.out.belowS hb').frozen 1⟩)
                have hy3 : (y : Int) < 3 := by omega
                have hy0 : (0 : Int) ≤ (y : Int) := hY
                have HCT : Hid (cmRow d e j k (s + 1) = cmRow d e j k s ++ [(U * (m : Int) + X, V)]) := Lib.hid (by rw [cmRow_succ]; congr 2; unfold cmT; rw [HTM.out, if_pos hY, HL'.out, HTP.out, show ((y : Int)).toNat = y by omega, HTP2.out, HTM2.out])
                obtain ⟨-, f0, f1, f2, f3, f4, f5, f6, f7, f8⟩ := HS.out wf (Below.refl _ _)
                have hst : ∀ wg, Below wr.heap.size wr wg → Blk wg wr.heap.size 143 #[.int .i64 X, .int .i64 y] → Blk wg (wr.heap.size + 1) 143 #[.int .i64 U, .int .i64 V] → True := fun _ _ _ _ => trivial
                have hW : ∀ wg, (wg = (wf.setCell ⟨wr.heap.size + 1, 0, none⟩ (.int .i64 U)).setCell ⟨wr.heap.size + 1, 1, none⟩ (.int .i64 V)) → Below wr.heap.size wr wg ∧ Blk wg wr.heap.size 143 #[.int .i64 X, .int .i64 y] ∧ Blk wg (wr.heap.size + 1) 143 #[.int .i64 U, .int .i64 V] := by
                  rintro _ rfl
                  exact ⟨(HBX.out.setCell (by simp) _).setCell (by simp) _, (HK11.out.far (by simp) _).far (by simp) _, by simpa using (HK12.out.set_ 0 (.int .i64 U)).set_ 1 (.int .i64 V)⟩
                have HW := Lib.hid hW
                clear hW hst
                go_region_law (fail)
                all_goals
                  generalize hwz : (wf.setCell ⟨wr.heap.size + 1, 0, none⟩ (.int .i64 U)).setCell ⟨wr.heap.size + 1, 1, none⟩ (.int .i64 V) = wz
                  obtain ⟨hbg0, k11, k12⟩ := HW.out wz hwz.symm
                  have hbg : Below wr.heap.size wr wz.drew := hbg0.drew
                  have k11 : Blk wz.drew wr.heap.size 143 #[.int .i64 X, .int .i64 y] := k11
                  have k12 : Blk wz.drew (wr.heap.size + 1) 143 #[.int .i64 U, .int .i64 V] := k12
                  clear f0 f1 f2 f3 f4 f5 f6 f7 f8 hwz hbg0
                  generalize wz.drew = wg at *
                  have hbg2 := below_tr hbg HB.out
                  have e0 := k11.cell 0
                  have e1 := k11.cell 1
                  have g0 := k12.cell 0
                  have g1 := k12.cell 1
                  simp at e0 e1 g0 g1
                  have hsz := hbg2.size
                  have ho2 := HO.out.below hbg
                  have hlen : s + 1 ≤ 4398046511104 := by omega
                  have hwr : IntKind.i64.wrap (U * (m : Int)) = U * (m : Int) := IntWalk.i64_in _ (by have := HM1.out; omega)
                  have hwr2 : IntKind.i64.wrap (U * (m : Int) + X) = U * (m : Int) + X := IntWalk.i64_in _ (by have := HM1.out; omega)
                  clear hbg k11 k12
                  go_wp2_with (at_builtin; refine wpList_ap2 et2T wg rfl _ _ rfl w2.heap.size a' s c'' (cmRow d e j k s) rfl ho2 (U * (m : Int) + X) V rfl hlen hsz ?_; intro ao3 c3' w5 o5 g5 hat5)
                  have B5 : Below w2.heap.size w2 w5 := hbg2.grown g5 hsz (fun g hg => (ho2.lt g hg).1)
                  clear e0 e1 g0 g1 hbg2 ho2 g5 hat5
                  go_wp2_with fail
                  go_roundw
                  case rel => exact ⟨s + 1, ao3, c3', rfl, by go_num, by omega, B5, by rw [HCT.out]; exact o5⟩
                  case measure => simp [intOf]; omega
              · have hYf : decide (Y ≥ 0) = false := by simp; omega
                have hbg := below_alloc2 wr (.cells #[.int .i64 X, .int .i64 Y] 143) (.cells #[.int .i64 j, .int .i64 (-1)] 143)
                have k11 : Blk ((wr.alloc (.cells #[.int .i64 X, .int .i64 Y] 143)).alloc (.cells #[.int .i64 j, .int .i64 (-1)] 143)) wr.heap.size 143 #[.int .i64 X, .int .i64 Y] := (blk_at rfl).alloc _
                have k12 : Blk ((wr.alloc (.cells #[.int .i64 X, .int .i64 Y] 143)).alloc (.cells #[.int .i64 j, .int .i64 (-1)] 143)) (wr.heap.size + 1) 143 #[.int .i64 j, .int .i64 (-1)] := blk_at (by simp)
                have HCT : Hid (cmRow d e j k (s + 1) = cmRow d e j k s ++ [((j : Int) * (m : Int) + X, -1)]) := Lib.hid (by rw [cmRow_succ]; congr 2; unfold cmT; rw [HTM.out, if_neg hY, HL'.out, HTP.out])
                have HM1 := Lib.hid (mul_small (x := j) (y := m) (by omega) (by omega))
                have hbg2 := below_tr hbg HB.out
                have hsz := hbg2.size
                have ho2 := HO.out.below hbg
                have hlen : s + 1 ≤ 4398046511104 := by omega
                have hwr : IntKind.i64.wrap ((j : Int) * (m : Int)) = (j : Int) * (m : Int) := IntWalk.i64_in _ (by have := HM1.out; omega)
                have hwr2 : IntKind.i64.wrap ((j : Int) * (m : Int) + X) = (j : Int) * (m : Int) + X := IntWalk.i64_in _ (by have := HM1.out; omega)
                have HS2 : Hid (((wr.alloc (.cells #[.int .i64 X, .int .i64 Y] 143)).alloc (.cells #[.int .i64 j, .int .i64 (-1)] 143)).heap.size = wr.heap.size + 1 + 1) := Lib.hid (by simp)
                clear hbg k11 k12
                go_wp2_with (at_builtin; refine wpList_ap2 et2T _ rfl _ _ rfl w2.heap.size a' s c'' (cmRow d e j k s) rfl ho2 ((j : Int) * (m : Int) + X) (-1) (by rw [HS2.out]; rfl) hlen hsz ?_; intro ao3 c3' w5 o5 g5 hat5)
                have B5 : Below w2.heap.size w2 w5 := hbg2.grown g5 hsz (fun g hg => (ho2.lt g hg).1)
                clear hbg2 ho2 g5 hat5
                go_wp2_with fail
                go_roundw
                case rel => exact ⟨s + 1, ao3, c3', rfl, by go_num, by omega, B5, by rw [HCT.out]; exact o5⟩
                case measure => simp [intOf]; omega
            · obtain rfl : s = 3 := by omega
              have h3 := ST.out.box.belowS HB.out
              have z0 := h3.cell 0
              have z1 := h3.frozen 0
              simp at z0
              have hq : q = j * m + k := by have h1 := ST.out.row.len; rw [List.length_append, cmUp_len, cmPart_len, HL'.out] at h1; omega
              have hqq : q + 1 ≤ 4398046511104 := by have := mul_small (x := j) (y := m) (by omega) (by omega); have h2 : ((j * m : Nat) : Int) = (j : Int) * (m : Int) := Int.natCast_mul j m; omega
              have hwn := ST.out.size
              have hbs := HB.out.size
              have hown := ST.out.row.own.below HB.out
              have hsz : w.heap.size + 4 ≤ wr.heap.size := by omega
              have H3 := Lib.hid h3
              have HP := Lib.hid (cmPart_succ d e j k)
              clear hq h3 hbs
              go_wp2_with (at_builtin; refine wpList_ap1 etTT wr rfl _ _ rfl (w.heap.size + 4) ao' q c' us rfl hown (.slice a' 3 c'') rfl rfl hqq hsz ?_; intro ao3 c3 w5 o5 g5 hat5; have B5 : Below (w.heap.size + 4) wr w5 := (Below.refl _ _).grown g5 hsz (fun g hg => (hown.lt g hg).1); have k5 := H3.out.below B5 (by omega); have x5 : w5.cell? ⟨w.heap.size + 3, 0, none⟩ = some (.slice ao' q c') := k5.cell 0; have f5 : w5.frozen? ⟨w.heap.size + 3, 0, none⟩ = false := k5.frozen 0)
              have st2 := ST.out.push HB.out HO.out (Below.refl _ _) o5 g5 (hat5.imp id fun h => ⟨_, h, by omega⟩)
              rw [List.append_assoc, ← HP.out] at st2
              have hk1 : k + 1 ≤ m := hlt2
              clear o5 g5 hat5 B5 k5 x5 f5 hown z0 z1 x0 x1
              refine ⟨⟨k + 1, q + 1, ao3, c3, _, by go_num, hk1, st2⟩, ?_⟩
              simp [intOf]; omega
        · obtain rfl : k = m := by omega
          go_wp2_with fail
          go_roundw
          case rel => exact ⟨j + 1, q, ao', c', us, by go_num, by omega, by have := ST.out; have he : cmUp d e (j + 1) = cmUp d e j ++ cmPart d e j k := (by rw [cmUp, HL'.out]); rw [he]; exact this⟩
          case measure => simp [intOf]; omega
    · obtain rfl : j = n := by omega
      have y0 := ST.out.box.cell 0
      have y1 := ST.out.res.cell 0
      have y2 := ST.out.res.frozen 0
      simp at y0 y1
      go_wp2_with fail
      have st2 := ST.out.done
      generalize wr.setCell ⟨w.heap.size + 2, 0, none⟩ (.slice ao' q c') = wf at *
      have e0 := st2.1.cell 0
      simp at e0
      refine bodyPost_ret (v := .agg #[.slice ao' q c']) (by simp [results, Try.f86, go_sem, e0]) rfl ⟨_, rfl, ?_, st2.2.2⟩
      refine ⟨ao', q, c', us, rfl, ?_⟩
      unfold cmD
      rw [HL.out]
      exact st2.2.1.mono (by omega) (Nat.le_refl _)
end Go.Proofs.Ytpognnifgcacnaa

/- The program's test of a template: its parts. -/
namespace Go.Proofs.Ytpognnifgcacnaa
open Go.RowKit

/-- a target out of range -/
def badTg (n : Int) (p : Int × Int) : Bool := !inB p.1 0 (n - 1) || !inB p.2 (-1) 2
set_option maxHeartbeats 800000 in
theorem tmpFn_any (b0 : Nat) (n : Int) (x y : Int) (w : World) (hc : w.cell? ⟨b0, 0, none⟩ = some (.int .i64 n)) (hn : 0 ≤ n ∧ n ≤ 1000) :
    Calls Try.prog 157 #[.agg #[.int .i64 x, .int .i64 y], .pointer (some ⟨b0, 0, none⟩)] w fun e w' => e = .returned (.bool (badTg n (x, y))) ∧ Below w.heap.size w w' := by
  have hc2 : (w.alloc (.cells #[.int .i64 x, .int .i64 y] 143)).cell? ⟨b0, 0, none⟩ = some (.int .i64 n) := ((below_alloc1 w _).cell (World.block_lt_of_cell? w _ hc)).trans hc
  cases cP : inB x 0 (n - 1) with
  | false =>
    have HP := Lib.hid cP
    have HB : Hid (badTg n (x, y) = true) := Lib.hid (by unfold badTg; simp [cP])
    clear cP
    go_enter Try.func157, Try.ntmps157
    go_wp2_with (go_at_call 97; refine (within_any _ _ _ _).mono ?_; rintro e w' ⟨rfl, rfl⟩; rw [HP.out])
    go_ret
    exact ⟨ret_bool HB.out.symm, below_alloc1 _ _⟩
  | true =>
    have HP := Lib.hid cP
    cases cM : inB y (-1) 2 with
    | false =>
      have HM := Lib.hid cM
      have HB : Hid (badTg n (x, y) = true) := Lib.hid (by unfold badTg; simp [cM])
      clear cP cM
      go_enter Try.func157, Try.ntmps157
      go_wp2_with (go_at_call 97; refine (within_any _ _ _ _).mono ?_; rintro e w' ⟨rfl, rfl⟩; first | rw [HP.out] | rw [HM.out])
      go_ret
      exact ⟨ret_bool HB.out.symm, below_alloc1 _ _⟩
    | true =>
      have HM := Lib.hid cM
      have HB : Hid (badTg n (x, y) = false) := Lib.hid (by unfold badTg; simp [cP, cM])
      clear cP cM
      go_enter Try.func157, Try.ntmps157
      go_wp2_with (go_at_call 97; refine (within_any _ _ _ _).mono ?_; rintro e w' ⟨rfl, rfl⟩; first | rw [HP.out] | rw [HM.out])
      go_ret
      exact ⟨ret_bool HB.out.symm, below_alloc1 _ _⟩
/-- the place of the first target with p, -1 if there is none -/
def findT (p : Int × Int → Bool) (ks : List (Int × Int)) : Int := match ks.findIdx? p with | some i => (i : Int) | none => -1
theorem findT_none {p : Int × Int → Bool} {ks : List (Int × Int)} (h : ks.any p = false) : findT p ks = -1 := by
  have : ks.findIdx? p = none := by
    rw [List.findIdx?_eq_none_iff]
    intro x hx
    have := (List.any_eq_false.1 h) x hx
    simpa using this
  simp [findT, this]
theorem kAB {ks : List (Int × Int)} {k : Nat} (h : k < ks.length) : (kA ks k, kB ks k) = ks[k] := by simp [kA, kB, h]
theorem findT_some {p : Int × Int → Bool} {ks : List (Int × Int)} {k : Nat} (hk : k < ks.length) (hn : (ks.take k).any p = false) (hp : p (kA ks k, kB ks k) = true) : findT p ks = k := by
  have : ks.findIdx? p = some k := by
    rw [List.findIdx?_eq_some_iff_getElem]
    refine ⟨hk, by rw [← kAB hk]; exact hp, fun j hj => ?_⟩
    have hx : ks[j]'(by omega) ∈ ks.take k := by rw [List.mem_take_iff_getElem]; exact ⟨j, by omega, rfl⟩
    have := (List.any_eq_false.1 hn) _ hx
    simpa using this
  simp [findT, this]
theorem findT_any (p : Int × Int → Bool) (ks : List (Int × Int)) : decide (0 ≤ findT p ks) = ks.any p := by
  cases h : ks.any p with
  | false => rw [findT_none h]; rfl
  | true =>
    rw [decide_eq_true_iff]
    unfold findT
    cases h2 : ks.findIdx? p with
    | some i => exact Int.natCast_nonneg i
    | none =>
      rw [List.findIdx?_eq_none_iff] at h2
      obtain ⟨x, hx, hp⟩ := List.any_eq_true.1 h
      have := h2 x hx
      simp [hp] at this
theorem any_take_ks {p : Int × Int → Bool} {ks : List (Int × Int)} {k : Nat} (h : k < ks.length) : (ks.take (k + 1)).any p = ((ks.take k).any p || p (kA ks k, kB ks k)) := by
  rw [ks_at h, List.any_append]; simp
set_option maxHeartbeats 400000 in
theorem indexFuncT_any (fn : Nat) (cap : Array Value) (p : Int × Int → Bool) (ao : Option Addr) (n c : Nat) (ks : List (Int × Int)) (w : World) (h : Tgts w ao n ks)
    (hcf : ∀ (args : Array Value) (w : World), (callFunc fn args).run Try.prog w = .ok (.enter fn args) w)
    (hf : ∀ j, j < n → ∀ w', Below w.heap.size w w' → Calls Try.prog fn (#[.agg #[.int .i64 (kA ks j), .int .i64 (kB ks j)]] ++ cap) w' fun e w'' => e = .returned (.bool (p (kA ks j, kB ks j))) ∧ Below w'.heap.size w' w'') :
    Calls Try.prog 204 #[.slice ao n c, .func (.func fn) #[] cap] w fun e w' => e = .returned (.int .i64 (findT p ks)) ∧ Below w.heap.size w w' := by
  have hn := h.2.1
  have HF := Lib.hid hf
  clear hf
  have HL := Lib.hid h.1
  go_enter Try.func204, Try.ntmps204
  go_wp2
  go_loopw [8] (fun i wr => ∃ k : Nat, k ≤ n ∧ i = .int .i64 k ∧ (ks.take k).any p = false ∧ Below w.heap.size w wr) (fun i _ => n - (intOf i).toNat)
  case atStart => exact ⟨0, Nat.zero_le _, rfl, by simp, Below.refl _ _⟩
  case round =>
    obtain ⟨k, hk, rfl, hpre, hb⟩ := hrel
    have HP := Lib.hid hpre
    clear hpre
    by_cases hlt : k < n
    · obtain ⟨b, off, rfl, hc, hc'⟩ := (h.below hb).at_ hlt
      clear h
      cases hp : p (kA ks k, kB ks k) with
      | true =>
        have HX := Lib.hid hp
        clear hp
        go_wp2_with fail
        refine (HF.out k hlt _ hb).mono ?_
        rintro e w1 ⟨rfl, hb1⟩
        rw [HX.out]
        go_wp2
        go_ret
        exact ⟨ret_int (findT_some (by rw [HL.out]; exact hlt) HP.out HX.out).symm, hb.trans (hb1.mono hb.size)⟩
      | false =>
        have HX := Lib.hid hp
        clear hp
        go_wp2_with fail
        refine (HF.out k hlt _ hb).mono ?_
        rintro e w1 ⟨rfl, hb1⟩
        rw [HX.out]
        go_wp2
        go_roundw
        case rel => exact ⟨k + 1, by omega, by go_num, by rw [any_take_ks (by rw [HL.out]; exact hlt), HP.out, HX.out]; rfl, hb.trans (hb1.mono hb.size)⟩
        case measure => simp [intOf]; omega
    · obtain rfl : k = n := by omega
      go_wp2
      go_ret
      exact ⟨ret_int (findT_none (by have := HP.out; rwa [List.take_of_length_le (Nat.le_of_eq HL.out)] at this)).symm, hb⟩
theorem containsFuncT_any (fn : Nat) (cap : Array Value) (p : Int × Int → Bool) (ao : Option Addr) (n c : Nat) (ks : List (Int × Int)) (w : World) (h : Tgts w ao n ks)
    (hcf : ∀ (args : Array Value) (w : World), (callFunc fn args).run Try.prog w = .ok (.enter fn args) w)
    (hf : ∀ j, j < n → ∀ w', Below w.heap.size w w' → Calls Try.prog fn (#[.agg #[.int .i64 (kA ks j), .int .i64 (kB ks j)]] ++ cap) w' fun e w'' => e = .returned (.bool (p (kA ks j, kB ks j))) ∧ Below w'.heap.size w' w'') :
    Calls Try.prog 156 #[.slice ao n c, .func (.func fn) #[] cap] w fun e w' => e = .returned (.bool (ks.any p)) ∧ Below w.heap.size w w' := by
  have HF := Lib.hid hf
  clear hf
  go_enter Try.func156, Try.ntmps156
  go_wp2_with fail
  refine (indexFuncT_any fn cap p ao n c ks w h hcf HF.out).mono ?_
  rintro e w1 ⟨rfl, hb1⟩
  go_wp2
  go_ret
  exact ⟨ret_bool (findT_any p ks), hb1⟩
theorem sizeT_any (ao : Option Addr) (n c : Nat) (w : World) : Calls Try.prog 87 #[.slice ao n c] w fun e w' => e = .returned (.int .i64 n) ∧ w = w' := by
  go_enter Try.func87, Try.ntmps87
  go_wp2
  go_ret
  exact ⟨rfl, rfl⟩
end Go.Proofs.Ytpognnifgcacnaa

/- The composition of two templates, the program's. -/
namespace Go.Proofs.Ytpognnifgcacnaa
open Go.RowKit

set_option maxRecDepth 100000 in
set_option maxHeartbeats 3200000 in
theorem implCmp_any (ao bo : Option Addr) (n c m c2 : Nat) (d e : List (List (Int × Int))) (w : World) (h : Tgtss w ao n d) (h' : Tgtss w bo m e) (hT : Tmp d) (hU : Tmp e) :
    Calls Try.prog 88 #[.agg #[.slice ao n c], .agg #[.slice bo m c2]] w fun r w' => ∃ v, r = .returned v ∧ OwT 143 100 w' w.heap.size w'.heap.size v (cmD d e) ∧ Below w.heap.size w w' := by
  have hl := h.1
  have hl' := h'.1
  have n1 := hT.one
  have n2 := hT.few
  have m1 := hU.one
  have m2 := hU.few
  rw [hl] at n1 n2
  rw [hl'] at m1 m2
  obtain ⟨b, off, rfl, hrow⟩ := h.rows (by omega)
  obtain ⟨b', off', rfl, hrow'⟩ := h'.rows (by omega)
  have HL := Lib.hid hl
  have HL' := Lib.hid hl'
  have H1 := Lib.hid hrow
  have H2 := Lib.hid hrow'
  have HT := Lib.hid hT
  have HU := Lib.hid hU
  clear h h' hT hU hl hl' hrow hrow'
  go_enter Try.func88, Try.ntmps88
  go_wp2_with (go_at_call 87; refine (sizeT_any _ _ _ _).mono ?_; rintro e w' ⟨rfl, rfl⟩)
  have st0 : CmpSt w ((((w.alloc (.cells #[.slice (some ⟨b, off, none⟩) n c] 29)).alloc (.cells #[.slice (some ⟨b', off', none⟩) m c2] 29)).alloc (.cells #[.slice none 0 0] 29)).alloc (.cells #[.slice none 0 0] 29)) (.slice (some ⟨b, off, none⟩) n c) (.slice (some ⟨b', off', none⟩) m c2) none 0 0 [] [] :=
    CmpSt.start ((below_alloc3 w _ _ _).alloc (by simp; omega) _) ((((blk_at rfl).alloc _).alloc _).alloc _) (((blk_at (by simp)).alloc _).alloc _) ((blk_at (by simp)).alloc _) (blk_at (by simp)) (by simp)
  generalize (((w.alloc (.cells #[.slice (some ⟨b, off, none⟩) n c] 29)).alloc (.cells #[.slice (some ⟨b', off', none⟩) m c2] 29)).alloc (.cells #[.slice none 0 0] 29)).alloc (.cells #[.slice none 0 0] 29) = w1 at *
  go_loopw [22] (fun i wr => ∃ (j q : Nat) (ao' : Option Addr) (c' : Nat) (us : List Value), i = .int .i64 j ∧ j ≤ n ∧ CmpSt w wr (.slice (some ⟨b, off, none⟩) n c) (.slice (some ⟨b', off', none⟩) m c2) ao' q c' us (cmUp d e j)) (fun i _ => n - (intOf i).toNat)
  case atStart => exact ⟨0, 0, none, 0, [], rfl, Nat.zero_le _, st0⟩
  case round =>
    obtain ⟨j, q, ao', c', us, rfl, hj, st⟩ := hrel
    clear st0
    have x0 := st.tt.cell 0
    have x1 := st.uu.cell 0
    simp at x0 x1
    have ST := Lib.hid st
    clear st
    by_cases hlt : j < n
    · obtain ⟨a3, n3, c3, gc, gi⟩ := H1.out j hlt
      obtain rfl : n3 = 3 := by rw [← gi.1]; exact HT.out.three j (by rw [HL.out]; exact hlt)
      have gc' := (ST.out.below.cell (p := ⟨b, off + j, none⟩) (World.block_lt_of_cell? w _ gc)).trans gc
      have HGI := Lib.hid gi
      clear gc gi
      go_wp2_with fail
      go_loopw [30] (fun i wr => ∃ (k q : Nat) (ao' : Option Addr) (c' : Nat) (us : List Value), i = .int .i64 k ∧ k ≤ m ∧ CmpSt w wr (.slice (some ⟨b, off, none⟩) n c) (.slice (some ⟨b', off', none⟩) m c2) ao' q c' us (cmUp d e j ++ cmPart d e j k)) (fun i _ => m - (intOf i).toNat)
      case atStart => exact ⟨0, q, ao', c', us, rfl, Nat.zero_le _, by rw [show cmPart d e j 0 = [] from rfl, List.append_nil]; exact ST.out⟩
      case round =>
        clear x0 x1 ST gc'
        obtain ⟨k, q, ao', c', us, rfl, hk, st⟩ := hrel
        have x0 := st.tt.cell 0
        have x1 := st.uu.cell 0
        simp at x0 x1
        have ST := Lib.hid st
        clear st
        by_cases hlt2 : k < m
        · obtain ⟨w2, hw2⟩ : ∃ w2, w2 = wr := ⟨_, rfl⟩
          subst hw2
          obtain ⟨a1, n1', c1, hc, hi⟩ := H2.out k hlt2
          obtain rfl : n1' = 3 := by rw [← hi.1]; exact HU.out.three k (by rw [HL'.out]; exact hlt2)
          have hc' := (ST.out.below.cell (p := ⟨b', off' + k, none⟩) (World.block_lt_of_cell? w _ hc)).trans hc
          have HHI := Lib.hid hi
          clear hc hi
          go_wp2_with fail
          go_loopw [11, 36] (fun v i wi => ∃ (s : Nat) (a' : Option Addr) (c' : Nat), v = .slice a' s c' ∧ i = .int .i64 s ∧ s ≤ 3 ∧ Below w2.heap.size w2 wi ∧ Own2 wi w2.heap.size 143 a' s c' (cmRow d e j k s)) (fun _ i _ => 3 - (intOf i).toNat)
          case atStart => exact ⟨0, _, _, rfl, rfl, by omega, Below.refl _ _, Own2.nil_ _ _ _⟩
          case round =>
            obtain ⟨s, a', c'', rfl, rfl, hs, hb, ho⟩ := hrel
            clear x0 x1 hc'
            have x0 := (ST.out.tt.belowS hb).cell 0
            have x1 := (ST.out.uu.belowS hb).cell 0
            simp at x0 x1
            have HB := Lib.hid hb
            have HO := Lib.hid ho
            have HBW := Lib.hid (below_tr hb ST.out.below)
            clear hb ho
            by_cases hlt3 : s < 3
            · obtain ⟨b1, o1, rfl, p1, p2⟩ := (HHI.out.below HBW.out).at_ hlt3
              have hR := HU.out.rng k (by rw [HL'.out]; exact hlt2) s hlt3
              have hTP : tP e k s = kA (lget e k) s := rfl
              have hTM : tM e k s = kB (lget e k) s := rfl
              unfold RgT at hR
              rw [hTP, hTM, HL'.out] at hR
              generalize kA (lget e k) s = X at *
              generalize kB (lget e k) s = Y at *
              have HTP := Lib.hid hTP
              have HTM := Lib.hid hTM
              obtain ⟨hR1, hR2, hR3⟩ := hR
              clear hTP hTM
              by_cases hY : 0 ≤ Y
              · obtain ⟨y, rfl⟩ : ∃ y : Nat, Y = (y : Int) := ⟨Y.toNat, by omega⟩
                obtain ⟨b3, o3, rfl, q1, q2⟩ := (HGI.out.below HBW.out).at_ (k := y) (by omega)
                have hR := HT.out.rng j (by rw [HL.out]; exact hlt) y (by omega)
                have hTP2 : tP d j y = kA (lget d j) y := rfl
                have hTM2 : tM d j y = kB (lget d j) y := rfl
                unfold RgT at hR
                rw [hTP2, hTM2, HL.out] at hR
                generalize kA (lget d j) y = U at *
                generalize kB (lget d j) y = V at *
                have HTP2 := Lib.hid hTP2
                have HTM2 := Lib.hid hTM2
                obtain ⟨hR4, hR5, hR6⟩ := hR
                clear hTP2 hTM2
                have hy3 : (y : Int) < 3 := by omega
                have hbg : Below wr.heap.size wr (((wr.alloc (.cells #[.int .i64 X, .int .i64 y] 143)).alloc (.cells #[.int .i64 (U * (m : Int) + X), .int .i64 V] 143)).alloc (.cells #[.int .i64 U, .int .i64 V] 143)) := below_alloc3 wr _ _ _
                have q1' : ((wr.alloc (.cells #[.int .i64 X, .int .i64 y] 143)).alloc (.cells #[.int .i64 ((j : Int) * (m : Int) + X), .int .i64 (-1)] 143)).cell? ⟨b3, o3 + y * 2, none⟩ = some (.int .i64 U) := ((below_alloc2 wr _ _).cell (World.block_lt_of_cell? wr _ q1)).trans q1
                have q2' : ((wr.alloc (.cells #[.int .i64 X, .int .i64 y] 143)).alloc (.cells #[.int .i64 ((j : Int) * (m : Int) + X), .int .i64 (-1)] 143)).cell? ⟨b3, o3 + y * 2 + 1, none⟩ = some (.int .i64 V) := ((below_alloc2 wr _ _).cell (World.block_lt_of_cell? wr _ q2)).trans q2
                have hM2 := mul_small (x := j) (y := m) (by omega) (by omega)
                have hM1 := mul_small (x := U) (y := m) (by omega) (by omega)
                have hwr : IntKind.i64.wrap ((j : Int) * (m : Int)) = (j : Int) * (m : Int) := IntWalk.i64_in _ (by omega)
                have hwr2 : IntKind.i64.wrap ((j : Int) * (m : Int) + X) = (j : Int) * (m : Int) + X := IntWalk.i64_in _ (by omega)
                have hwr3 : IntKind.i64.wrap (U * (m : Int)) = U * (m : Int) := IntWalk.i64_in _ (by omega)
                have hwr4 : IntKind.i64.wrap (U * (m : Int) + X) = U * (m : Int) + X := IntWalk.i64_in _ (by omega)
                have HCT : Hid (cmRow d e j k (s + 1) = cmRow d e j k s ++ [(U * (m : Int) + X, V)]) := Lib.hid (by rw [cmRow_succ]; congr 2; unfold cmT; rw [HTM.out, if_pos hY, HL'.out, HTP.out, show ((y : Int)).toNat = y by omega, HTP2.out, HTM2.out])
                have hbg2 := below_tr hbg HB.out
                have hsz := hbg2.size
                have ho2 := HO.out.below hbg
                have hlen : s + 1 ≤ 4398046511104 := by omega
                have HS2 : Hid ((((wr.alloc (.cells #[.int .i64 X, .int .i64 y] 143)).alloc (.cells #[.int .i64 (U * (m : Int) + X), .int .i64 V] 143)).alloc (.cells #[.int .i64 U, .int .i64 V] 143)).heap.size = wr.heap.size + 1 + 1 + 1) := Lib.hid (by simp)
                clear hbg hM1 hM2
                go_wp2_with (at_builtin; refine wpList_ap2 et2T _ rfl _ _ rfl w2.heap.size a' s c'' (cmRow d e j k s) rfl ho2 (U * (m : Int) + X) V (by rw [HS2.out]; rfl) hlen hsz ?_; intro ao3 c3' w5 o5 g5 hat5)
                have B5 : Below w2.heap.size w2 w5 := hbg2.grown g5 hsz (fun g hg => (ho2.lt g hg).1)
                clear hbg2 ho2 g5 hat5 q1 q2 q1' q2' p1 p2
                go_wp2_with fail
                go_roundw
                case rel => exact ⟨s + 1, ao3, c3', rfl, by go_num, by omega, B5, by rw [HCT.out]; exact o5⟩
                case measure => simp [intOf]; omega
              · have hYf : decide (Y ≥ 0) = false := by simp; omega
                have hbg : Below wr.heap.size wr ((wr.alloc (.cells #[.int .i64 X, .int .i64 Y] 143)).alloc (.cells #[.int .i64 ((j : Int) * (m : Int) + X), .int .i64 (-1)] 143)) := below_alloc2 wr _ _
                have HCT : Hid (cmRow d e j k (s + 1) = cmRow d e j k s ++ [((j : Int) * (m : Int) + X, -1)]) := Lib.hid (by rw [cmRow_succ]; congr 2; unfold cmT; rw [HTM.out, if_neg hY, HL'.out, HTP.out])
                have hM1 := mul_small (x := j) (y := m) (by omega) (by omega)
                have hbg2 := below_tr hbg HB.out
                have hsz := hbg2.size
                have ho2 := HO.out.below hbg
                have hlen : s + 1 ≤ 4398046511104 := by omega
                have hwr : IntKind.i64.wrap ((j : Int) * (m : Int)) = (j : Int) * (m : Int) := IntWalk.i64_in _ (by omega)
                have hwr2 : IntKind.i64.wrap ((j : Int) * (m : Int) + X) = (j : Int) * (m : Int) + X := IntWalk.i64_in _ (by omega)
                have HS2 : Hid (((wr.alloc (.cells #[.int .i64 X, .int .i64 Y] 143)).alloc (.cells #[.int .i64 ((j : Int) * (m : Int) + X), .int .i64 (-1)] 143)).heap.size = wr.heap.size + 1 + 1) := Lib.hid (by simp)
                clear hbg hM1
                go_wp2_with (at_builtin; refine wpList_ap2 et2T _ rfl _ _ rfl w2.heap.size a' s c'' (cmRow d e j k s) rfl ho2 ((j : Int) * (m : Int) + X) (-1) (by rw [HS2.out]; rfl) hlen hsz ?_; intro ao3 c3' w5 o5 g5 hat5)
                have B5 : Below w2.heap.size w2 w5 := hbg2.grown g5 hsz (fun g hg => (ho2.lt g hg).1)
                clear hbg2 ho2 g5 hat5 p1 p2
                go_wp2_with fail
                go_roundw
                case rel => exact ⟨s + 1, ao3, c3', rfl, by go_num, by omega, B5, by rw [HCT.out]; exact o5⟩
                case measure => simp [intOf]; omega
            · obtain rfl : s = 3 := by omega
              have h3 := ST.out.box.belowS HB.out
              have z0 := h3.cell 0
              have z1 := h3.frozen 0
              simp at z0
              have hq : q = j * m + k := by have h1 := ST.out.row.len; rw [List.length_append, cmUp_len, cmPart_len, HL'.out] at h1; omega
              have hqq : q + 1 ≤ 4398046511104 := by have := mul_small (x := j) (y := m) (by omega) (by omega); have h2 : ((j * m : Nat) : Int) = (j : Int) * (m : Int) := Int.natCast_mul j m; omega
              have hwn := ST.out.size
              have hbs := HB.out.size
              have hown := ST.out.row.own.below HB.out
              have hsz : w.heap.size + 4 ≤ wr.heap.size := by omega
              have H3 := Lib.hid h3
              have HP := Lib.hid (cmPart_succ d e j k)
              clear hq h3 hbs
              go_wp2_with (at_builtin; refine wpList_ap1 etTT wr rfl _ _ rfl (w.heap.size + 4) ao' q c' us rfl hown (.slice a' 3 c'') rfl rfl hqq hsz ?_; intro ao3 c3 w5 o5 g5 hat5; have B5 : Below (w.heap.size + 4) wr w5 := (Below.refl _ _).grown g5 hsz (fun g hg => (hown.lt g hg).1); have k5 := H3.out.below B5 (by omega); have x5 : w5.cell? ⟨w.heap.size + 3, 0, none⟩ = some (.slice ao' q c') := k5.cell 0; have f5 : w5.frozen? ⟨w.heap.size + 3, 0, none⟩ = false := k5.frozen 0)
              have st2 := ST.out.push HB.out HO.out (Below.refl _ _) o5 g5 (hat5.imp id fun h => ⟨_, h, by omega⟩)
              rw [List.append_assoc, ← HP.out] at st2
              have hk1 : k + 1 ≤ m := hlt2
              clear o5 g5 hat5 B5 k5 x5 f5 hown z0 z1 x0 x1
              refine ⟨⟨k + 1, q + 1, ao3, c3, _, by go_num, hk1, st2⟩, ?_⟩
              simp [intOf]; omega
        · obtain rfl : k = m := by omega
          go_wp2_with fail
          go_roundw
          case rel => exact ⟨j + 1, q, ao', c', us, by go_num, by omega, by have := ST.out; have he : cmUp d e (j + 1) = cmUp d e j ++ cmPart d e j k := (by rw [cmUp, HL'.out]); rw [he]; exact this⟩
          case measure => simp [intOf]; omega
    · obtain rfl : j = n := by omega
      have y0 := ST.out.box.cell 0
      have y1 := ST.out.res.cell 0
      have y2 := ST.out.res.frozen 0
      simp at y0 y1
      go_wp2_with fail
      have st2 := ST.out.done
      generalize wr.setCell ⟨w.heap.size + 2, 0, none⟩ (.slice ao' q c') = wf at *
      have e0 := st2.1.cell 0
      simp at e0
      refine bodyPost_ret (v := .agg #[.slice ao' q c']) (by simp [results, Try.f88, go_sem, e0]) rfl ⟨_, rfl, ?_, st2.2.2⟩
      refine ⟨ao', q, c', us, rfl, ?_⟩
      unfold cmD
      rw [HL.out]
      exact st2.2.1.mono (by omega) (Nat.le_refl _)
end Go.Proofs.Ytpognnifgcacnaa

/- The program's test whether indices 0 and 2 commute. -/
namespace Go.Proofs.Ytpognnifgcacnaa
open Go.RowKit

open Classical in
noncomputable def cmTB (d : List (List (Int × Int))) (q : Nat) : Bool := decide (CmT d q)
theorem cmTB_is {d : List (List (Int × Int))} {q : Nat} (h : cmTB d q = true) : CmT d q := by unfold cmTB at h; exact @of_decide_eq_true _ (Classical.propDecidable _) h
theorem cmTB_yes {d : List (List (Int × Int))} {q : Nat} (h : CmT d q) : cmTB d q = true := by unfold cmTB; simp [h]
theorem cmTB_no {d : List (List (Int × Int))} {q : Nat} (h : ¬ CmT d q) : cmTB d q = false := by unfold cmTB; simp [h]

set_option maxRecDepth 100000 in
set_option maxHeartbeats 3200000 in
theorem commutes_any (ao : Option Addr) (k c q : Nat) (d : List (List (Int × Int))) (w : World) (h : Tgtss w ao k d) (hk : k ≤ 12) (hlt : q < k) (hgood : ∀ j, j < k → (lget d j).length = 3 ∧ ∀ i, i < 3 → RgT d j i) :
    Calls Try.prog 158 #[.agg #[.slice ao k c], .int .i64 q] w fun e w' => e = .returned (.bool (cmTB d q)) ∧ Below w.heap.size w w' := by
  have HL := Lib.hid h.1
  obtain ⟨wr, hw1⟩ : ∃ w1, w1 = w.alloc (.cells #[.slice ao k c] 29) := ⟨_, rfl⟩
  have hB0 : Below w.heap.size w wr := by rw [hw1]; exact below_alloc1 _ _
  have hbx : Blk wr w.heap.size 29 #[.slice ao k c] := by rw [hw1]; exact blk_at rfl
  have h1 := h.below hB0
  obtain ⟨b, off, rfl, hrow⟩ : ∃ b off, ao = some ⟨b, off, none⟩ ∧ ∀ j, j < k → ∃ a' n' c', wr.cell? ⟨b, off + j, none⟩ = some (.slice a' n' c') ∧ Tgts wr a' n' (lget d j) := by
    obtain ⟨b, off, e, hc⟩ := h1.2.2 (by omega)
    refine ⟨b, off, e, fun j hj => ?_⟩
    obtain ⟨u, h2, a', n', c', rfl, h3⟩ := hc j hj
    exact ⟨a', n', c', h2, h3⟩
  have H1 := Lib.hid hrow
  have HB0 := Lib.hid hB0
  have HX := Lib.hid hbx
  have HG0 := Lib.hid hgood
  have HW := Lib.hid hw1
  clear h h1 hB0 hbx hrow hgood hw1
  go_enter Try.func158, Try.ntmps158
  go_wp2_with fail
  rw [← HW.out]
  clear HW
  have x0 := HX.out.cell 0
  simp at x0
  obtain ⟨a1, n1, c1, hc', hi⟩ := H1.out q hlt
  obtain rfl : n1 = 3 := by rw [← hi.1]; exact (HG0.out q hlt).1
  obtain ⟨b1, o1, rfl, p0, p1⟩ := hi.at_ (k := 0) (by omega)
  obtain ⟨b1', o1', e1, p4, p5⟩ := hi.at_ (k := 2) (by omega)
  injection e1 with e1; injection e1 with e1 e2 e3
  subst e1 e2
  clear e3 hi
  have q0 : wr.cell? ⟨b1, o1, none⟩ = some (.int .i64 (kA (lget d q) 0)) := p0
  have q1 : wr.cell? ⟨b1, o1 + 1, none⟩ = some (.int .i64 (kB (lget d q) 0)) := by simpa using p1
  have q4 : wr.cell? ⟨b1, o1 + 4, none⟩ = some (.int .i64 (kA (lget d q) 2)) := p4
  have q5 : wr.cell? ⟨b1, o1 + 4 + 1, none⟩ = some (.int .i64 (kB (lget d q) 2)) := p5
  clear p0 p1 p4 p5
  have hrg0 := (HG0.out q hlt).2 0 (by omega)
  have hrg2 := (HG0.out q hlt).2 2 (by omega)
  unfold RgT at hrg0 hrg2
  have hT0 : tP d q 0 = kA (lget d q) 0 := rfl
  have hT2 : tP d q 2 = kA (lget d q) 2 := rfl
  have hN0 : tM d q 0 = kB (lget d q) 0 := rfl
  have hN2 : tM d q 2 = kB (lget d q) 2 := rfl
  rw [hT0, hN0, HL.out] at hrg0
  rw [hT2, hN2, HL.out] at hrg2
  obtain ⟨r1, hr1⟩ : ∃ r : Nat, kA (lget d q) 0 = (r : Int) := ⟨(kA (lget d q) 0).toNat, by omega⟩
  obtain ⟨r2, hr2⟩ : ∃ r : Nat, kA (lget d q) 2 = (r : Int) := ⟨(kA (lget d q) 2).toNat, by omega⟩
  have hr1k : r1 < k := by omega
  have hr2k : r2 < k := by omega
  have hM0 : -1 ≤ kB (lget d q) 0 ∧ kB (lget d q) 0 ≤ 2 := hrg0.2
  have hM2 : -1 ≤ kB (lget d q) 2 ∧ kB (lget d q) 2 ≤ 2 := hrg2.2
  rw [hr1] at q0 hT0
  rw [hr2] at q4 hT2
  clear hr1 hr2 hrg0 hrg2
  generalize kB (lget d q) 0 = M0 at *
  generalize kB (lget d q) 2 = M2 at *
  have HT0 := Lib.hid hT0
  have HT2 := Lib.hid hT2
  have HN0 := Lib.hid hN0
  have HN2 := Lib.hid hN2
  clear hT0 hT2 hN0 hN2
  have hS : ∀ w', Below wr.heap.size wr w' → (Below wr.heap.size wr w' ∧ w'.cell? ⟨w.heap.size, 0, none⟩ = some (.slice (some ⟨b, off, none⟩) k c) ∧ w'.cell? ⟨b, off + q, none⟩ = some (.slice (some ⟨b1, o1, none⟩) 3 c1) ∧ w'.cell? ⟨b1, o1, none⟩ = some (.int .i64 (r1 : Int)) ∧ w'.cell? ⟨b1, o1 + 1, none⟩ = some (.int .i64 M0) ∧ w'.cell? ⟨b1, o1 + 4, none⟩ = some (.int .i64 (r2 : Int)) ∧ w'.cell? ⟨b1, o1 + 4 + 1, none⟩ = some (.int .i64 M2)) := fun w' hb =>
    ⟨hb, (hb.cell (World.block_lt_of_cell? wr _ x0)).trans x0, (hb.cell (World.block_lt_of_cell? wr _ hc')).trans hc', (hb.cell (World.block_lt_of_cell? wr _ q0)).trans q0, (hb.cell (World.block_lt_of_cell? wr _ q1)).trans q1, (hb.cell (World.block_lt_of_cell? wr _ q4)).trans q4, (hb.cell (World.block_lt_of_cell? wr _ q5)).trans q5⟩
  have HS := Lib.hid hS
  clear hS x0 hc' q0 q1 q4 q5

  rename_i K hK
  have tail : ∀ (b5 b6 : Nat) (wf : World), Below wr.heap.size wr wf → Blk wf b5 143 #[.int .i64 (r1 : Int), .int .i64 M0] → Blk wf b6 143 #[.int .i64 (r2 : Int), .int .i64 M2] → K { tmps := #[Value.agg #[Value.slice (some ⟨b, off, none⟩) k c], Value.int IntKind.i64 (q : Int), Value.pointer (some ⟨w.heap.size, 0, none⟩), undef, Value.bool false, Value.pointer (some ⟨b5, 0, none⟩), Value.pointer (some ⟨b6, 0, none⟩), undef, undef, undef, undef, Value.pointer (some ⟨w.heap.size, 0, none⟩), Value.slice (some ⟨b, off, none⟩) k c, Value.int IntKind.i64 (q : Int), Value.pointer (some ⟨b, off + q, none⟩), Value.slice (some ⟨b1, o1, none⟩) 3 c1, Value.pointer (some ⟨b1, o1, none⟩), Value.agg #[Value.int IntKind.i64 (r1 : Int), Value.int IntKind.i64 M0], Value.pointer (some ⟨w.heap.size, 0, none⟩), Value.slice (some ⟨b, off, none⟩) k c, Value.int IntKind.i64 (q : Int), Value.pointer (some ⟨b, off + q, none⟩), Value.slice (some ⟨b1, o1, none⟩) 3 c1, Value.pointer (some ⟨b1, o1 + 4, none⟩), Value.agg #[Value.int IntKind.i64 (r2 : Int), Value.int IntKind.i64 M2], undef, undef, undef, undef, undef, undef, undef, undef, undef, undef, undef, undef, undef, undef, undef, undef, undef, undef, undef, undef, undef, undef, undef, undef, undef, undef, undef, undef, undef, undef, undef, undef, undef, undef, undef, undef, undef, undef, undef, undef, undef, undef, undef, undef, undef, undef, undef, undef, undef, undef, undef, undef, undef, undef, undef, undef, undef, undef, undef, undef, undef, undef, undef, undef, undef, undef, undef, undef], defers := [] } wf := by
    intro b5 b6 wf hbf kb5 kb6
    refine hK _ _ ?_
    clear hK HS
    have hbf1 : Below wr.heap.size wr wf := hbf
    obtain ⟨a3, n3, c3, gc1, gi1⟩ := H1.out r1 hr1k
    obtain rfl : n3 = 3 := by rw [← gi1.1]; exact (HG0.out r1 hr1k).1
    obtain ⟨b3, o3, rfl, s4, s5⟩ := (gi1.below hbf1).at_ (k := 2) (by omega)
    obtain ⟨a4, n4, c4, gc2, gi2⟩ := H1.out r2 hr2k
    obtain rfl : n4 = 3 := by rw [← gi2.1]; exact (HG0.out r2 hr2k).1
    obtain ⟨b4, o4, rfl, s0, s1⟩ := (gi2.below hbf1).at_ (k := 0) (by omega)
    have s4 : wf.cell? ⟨b3, o3 + 4, none⟩ = some (.int .i64 (kA (lget d r1) 2)) := s4
    have s5 : wf.cell? ⟨b3, o3 + 4 + 1, none⟩ = some (.int .i64 (kB (lget d r1) 2)) := s5
    have s0 : wf.cell? ⟨b4, o4, none⟩ = some (.int .i64 (kA (lget d r2) 0)) := s0
    have s1 : wf.cell? ⟨b4, o4 + 1, none⟩ = some (.int .i64 (kB (lget d r2) 0)) := by simpa using s1
    have gc1' := (hbf1.cell (World.block_lt_of_cell? wr _ gc1)).trans gc1
    have gc2' := (hbf1.cell (World.block_lt_of_cell? wr _ gc2)).trans gc2
    have hA : tP d r1 2 = kA (lget d r1) 2 := rfl
    have hAM : tM d r1 2 = kB (lget d r1) 2 := rfl
    have hB : tP d r2 0 = kA (lget d r2) 0 := rfl
    have hBM : tM d r2 0 = kB (lget d r2) 0 := rfl
    generalize kA (lget d r1) 2 = A at *
    generalize kB (lget d r1) 2 = AM at *
    generalize kA (lget d r2) 0 = B at *
    generalize kB (lget d r2) 0 = BM at *
    have HA := Lib.hid (And.intro hA (And.intro hAM (And.intro hB hBM)))
    have y0 := (HX.out.belowS hbf1).cell 0
    simp at y0
    have y1 := kb5.cell 0
    have y2 := kb6.cell 0
    simp at y1 y2
    have hS : ∀ w', Below wf.heap.size wf w' → (Below wf.heap.size wf w' ∧ w'.cell? ⟨w.heap.size, 0, none⟩ = some (.slice (some ⟨b, off, none⟩) k c) ∧ w'.cell? ⟨b5, 0, none⟩ = some (.int .i64 (r1 : Int)) ∧ w'.cell? ⟨b6, 0, none⟩ = some (.int .i64 (r2 : Int)) ∧ w'.cell? ⟨b, off + r1, none⟩ = some (.slice (some ⟨b3, o3, none⟩) 3 c3) ∧ w'.cell? ⟨b, off + r2, none⟩ = some (.slice (some ⟨b4, o4, none⟩) 3 c4) ∧ w'.cell? ⟨b3, o3 + 4, none⟩ = some (.int .i64 A) ∧ w'.cell? ⟨b3, o3 + 4 + 1, none⟩ = some (.int .i64 AM) ∧ w'.cell? ⟨b4, o4, none⟩ = some (.int .i64 B) ∧ w'.cell? ⟨b4, o4 + 1, none⟩ = some (.int .i64 BM)) := fun w' hb =>
      ⟨hb, (hb.cell (World.block_lt_of_cell? wf _ y0)).trans y0, (hb.cell (World.block_lt_of_cell? wf _ y1)).trans y1, (hb.cell (World.block_lt_of_cell? wf _ y2)).trans y2, (hb.cell (World.block_lt_of_cell? wf _ gc1')).trans gc1', (hb.cell (World.block_lt_of_cell? wf _ gc2')).trans gc2', (hb.cell (World.block_lt_of_cell? wf _ s4)).trans s4, (hb.cell (World.block_lt_of_cell? wf _ s5)).trans s5, (hb.cell (World.block_lt_of_cell? wf _ s0)).trans s0, (hb.cell (World.block_lt_of_cell? wf _ s1)).trans s1⟩
    have HS := Lib.hid hS
    have HK5 := Lib.hid kb5
    have HK6 := Lib.hid kb6
    have HBF := Lib.hid (And.intro hbf hbf1)
    clear hS y0 y1 y2 gc1 gc2 gi1 gi2 gc1' gc2' s0 s1 s4 s5 hA hAM hB hBM kb5 kb6 hbf hbf1
    go_wp2_with fail

    rename_i K2 hK2
    have tail2 : ∀ (b7 b8 : Nat) (wg : World), Below wf.heap.size wf wg → Blk wg b7 143 #[.int .i64 A, .int .i64 AM] → Blk wg b8 143 #[.int .i64 B, .int .i64 BM] → K2 { tmps := #[Value.agg #[Value.slice (some ⟨b, off, none⟩) k c], Value.int IntKind.i64 (q : Int), Value.pointer (some ⟨w.heap.size, 0, none⟩), undef, Value.bool false, Value.pointer (some ⟨b5, 0, none⟩), Value.pointer (some ⟨b6, 0, none⟩), Value.pointer (some ⟨b7, 0, none⟩), Value.pointer (some ⟨b8, 0, none⟩), undef, undef, Value.pointer (some ⟨w.heap.size, 0, none⟩), Value.slice (some ⟨b, off, none⟩) k c, Value.int IntKind.i64 (q : Int), Value.pointer (some ⟨b, off + q, none⟩), Value.slice (some ⟨b1, o1, none⟩) 3 c1, Value.pointer (some ⟨b1, o1, none⟩), Value.agg #[Value.int IntKind.i64 (r1 : Int), Value.int IntKind.i64 M0], Value.pointer (some ⟨w.heap.size, 0, none⟩), Value.slice (some ⟨b, off, none⟩) k c, Value.int IntKind.i64 (q : Int), Value.pointer (some ⟨b, off + q, none⟩), Value.slice (some ⟨b1, o1, none⟩) 3 c1, Value.pointer (some ⟨b1, o1 + 4, none⟩), Value.agg #[Value.int IntKind.i64 (r2 : Int), Value.int IntKind.i64 M2], Value.pointer (some ⟨w.heap.size, 0, none⟩), Value.slice (some ⟨b, off, none⟩) k c, Value.pointer (some ⟨b5, 0, none⟩), Value.int IntKind.i64 (r1 : Int), Value.pointer (some ⟨b, off + r1, none⟩), Value.slice (some ⟨b3, o3, none⟩) 3 c3, Value.pointer (some ⟨b3, o3 + 4, none⟩), Value.agg #[Value.int IntKind.i64 A, Value.int IntKind.i64 AM], Value.pointer (some ⟨w.heap.size, 0, none⟩), Value.slice (some ⟨b, off, none⟩) k c, Value.pointer (some ⟨b6, 0, none⟩), Value.int IntKind.i64 (r2 : Int), Value.pointer (some ⟨b, off + r2, none⟩), Value.slice (some ⟨b4, o4, none⟩) 3 c4, Value.pointer (some ⟨b4, o4, none⟩), Value.agg #[Value.int IntKind.i64 B, Value.int IntKind.i64 BM], undef, undef, undef, undef, undef, undef, undef, undef, undef, undef, undef, undef, undef, undef, undef, undef, undef, undef, undef, undef, undef, undef, undef, undef, undef, undef, undef, undef, undef, undef, undef, undef, undef, undef, undef, undef, undef, undef, undef, undef, undef, undef, undef, undef, undef, undef, undef, undef, undef, undef, undef, undef], defers := [] } wg := by
      intro b7 b8 wg hbg kb7 kb8
      refine hK2 _ _ ?_
      clear hK2 HS
      have k5 := HK5.out.belowS hbg
      have k6 := HK6.out.belowS hbg
      have c0 := k5.cell 0
      have c1' := k5.cell 1
      have c2 := k6.cell 0
      have c3' := k6.cell 1
      have c4' := kb7.cell 0
      have c5 := kb7.cell 1
      have c6 := kb8.cell 0
      have c7 := kb8.cell 1
      simp at c0 c1' c2 c3' c4' c5 c6 c7
      have hbw : Below wr.heap.size wr wg := HBF.out.2.trans (hbg.mono HBF.out.2.size)
      have HBW := Lib.hid (below_tr hbw HB0.out)
      have HCm : Hid (CmT d q ↔ A = B ∧ AM = M2 ∧ BM = M0 ∧ cmM M0 M2 = true ∧ ¬ (M0 = M2 ∧ A = (q : Int))) := Lib.hid (by
        unfold CmT
        rw [HT0.out, HT2.out, HN0.out, HN2.out, show ((r1 : Int)).toNat = r1 by omega, show ((r2 : Int)).toNat = r2 by omega, HA.out.1, HA.out.2.1, HA.out.2.2.1, HA.out.2.2.2])
      have HK5' := Lib.hid k5
      have HK6' := Lib.hid k6
      have HK7' := Lib.hid kb7
      clear HA HT0 HT2 HN0 HN2 k5 k6 kb7 kb8 hbg hbw s0 s1 s4 s5 HK5 HK6
      by_cases hA1 : A = B
      · have t1 : (A != B) = false := by simpa using hA1
        by_cases hA2 : AM = M2
        · have t2 : (AM != M2) = false := by simpa using hA2
          by_cases hA3 : BM = M0
          · have t3 : (BM != M0) = false := by simpa using hA3
            have HA1 := Lib.hid hA1
            have HA2 := Lib.hid hA2
            have HA3 := Lib.hid hA3
            have h1 : M0 = -1 ∨ M0 = 0 ∨ M0 = 1 ∨ M0 = 2 := by omega
            have h2 : M2 = -1 ∨ M2 = 0 ∨ M2 = 1 ∨ M2 = 2 := by omega
            clear hA1 hA2 hA3 hM0 hM2
            go_wp2_with fail
            (refine wp_region_calm (by kernel_rfl) (by kernel_rfl) ?_; (repeat (first | go_big_quiet_skip | (go_big_quiet_want; first | (go_big_quiet_op; go_big_quiet_on) | (apply quiet_val; (· (intro _ hw; have f1 : (_ : World).cell? ⟨b5, 1, none⟩ = some (.int .i64 M0) := (HK5'.out.belowS hw).cell 1; have f2 : (_ : World).cell? ⟨b6, 1, none⟩ = some (.int .i64 M2) := (HK6'.out.belowS hw).cell 1; go_simp; exact rfl)); go_simp; go_big_quiet_on) | (apply quiet_call; (· (intro _ _; go_simp; exact ⟨rfl, rfl⟩)); (· (intro _ hw; fail)); go_simp; go_big_quiet_on)))); refine wpQuiet_nil ?_; intro wq bq)
            have y7 : wq.cell? ⟨b7, 0, none⟩ = some (.int .i64 A) := (HK7'.out.belowS bq).cell 0
            have HBQ := Lib.hid (below_tr bq HBW.out)
            clear bq HBW c0 c1' c2 c3' c4' c5 c6 c7 t1 t2 t3
            by_cases hA5 : A = (q : Int)
            · have t5 : (A != (q : Int)) = false := by simpa using hA5
              have HA5 := Lib.hid hA5
              clear hA5
              rcases h1 with rfl | rfl | rfl | rfl <;> rcases h2 with rfl | rfl | rfl | rfl <;>
              · go_wp2
                go_ret
                first
                  | exact ⟨ret_bool (cmTB_yes (HCm.out.2 ⟨HA1.out, HA2.out, HA3.out, by decide, fun h => absurd h.1 (by decide)⟩)).symm, HBQ.out⟩
                  | exact ⟨ret_bool (cmTB_no fun h => (HCm.out.1 h).2.2.2.2 ⟨by first | trivial | rfl, HA5.out⟩).symm, HBQ.out⟩
                  | exact ⟨ret_bool (cmTB_no fun h => absurd (HCm.out.1 h).2.2.2.1 (by decide)).symm, HBQ.out⟩
            · have t5 : (A != (q : Int)) = true := by simpa using hA5
              have HA5 := Lib.hid hA5
              clear hA5
              rcases h1 with rfl | rfl | rfl | rfl <;> rcases h2 with rfl | rfl | rfl | rfl <;>
              · go_wp2
                go_ret
                first
                  | exact ⟨ret_bool (cmTB_yes (HCm.out.2 ⟨HA1.out, HA2.out, HA3.out, by decide, fun h => HA5.out h.2⟩)).symm, HBQ.out⟩
                  | exact ⟨ret_bool (t5.trans (cmTB_yes (HCm.out.2 ⟨HA1.out, HA2.out, HA3.out, by decide, fun h => HA5.out h.2⟩)).symm), HBQ.out⟩
                  | exact ⟨ret_bool (cmTB_no fun h => absurd (HCm.out.1 h).2.2.2.1 (by decide)).symm, HBQ.out⟩
          · have t3 : (BM != M0) = true := by simpa using hA3
            have HT := Lib.hid (cmTB_no fun h => hA3 (HCm.out.1 h).2.2.1)
            clear hA1 hA2 hA3
            go_wp2_with fail
            go_ret
            exact ⟨ret_bool HT.out.symm, HBW.out⟩
        · have t2 : (AM != M2) = true := by simpa using hA2
          have HT := Lib.hid (cmTB_no fun h => hA2 (HCm.out.1 h).2.1)
          clear hA1 hA2
          go_wp2_with fail
          go_ret
          exact ⟨ret_bool HT.out.symm, HBW.out⟩
      · have t1 : (A != B) = true := by simpa using hA1
        have HT := Lib.hid (cmTB_no fun h => hA1 (HCm.out.1 h).1)
        clear hA1
        go_wp2_with fail
        go_ret
        exact ⟨ret_bool HT.out.symm, HBW.out⟩
    clear hK2
    go_region_held3 (fun w' => Below wf.heap.size wf w' ∧ w'.cell? ⟨w.heap.size, 0, none⟩ = some (.slice (some ⟨b, off, none⟩) k c) ∧ w'.cell? ⟨b5, 0, none⟩ = some (.int .i64 (r1 : Int)) ∧ w'.cell? ⟨b6, 0, none⟩ = some (.int .i64 (r2 : Int)) ∧ w'.cell? ⟨b, off + r1, none⟩ = some (.slice (some ⟨b3, o3, none⟩) 3 c3) ∧ w'.cell? ⟨b, off + r2, none⟩ = some (.slice (some ⟨b4, o4, none⟩) 3 c4) ∧ w'.cell? ⟨b3, o3 + 4, none⟩ = some (.int .i64 A) ∧ w'.cell? ⟨b3, o3 + 4 + 1, none⟩ = some (.int .i64 AM) ∧ w'.cell? ⟨b4, o4, none⟩ = some (.int .i64 B) ∧ w'.cell? ⟨b4, o4 + 1, none⟩ = some (.int .i64 BM))
      (first | exact HS.out _ (below_drew1 _) | exact HS.out _ (below_alloc1 _ _).drew | exact HS.out _ (below_alloc2 _ _ _).drew | exact HS.out _ (Below.alloc (And.left (by assumption)) (Below.size (And.left (by assumption))) _))
      (fail)
    all_goals first
      | exact tail2 wf.heap.size (wf.heap.size + 1) _ (below_alloc2 _ _ _).drew ((blk_at (w := wf) rfl).alloc _) (blk_at (by simp))
      | exact tail2 (wf.heap.size + 1) wf.heap.size _ (below_alloc2 _ _ _).drew (blk_at (by simp)) ((blk_at (w := wf) rfl).alloc _)
  clear hK
  go_region_held3 (fun w' => Below wr.heap.size wr w' ∧ w'.cell? ⟨w.heap.size, 0, none⟩ = some (.slice (some ⟨b, off, none⟩) k c) ∧ w'.cell? ⟨b, off + q, none⟩ = some (.slice (some ⟨b1, o1, none⟩) 3 c1) ∧ w'.cell? ⟨b1, o1, none⟩ = some (.int .i64 (r1 : Int)) ∧ w'.cell? ⟨b1, o1 + 1, none⟩ = some (.int .i64 M0) ∧ w'.cell? ⟨b1, o1 + 4, none⟩ = some (.int .i64 (r2 : Int)) ∧ w'.cell? ⟨b1, o1 + 4 + 1, none⟩ = some (.int .i64 M2))
    (first | exact HS.out _ (below_drew1 _) | exact HS.out _ (below_alloc1 _ _).drew | exact HS.out _ (below_alloc2 _ _ _).drew | exact HS.out _ (Below.alloc (And.left (by assumption)) (Below.size (And.left (by assumption))) _))
    (fail)
  all_goals first
    | exact tail wr.heap.size (wr.heap.size + 1) _ (below_alloc2 _ _ _).drew ((blk_at (w := wr) rfl).alloc _) (blk_at (by simp))
    | exact tail (wr.heap.size + 1) wr.heap.size _ (below_alloc2 _ _ _).drew (blk_at (by simp)) ((blk_at (w := wr) rfl).alloc _)
end Go.Proofs.Ytpognnifgcacnaa

/- The reference's test of a template. -/
namespace Go.Proofs.Ytpognnifgcacnaa
open Go.RowKit

set_option maxRecDepth 100000 in
set_option maxHeartbeats 3200000 in
theorem specTmp_any (ao : Option Addr) (n c : Nat) (d : List (List (Int × Int))) (w : World) (h : Tgtss w ao n d) :
    Calls Try.prog 82 #[.agg #[.slice ao n c]] w fun e w' => e = .returned (.bool (tmpB d)) ∧ Below w.heap.size w w' := by
  have hl := h.1
  have hbd := h.2.1
  by_cases hn1 : n < 1
  · have HT := Lib.hid (tmpB_no (d := d) fun t => by have := t.one; omega)
    obtain rfl : n = 0 := by omega
    clear h
    go_enter Try.func82, Try.ntmps82
    go_wp2
    go_ret
    exact ⟨ret_bool HT.out.symm, below_alloc1 _ _⟩
  by_cases hn12 : 12 < n
  · have HT := Lib.hid (tmpB_no (d := d) fun t => by have := t.few; omega)
    have g1 : decide ((n : Int) < 1) = false := by simp; omega
    have g2 : decide ((n : Int) > 12) = true := by simp; omega
    clear h
    go_enter Try.func82, Try.ntmps82
    go_wp2
    go_ret
    exact ⟨ret_bool HT.out.symm, below_alloc1 _ _⟩
  have g1 : decide ((n : Int) < 1) = false := by simp; omega
  have g2 : decide ((n : Int) > 12) = false := by simp; omega
  have HL := Lib.hid hl
  clear hl
  go_enter Try.func82, Try.ntmps82
  go_wp2_with fail
  obtain ⟨w1, hw1⟩ : ∃ w1, w1 = w.alloc (.cells #[.slice ao n c] 29) := ⟨_, rfl⟩
  have hB0 : Below w.heap.size w w1 := by rw [hw1]; exact below_alloc1 _ _
  have hbx : Blk w1 w.heap.size 29 #[.slice ao n c] := by rw [hw1]; exact blk_at rfl
  rw [← hw1]
  have h1 := h.below hB0
  obtain ⟨b, off, rfl, hrow⟩ : ∃ b off, ao = some ⟨b, off, none⟩ ∧ ∀ j, j < n → ∃ a' n' c', w1.cell? ⟨b, off + j, none⟩ = some (.slice a' n' c') ∧ Tgts w1 a' n' (lget d j) := by
    obtain ⟨b, off, e, hc⟩ := h1.2.2 (by omega)
    refine ⟨b, off, e, fun j hj => ?_⟩
    obtain ⟨u, h2, a', n', c', rfl, h3⟩ := hc j hj
    exact ⟨a', n', c', h2, h3⟩
  have H1 := Lib.hid hrow
  have HB0 := Lib.hid hB0
  have HX := Lib.hid hbx
  clear h h1 hB0 hbx hw1 hrow
  go_loopw [4] (fun i wr => ∃ k : Nat, i = .int .i64 k ∧ k ≤ n ∧ Below w1.heap.size w1 wr ∧ ∀ j, j < k → (lget d j).length = 3 ∧ ∀ i, i < 3 → RgT d j i ∧ ¬ FxT d j i) (fun i _ => n - (intOf i).toNat)
  case atStart => exact ⟨0, rfl, Nat.zero_le _, Below.refl _ _, fun j hj => absurd hj (by omega)⟩
  case round =>
    obtain ⟨k, rfl, hk, hb, hgood⟩ := hrel
    have HG := Lib.hid hgood
    have HB := Lib.hid hb
    have x0 := (HX.out.belowS hb).cell 0
    simp at x0
    clear hgood
    by_cases hlt : k < n
    · obtain ⟨a1, n1, c1, hc, hi⟩ := H1.out k hlt
      have hc' := (hb.cell (p := ⟨b, off + k, none⟩) (World.block_lt_of_cell? w1 _ hc)).trans hc
      have HC := Lib.hid hc
      have HI := Lib.hid hi
      have hr := hi.1
      have HR := Lib.hid hr
      clear hc hi hr hb
      by_cases h3 : n1 = 3
      · subst h3
        go_wp2_with fail
        go_loopw [5] (fun i wr => ∃ m : Nat, i = .int .i64 m ∧ m ≤ 3 ∧ Below w1.heap.size w1 wr ∧ ∀ i, i < m → RgT d k i ∧ ¬ FxT d k i) (fun i _ => 3 - (intOf i).toNat)
        case atStart => exact ⟨0, rfl, Nat.zero_le _, HB.out, fun j hj => absurd hj (by omega)⟩
        case round =>
          obtain ⟨m, rfl, hm, hb, hg2⟩ := hrel
          have HG2 := Lib.hid hg2
          have HBm := Lib.hid hb
          clear x0 hc'
          have x0 := (HX.out.belowS hb).cell 0
          simp at x0
          clear hg2
          by_cases hlt2 : m < 3
          · have hc' := (hb.cell (p := ⟨b, off + k, none⟩) (World.block_lt_of_cell? w1 _ HC.out)).trans HC.out
            obtain ⟨b1, o1, rfl, p1, p2⟩ := (HI.out.below hb).at_ hlt2
            have hTP : tP d k m = kA (lget d k) m := rfl
            have hTM : tM d k m = kB (lget d k) m := rfl
            generalize kA (lget d k) m = X at *
            generalize kB (lget d k) m = Y at *
            have HTP := Lib.hid hTP
            have HTM := Lib.hid hTM
            clear hTP hTM hb
            cases cP : inB X 0 ((n : Int) - 1) with
            | false =>
              have HP := Lib.hid cP
              have HT := Lib.hid (tmpB_no (d := d) fun t => by have h1 := t.rng k (by rw [HL.out]; exact hlt) m hlt2; unfold RgT at h1; rw [HTP.out, HL.out] at h1; have := inB_false.1 HP.out; omega)
              clear cP
              go_wp2_with (go_at_call 95; refine (specIn_any _ _ _ _).mono ?_; rintro e w' ⟨rfl, rfl⟩; rw [HP.out])
              go_ret
              exact ⟨ret_bool HT.out.symm, (below_tr HBm.out HB0.out).alloc (below_tr HBm.out HB0.out).size _⟩
            | true =>
              have HP := Lib.hid cP
              clear cP
              cases cM : inB Y (-1) 2 with
              | false =>
                have HM := Lib.hid cM
                have HT := Lib.hid (tmpB_no (d := d) fun t => by have h1 := t.rng k (by rw [HL.out]; exact hlt) m hlt2; unfold RgT at h1; rw [HTM.out] at h1; have := inB_false.1 HM.out; omega)
                clear cM
                go_wp2_with (go_at_call 95; refine (specIn_any _ _ _ _).mono ?_; rintro e w' ⟨rfl, rfl⟩; first | rw [HP.out] | rw [HM.out])
                go_ret
                exact ⟨ret_bool HT.out.symm, (below_tr HBm.out HB0.out).alloc (below_tr HBm.out HB0.out).size _⟩
              | true =>
                have HM := Lib.hid cM
                clear cM
                have HR1 : Hid (RgT d k m) := Lib.hid (by unfold RgT; rw [HTP.out, HTM.out, HL.out]; exact ⟨inB_true.1 HP.out, inB_true.1 HM.out⟩)
                by_cases hx : X = (k : Int)
                · have hxk : (X == (k : Int)) = true := by simpa using hx
                  by_cases hy : Y < 0
                  · have HT := Lib.hid (tmpB_no (d := d) fun t => by have h1 := t.fix k (by rw [HL.out]; exact hlt) m hlt2; unfold FxT at h1; rw [HTP.out, HTM.out] at h1; exact h1 ⟨hx, hy⟩)
                    have hy2 : decide (Y < 0) = true := by simpa using hy
                    clear hx
                    go_wp2_with (go_at_call 95; refine (specIn_any _ _ _ _).mono ?_; rintro e w' ⟨rfl, rfl⟩; first | rw [HP.out] | rw [HM.out])
                    go_ret
                    exact ⟨ret_bool HT.out.symm, (below_tr HBm.out HB0.out).alloc (below_tr HBm.out HB0.out).size _⟩
                  · have hy2 : decide (Y < 0) = false := by simpa using hy
                    have HF : Hid (¬ FxT d k m) := Lib.hid (by unfold FxT; rw [HTM.out]; omega)
                    clear hx
                    go_wp2_with (go_at_call 95; refine (specIn_any _ _ _ _).mono ?_; rintro e w' ⟨rfl, rfl⟩; first | rw [HP.out] | rw [HM.out])
                    go_roundw
                    case rel => exact ⟨m + 1, by go_num, by omega, HBm.out.alloc HBm.out.size _, fun i hi => by rcases Nat.lt_or_ge i m with h | h; exact HG2.out i h; obtain rfl : i = m := (by omega); exact ⟨HR1.out, HF.out⟩⟩
                    case measure => simp [intOf]; omega
                · have hxk : (X == (k : Int)) = false := by simpa using hx
                  have HF : Hid (¬ FxT d k m) := Lib.hid (by unfold FxT; rw [HTP.out]; exact fun h => hx h.1)
                  clear hx
                  go_wp2_with (go_at_call 95; refine (specIn_any _ _ _ _).mono ?_; rintro e w' ⟨rfl, rfl⟩; first | rw [HP.out] | rw [HM.out])
                  go_roundw
                  case rel => exact ⟨m + 1, by go_num, by omega, HBm.out.alloc HBm.out.size _, fun i hi => by rcases Nat.lt_or_ge i m with h | h; exact HG2.out i h; obtain rfl : i = m := (by omega); exact ⟨HR1.out, HF.out⟩⟩
                  case measure => simp [intOf]; omega
          · obtain rfl : m = 3 := by omega
            go_wp2_with fail
            go_roundw
            case rel => exact ⟨k + 1, by go_num, by omega, HBm.out, fun j hj => by rcases Nat.lt_or_ge j k with h | h; exact HG.out j h; obtain rfl : j = k := (by omega); exact ⟨HR.out, HG2.out⟩⟩
            case measure => simp [intOf]; omega
      · have HT := Lib.hid (tmpB_no (d := d) fun t => by have := t.three k (by rw [HL.out]; exact hlt); rw [HR.out] at this; exact h3 this)
        have h3' : ((n1 : Int) != 3) = true := by simp; omega
        go_wp2_with fail
        go_ret
        exact ⟨ret_bool HT.out.symm, below_tr HB.out HB0.out⟩
    · obtain rfl : k = n := by omega
      go_wp2_with fail
      clear x0 hlt hk
      have HG0 := Lib.hid HG.out
      go_loopw [7] (fun i wr => ∃ q : Nat, i = .int .i64 q ∧ q ≤ k ∧ Below w1.heap.size w1 wr ∧ ∀ j, j < q → (∀ i, i < 3 → BkT d j i) ∧ CmT d j) (fun i _ => k - (intOf i).toNat)
      case atStart => exact ⟨0, rfl, Nat.zero_le _, HB.out, fun j hj => absurd hj (by omega)⟩
      case round =>
        obtain ⟨q, rfl, hq, hb, hgood⟩ := hrel
        clear HB HG
        have HG := Lib.hid hgood
        have HB := Lib.hid hb
        clear hgood
        by_cases hlt : q < k
        · obtain ⟨a1, n1, c1, hc, hi⟩ := H1.out q hlt
          obtain rfl : n1 = 3 := by rw [← hi.1]; exact (HG0.out q hlt).1
          have HC := Lib.hid hc
          have HI := Lib.hid hi
          clear hc hi hb
          go_wp2_with fail
          go_loopw [8] (fun i wr => ∃ m : Nat, i = .int .i64 m ∧ m ≤ 3 ∧ Below w1.heap.size w1 wr ∧ ∀ i, i < m → BkT d q i) (fun i _ => 3 - (intOf i).toNat)
          case atStart => exact ⟨0, rfl, Nat.zero_le _, HB.out, fun j hj => absurd hj (by omega)⟩
          case round =>
            obtain ⟨m, rfl, hm, hb, hg2⟩ := hrel
            have HG2 := Lib.hid hg2
            have HBm := Lib.hid hb
            have x0 := (HX.out.belowS hb).cell 0
            simp at x0
            clear hg2
            by_cases hlt2 : m < 3
            · have hc' := (hb.cell (p := ⟨b, off + q, none⟩) (World.block_lt_of_cell? w1 _ HC.out)).trans HC.out
              obtain ⟨b1, o1, rfl, p1, p2⟩ := (HI.out.below hb).at_ hlt2
              have hTP : tP d q m = kA (lget d q) m := rfl
              have hTM : tM d q m = kB (lget d q) m := rfl
              have hrg := ((HG0.out q hlt).2 m hlt2).1
              unfold RgT at hrg
              rw [hTP, HL.out] at hrg
              obtain ⟨r, hr⟩ : ∃ r : Nat, kA (lget d q) m = (r : Int) := ⟨(kA (lget d q) m).toNat, by omega⟩
              have hrk : r < k := by omega
              rw [hr] at hTP p1
              generalize kB (lget d q) m = Y at *
              have HTP := Lib.hid hTP
              have HTM := Lib.hid hTM
              obtain ⟨a2, n2, c2, gc, gi⟩ := H1.out r hrk
              obtain rfl : n2 = 3 := by rw [← gi.1]; exact (HG0.out r hrk).1
              obtain ⟨b2, o2, rfl, p3, p4⟩ := (gi.below hb).at_ hlt2
              have gc' := (hb.cell (p := ⟨b, off + r, none⟩) (World.block_lt_of_cell? w1 _ gc)).trans gc
              have hTP2 : tP d r m = kA (lget d r) m := rfl
              have hTM2 : tM d r m = kB (lget d r) m := rfl
              generalize kA (lget d r) m = V at *
              generalize kB (lget d r) m = U at *
              have HTP2 := Lib.hid hTP2
              have HTM2 := Lib.hid hTM2
              have z1 := ((HX.out.belowS hb).alloc (.cells #[.int .i64 r, .int .i64 Y] 143)).cell 0
              have z2 := (hb.alloc hb.size (.cells #[.int .i64 r, .int .i64 Y] 143)).cell (p := ⟨b, off + r, none⟩) (World.block_lt_of_cell? w1 _ gc)
              rw [gc] at z2
              have z3 := ((below_alloc1 wr (.cells #[.int .i64 r, .int .i64 Y] 143)).cell (p := ⟨b2, o2 + m * 2, none⟩) (World.block_lt_of_cell? wr _ p3)).trans p3
              have z4 := ((below_alloc1 wr (.cells #[.int .i64 r, .int .i64 Y] 143)).cell (p := ⟨b2, o2 + m * 2 + 1, none⟩) (World.block_lt_of_cell? wr _ p4)).trans p4
              simp at z1
              clear hTP hTM hTP2 hTM2 hb hr gi gc hrg
              by_cases hv : V = (q : Int)
              · have hv2 : (V != (q : Int)) = false := by simpa using hv
                by_cases hu : U = Y
                · have hu2 : (U != Y) = false := by simpa using hu
                  have HK : Hid (BkT d q m) := Lib.hid (by unfold BkT; rw [HTP.out, HTM.out, show ((r : Int)).toNat = r by omega, HTP2.out, HTM2.out]; exact ⟨hv, hu⟩)
                  clear hv hu
                  go_wp2_with fail
                  go_roundw
                  case rel => exact ⟨m + 1, by go_num, by omega, ((HBm.out.alloc HBm.out.size _).alloc (by have := HBm.out.size; simp; omega) _), fun i hi => by rcases Nat.lt_or_ge i m with h | h; exact HG2.out i h; obtain rfl : i = m := (by omega); exact HK.out⟩
                  case measure => simp [intOf]; omega
                · have hu2 : (U != Y) = true := by simpa using hu
                  have HT := Lib.hid (tmpB_no (d := d) fun t => by have h1 := t.back q (by rw [HL.out]; exact hlt) m hlt2; unfold BkT at h1; rw [HTP.out, HTM.out, show ((r : Int)).toNat = r by omega, HTP2.out, HTM2.out] at h1; exact hu h1.2)
                  clear hv hu
                  go_wp2_with fail
                  go_ret
                  exact ⟨ret_bool HT.out.symm, ((below_tr HBm.out HB0.out).alloc (below_tr HBm.out HB0.out).size _).alloc (by have := (below_tr HBm.out HB0.out).size; simp; omega) _⟩
              · have hv2 : (V != (q : Int)) = true := by simpa using hv
                have HT := Lib.hid (tmpB_no (d := d) fun t => by have h1 := t.back q (by rw [HL.out]; exact hlt) m hlt2; unfold BkT at h1; rw [HTP.out, HTM.out, show ((r : Int)).toNat = r by omega, HTP2.out, HTM2.out] at h1; exact hv h1.1)
                clear hv
                go_wp2_with fail
                go_ret
                exact ⟨ret_bool HT.out.symm, ((below_tr HBm.out HB0.out).alloc (below_tr HBm.out HB0.out).size _).alloc (by have := (below_tr HBm.out HB0.out).size; simp; omega) _⟩
            · obtain rfl : m = 3 := by omega
              go_wp2_with fail
              have hc' := (hb.cell (p := ⟨b, off + q, none⟩) (World.block_lt_of_cell? w1 _ HC.out)).trans HC.out
              obtain ⟨b1, o1, rfl, p0, p1⟩ := (HI.out.below hb).at_ (k := 0) (by omega)
              obtain ⟨b1', o1', e1, p4, p5⟩ := (HI.out.below hb).at_ (k := 2) (by omega)
              injection e1 with e1; injection e1 with e1 e2 e3
              subst e1 e2
              clear e3
              have q0 : wr.cell? ⟨b1, o1, none⟩ = some (.int .i64 (kA (lget d q) 0)) := p0
              have q1 : wr.cell? ⟨b1, o1 + 1, none⟩ = some (.int .i64 (kB (lget d q) 0)) := by simpa using p1
              have q4 : wr.cell? ⟨b1, o1 + 4, none⟩ = some (.int .i64 (kA (lget d q) 2)) := p4
              have q5 : wr.cell? ⟨b1, o1 + 4 + 1, none⟩ = some (.int .i64 (kB (lget d q) 2)) := p5
              clear p0 p1 p4 p5
              have hrg0 := ((HG0.out q hlt).2 0 (by omega)).1
              have hrg2 := ((HG0.out q hlt).2 2 (by omega)).1
              unfold RgT at hrg0 hrg2
              have hT0 : tP d q 0 = kA (lget d q) 0 := rfl
              have hT2 : tP d q 2 = kA (lget d q) 2 := rfl
              have hN0 : tM d q 0 = kB (lget d q) 0 := rfl
              have hN2 : tM d q 2 = kB (lget d q) 2 := rfl
              rw [hT0, hN0, HL.out] at hrg0
              rw [hT2, hN2, HL.out] at hrg2
              obtain ⟨r1, hr1⟩ : ∃ r : Nat, kA (lget d q) 0 = (r : Int) := ⟨(kA (lget d q) 0).toNat, by omega⟩
              obtain ⟨r2, hr2⟩ : ∃ r : Nat, kA (lget d q) 2 = (r : Int) := ⟨(kA (lget d q) 2).toNat, by omega⟩
              have hr1k : r1 < k := by omega
              have hr2k : r2 < k := by omega
              have hM0 : -1 ≤ kB (lget d q) 0 ∧ kB (lget d q) 0 ≤ 2 := hrg0.2
              have hM2 : -1 ≤ kB (lget d q) 2 ∧ kB (lget d q) 2 ≤ 2 := hrg2.2
              rw [hr1] at q0 hT0
              rw [hr2] at q4 hT2
              clear hr1 hr2 hrg0 hrg2
              generalize kB (lget d q) 0 = M0 at *
              generalize kB (lget d q) 2 = M2 at *
              have HT0 := Lib.hid hT0
              have HT2 := Lib.hid hT2
              have HN0 := Lib.hid hN0
              have HN2 := Lib.hid hN2
              clear hT0 hT2 hN0 hN2
              have hS : ∀ w', Below wr.heap.size wr w' → (Below wr.heap.size wr w' ∧ w'.cell? ⟨w.heap.size, 0, none⟩ = some (.slice (some ⟨b, off, none⟩) k c) ∧ w'.cell? ⟨b, off + q, none⟩ = some (.slice (some ⟨b1, o1, none⟩) 3 c1) ∧ w'.cell? ⟨b1, o1, none⟩ = some (.int .i64 (r1 : Int)) ∧ w'.cell? ⟨b1, o1 + 1, none⟩ = some (.int .i64 M0) ∧ w'.cell? ⟨b1, o1 + 4, none⟩ = some (.int .i64 (r2 : Int)) ∧ w'.cell? ⟨b1, o1 + 4 + 1, none⟩ = some (.int .i64 M2)) := fun w' hb =>
                ⟨hb, (hb.cell (World.block_lt_of_cell? wr _ x0)).trans x0, (hb.cell (World.block_lt_of_cell? wr _ hc')).trans hc', (hb.cell (World.block_lt_of_cell? wr _ q0)).trans q0, (hb.cell (World.block_lt_of_cell? wr _ q1)).trans q1, (hb.cell (World.block_lt_of_cell? wr _ q4)).trans q4, (hb.cell (World.block_lt_of_cell? wr _ q5)).trans q5⟩
              have HS := Lib.hid hS
              clear hS x0 hc' q0 q1 q4 q5 hb
              rename_i K hK
              have tail : ∀ (b11 b12 : Nat) (wf : World), Below wr.heap.size wr wf → Blk wf b11 143 #[.int .i64 (r1 : Int), .int .i64 M0] → Blk wf b12 143 #[.int .i64 (r2 : Int), .int .i64 M2] → K { tmps := #[Value.agg #[Value.slice (some ⟨b, off, none⟩) k c], Value.pointer (some ⟨w.heap.size, 0, none⟩), u2, Value.int IntKind.i64 (k : Int), Value.int IntKind.i64 (k : Int), u5, u6, Value.int IntKind.i64 (q : Int), Value.int IntKind.i64 3, u9, u10, Value.pointer (some ⟨b11, 0, none⟩), Value.pointer (some ⟨b12, 0, none⟩), u13, u14, Value.pointer (some ⟨w.heap.size, 0, none⟩), Value.slice (some ⟨b, off, none⟩) k c, Value.int IntKind.i64 (k : Int), Value.int IntKind.i64 (k : Int), Value.bool false, Value.bool false, Value.int IntKind.i64 (k : Int), Value.bool false, Value.bool false, Value.int IntKind.i64 (k : Int), Value.int IntKind.i64 (k : Int), Value.bool false, u27, u28, u29, u30, u31, u32, u33, u34, u35, u36, u37, u38, u39, u40, u41, u42, u43, u44, u45, u46, u47, u48, u49, u50, u51, u52, u53, u54, u55, u56, u57, u58, u59, u60, u61, u62, u63, u64, u65, u66, u67, u68, u69, u70, Value.int IntKind.i64 (q : Int), Value.int IntKind.i64 (k : Int), Value.bool true, u74, u75, Value.int IntKind.i64 3, Value.bool false, u78, u79, u80, u81, u82, u83, u84, u85, u86, u87, u88, u89, u90, u91, u92, u93, u94, u95, u96, u97, u98, u99, u100, u101, u102, u103, u104, u105, u106, u107, Value.pointer (some ⟨w.heap.size, 0, none⟩), Value.slice (some ⟨b, off, none⟩) k c, Value.int IntKind.i64 (q : Int), Value.pointer (some ⟨b, off + q, none⟩), Value.slice (some ⟨b1, o1, none⟩) 3 c1, Value.pointer (some ⟨b1, o1, none⟩), Value.agg #[Value.int IntKind.i64 (r1 : Int), Value.int IntKind.i64 M0], Value.pointer (some ⟨w.heap.size, 0, none⟩), Value.slice (some ⟨b, off, none⟩) k c, Value.int IntKind.i64 (q : Int), Value.pointer (some ⟨b, off + q, none⟩), Value.slice (some ⟨b1, o1, none⟩) 3 c1, Value.pointer (some ⟨b1, o1 + 4, none⟩), Value.agg #[Value.int IntKind.i64 (r2 : Int), Value.int IntKind.i64 M2], u122, u123, u124, u125, u126, u127, u128, u129, u130, u131, u132, u133, u134, u135, u136, u137, u138, u139, u140, u141, u142, u143, u144, u145, u146, u147, u148, u149, u150, u151, u152, u153, u154, u155, u156, u157, u158, u159, u160, u161, u162, u163, u164, u165, u166, u167, u168, u169, u170, u171, u172, u173, u174, u175, u176, u177], defers := [] } wf := by
                intro b11 b12 wf hbf kb11 kb12
                refine hK _ _ ?_
                clear hK HS
                have hbf1 : Below w1.heap.size w1 wf := HBm.out.trans (hbf.mono HBm.out.size)
                obtain ⟨a3, n3, c3, gc1, gi1⟩ := H1.out r1 hr1k
                obtain rfl : n3 = 3 := by rw [← gi1.1]; exact (HG0.out r1 hr1k).1
                obtain ⟨b3, o3, rfl, s4, s5⟩ := (gi1.below hbf1).at_ (k := 2) (by omega)
                obtain ⟨a4, n4, c4, gc2, gi2⟩ := H1.out r2 hr2k
                obtain rfl : n4 = 3 := by rw [← gi2.1]; exact (HG0.out r2 hr2k).1
                obtain ⟨b4, o4, rfl, s0, s1⟩ := (gi2.below hbf1).at_ (k := 0) (by omega)
                have s4 : wf.cell? ⟨b3, o3 + 4, none⟩ = some (.int .i64 (kA (lget d r1) 2)) := s4
                have s5 : wf.cell? ⟨b3, o3 + 4 + 1, none⟩ = some (.int .i64 (kB (lget d r1) 2)) := s5
                have s0 : wf.cell? ⟨b4, o4, none⟩ = some (.int .i64 (kA (lget d r2) 0)) := s0
                have s1 : wf.cell? ⟨b4, o4 + 1, none⟩ = some (.int .i64 (kB (lget d r2) 0)) := by simpa using s1
                have gc1' := (hbf1.cell (World.block_lt_of_cell? w1 _ gc1)).trans gc1
                have gc2' := (hbf1.cell (World.block_lt_of_cell? w1 _ gc2)).trans gc2
                have hA : tP d r1 2 = kA (lget d r1) 2 := rfl
                have hAM : tM d r1 2 = kB (lget d r1) 2 := rfl
                have hB : tP d r2 0 = kA (lget d r2) 0 := rfl
                have hBM : tM d r2 0 = kB (lget d r2) 0 := rfl
                generalize kA (lget d r1) 2 = A at *
                generalize kB (lget d r1) 2 = AM at *
                generalize kA (lget d r2) 0 = B at *
                generalize kB (lget d r2) 0 = BM at *
                have HA := Lib.hid (And.intro hA (And.intro hAM (And.intro hB hBM)))
                have y0 := (HX.out.belowS hbf1).cell 0
                simp at y0
                have y1 := kb11.cell 0
                have y2 := kb12.cell 0
                simp at y1 y2
                have hS : ∀ w', Below wf.heap.size wf w' → (Below wf.heap.size wf w' ∧ w'.cell? ⟨w.heap.size, 0, none⟩ = some (.slice (some ⟨b, off, none⟩) k c) ∧ w'.cell? ⟨b11, 0, none⟩ = some (.int .i64 (r1 : Int)) ∧ w'.cell? ⟨b12, 0, none⟩ = some (.int .i64 (r2 : Int)) ∧ w'.cell? ⟨b, off + r1, none⟩ = some (.slice (some ⟨b3, o3, none⟩) 3 c3) ∧ w'.cell? ⟨b, off + r2, none⟩ = some (.slice (some ⟨b4, o4, none⟩) 3 c4) ∧ w'.cell? ⟨b3, o3 + 4, none⟩ = some (.int .i64 A) ∧ w'.cell? ⟨b3, o3 + 4 + 1, none⟩ = some (.int .i64 AM) ∧ w'.cell? ⟨b4, o4, none⟩ = some (.int .i64 B) ∧ w'.cell? ⟨b4, o4 + 1, none⟩ = some (.int .i64 BM)) := fun w' hb =>
                  ⟨hb, (hb.cell (World.block_lt_of_cell? wf _ y0)).trans y0, (hb.cell (World.block_lt_of_cell? wf _ y1)).trans y1, (hb.cell (World.block_lt_of_cell? wf _ y2)).trans y2, (hb.cell (World.block_lt_of_cell? wf _ gc1')).trans gc1', (hb.cell (World.block_lt_of_cell? wf _ gc2')).trans gc2', (hb.cell (World.block_lt_of_cell? wf _ s4)).trans s4, (hb.cell (World.block_lt_of_cell? wf _ s5)).trans s5, (hb.cell (World.block_lt_of_cell? wf _ s0)).trans s0, (hb.cell (World.block_lt_of_cell? wf _ s1)).trans s1⟩
                have HS := Lib.hid hS
                have HK11 := Lib.hid kb11
                have HK12 := Lib.hid kb12
                have HBF := Lib.hid (And.intro hbf hbf1)
                clear hS y0 y1 y2 gc1 gc2 gi1 gi2 gc1' gc2' s0 s1 s4 s5 hA hAM hB hBM kb11 kb12 hbf hbf1
                go_wp2_with fail
                rename_i K2 hK2
                have tail2 : ∀ (b13 b14 : Nat) (wg : World), Below wf.heap.size wf wg → Blk wg b13 143 #[.int .i64 A, .int .i64 AM] → Blk wg b14 143 #[.int .i64 B, .int .i64 BM] → K2 { tmps := #[Value.agg #[Value.slice (some ⟨b, off, none⟩) k c], Value.pointer (some ⟨w.heap.size, 0, none⟩), u2, Value.int IntKind.i64 (k : Int), Value.int IntKind.i64 (k : Int), u5, u6, Value.int IntKind.i64 (q : Int), Value.int IntKind.i64 3, u9, u10, Value.pointer (some ⟨b11, 0, none⟩), Value.pointer (some ⟨b12, 0, none⟩), Value.pointer (some ⟨b13, 0, none⟩), Value.pointer (some ⟨b14, 0, none⟩), Value.pointer (some ⟨w.heap.size, 0, none⟩), Value.slice (some ⟨b, off, none⟩) k c, Value.int IntKind.i64 (k : Int), Value.int IntKind.i64 (k : Int), Value.bool false, Value.bool false, Value.int IntKind.i64 (k : Int), Value.bool false, Value.bool false, Value.int IntKind.i64 (k : Int), Value.int IntKind.i64 (k : Int), Value.bool false, u27, u28, u29, u30, u31, u32, u33, u34, u35, u36, u37, u38, u39, u40, u41, u42, u43, u44, u45, u46, u47, u48, u49, u50, u51, u52, u53, u54, u55, u56, u57, u58, u59, u60, u61, u62, u63, u64, u65, u66, u67, u68, u69, u70, Value.int IntKind.i64 (q : Int), Value.int IntKind.i64 (k : Int), Value.bool true, u74, u75, Value.int IntKind.i64 3, Value.bool false, u78, u79, u80, u81, u82, u83, u84, u85, u86, u87, u88, u89, u90, u91, u92, u93, u94, u95, u96, u97, u98, u99, u100, u101, u102, u103, u104, u105, u106, u107, Value.pointer (some ⟨w.heap.size, 0, none⟩), Value.slice (some ⟨b, off, none⟩) k c, Value.int IntKind.i64 (q : Int), Value.pointer (some ⟨b, off + q, none⟩), Value.slice (some ⟨b1, o1, none⟩) 3 c1, Value.pointer (some ⟨b1, o1, none⟩), Value.agg #[Value.int IntKind.i64 (r1 : Int), Value.int IntKind.i64 M0], Value.pointer (some ⟨w.heap.size, 0, none⟩), Value.slice (some ⟨b, off, none⟩) k c, Value.int IntKind.i64 (q : Int), Value.pointer (some ⟨b, off + q, none⟩), Value.slice (some ⟨b1, o1, none⟩) 3 c1, Value.pointer (some ⟨b1, o1 + 4, none⟩), Value.agg #[Value.int IntKind.i64 (r2 : Int), Value.int IntKind.i64 M2], Value.pointer (some ⟨w.heap.size, 0, none⟩), Value.slice (some ⟨b, off, none⟩) k c, Value.pointer (some ⟨b11, 0, none⟩), Value.int IntKind.i64 (r1 : Int), Value.pointer (some ⟨b, off + r1, none⟩), Value.slice (some ⟨b3, o3, none⟩) 3 c3, Value.pointer (some ⟨b3, o3 + 4, none⟩), Value.agg #[Value.int IntKind.i64 A, Value.int IntKind.i64 AM], Value.pointer (some ⟨w.heap.size, 0, none⟩), Value.slice (some ⟨b, off, none⟩) k c, Value.pointer (some ⟨b12, 0, none⟩), Value.int IntKind.i64 (r2 : Int), Value.pointer (some ⟨b, off + r2, none⟩), Value.slice (some ⟨b4, o4, none⟩) 3 c4, Value.pointer (some ⟨b4, o4, none⟩), Value.agg #[Value.int IntKind.i64 B, Value.int IntKind.i64 BM], u138, u139, u140, u141, u142, u143, u144, u145, u146, u147, u148, u149, u150, u151, u152, u153, u154, u155, u156, u157, u158, u159, u160, u161, u162, u163, u164, u165, u166, u167, u168, u169, u170, u171, u172, u173, u174, u175, u176, u177], defers := [] } wg := by
                  intro b13 b14 wg hbg kb13 kb14
                  refine hK2 _ _ ?_
                  clear hK2 HS
                  have c0 := (HK11.out.belowS hbg).cell 0
                  have c1' := (HK11.out.belowS hbg).cell 1
                  have c2 := (HK12.out.belowS hbg).cell 0
                  have c3' := (HK12.out.belowS hbg).cell 1
                  have c4' := kb13.cell 0
                  have c5 := kb13.cell 1
                  have c6 := kb14.cell 0
                  have c7 := kb14.cell 1
                  simp at c0 c1' c2 c3' c4' c5 c6 c7
                  have hbw : Below w1.heap.size w1 wg := HBF.out.2.trans (hbg.mono HBF.out.2.size)
                  have HBW := Lib.hid (And.intro hbw (below_tr hbw HB0.out))
                  have HNo : Hid (¬ CmT d q → tmpB d = false) := Lib.hid fun hn => tmpB_no fun t => hn (t.comm q (by rw [HL.out]; exact hlt))
                  have HCm : Hid (CmT d q ↔ A = B ∧ AM = M2 ∧ BM = M0 ∧ cmM M0 M2 = true ∧ ¬ (M0 = M2 ∧ A = (q : Int))) := Lib.hid (by
                    unfold CmT
                    rw [HT0.out, HT2.out, HN0.out, HN2.out, show ((r1 : Int)).toNat = r1 by omega, show ((r2 : Int)).toNat = r2 by omega, HA.out.1, HA.out.2.1, HA.out.2.2.1, HA.out.2.2.2])
                  clear kb13 kb14 hbg hbw
                  by_cases hA1 : A = B
                  · have t1 : (A != B) = false := by simpa using hA1
                    by_cases hA2 : AM = M2
                    · have t2 : (AM != M2) = false := by simpa using hA2
                      by_cases hA3 : BM = M0
                      · have t3 : (BM != M0) = false := by simpa using hA3
                        cases hcm : cmM M0 M2 with
                        | false =>
                          have HT := Lib.hid (HNo.out fun h => by have := (HCm.out.1 h).2.2.2.1; rw [hcm] at this; cases this)
                          have HC := Lib.hid hcm
                          clear hA1 hA2 hA3 hcm
                          go_wp2_with (go_at_call 154; refine (specCm_any M0 M2 _ hM0 hM2).mono ?_; rintro e w' ⟨rfl, rfl⟩; rw [HC.out])
                          go_ret
                          exact ⟨ret_bool HT.out.symm, HBW.out.2⟩
                        | true =>
                          have HC := Lib.hid hcm
                          by_cases hA4 : M0 = M2
                          · have t4 : (M0 == M2) = true := by simpa using hA4
                            by_cases hA5 : A = (q : Int)
                            · have t5 : (A == (q : Int)) = true := by simpa using hA5
                              have HT := Lib.hid (HNo.out fun h => (HCm.out.1 h).2.2.2.2 ⟨hA4, hA5⟩)
                              clear hA1 hA2 hA3 hA4 hA5 hcm
                              go_wp2_with (go_at_call 154; refine (specCm_any M0 M2 _ hM0 hM2).mono ?_; rintro e w' ⟨rfl, rfl⟩; rw [HC.out])
                              go_ret
                              exact ⟨ret_bool HT.out.symm, HBW.out.2⟩
                            · have t5 : (A == (q : Int)) = false := by simpa using hA5
                              have HK := Lib.hid (HCm.out.2 ⟨hA1, hA2, hA3, hcm, fun h => hA5 h.2⟩)
                              clear hA1 hA2 hA3 hA4 hA5 hcm
                              go_wp2_with (go_at_call 154; refine (specCm_any M0 M2 _ hM0 hM2).mono ?_; rintro e w' ⟨rfl, rfl⟩; rw [HC.out])
                              go_roundw
                              case rel => exact ⟨q + 1, by go_num, by omega, HBW.out.1, fun j hj => by rcases Nat.lt_or_ge j q with h | h; exact HG.out j h; obtain rfl : j = q := (by omega); exact ⟨HG2.out, HK.out⟩⟩
                              case measure => simp [intOf]; omega
                          · have t4 : (M0 == M2) = false := by simpa using hA4
                            have HK := Lib.hid (HCm.out.2 ⟨hA1, hA2, hA3, hcm, fun h => hA4 h.1⟩)
                            clear hA1 hA2 hA3 hA4 hcm
                            go_wp2_with (go_at_call 154; refine (specCm_any M0 M2 _ hM0 hM2).mono ?_; rintro e w' ⟨rfl, rfl⟩; rw [HC.out])
                            go_roundw
                            case rel => exact ⟨q + 1, by go_num, by omega, HBW.out.1, fun j hj => by rcases Nat.lt_or_ge j q with h | h; exact HG.out j h; obtain rfl : j = q := (by omega); exact ⟨HG2.out, HK.out⟩⟩
                            case measure => simp [intOf]; omega
                      · have t3 : (BM != M0) = true := by simpa using hA3
                        have HT := Lib.hid (HNo.out fun h => hA3 (HCm.out.1 h).2.2.1)
                        clear hA1 hA2 hA3
                        go_wp2_with fail
                        go_ret
                        exact ⟨ret_bool HT.out.symm, HBW.out.2⟩
                    · have t2 : (AM != M2) = true := by simpa using hA2
                      have HT := Lib.hid (HNo.out fun h => hA2 (HCm.out.1 h).2.1)
                      clear hA1 hA2
                      go_wp2_with fail
                      go_ret
                      exact ⟨ret_bool HT.out.symm, HBW.out.2⟩
                  · have t1 : (A != B) = true := by simpa using hA1
                    have HT := Lib.hid (HNo.out fun h => hA1 (HCm.out.1 h).1)
                    clear hA1
                    go_wp2_with fail
                    go_ret
                    exact ⟨ret_bool HT.out.symm, HBW.out.2⟩
                clear hK2
                go_region_held3 (fun w' => Below wf.heap.size wf w' ∧ w'.cell? ⟨w.heap.size, 0, none⟩ = some (.slice (some ⟨b, off, none⟩) k c) ∧ w'.cell? ⟨b11, 0, none⟩ = some (.int .i64 (r1 : Int)) ∧ w'.cell? ⟨b12, 0, none⟩ = some (.int .i64 (r2 : Int)) ∧ w'.cell? ⟨b, off + r1, none⟩ = some (.slice (some ⟨b3, o3, none⟩) 3 c3) ∧ w'.cell? ⟨b, off + r2, none⟩ = some (.slice (some ⟨b4, o4, none⟩) 3 c4) ∧ w'.cell? ⟨b3, o3 + 4, none⟩ = some (.int .i64 A) ∧ w'.cell? ⟨b3, o3 + 4 + 1, none⟩ = some (.int .i64 AM) ∧ w'.cell? ⟨b4, o4, none⟩ = some (.int .i64 B) ∧ w'.cell? ⟨b4, o4 + 1, none⟩ = some (.int .i64 BM))
                  (first | exact HS.out _ (below_drew1 _) | exact HS.out _ (below_alloc1 _ _).drew | exact HS.out _ (below_alloc2 _ _ _).drew | exact HS.out _ (Below.alloc (And.left (by assumption)) (Below.size (And.left (by assumption))) _))
                  (fail)
                all_goals first
                  | exact tail2 wf.heap.size (wf.heap.size + 1) _ (below_alloc2 _ _ _).drew ((blk_at (w := wf) rfl).alloc _) (blk_at (by simp))
                  | exact tail2 (wf.heap.size + 1) wf.heap.size _ (below_alloc2 _ _ _).drew (blk_at (by simp)) ((blk_at (w := wf) rfl).alloc _)
              clear hK
              go_region_held3 (fun w' => Below wr.heap.size wr w' ∧ w'.cell? ⟨w.heap.size, 0, none⟩ = some (.slice (some ⟨b, off, none⟩) k c) ∧ w'.cell? ⟨b, off + q, none⟩ = some (.slice (some ⟨b1, o1, none⟩) 3 c1) ∧ w'.cell? ⟨b1, o1, none⟩ = some (.int .i64 (r1 : Int)) ∧ w'.cell? ⟨b1, o1 + 1, none⟩ = some (.int .i64 M0) ∧ w'.cell? ⟨b1, o1 + 4, none⟩ = some (.int .i64 (r2 : Int)) ∧ w'.cell? ⟨b1, o1 + 4 + 1, none⟩ = some (.int .i64 M2))
                (first | exact HS.out _ (below_drew1 _) | exact HS.out _ (below_alloc1 _ _).drew | exact HS.out _ (below_alloc2 _ _ _).drew | exact HS.out _ (Below.alloc (And.left (by assumption)) (Below.size (And.left (by assumption))) _))
                (fail)
              all_goals first
                | exact tail wr.heap.size (wr.heap.size + 1) _ (below_alloc2 _ _ _).drew ((blk_at (w := wr) rfl).alloc _) (blk_at (by simp))
                | exact tail (wr.heap.size + 1) wr.heap.size _ (below_alloc2 _ _ _).drew (blk_at (by simp)) ((blk_at (w := wr) rfl).alloc _)
        · obtain rfl : q = k := by omega
          have HT := Lib.hid (tmpB_yes (d := d) ⟨by rw [HL.out]; omega, by rw [HL.out]; omega, fun j hj => (HG0.out j (by rw [← HL.out]; exact hj)).1, fun j hj i hi => ((HG0.out j (by rw [← HL.out]; exact hj)).2 i hi).1, fun j hj i hi => ((HG0.out j (by rw [← HL.out]; exact hj)).2 i hi).2, fun j hj => (HG.out j (by rw [← HL.out]; exact hj)).1, fun j hj => (HG.out j (by rw [← HL.out]; exact hj)).2⟩)
          go_wp2_with fail
          go_ret
          exact ⟨ret_bool HT.out.symm, below_tr HB.out HB0.out⟩
end Go.Proofs.Ytpognnifgcacnaa

/- The program's test of a template; IsTemplate on both sides. -/
namespace Go.Proofs.Ytpognnifgcacnaa
open Go.RowKit

theorem any_rng {n : Int} {ks : List (Int × Int)} (h : ks.any (badTg n) = false) {i : Nat} (hi : i < ks.length) : (0 ≤ kA ks i ∧ kA ks i ≤ n - 1) ∧ -1 ≤ kB ks i ∧ kB ks i ≤ 2 := by
  have := (List.any_eq_false.1 h) (kA ks i, kB ks i) (by rw [kAB hi]; exact List.getElem_mem hi)
  unfold badTg at this
  simp at this
  exact ⟨inB_true.1 this.1, inB_true.1 this.2⟩
theorem any_bad {n : Int} {ks : List (Int × Int)} (h : ks.any (badTg n) = true) : ∃ i, i < ks.length ∧ ¬ ((0 ≤ kA ks i ∧ kA ks i ≤ n - 1) ∧ -1 ≤ kB ks i ∧ kB ks i ≤ 2) := by
  obtain ⟨x, hx, hp⟩ := List.any_eq_true.1 h
  obtain ⟨i, hi, rfl⟩ := List.mem_iff_getElem.1 hx
  refine ⟨i, hi, fun hg => ?_⟩
  rw [← kAB hi] at hp
  unfold badTg at hp
  rw [inB_true.2 hg.1, inB_true.2 hg.2] at hp
  cases hp

set_option maxRecDepth 100000 in
set_option maxHeartbeats 3200000 in
theorem implTmp_any (ao : Option Addr) (n c : Nat) (d : List (List (Int × Int))) (w : World) (h : Tgtss w ao n d) :
    Calls Try.prog 84 #[.agg #[.slice ao n c]] w fun e w' => e = .returned (.bool (tmpB d)) ∧ Below w.heap.size w w' := by
  have hl := h.1
  have hbd := h.2.1
  cases hcn : inB (n : Int) 1 12 with
  | false =>
    have HP := Lib.hid hcn
    have HT := Lib.hid (tmpB_no (d := d) fun t => by have h1 := t.one; have h2 := t.few; have := inB_false.1 hcn; omega)
    clear h hcn hl
    go_enter Try.func84, Try.ntmps84
    go_wp2_with (first | (go_at_call 87; refine (sizeT_any _ _ _ _).mono ?_; rintro e w' ⟨rfl, rfl⟩) | (go_at_call 97; refine (within_any _ _ _ _).mono ?_; rintro e w' ⟨rfl, rfl⟩; rw [HP.out]))
    go_ret
    exact ⟨ret_bool HT.out.symm, below_alloc2 _ _ _⟩
  | true =>
  have hn1 := inB_true.1 hcn
  have HP := Lib.hid hcn
  have HL := Lib.hid hl
  clear hl hcn
  go_enter Try.func84, Try.ntmps84
  go_wp2_with (first | (go_at_call 87; refine (sizeT_any _ _ _ _).mono ?_; rintro e w' ⟨rfl, rfl⟩) | (go_at_call 97; refine (within_any _ _ _ _).mono ?_; rintro e w' ⟨rfl, rfl⟩; rw [HP.out]))
  obtain ⟨w1, hw1⟩ : ∃ w1, w1 = (w.alloc (.cells #[.slice ao n c] 29)).alloc (.cells #[.int .i64 n] 2) := ⟨_, rfl⟩
  have hB0 : Below w.heap.size w w1 := by rw [hw1]; exact below_alloc2 _ _ _
  have hbx : Blk w1 w.heap.size 29 #[.slice ao n c] := by rw [hw1]; exact (blk_at rfl).alloc _
  have hby : Blk w1 (w.heap.size + 1) 2 #[.int .i64 n] := by rw [hw1]; exact blk_at (by simp)
  rw [← hw1]
  have h1 := h.below hB0
  have HH := Lib.hid h1
  obtain ⟨b, off, rfl, hrow⟩ : ∃ b off, ao = some ⟨b, off, none⟩ ∧ ∀ j, j < n → ∃ a' n' c', w1.cell? ⟨b, off + j, none⟩ = some (.slice a' n' c') ∧ Tgts w1 a' n' (lget d j) := by
    obtain ⟨b, off, e, hc⟩ := h1.2.2 (by omega)
    refine ⟨b, off, e, fun j hj => ?_⟩
    obtain ⟨u, h2, a', n', c', rfl, h3⟩ := hc j hj
    exact ⟨a', n', c', h2, h3⟩
  have H1 := Lib.hid hrow
  have HB0 := Lib.hid hB0
  have HX := Lib.hid hbx
  have HY := Lib.hid hby
  have x0 := hbx.cell 0
  simp at x0
  clear h h1 hB0 hbx hby hw1 hrow
  go_loopw [20] (fun i wr => ∃ k : Nat, i = .int .i64 k ∧ k ≤ n ∧ Below w1.heap.size w1 wr ∧ ∀ j, j < k → (lget d j).length = 3 ∧ ∀ i, i < 3 → RgT d j i) (fun i _ => n - (intOf i).toNat)
  case atStart => exact ⟨0, rfl, Nat.zero_le _, Below.refl _ _, fun j hj => absurd hj (by omega)⟩
  case round =>
    obtain ⟨k, rfl, hk, hb, hgood⟩ := hrel
    have HG := Lib.hid hgood
    have HB := Lib.hid hb
    clear x0
    have x0 := (HX.out.belowS hb).cell 0
    simp at x0
    clear hgood
    by_cases hlt : k < n
    · obtain ⟨a1, n1, c1, hc, hi⟩ := H1.out k hlt
      have hc' := (hb.cell (p := ⟨b, off + k, none⟩) (World.block_lt_of_cell? w1 _ hc)).trans hc
      have HC := Lib.hid hc
      have HI := Lib.hid (hi.below hb)
      have HR := Lib.hid hi.1
      clear hc hi hb
      by_cases h3 : n1 = 3
      · subst h3
        cases hA : (lget d k).any (badTg n) with
        | true =>
          have HA := Lib.hid hA
          have HT := Lib.hid (tmpB_no (d := d) fun t => by
            obtain ⟨i, hi, hbad⟩ := any_bad HA.out
            have h1 := t.rng k (by rw [HL.out]; exact hlt) i (by rw [HR.out] at hi; exact hi)
            unfold RgT tP tM at h1
            rw [HL.out] at h1
            exact hbad h1)
          clear hA
          go_wp2_with fail
          have hmf : ∀ (fn : Fn) (first cap : Array Value) (w : World), (Instr.makeFunc fn first cap).run Try.prog w = .ok (.func fn first cap) w := fun _ _ _ _ => rfl
          go_wp2_with (go_at_call 156; refine (containsFuncT_any 157 #[.pointer (some ⟨w.heap.size + 1, 0, none⟩)] (badTg n) _ _ _ _ _ HI.out (fun _ _ => by rfl) (fun j hj w' hb' => tmpFn_any (w.heap.size + 1) n _ _ w' (((HY.out.belowS HB.out).belowS hb').cell 0) (by omega))).mono ?_; rintro e w' ⟨rfl, hb'⟩; rw [HA.out])
          go_ret
          exact ⟨ret_bool HT.out.symm, below_tr (below_tr hb' HB.out) HB0.out⟩
        | false =>
          have HA := Lib.hid hA
          clear hA
          go_wp2_with fail
          have hmf : ∀ (fn : Fn) (first cap : Array Value) (w : World), (Instr.makeFunc fn first cap).run Try.prog w = .ok (.func fn first cap) w := fun _ _ _ _ => rfl
          go_wp2_with (go_at_call 156; refine (containsFuncT_any 157 #[.pointer (some ⟨w.heap.size + 1, 0, none⟩)] (badTg n) _ _ _ _ _ HI.out (fun _ _ => by rfl) (fun j hj w' hb' => tmpFn_any (w.heap.size + 1) n _ _ w' (((HY.out.belowS HB.out).belowS hb').cell 0) (by omega))).mono ?_; rintro e w' ⟨rfl, hb'⟩; rw [HA.out])
          go_roundw
          case rel => exact ⟨k + 1, by go_num, by omega, below_tr hb' HB.out, fun j hj => by
            rcases Nat.lt_or_ge j k with h | h
            · exact HG.out j h
            · obtain rfl : j = k := (by omega)
              refine ⟨HR.out, fun i hi => ?_⟩
              have := any_rng HA.out (i := i) (by rw [HR.out]; exact hi)
              unfold RgT tP tM
              rw [HL.out]; exact this⟩
          case measure => simp [intOf]; omega
      · have HT := Lib.hid (tmpB_no (d := d) fun t => by have := t.three k (by rw [HL.out]; exact hlt); rw [HR.out] at this; exact h3 this)
        have h3' : ((n1 : Int) != 3) = true := by simp; omega
        go_wp2_with fail
        go_ret
        exact ⟨ret_bool HT.out.symm, below_tr HB.out HB0.out⟩
    · obtain rfl : k = n := by omega
      have HG0 := Lib.hid HG.out
      go_wp2_with fail
      go_loopw [36] (fun i wr => ∃ q : Nat, i = .int .i64 q ∧ q ≤ k ∧ Below w1.heap.size w1 wr ∧ ∀ j, j < q → (∀ i, i < 3 → BkT d j i ∧ ¬ FxT d j i) ∧ CmT d j) (fun i _ => k - (intOf i).toNat)
      case atStart => exact ⟨0, rfl, Nat.zero_le _, HB.out, fun j hj => absurd hj (by omega)⟩
      case round =>
        obtain ⟨q, rfl, hq, hb, hgood⟩ := hrel
        clear HB HG x0
        have HG := Lib.hid hgood
        have HB := Lib.hid hb
        have x0 := (HX.out.belowS hb).cell 0
        simp at x0
        clear hgood
        by_cases hlt2 : q < k
        · obtain ⟨a1, n1, c1, hc, hi⟩ := H1.out q hlt2
          obtain rfl : n1 = 3 := by rw [← hi.1]; exact (HG0.out q hlt2).1
          have hc' := (hb.cell (p := ⟨b, off + q, none⟩) (World.block_lt_of_cell? w1 _ hc)).trans hc
          have HI := Lib.hid hi
          clear hc hi hb
          go_wp2_with fail
          go_loopw [44] (fun i wr => ∃ m : Nat, i = .int .i64 m ∧ m ≤ 3 ∧ Below w1.heap.size w1 wr ∧ ∀ i, i < m → BkT d q i ∧ ¬ FxT d q i) (fun i _ => 3 - (intOf i).toNat)
          case atStart => exact ⟨0, rfl, Nat.zero_le _, HB.out, fun j hj => absurd hj (by omega)⟩
          case round =>
            obtain ⟨m, rfl, hm, hb, hg2⟩ := hrel
            clear x0 hc'
            have HG2 := Lib.hid hg2
            have HBm := Lib.hid hb
            have x0 := (HX.out.belowS hb).cell 0
            simp at x0
            clear hg2
            by_cases hlt3 : m < 3
            · obtain ⟨b1, o1, rfl, p1, p2⟩ := (HI.out.below hb).at_ hlt3
              have hTP : tP d q m = kA (lget d q) m := rfl
              have hTM : tM d q m = kB (lget d q) m := rfl
              have hrg := (HG0.out q hlt2).2 m hlt3
              unfold RgT at hrg
              rw [hTP, HL.out, hTM] at hrg
              obtain ⟨r, hr⟩ : ∃ r : Nat, kA (lget d q) m = (r : Int) := ⟨(kA (lget d q) m).toNat, by omega⟩
              have hrk : r < k := by omega
              rw [hr] at hTP p1
              generalize kB (lget d q) m = Y at *
              have HY1 : Hid (-1 ≤ Y) := Lib.hid hrg.2.1
              have HTP := Lib.hid hTP
              have HTM := Lib.hid hTM
              obtain ⟨a2, n2, c2, gc, gi⟩ := H1.out r hrk
              obtain rfl : n2 = 3 := by rw [← gi.1]; exact (HG0.out r hrk).1
              obtain ⟨b2, o2, rfl, p3, p4⟩ := (gi.below hb).at_ hlt3
              have gc' := (hb.cell (p := ⟨b, off + r, none⟩) (World.block_lt_of_cell? w1 _ gc)).trans gc
              have hTP2 : tP d r m = kA (lget d r) m := rfl
              have hTM2 : tM d r m = kB (lget d r) m := rfl
              generalize kA (lget d r) m = V at *
              generalize kB (lget d r) m = U at *
              have HTP2 := Lib.hid hTP2
              have HTM2 := Lib.hid hTM2
              have HBk : Hid (BkT d q m ↔ V = (q : Int) ∧ U = Y) := Lib.hid (by unfold BkT; rw [HTP.out, HTM.out, show ((r : Int)).toNat = r by omega, HTP2.out, HTM2.out])
              have HFx : Hid (FxT d q m ↔ (r : Int) = (q : Int) ∧ Y < 0) := Lib.hid (by unfold FxT; rw [HTP.out, HTM.out])
              have HC0 := Lib.hid x0
              have HC1 := Lib.hid gc'
              have HC2 := Lib.hid p3
              have HC3 := Lib.hid p4
              have HBW := Lib.hid (below_alloc1 wr (.cells #[.int .i64 r, .int .i64 Y] 143))
              have HKx : Hid (Blk (wr.alloc (.cells #[.int .i64 r, .int .i64 Y] 143)) wr.heap.size 143 #[.int .i64 r, .int .i64 Y]) := Lib.hid (blk_at rfl)
              clear hTP hTM hTP2 hTM2 hr gi gc hrg x0 gc' p3 p4 hb
              have HCells : Hid (∀ w', Below (wr.alloc (.cells #[.int .i64 r, .int .i64 Y] 143)).heap.size (wr.alloc (.cells #[.int .i64 r, .int .i64 Y] 143)) w' →
                  w'.cell? ⟨w.heap.size, 0, none⟩ = some (.slice (some ⟨b, off, none⟩) k c) ∧ w'.cell? ⟨b, off + r, none⟩ = some (.slice (some ⟨b2, o2, none⟩) 3 c2) ∧ w'.cell? ⟨b2, o2 + m * 2, none⟩ = some (.int .i64 V) ∧ w'.cell? ⟨b2, o2 + m * 2 + 1, none⟩ = some (.int .i64 U) ∧ w'.cell? ⟨wr.heap.size, 0, none⟩ = some (.int .i64 r) ∧ w'.cell? ⟨wr.heap.size, 1, none⟩ = some (.int .i64 Y)) := Lib.hid (fun w' hb' => by
                have hb2 : Below wr.heap.size wr w' := HBW.out.trans (hb'.mono HBW.out.size)
                exact ⟨(hb2.cell (World.block_lt_of_cell? wr _ HC0.out)).trans HC0.out, (hb2.cell (World.block_lt_of_cell? wr _ HC1.out)).trans HC1.out, (hb2.cell (World.block_lt_of_cell? wr _ HC2.out)).trans HC2.out, (hb2.cell (World.block_lt_of_cell? wr _ HC3.out)).trans HC3.out, (HKx.out.belowS hb').cell 0, (HKx.out.belowS hb').cell 1⟩)
              have HZ := Lib.hid (below_tr HBm.out HB0.out)
              by_cases hbk : V = (q : Int) ∧ U = Y
              · obtain ⟨rfl, rfl⟩ := hbk
                have HK := Lib.hid (HBk.out.2 ⟨rfl, rfl⟩)
                by_cases hfx : (r : Int) = (q : Int) ∧ U = -1
                · obtain ⟨hrq, rfl⟩ := hfx
                  obtain rfl : r = q := by omega
                  have HT := Lib.hid (tmpB_no (d := d) fun t => t.fix r (by rw [HL.out]; exact hlt2) m hlt3 (HFx.out.2 ⟨rfl, by omega⟩))
                  clear HFx HBk hrq
                  go_wp2_with fail
                  (refine wp_region_calm (by kernel_rfl) (by kernel_rfl) ?_; (repeat (first | go_big_quiet_skip | (go_big_quiet_want; first | (go_big_quiet_op; go_big_quiet_on) | (apply quiet_val; (· (intro _ hw; obtain ⟨f0, f1, f2, f3, f4, f5⟩ := HCells.out _ hw; go_simp; exact rfl)); go_simp; go_big_quiet_on) | (apply quiet_call; (· (intro _ _; go_simp; exact ⟨rfl, rfl⟩)); (· (intro _ hw; fail)); go_simp; go_big_quiet_on)))); refine wpQuiet_nil ?_; intro wq bq)
                  have HBq := Lib.hid (below_tr bq (below_tr HBW.out HZ.out))
                  clear bq
                  go_wp2_with fail
                  go_ret
                  exact ⟨ret_bool HT.out.symm, HBq.out⟩
                · have HF : Hid (¬ FxT d q m) := Lib.hid (fun h => hfx ⟨(HFx.out.1 h).1, by have := (HFx.out.1 h).2; have := HY1.out; omega⟩)
                  clear HFx HBk
                  by_cases hrq : (r : Int) = (q : Int)
                  · have hu : ¬ U = -1 := fun e => hfx ⟨hrq, e⟩
                    obtain rfl : r = q := by omega
                    clear hfx hrq
                    go_wp2_with fail
                    (refine wp_region_calm (by kernel_rfl) (by kernel_rfl) ?_; (repeat (first | go_big_quiet_skip | (go_big_quiet_want; first | (go_big_quiet_op; go_big_quiet_on) | (apply quiet_val; (· (intro _ hw; obtain ⟨f0, f1, f2, f3, f4, f5⟩ := HCells.out _ hw; go_simp; exact rfl)); go_simp; go_big_quiet_on) | (apply quiet_call; (· (intro _ _; go_simp; exact ⟨rfl, rfl⟩)); (· (intro _ hw; fail)); go_simp; go_big_quiet_on)))); refine wpQuiet_nil ?_; intro wq bq)
                    have HBq := Lib.hid (below_tr bq (below_tr HBW.out HBm.out))
                    clear bq
                    go_wp2_with fail
                    go_roundw
                    case rel => exact ⟨m + 1, by go_num, by omega, HBq.out, fun i hi => by rcases Nat.lt_or_ge i m with h | h; exact HG2.out i h; obtain rfl : i = m := (by omega); exact ⟨HK.out, HF.out⟩⟩
                    case measure => simp [intOf]; omega
                  · clear hfx
                    go_wp2_with fail
                    (refine wp_region_calm (by kernel_rfl) (by kernel_rfl) ?_; (repeat (first | go_big_quiet_skip | (go_big_quiet_want; first | (go_big_quiet_op; go_big_quiet_on) | (apply quiet_val; (· (intro _ hw; obtain ⟨f0, f1, f2, f3, f4, f5⟩ := HCells.out _ hw; go_simp; exact rfl)); go_simp; go_big_quiet_on) | (apply quiet_call; (· (intro _ _; go_simp; exact ⟨rfl, rfl⟩)); (· (intro _ hw; fail)); go_simp; go_big_quiet_on)))); refine wpQuiet_nil ?_; intro wq bq)
                    have HBq := Lib.hid (below_tr bq (below_tr HBW.out HBm.out))
                    clear bq
                    go_wp2_with fail
                    go_roundw
                    case rel => exact ⟨m + 1, by go_num, by omega, HBq.out, fun i hi => by rcases Nat.lt_or_ge i m with h | h; exact HG2.out i h; obtain rfl : i = m := (by omega); exact ⟨HK.out, HF.out⟩⟩
                    case measure => simp [intOf]; omega
              · have HT := Lib.hid (tmpB_no (d := d) fun t => hbk (HBk.out.1 (t.back q (by rw [HL.out]; exact hlt2) m hlt3)))
                clear HFx HBk
                by_cases hv : V = (q : Int)
                · have hu : ¬ U = Y := fun e => hbk ⟨hv, e⟩
                  subst hv
                  clear hbk
                  go_wp2_with fail
                  (refine wp_region_calm (by kernel_rfl) (by kernel_rfl) ?_; (repeat (first | go_big_quiet_skip | (go_big_quiet_want; first | (go_big_quiet_op; go_big_quiet_on) | (apply quiet_val; (· (intro _ hw; obtain ⟨f0, f1, f2, f3, f4, f5⟩ := HCells.out _ hw; go_simp; exact rfl)); go_simp; go_big_quiet_on) | (apply quiet_call; (· (intro _ _; go_simp; exact ⟨rfl, rfl⟩)); (· (intro _ hw; fail)); go_simp; go_big_quiet_on)))); refine wpQuiet_nil ?_; intro wq bq)
                  have HBq := Lib.hid (below_tr bq (below_tr HBW.out HZ.out))
                  clear bq
                  go_wp2_with fail
                  go_ret
                  exact ⟨ret_bool HT.out.symm, HBq.out⟩
                · clear hbk
                  go_wp2_with fail
                  (refine wp_region_calm (by kernel_rfl) (by kernel_rfl) ?_; (repeat (first | go_big_quiet_skip | (go_big_quiet_want; first | (go_big_quiet_op; go_big_quiet_on) | (apply quiet_val; (· (intro _ hw; obtain ⟨f0, f1, f2, f3, f4, f5⟩ := HCells.out _ hw; go_simp; exact rfl)); go_simp; go_big_quiet_on) | (apply quiet_call; (· (intro _ _; go_simp; exact ⟨rfl, rfl⟩)); (· (intro _ hw; fail)); go_simp; go_big_quiet_on)))); refine wpQuiet_nil ?_; intro wq bq)
                  have HBq := Lib.hid (below_tr bq (below_tr HBW.out HZ.out))
                  clear bq
                  go_wp2_with fail
                  go_ret
                  exact ⟨ret_bool HT.out.symm, HBq.out⟩
            · obtain rfl : m = 3 := by omega
              have hg := HG0.out
              have HTg := Lib.hid (HH.out.below hb)
              have HZ := Lib.hid (below_tr hb HB0.out)
              clear hb
              cases hcm : cmTB d q with
              | true =>
                have HCm := Lib.hid hcm
                clear hcm
                go_wp2_with (go_at_call 158; refine (commutes_any _ k c q d _ HTg.out (by omega) hlt2 HG0.out).mono ?_; rintro e w' ⟨rfl, hb'⟩; rw [HCm.out])
                go_roundw
                case rel => exact ⟨q + 1, by go_num, by omega, below_tr hb' HBm.out, fun j hj => by
                  rcases Nat.lt_or_ge j q with h | h
                  · exact HG.out j h
                  · obtain rfl : j = q := (by omega)
                    exact ⟨HG2.out, cmTB_is HCm.out⟩⟩
                case measure => simp [intOf]; omega
              | false =>
                have HCm := Lib.hid hcm
                have HT := Lib.hid (tmpB_no (d := d) fun t => by have h2 := cmTB_yes (t.comm q (by rw [HL.out]; exact hlt2)); rw [HCm.out] at h2; cases h2)
                clear hcm
                go_wp2_with (go_at_call 158; refine (commutes_any _ k c q d _ HTg.out (by omega) hlt2 HG0.out).mono ?_; rintro e w' ⟨rfl, hb'⟩; rw [HCm.out])
                go_ret
                exact ⟨ret_bool HT.out.symm, below_tr hb' HZ.out⟩
        · obtain rfl : q = k := by omega
          have HT := Lib.hid (tmpB_yes (d := d) ⟨by rw [HL.out]; omega, by rw [HL.out]; omega, fun j hj => (HG0.out j (by rw [← HL.out]; exact hj)).1, fun j hj i hi => (HG0.out j (by rw [← HL.out]; exact hj)).2 i hi, fun j hj i hi => ((HG.out j (by rw [← HL.out]; exact hj)).1 i hi).2, fun j hj i hi => ((HG.out j (by rw [← HL.out]; exact hj)).1 i hi).1, fun j hj => (HG.out j (by rw [← HL.out]; exact hj)).2⟩)
          go_wp2_with fail
          go_ret
          exact ⟨ret_bool HT.out.symm, below_tr HB.out HB0.out⟩
end Go.Proofs.Ytpognnifgcacnaa

/- ComposeTemplates, both sides. -/
namespace Go.Proofs.Ytpognnifgcacnaa
open Go.RowKit

/-- both are templates -/
noncomputable def cmOk (d e : List (List (Int × Int))) : Bool := tmpB d && tmpB e
noncomputable def cmC (d e : List (List (Int × Int))) : Int := if cmOk d e = true then (if d.length * e.length ≤ 12 then 0 else 3) else 1
noncomputable def cmR (d e : List (List (Int × Int))) : List (List (Int × Int)) := if cmOk d e = true then (if d.length * e.length ≤ 12 then cmD d e else []) else []
theorem tmpB_is {d : List (List (Int × Int))} (h : tmpB d = true) : Tmp d := by unfold tmpB at h; simpa using h
theorem cmUp_small (d e : List (List (Int × Int))) : ∀ j, lenTT0 (cmUp d e j) = 3 * (j * e.length)
  | 0 => by simp [cmUp, lenTT0]
  | j + 1 => by
    have h : ∀ k, lenTT0 (cmPart d e j k) = 3 * k := fun k => by
      induction k with
      | zero => rfl
      | succ k ih => rw [cmPart_succ, lenTT0_app, ih]; simp [lenTT0, cmRow_len]; omega
    rw [cmUp, lenTT0_app, cmUp_small d e j, h, show (j + 1) * e.length = j * e.length + e.length from Nat.succ_mul j e.length]; omega
theorem cmR_small (d e : List (List (Int × Int))) : lenTT (cmR d e) ≤ 72 := by
  unfold cmR
  split
  · split
    · rename_i h; unfold cmD lenTT; rw [cmUp_small]; omega
    · simp [lenTT, lenTT0]
  · simp [lenTT, lenTT0]

set_option maxRecDepth 100000 in
set_option maxHeartbeats 3200000 in
theorem api_specCmp {v v' : Value} {d e : List (List (Int × Int))} (w : World) (h : RdT w v d) (h' : RdT w v' e) :
    Calls Try.prog 20 #[v, v'] w fun r w' => ∃ v, r = .returned (.tuple #[v, .int .i64 (cmC d e)]) ∧ OwT 143 100 w' w.heap.size w'.heap.size v (cmR d e) ∧ Below w.heap.size w w' := by
  obtain ⟨ao, n, c, rfl, hi⟩ := h
  obtain ⟨bo, m, c2, rfl, hi'⟩ := h'
  have hl := hi.1
  have hl' := hi'.1
  have hb0 := below_alloc3 w (.cells #[.slice ao n c] 29) (.cells #[.slice bo m c2] 29) (.cells #[.slice none 0 0] 29)
  have k0 : Blk (((w.alloc (.cells #[.slice ao n c] 29)).alloc (.cells #[.slice bo m c2] 29)).alloc (.cells #[.slice none 0 0] 29)) w.heap.size 29 #[.slice ao n c] := ((blk_at rfl).alloc _).alloc _
  have k1 : Blk (((w.alloc (.cells #[.slice ao n c] 29)).alloc (.cells #[.slice bo m c2] 29)).alloc (.cells #[.slice none 0 0] 29)) (w.heap.size + 1) 29 #[.slice bo m c2] := (blk_at (by simp)).alloc _
  have k2 : Blk (((w.alloc (.cells #[.slice ao n c] 29)).alloc (.cells #[.slice bo m c2] 29)).alloc (.cells #[.slice none 0 0] 29)) (w.heap.size + 2) 29 #[.slice none 0 0] := blk_at (by simp)
  have HI := Lib.hid (hi.below hb0)
  have HI' := Lib.hid (hi'.below hb0)
  have HL := Lib.hid (And.intro hl hl')
  have HB0 := Lib.hid hb0
  have HK0 := Lib.hid (And.intro k0 (And.intro k1 k2))
  clear hi hi' hl hl' hb0 k0 k1 k2
  -- nothing and a code
  have bad : ∀ (wf : World) (x : Int), Below w.heap.size w wf → Blk wf (w.heap.size + 2) 29 #[.slice none 0 0] → cmC d e = x → cmR d e = [] → wf.cell? ⟨w.heap.size + 2, 0, none⟩ = some (.slice none 0 0) ∧ ∃ v, Ending.returned (.tuple #[.agg #[.slice none 0 0], .int .i64 x]) = .returned (.tuple #[v, .int .i64 (cmC d e)]) ∧ OwT 143 100 wf w.heap.size wf.heap.size v (cmR d e) ∧ Below w.heap.size w wf := by
    intro wf x hb hk hC hR
    refine ⟨by simpa using hk.cell 0, _, by rw [hC], ?_, hb⟩
    rw [hR]
    exact ⟨none, 0, 0, [], rfl, OwR.empty_ (Own.nil_ _ _ _) (fun g hg => by cases hg)⟩
  have BAD := Lib.hid bad
  clear bad
  cases hd : tmpB d with
  | false =>
    have HC : Hid (cmC d e = 1 ∧ cmR d e = []) := Lib.hid (by unfold cmC cmR cmOk; rw [hd]; exact ⟨rfl, rfl⟩)
    have HD := Lib.hid hd
    clear hd
    go_enter Try.func20, Try.ntmps20
    go_wp2_with fail
    refine (specTmp_any ao n c d _ HI.out).mono ?_
    rintro r w1 ⟨rfl, b1⟩
    rw [HD.out]
    have B1 := below_tr b1 HB0.out
    have k2 := HK0.out.2.2.belowS b1
    have f2 := k2.frozen 0
    have x2 := k2.cell 0
    simp at x2
    clear b1
    go_wp2_with fail
    have kf := k2.set_ 0 (.slice none 0 0)
    have Bf := B1.setCell (p := ⟨w.heap.size + 2, 0, none⟩) (by simp) (.slice none 0 0)
    generalize w1.setCell ⟨w.heap.size + 2, 0, none⟩ (.slice none 0 0) = wf at *
    simp at kf
    obtain ⟨e0, hP⟩ := BAD.out wf 1 Bf kf HC.out.1 HC.out.2
    exact bodyPost_ret (v := .tuple #[.agg #[.slice none 0 0], .int .i64 1]) (by simp [results, Try.f20, go_sem, e0]) rfl hP
  | true =>
    have hTd := tmpB_is hd
    cases he : tmpB e with
    | false =>
      have HC : Hid (cmC d e = 1 ∧ cmR d e = []) := Lib.hid (by unfold cmC cmR cmOk; rw [hd, he]; exact ⟨rfl, rfl⟩)
      have HD := Lib.hid hd
      have HE := Lib.hid he
      clear hd he
      go_enter Try.func20, Try.ntmps20
      go_wp2_with fail
      refine (specTmp_any ao n c d _ HI.out).mono ?_
      rintro r w1 ⟨rfl, b1⟩
      rw [HD.out]
      have k1 := HK0.out.2.1.belowS b1
      have x1 := k1.cell 0
      simp at x1
      have B1 := Lib.hid b1
      clear b1
      go_wp2_with fail
      refine (specTmp_any bo m c2 e _ (HI'.out.below B1.out)).mono ?_
      rintro r w2 ⟨rfl, b2⟩
      rw [HE.out]
      have B2 := below_tr b2 (below_tr B1.out HB0.out)
      have k2 := (HK0.out.2.2.belowS B1.out).belowS b2
      have f2 := k2.frozen 0
      have x2 := k2.cell 0
      simp at x2
      clear b2
      go_wp2_with fail
      have kf := k2.set_ 0 (.slice none 0 0)
      have Bf := B2.setCell (p := ⟨w.heap.size + 2, 0, none⟩) (by simp) (.slice none 0 0)
      generalize w2.setCell ⟨w.heap.size + 2, 0, none⟩ (.slice none 0 0) = wf at *
      simp at kf
      obtain ⟨e0, hP⟩ := BAD.out wf 1 Bf kf HC.out.1 HC.out.2
      exact bodyPost_ret (v := .tuple #[.agg #[.slice none 0 0], .int .i64 1]) (by simp [results, Try.f20, go_sem, e0]) rfl hP
    | true =>
      have hTe := tmpB_is he
      have hok : cmOk d e = true := by unfold cmOk; rw [hd, he]; rfl
      have hn := hTd.few
      have hm := hTe.few
      rw [HL.out.1] at hn
      rw [HL.out.2] at hm
      have HD := Lib.hid hd
      have HE := Lib.hid he
      have HOK := Lib.hid hok
      have HT := Lib.hid (And.intro hTd hTe)
      have hmul := mul_small (x := n) (y := m) (by omega) (by omega)
      have hwr : IntKind.i64.wrap ((n : Int) * (m : Int)) = (n : Int) * (m : Int) := IntWalk.i64_in _ (by omega)
      clear hd he hTd hTe hok
      have run : ∀ Q : Ending → World → Prop, True := fun _ => trivial
      clear run
      by_cases h12 : n * m ≤ 12
      · have HC : Hid (cmC d e = 0 ∧ cmR d e = cmD d e) := Lib.hid (by unfold cmC cmR; rw [HOK.out, if_pos rfl, if_pos rfl, HL.out.1, HL.out.2, if_pos h12, if_pos h12]; exact ⟨rfl, rfl⟩)
        have hg : decide ((n : Int) * (m : Int) > 12) = false := by rw [decide_eq_false_iff_not]; have : ((n * m : Nat) : Int) = (n : Int) * (m : Int) := Int.natCast_mul n m; omega
        go_enter Try.func20, Try.ntmps20
        go_wp2_with fail
        refine (specTmp_any ao n c d _ HI.out).mono ?_
        rintro r w1 ⟨rfl, b1⟩
        rw [HD.out]
        have k1 := HK0.out.2.1.belowS b1
        have x1 := k1.cell 0
        simp at x1
        have B1 := Lib.hid b1
        clear b1
        go_wp2_with fail
        refine (specTmp_any bo m c2 e _ (HI'.out.below B1.out)).mono ?_
        rintro r w2 ⟨rfl, b2⟩
        rw [HE.out]
        have B2 := Lib.hid (below_tr b2 (below_tr B1.out HB0.out))
        have K0 := (HK0.out.1.belowS B1.out).belowS b2
        have K1 := (HK0.out.2.1.belowS B1.out).belowS b2
        have K2 := Lib.hid ((HK0.out.2.2.belowS B1.out).belowS b2)
        have y0 := K0.cell 0
        have y1 := K1.cell 0
        simp at y0 y1
        have J0 := Lib.hid ((HI.out.below B1.out).below b2)
        have J1 := Lib.hid ((HI'.out.below B1.out).below b2)
        clear b2 K0 K1 x1
        go_wp2_with fail
        refine (specCmp_any ao bo n c m c2 d e _ J0.out J1.out HT.out.1 HT.out.2).mono ?_
        rintro r w3 ⟨v, rfl, ⟨a3, n3, c3, us, rfl, o3⟩, b3⟩
        have k2 := K2.out.belowS b3
        have f2 := k2.frozen 0
        have x2 := k2.cell 0
        simp at x2
        have hs2 : w.heap.size + 3 ≤ w2.heap.size := by have h1 := HB0.out.size; have h2 := B1.out.size; have h3 := B2.out.size; have h4 := K2.out.lt; omega
        have B3 := Lib.hid (below_tr b3 B2.out)
        have hs3 := b3.size
        clear b3
        go_wp2_with fail
        have kf := k2.set_ 0 (.slice a3 n3 c3)
        have Bf := B3.out.setCell (p := ⟨w.heap.size + 2, 0, none⟩) (by simp) (.slice a3 n3 c3)
        have hh : (w3.setCell ⟨w.heap.size + 2, 0, none⟩ (.slice a3 n3 c3)).heap.size = w3.heap.size := by simp [World.setCell]
        have of : OwR (OwTs 143) (w3.setCell ⟨w.heap.size + 2, 0, none⟩ (.slice a3 n3 c3)) w2.heap.size (w3.setCell ⟨w.heap.size + 2, 0, none⟩ (.slice a3 n3 c3)).heap.size 100 a3 n3 c3 us (cmD d e) := by
          rw [hh]
          exact o3.same (innerTs _) fun g h1 _ _ => Below.heap_setCell _ _ _ _ (by simp; omega)
        clear hh o3
        generalize w3.setCell ⟨w.heap.size + 2, 0, none⟩ (.slice a3 n3 c3) = wf at *
        simp at kf
        have e0 := kf.cell 0
        simp at e0
        refine bodyPost_ret (v := .tuple #[.agg #[.slice a3 n3 c3], .int .i64 0]) (by simp [results, Try.f20, go_sem, e0]) rfl ⟨_, by rw [HC.out.1], ?_, Bf⟩
        rw [HC.out.2]
        exact ⟨a3, n3, c3, us, rfl, of.mono (by omega) (Nat.le_refl _)⟩
      · have HC : Hid (cmC d e = 3 ∧ cmR d e = []) := Lib.hid (by unfold cmC cmR; rw [HOK.out, if_pos rfl, if_pos rfl, HL.out.1, HL.out.2, if_neg h12, if_neg h12]; exact ⟨rfl, rfl⟩)
        have hg : decide ((n : Int) * (m : Int) > 12) = true := by rw [decide_eq_true_iff]; have : ((n * m : Nat) : Int) = (n : Int) * (m : Int) := Int.natCast_mul n m; omega
        go_enter Try.func20, Try.ntmps20
        go_wp2_with fail
        refine (specTmp_any ao n c d _ HI.out).mono ?_
        rintro r w1 ⟨rfl, b1⟩
        rw [HD.out]
        have k1 := HK0.out.2.1.belowS b1
        have x1 := k1.cell 0
        simp at x1
        have B1 := Lib.hid b1
        clear b1
        go_wp2_with fail
        refine (specTmp_any bo m c2 e _ (HI'.out.below B1.out)).mono ?_
        rintro r w2 ⟨rfl, b2⟩
        rw [HE.out]
        have B2 := below_tr b2 (below_tr B1.out HB0.out)
        have K0 := (HK0.out.1.belowS B1.out).belowS b2
        have K1 := (HK0.out.2.1.belowS B1.out).belowS b2
        have k2 := (HK0.out.2.2.belowS B1.out).belowS b2
        have y0 := K0.cell 0
        have y1 := K1.cell 0
        have f2 := k2.frozen 0
        have x2 := k2.cell 0
        simp at y0 y1 x2
        clear b2 K0 K1 x1
        go_wp2_with fail
        have kf := k2.set_ 0 (.slice none 0 0)
        have Bf := B2.setCell (p := ⟨w.heap.size + 2, 0, none⟩) (by simp) (.slice none 0 0)
        generalize w2.setCell ⟨w.heap.size + 2, 0, none⟩ (.slice none 0 0) = wf at *
        simp at kf
        obtain ⟨e0, hP⟩ := BAD.out wf 3 Bf kf HC.out.1 HC.out.2
        exact bodyPost_ret (v := .tuple #[.agg #[.slice none 0 0], .int .i64 3]) (by simp [results, Try.f20, go_sem, e0]) rfl hP

set_option maxRecDepth 100000 in
set_option maxHeartbeats 3200000 in
theorem api_implCmp {v v' : Value} {d e : List (List (Int × Int))} (w : World) (h : RdT w v d) (h' : RdT w v' e) :
    Calls Try.prog 21 #[v, v'] w fun r w' => ∃ v, r = .returned (.tuple #[v, .int .i64 (cmC d e)]) ∧ OwT 143 100 w' w.heap.size w'.heap.size v (cmR d e) ∧ Below w.heap.size w w' := by
  obtain ⟨ao, n, c, rfl, hi⟩ := h
  obtain ⟨bo, m, c2, rfl, hi'⟩ := h'
  have hl := hi.1
  have hl' := hi'.1
  have hb0 := below_alloc3 w (.cells #[.slice ao n c] 29) (.cells #[.slice bo m c2] 29) (.cells #[.slice none 0 0] 29)
  have k0 : Blk (((w.alloc (.cells #[.slice ao n c] 29)).alloc (.cells #[.slice bo m c2] 29)).alloc (.cells #[.slice none 0 0] 29)) w.heap.size 29 #[.slice ao n c] := ((blk_at rfl).alloc _).alloc _
  have k1 : Blk (((w.alloc (.cells #[.slice ao n c] 29)).alloc (.cells #[.slice bo m c2] 29)).alloc (.cells #[.slice none 0 0] 29)) (w.heap.size + 1) 29 #[.slice bo m c2] := (blk_at (by simp)).alloc _
  have k2 : Blk (((w.alloc (.cells #[.slice ao n c] 29)).alloc (.cells #[.slice bo m c2] 29)).alloc (.cells #[.slice none 0 0] 29)) (w.heap.size + 2) 29 #[.slice none 0 0] := blk_at (by simp)
  have HI := Lib.hid (hi.below hb0)
  have HI' := Lib.hid (hi'.below hb0)
  have HL := Lib.hid (And.intro hl hl')
  have HB0 := Lib.hid hb0
  have HK0 := Lib.hid (And.intro k0 (And.intro k1 k2))
  clear hi hi' hl hl' hb0 k0 k1 k2
  -- nothing and a code
  have bad : ∀ (wf : World) (x : Int), Below w.heap.size w wf → Blk wf (w.heap.size + 2) 29 #[.slice none 0 0] → cmC d e = x → cmR d e = [] → wf.cell? ⟨w.heap.size + 2, 0, none⟩ = some (.slice none 0 0) ∧ ∃ v, Ending.returned (.tuple #[.agg #[.slice none 0 0], .int .i64 x]) = .returned (.tuple #[v, .int .i64 (cmC d e)]) ∧ OwT 143 100 wf w.heap.size wf.heap.size v (cmR d e) ∧ Below w.heap.size w wf := by
    intro wf x hb hk hC hR
    refine ⟨by simpa using hk.cell 0, _, by rw [hC], ?_, hb⟩
    rw [hR]
    exact ⟨none, 0, 0, [], rfl, OwR.empty_ (Own.nil_ _ _ _) (fun g hg => by cases hg)⟩
  have BAD := Lib.hid bad
  clear bad
  cases hd : tmpB d with
  | false =>
    have HC : Hid (cmC d e = 1 ∧ cmR d e = []) := Lib.hid (by unfold cmC cmR cmOk; rw [hd]; exact ⟨rfl, rfl⟩)
    have HD := Lib.hid hd
    clear hd
    go_enter Try.func21, Try.ntmps21
    go_wp2_with fail
    refine (implTmp_any ao n c d _ HI.out).mono ?_
    rintro r w1 ⟨rfl, b1⟩
    rw [HD.out]
    have B1 := below_tr b1 HB0.out
    have k2 := HK0.out.2.2.belowS b1
    have f2 := k2.frozen 0
    have x2 := k2.cell 0
    simp at x2
    clear b1
    go_wp2_with fail
    have kf := k2.set_ 0 (.slice none 0 0)
    have Bf := B1.setCell (p := ⟨w.heap.size + 2, 0, none⟩) (by simp) (.slice none 0 0)
    generalize w1.setCell ⟨w.heap.size + 2, 0, none⟩ (.slice none 0 0) = wf at *
    simp at kf
    obtain ⟨e0, hP⟩ := BAD.out wf 1 Bf kf HC.out.1 HC.out.2
    exact bodyPost_ret (v := .tuple #[.agg #[.slice none 0 0], .int .i64 1]) (by simp [results, Try.f21, go_sem, e0]) rfl hP
  | true =>
    have hTd := tmpB_is hd
    cases he : tmpB e with
    | false =>
      have HC : Hid (cmC d e = 1 ∧ cmR d e = []) := Lib.hid (by unfold cmC cmR cmOk; rw [hd, he]; exact ⟨rfl, rfl⟩)
      have HD := Lib.hid hd
      have HE := Lib.hid he
      clear hd he
      go_enter Try.func21, Try.ntmps21
      go_wp2_with fail
      refine (implTmp_any ao n c d _ HI.out).mono ?_
      rintro r w1 ⟨rfl, b1⟩
      rw [HD.out]
      have k1 := HK0.out.2.1.belowS b1
      have x1 := k1.cell 0
      simp at x1
      have B1 := Lib.hid b1
      clear b1
      go_wp2_with fail
      refine (implTmp_any bo m c2 e _ (HI'.out.below B1.out)).mono ?_
      rintro r w2 ⟨rfl, b2⟩
      rw [HE.out]
      have B2 := below_tr b2 (below_tr B1.out HB0.out)
      have k2 := (HK0.out.2.2.belowS B1.out).belowS b2
      have f2 := k2.frozen 0
      have x2 := k2.cell 0
      simp at x2
      clear b2
      go_wp2_with fail
      have kf := k2.set_ 0 (.slice none 0 0)
      have Bf := B2.setCell (p := ⟨w.heap.size + 2, 0, none⟩) (by simp) (.slice none 0 0)
      generalize w2.setCell ⟨w.heap.size + 2, 0, none⟩ (.slice none 0 0) = wf at *
      simp at kf
      obtain ⟨e0, hP⟩ := BAD.out wf 1 Bf kf HC.out.1 HC.out.2
      exact bodyPost_ret (v := .tuple #[.agg #[.slice none 0 0], .int .i64 1]) (by simp [results, Try.f21, go_sem, e0]) rfl hP
    | true =>
      have hTe := tmpB_is he
      have hok : cmOk d e = true := by unfold cmOk; rw [hd, he]; rfl
      have hn := hTd.few
      have hm := hTe.few
      rw [HL.out.1] at hn
      rw [HL.out.2] at hm
      have HD := Lib.hid hd
      have HE := Lib.hid he
      have HOK := Lib.hid hok
      have HT := Lib.hid (And.intro hTd hTe)
      have hmul := mul_small (x := n) (y := m) (by omega) (by omega)
      have hwr : IntKind.i64.wrap ((n : Int) * (m : Int)) = (n : Int) * (m : Int) := IntWalk.i64_in _ (by omega)
      clear hd he hTd hTe hok
      have run : ∀ Q : Ending → World → Prop, True := fun _ => trivial
      clear run
      by_cases h12 : n * m ≤ 12
      · have HC : Hid (cmC d e = 0 ∧ cmR d e = cmD d e) := Lib.hid (by unfold cmC cmR; rw [HOK.out, if_pos rfl, if_pos rfl, HL.out.1, HL.out.2, if_pos h12, if_pos h12]; exact ⟨rfl, rfl⟩)
        have hg : decide ((n : Int) * (m : Int) > 12) = false := by rw [decide_eq_false_iff_not]; have : ((n * m : Nat) : Int) = (n : Int) * (m : Int) := Int.natCast_mul n m; omega
        go_enter Try.func21, Try.ntmps21
        go_wp2_with fail
        refine (implTmp_any ao n c d _ HI.out).mono ?_
        rintro r w1 ⟨rfl, b1⟩
        rw [HD.out]
        have k1 := HK0.out.2.1.belowS b1
        have x1 := k1.cell 0
        simp at x1
        have B1 := Lib.hid b1
        clear b1
        go_wp2_with fail
        refine (implTmp_any bo m c2 e _ (HI'.out.below B1.out)).mono ?_
        rintro r w2 ⟨rfl, b2⟩
        rw [HE.out]
        have B2 := Lib.hid (below_tr b2 (below_tr B1.out HB0.out))
        have HK := Lib.hid (And.intro ((HK0.out.1.belowS B1.out).belowS b2) ((HK0.out.2.1.belowS B1.out).belowS b2))
        have K2' := Lib.hid ((HK0.out.2.2.belowS B1.out).belowS b2)
        have J0' := Lib.hid ((HI.out.below B1.out).below b2)
        have J1' := Lib.hid ((HI'.out.below B1.out).below b2)
        clear b2 x1
        go_wp2_with fail
        (refine wp_region_calm (by kernel_rfl) (by kernel_rfl) ?_; (repeat (first | go_big_quiet_skip | (go_big_quiet_want; first | (go_big_quiet_op; go_big_quiet_on) | (apply quiet_val; (· (intro _ hw; have y0 := (HK.out.1.belowS hw).cell 0; have y1 := (HK.out.2.belowS hw).cell 0; simp at y0 y1; go_simp; exact rfl)); go_simp; go_big_quiet_on) | (apply quiet_call; (· (intro _ _; go_simp; exact ⟨rfl, rfl⟩)); (· (intro _ hw; go_at_call 87; refine (sizeT_any _ _ _ _).mono ?_; rintro e w' ⟨rfl, rfl⟩; exact ⟨rfl, hw⟩)); go_simp; go_big_quiet_on)))); refine wpQuiet_nil ?_; intro wq bq)
        have K2 := Lib.hid (K2'.out.belowS bq)
        have J0 := Lib.hid (J0'.out.below bq)
        have J1 := Lib.hid (J1'.out.below bq)
        have B2w := Lib.hid (below_tr bq B2.out)
        have y0 := (HK.out.1.belowS bq).cell 0
        have y1 := (HK.out.2.belowS bq).cell 0
        simp at y0 y1
        clear B2 K2' J0' J1' bq HK
        obtain ⟨w2, rfl⟩ : ∃ w2, w2 = wq := ⟨_, rfl⟩
        have B2 := B2w
        clear B2w
        go_wp2_with fail
        refine (implCmp_any ao bo n c m c2 d e _ J0.out J1.out HT.out.1 HT.out.2).mono ?_
        rintro r w3 ⟨v, rfl, ⟨a3, n3, c3, us, rfl, o3⟩, b3⟩
        have k2 := K2.out.belowS b3
        have f2 := k2.frozen 0
        have x2 := k2.cell 0
        simp at x2
        have hs2 : w.heap.size + 3 ≤ w2.heap.size := by have h1 := HB0.out.size; have h2 := B1.out.size; have h3 := B2.out.size; have h4 := K2.out.lt; omega
        have B3 := Lib.hid (below_tr b3 B2.out)
        have hs3 := b3.size
        clear b3
        go_wp2_with fail
        have kf := k2.set_ 0 (.slice a3 n3 c3)
        have Bf := B3.out.setCell (p := ⟨w.heap.size + 2, 0, none⟩) (by simp) (.slice a3 n3 c3)
        have hh : (w3.setCell ⟨w.heap.size + 2, 0, none⟩ (.slice a3 n3 c3)).heap.size = w3.heap.size := by simp [World.setCell]
        have of : OwR (OwTs 143) (w3.setCell ⟨w.heap.size + 2, 0, none⟩ (.slice a3 n3 c3)) w2.heap.size (w3.setCell ⟨w.heap.size + 2, 0, none⟩ (.slice a3 n3 c3)).heap.size 100 a3 n3 c3 us (cmD d e) := by
          rw [hh]
          exact o3.same (innerTs _) fun g h1 _ _ => Below.heap_setCell _ _ _ _ (by simp; omega)
        clear hh o3
        generalize w3.setCell ⟨w.heap.size + 2, 0, none⟩ (.slice a3 n3 c3) = wf at *
        simp at kf
        have e0 := kf.cell 0
        simp at e0
        refine bodyPost_ret (v := .tuple #[.agg #[.slice a3 n3 c3], .int .i64 0]) (by simp [results, Try.f21, go_sem, e0]) rfl ⟨_, by rw [HC.out.1], ?_, Bf⟩
        rw [HC.out.2]
        exact ⟨a3, n3, c3, us, rfl, of.mono (by omega) (Nat.le_refl _)⟩
      · have HC : Hid (cmC d e = 3 ∧ cmR d e = []) := Lib.hid (by unfold cmC cmR; rw [HOK.out, if_pos rfl, if_pos rfl, HL.out.1, HL.out.2, if_neg h12, if_neg h12]; exact ⟨rfl, rfl⟩)
        have hg : decide ((n : Int) * (m : Int) > 12) = true := by rw [decide_eq_true_iff]; have : ((n * m : Nat) : Int) = (n : Int) * (m : Int) := Int.natCast_mul n m; omega
        go_enter Try.func21, Try.ntmps21
        go_wp2_with fail
        refine (implTmp_any ao n c d _ HI.out).mono ?_
        rintro r w1 ⟨rfl, b1⟩
        rw [HD.out]
        have k1 := HK0.out.2.1.belowS b1
        have x1 := k1.cell 0
        simp at x1
        have B1 := Lib.hid b1
        clear b1
        go_wp2_with fail
        refine (implTmp_any bo m c2 e _ (HI'.out.below B1.out)).mono ?_
        rintro r w2 ⟨rfl, b2⟩
        rw [HE.out]
        have B2 := below_tr b2 (below_tr B1.out HB0.out)
        have HK := Lib.hid (And.intro ((HK0.out.1.belowS B1.out).belowS b2) ((HK0.out.2.1.belowS B1.out).belowS b2))
        have K2' := Lib.hid ((HK0.out.2.2.belowS B1.out).belowS b2)
        have HB2 := Lib.hid B2
        clear b2 x1 B2
        go_wp2_with fail
        (refine wp_region_calm (by kernel_rfl) (by kernel_rfl) ?_; (repeat (first | go_big_quiet_skip | (go_big_quiet_want; first | (go_big_quiet_op; go_big_quiet_on) | (apply quiet_val; (· (intro _ hw; have y0 := (HK.out.1.belowS hw).cell 0; have y1 := (HK.out.2.belowS hw).cell 0; simp at y0 y1; go_simp; exact rfl)); go_simp; go_big_quiet_on) | (apply quiet_call; (· (intro _ _; go_simp; exact ⟨rfl, rfl⟩)); (· (intro _ hw; go_at_call 87; refine (sizeT_any _ _ _ _).mono ?_; rintro e w' ⟨rfl, rfl⟩; exact ⟨rfl, hw⟩)); go_simp; go_big_quiet_on)))); refine wpQuiet_nil ?_; intro wq bq)
        have k2 := K2'.out.belowS bq
        have B2 := below_tr bq HB2.out
        have f2 := k2.frozen 0
        have x2 := k2.cell 0
        simp at x2
        clear K2' bq HK
        obtain ⟨w2, rfl⟩ : ∃ w2, w2 = wq := ⟨_, rfl⟩
        go_wp2_with fail
        have kf := k2.set_ 0 (.slice none 0 0)
        have Bf := B2.setCell (p := ⟨w.heap.size + 2, 0, none⟩) (by simp) (.slice none 0 0)
        generalize w2.setCell ⟨w.heap.size + 2, 0, none⟩ (.slice none 0 0) = wf at *
        simp at kf
        obtain ⟨e0, hP⟩ := BAD.out wf 3 Bf kf HC.out.1 HC.out.2
        exact bodyPost_ret (v := .tuple #[.agg #[.slice none 0 0], .int .i64 3]) (by simp [results, Try.f21, go_sem, e0]) rfl hP
end Go.Proofs.Ytpognnifgcacnaa
