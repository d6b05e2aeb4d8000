/- slices.Repeat at []int64. -/
import Derived.Test.YtljimlejcecleaaGreatDoorPart1
import Derived.Laws.CopyOwn
import Derived.Deep.RegionLaw
import Derived.RegionTactic
import Derived.Deep.RegionHeld3
import Derived.Test.YtljimlejcecleaaGreatDoorPart3
import Derived.Test.YtljimlejcecleaaGreatDoorPart2
import Derived.Test.YtljimlejcecleaaGreatDoorProg
namespace Go.Proofs.YtljimlejcecleaaGreatDoor
open Go.RowKit

theorem ofInt_u64 (a : Nat) (ha : a < 18446744073709551616) : (BitVec.ofInt 64 (a : Int)).toNat = a := by
  rw [BitVec.ofInt_natCast, BitVec.toNat_ofNat]; exact Nat.mod_eq_of_lt (by omega)
theorem and_low (a : Nat) (ha : a ≤ 1048576) : bits .and .u64 (a : Int) 4294967295 = (a : Int) := by
  show IntKind.u64.wrap ((BitVec.ofInt 64 (a : Int) &&& BitVec.ofInt 64 ((4294967295 : Nat) : Int)).toNat : Int) = _
  rw [BitVec.toNat_and, ofInt_u64 a (by omega), ofInt_u64 4294967295 (by omega), show (4294967295 : Nat) = 2 ^ 32 - 1 from rfl, Nat.and_two_pow_sub_one_eq_mod, Nat.mod_eq_of_lt (by omega)]
  simp [IntKind.wrap, IntKind.signed, IntKind.bits]; omega

theorem wrap_u64_nat (a : Nat) (ha : a ≤ 4294967295) : IntKind.u64.wrap ((a : Nat) : Int) = (a : Int) := by
  simp [IntKind.wrap, IntKind.signed, IntKind.bits]; omega

set_option maxHeartbeats 400000 in
theorem bitsMul_any (a b : Nat) (w : World) (ha : a ≤ 1048576) (hb : b ≤ 1048576) (hab : a * b ≤ 4294967295) :
    Calls Tryz.prog 56 #[.int .u64 a, .int .u64 b] w fun e w' => e = .returned (.tuple #[.int .u64 0, .int .u64 ((a * b : Nat) : Int)]) ∧ w = w' := by
  have e1 : (a : Int) / 4294967296 = 0 := by omega
  have e2 : (b : Int) / 4294967296 = 0 := by omega
  have e3 : bits .and .u64 (a : Int) 4294967295 = (a : Int) := and_low a ha
  have e4 : bits .and .u64 (b : Int) 4294967295 = (b : Int) := and_low b hb
  have e5 : (a : Int) * (b : Int) = ((a * b : Nat) : Int) := by rw [Int.natCast_mul]
  have e6 : IntKind.u64.wrap ((a : Int) * (b : Int)) = ((a * b : Nat) : Int) := by rw [e5]; exact wrap_u64_nat _ hab
  have e7 : ((a : Int) * (b : Int)) / 4294967296 = 0 := by rw [e5]; omega
  have e8 : bits .and .u64 0 4294967295 = 0 := by decide +kernel
  have e9 : IntKind.u64.wrap 0 = 0 := by decide +kernel
  have H6 := Lib.hid e6
  have H5 := Lib.hid e5
  clear e5 e6
  have e10 : IntKind.u64.wrap ((a : Int) * (b : Int)) = (a : Int) * (b : Int) := by rw [H6.out, H5.out]
  go_enter Tryz.func56, Tryz.ntmps56
  go_wp2
  go_ret2
  exact ⟨by simp, rfl⟩

/-- a list again and again -/
def repL {α : Type} (zs : List α) (count : Nat) : List α := (List.replicate count zs).flatten
theorem length_repL {α : Type} (zs : List α) (count : Nat) : (repL zs count).length = zs.length * count := by
  unfold repL; rw [List.length_flatten]; simp; exact Nat.mul_comm _ _
theorem repL_add {α : Type} (zs : List α) (a b : Nat) : repL zs (a + b) = repL zs a ++ repL zs b := by
  unfold repL; rw [← List.replicate_append_replicate, List.flatten_append]
theorem repL_one {α : Type} (zs : List α) : repL zs 1 = zs := by simp [repL]
/-- what is copied from the front to behind place k, k a multiple of the period -/
theorem repL_double {α : Type} {zs : List α} {count j c : Nat} (hj : j ≤ count) (hc : c ≤ zs.length * (count - j)) : (repL zs count).take (zs.length * j + c) = (repL zs count).take (zs.length * j) ++ (repL zs count).take c := by
  have h1 : repL zs count = repL zs j ++ repL zs (count - j) := by rw [← repL_add]; congr 1; omega
  have h2 : repL zs count = repL zs (count - j) ++ repL zs j := by rw [← repL_add]; congr 1; omega
  have l1 := length_repL zs j
  have l2 := length_repL zs (count - j)
  have e3 : (repL zs count).take c = (repL zs (count - j)).take c := by rw [h2, List.take_append_of_le_length (by omega)]
  have e4 : (repL zs count).take (zs.length * j) = repL zs j := by rw [h1, ← l1, List.take_left']; rfl
  rw [e3, e4, h1, List.take_append, List.take_of_length_le (by omega)]
  congr 2; omega

theorem splice_pad {α : Type} {R : List α} {z : α} {k c T : Nat} (hR : R.length = T) (hk : k + c ≤ T) (h : R.take (k + c) = R.take k ++ R.take c) : splice (R.take k ++ List.replicate (T - k) z) k (R.take c) = R.take (k + c) ++ List.replicate (T - (k + c)) z := by
  unfold splice
  have l1 : (R.take k).length = k := by simp; omega
  have l2 : (R.take c).length = c := by simp; omega
  rw [List.take_append_of_le_length (by omega), List.take_of_length_le (by omega), l2, List.drop_append, List.drop_of_length_le (by omega), l1, h]
  simp
  omega

theorem splice_map {α β : Type} (f : α → β) (xs : List α) (k : Nat) (ys : List α) : (splice xs k ys).map f = splice (xs.map f) k (ys.map f) := by
  unfold splice; simp

/-- a whole row of the call's own, cell by cell -/
theorem Own.heap_ {w : World} {base E g T : Nat} {xs : List Value} (h : Own w base E (some ⟨g, 0, none⟩) T T xs) : w.heap[g]? = some (.cells xs.toArray E (0, 0)) := by
  rcases h.1.2 with ⟨h2, _⟩ | ⟨g', cap, cur, hv, _, hh, _, _, hs, ht⟩
  · cases h2
  · injection hv with h1 h2 h3
    injection h1 with h1; injection h1 with h1
    subst h1 h3
    have : cur.toList = xs := by rw [← ht, List.take_of_length_le]; rw [Array.length_toList, hs]; exact Nat.le_refl _
    rw [hh, ← this, Array.toArray_toList]
theorem Own.of_heap {w w' : World} {base E g T : Nat} {xs ys : List Value} (h : Own w base E (some ⟨g, 0, none⟩) T T xs) (hh : w'.heap[g]? = some (.cells ys.toArray E (0, 0))) (hl : ys.length = T) : Own w' base E (some ⟨g, 0, none⟩) T T ys := by
  refine ⟨⟨by rw [hl, Nat.mul_one], .inr ⟨g, T, ys.toArray, rfl, (h.lt g rfl).1, hh, Nat.le_refl _, by have := h.2; simp [maxLen]; omega, by simp [hl], ?_⟩⟩, h.2⟩
  simp [← hl]
section
variable {P : Program} {ops : Array Oper} {rest : List Oper} {o : Oper} {a : Act} {Q : Exit → Act → World → Prop}
/-- copy into a row of the call's own -/
theorem wpList_cp {S E : TypeId} {z : Value} {bytes : Nat} (et : ET P S E z bytes) (w : World) (hg : o.guard = none) (d s : Operand) (ho : o.op = .call { callee := .builtin .copy, args := #[d, s], argTypes := #[S, S] })
    (base g T off : Nat) (xs cs : List Value) (hown : Own w base E (some ⟨g, 0, none⟩) T T xs) (dp : Option Addr) (dLen dCap : Nat) (hd : a.eval d = .slice dp dLen dCap) (sp : Option Addr) (sLen sCap : Nat) (hs : a.eval s = .slice sp sLen sCap)
    (hn : cs.length = Nat.min sLen dLen) (hpos : 0 < cs.length → dp = some ⟨g, off, none⟩ ∧ ∃ ad, sp = some ad ∧ ∀ j v, cs[j]? = some v → w.cell? (ad.add j) = some v) (hfit : off + cs.length ≤ T) (h1 : ∀ v ∈ cs, v.oneCell' = true)
    (h : ∀ w', Own w' base E (some ⟨g, 0, none⟩) T T (splice xs off cs) → Below g w w' → wpList P ops Q rest (a.put o.dst (goInt cs.length)) w') : wpList P ops Q (o :: rest) a w := by
  obtain ⟨i, hi, hz, hsz, hby⟩ := info_parts et.info
  refine wpList_copy_splice hg d s S S ho E et.und (by rw [hi]; simp [hsz]) dp sp dLen dCap sLen sCap hd hs g off xs E hown.heap_ cs hn hpos (by rw [hown.len]; exact hfit) h1 g w (Below.refl _ _) (Nat.le_refl _) ?_
  intro w' hh hb
  exact h w' (hown.of_heap hh.out (by rw [length_splice _ _ _ (by rw [hown.len]; exact hfit), hown.len])) hb
theorem step_cp {S E : TypeId} {z : Value} {bytes : Nat} (et : ET P S E z bytes) {w : World} {K : Act → World → Prop} {X : Prop} (hg : o.guard = none) (d s : Operand) (ho : o.op = .call { callee := .builtin .copy, args := #[d, s], argTypes := #[S, S] })
    (base g T off : Nat) (xs cs : List Value) (hown : Own w base E (some ⟨g, 0, none⟩) T T xs) (dp : Option Addr) (dLen dCap : Nat) (hd : a.eval d = .slice dp dLen dCap) (sp : Option Addr) (sLen sCap : Nat) (hs : a.eval s = .slice sp sLen sCap)
    (hn : cs.length = Nat.min sLen dLen) (hpos : 0 < cs.length → dp = some ⟨g, off, none⟩ ∧ ∃ ad, sp = some ad ∧ ∀ j v, cs[j]? = some v → w.cell? (ad.add j) = some v) (hfit : off + cs.length ≤ T) (h1 : ∀ v ∈ cs, v.oneCell' = true)
    (h : ∀ w', Own w' base E (some ⟨g, 0, none⟩) T T (splice xs off cs) → Below g w w' → K (a.put o.dst (goInt cs.length)) w') : if Region.wanted o (yielded ops a.tmps) = true then Oper.wp P o a w K Q else X := by
  obtain ⟨i, hi, hz, hsz, hby⟩ := info_parts et.info
  refine step_copy_splice hg d s S S ho E et.und (by rw [hi]; simp [hsz]) dp sp dLen dCap sLen sCap hd hs g off xs E hown.heap_ cs hn hpos (by rw [hown.len]; exact hfit) h1 g w (Below.refl _ _) (Nat.le_refl _) ?_
  intro w' hh hb
  exact h w' (hown.of_heap hh.out (by rw [length_splice _ _ _ (by rw [hown.len]; exact hfit), hown.len])) hb
end

set_option maxRecDepth 100000 in
set_option maxHeartbeats 3200000 in
theorem repeat_any (ao : Option Addr) (n c count : Nat) (zs : List Int) (w : World) (h : Ints w ao n zs) (hn : n ≤ 1048576) (hc : count ≤ 1048576) (hnc : n * count ≤ 1048576) (hpos : 0 < n * count) :
    Calls Tryz.prog 45 #[.slice ao n c, .int .i64 count] w fun e w' => ∃ ao' c', e = .returned (.slice ao' (n * count) c') ∧ Own w' w.heap.size 2 ao' (n * count) c' ((repL zs count).map (Value.int .i64)) ∧ Below w.heap.size w w' := by
  have HL := Lib.hid h.1
  have hn0 : 0 < n := Nat.pos_of_mul_pos_right hpos
  have hc0 : 0 < count := Nat.pos_of_mul_pos_left hpos
  have hle : n ≤ n * count := Nat.le_mul_of_pos_right _ hc0
  obtain ⟨T, hT⟩ : ∃ T, n * count = T := ⟨_, rfl⟩
  rw [hT] at hpos hle ⊢
  have HT := Lib.hid hT
  have hT2 : T ≤ 1048576 := by omega
  clear hT hnc
  have hRl : ((repL zs count)).length = T := by rw [length_repL, HL.out, HT.out]
  have HR := Lib.hid hRl
  clear hRl
  obtain ⟨b, off, rfl, hb0, hcells⟩ := h.all_ hn0
  obtain ⟨cs, hcs⟩ : ∃ cs : List Value, cs = ((repL zs count).take n).map (Value.int .i64) := ⟨_, rfl⟩
  have hcl : cs.length = n := by rw [hcs]; simp [HR.out]; omega
  have hc1 : ∀ v ∈ cs, v.oneCell' = true := by rw [hcs]; exact ints_oneCell _ _
  have hcsv : ∀ j v, cs[j]? = some v → w.cell? ⟨b, off + j, none⟩ = some v := by
    intro j v hv
    have hj : j < n := by have := (List.getElem?_eq_some_iff.1 hv).1; omega
    have hrn : (repL zs count).take n = zs := by
      have e : repL zs count = zs ++ repL zs (count - 1) := by
        have : count = 1 + (count - 1) := by omega
        conv => lhs; rw [this]
        rw [repL_add, repL_one]
      rw [e, ← HL.out, List.take_left']; rfl
    rw [hcs, hrn, List.getElem?_map, List.getElem?_eq_getElem (by rw [HL.out]; exact hj)] at hv
    rw [hcells j hj, ← hv, iget_lt (by rw [HL.out]; exact hj)]; rfl
  have HCS := Lib.hid hcs
  have HCL := Lib.hid hcl
  have HC1 := Lib.hid hc1
  have HCV := Lib.hid hcsv
  have x1 := wrap_u64_nat n (by omega)
  have x2 := wrap_u64_nat count (by omega)
  clear hcs hcl hc1 hcsv hcells
  go_enter Tryz.func45, Tryz.ntmps45
  go_wp2_with (first | (go_at_call 56; refine (bitsMul_any n count _ hn hc (by rw [HT.out]; omega)).mono ?_; rintro e w' ⟨rfl, rfl⟩; rw [HT.out]) | (at_make; refine wpList_mk etI _ rfl _ _ rfl w.heap.size _ _ _ _ T rfl rfl rfl rfl (by omega) (Nat.le_refl _) ?_; intro w1 hown hgrow hsz; have hb1 : Below w.heap.size w w1 := (Below.refl _ _).grown hgrow (Nat.le_refl _) (by simp); clear hgrow) | (with_reducible refine wpList_cp (o := ⟨some 33, _, _, _, _, _⟩) etI _ rfl (.tmp 31) (.tmp 32) rfl w.heap.size w.heap.size T 0 _ cs hown _ _ _ rfl _ _ _ rfl ?_ ?_ ?_ HC1.out ?_))
  · rw [HCL.out]; exact (Nat.min_eq_left hle).symm
  · exact fun _ j v hv => (hb1.cell (p := ⟨b, off + j, none⟩) hb0).trans (HCV.out j v hv)
  · rw [HCL.out]; omega
  intro w2 o2 b2
  have hb2 : Below w.heap.size w w2 := hb1.trans b2
  have e0 : splice (List.replicate T (Value.int .i64 0)) 0 cs = ((repL zs count).take n ++ List.replicate (T - n) 0).map (Value.int .i64) := by
    rw [HCS.out, ← List.map_replicate]
    have := splice_pad (R := repL zs count) (z := (0 : Int)) (k := 0) (c := n) HR.out (by omega) (by simp)
    simp only [List.take_zero, List.nil_append, Nat.zero_add, Nat.sub_zero] at this
    rw [← this]
    simp [splice]
  rw [e0] at o2
  rw [HCL.out]
  clear e0 hown hsz hb1 b2 HCV HC1 HCS HCL
  go_wp2
  go_loopw [8] (fun i wr => ∃ k j : Nat, i = .int .i64 k ∧ 0 < k ∧ k ≤ T ∧ (k = n * j ∧ j ≤ count ∨ k = T) ∧ Own wr w.heap.size 2 (some ⟨w.heap.size, 0, none⟩) T T (((repL zs count).take k ++ List.replicate (T - k) 0).map (Value.int .i64)) ∧ Below w.heap.size w wr) (fun i _ => T - (intOf i).toNat)
  case atStart => exact ⟨n, 1, by simp, hn0, hle, .inl ⟨by omega, by omega⟩, o2, hb2⟩
  case round =>
    obtain ⟨k, j, rfl, hk0, hkT, hkj, ho, hb⟩ := hrel
    clear o2 hb2
    have HK := Lib.hid hkj
    clear hkj
    by_cases hlt : k < T
    · obtain ⟨c2, hc2⟩ : ∃ c2, c2 = Nat.min k (T - k) := ⟨_, rfl⟩
      have hc2a : c2 ≤ k := by rw [hc2]; exact Nat.min_le_left _ _
      have hc2b : c2 ≤ T - k := by rw [hc2]; exact Nat.min_le_right _ _
      have hc2c : 0 < c2 := by rw [hc2]; exact Nat.lt_min.2 ⟨hk0, by omega⟩
      have hdb : (repL zs count).take (k + c2) = (repL zs count).take k ++ (repL zs count).take c2 := by
        rcases HK.out with ⟨e, hj⟩ | e
        · have hx : c2 ≤ zs.length * (count - j) := by rw [HL.out, Nat.mul_sub, HT.out, ← e]; exact hc2b
          have := repL_double (zs := zs) hj hx
          rwa [HL.out, ← e] at this
        · omega
      obtain ⟨cs, hcs⟩ : ∃ cs : List Value, cs = ((repL zs count).take c2).map (Value.int .i64) := ⟨_, rfl⟩
      have hcl : cs.length = c2 := by rw [hcs]; simp [HR.out]; omega
      have hc1 : ∀ v ∈ cs, v.oneCell' = true := by rw [hcs]; exact ints_oneCell _ _
      have hcsv : ∀ j v, cs[j]? = some v → wr.cell? ⟨w.heap.size, j, none⟩ = some v := by
        intro j v hv
        have hj : j < c2 := by have := (List.getElem?_eq_some_iff.1 hv).1; omega
        obtain ⟨g', eg, -, -, -, hcell, -⟩ := ho.form (by omega)
        injection eg with eg; injection eg with eg; subst eg
        rw [hcell j (by omega), ← hv, hcs, List.getElem?_map, List.getElem?_map, List.getElem?_append_left (by simp [HR.out]; omega), List.getElem?_take, List.getElem?_take, if_pos (by omega), if_pos (by omega)]
      have HD := Lib.hid hdb
      have HC := Lib.hid hcs
      have HCL := Lib.hid hcl
      have HC1 := Lib.hid hc1
      have HCV := Lib.hid hcsv
      have HC2 := Lib.hid hc2
      have hTk : ((T - k : Nat) : Int) = (T : Int) - k := by omega
      clear hdb hcs hcl hc1 hcsv hc2 hTk
      go_wp2_with fail
      have HB := Lib.hid hb
      have HS := Lib.hid (show ((k : Nat) : Int) + ((c2 : Nat) : Int) = ((k + c2 : Nat) : Int) by omega)
      have hw : IntKind.i64.wrap (((k + c2 : Nat) : Nat) : Int) = ((k + c2 : Nat) : Int) := by simp [IntKind.wrap, IntKind.signed, IntKind.bits]; omega
      have HW := Lib.hid hw
      clear hw
      go_region_held3 (fun w' => Below w.heap.size w w') (first | exact HB.out.drew | assumption) (first | (refine step_cp (o := ⟨some 45, _, _, _, _, _⟩) etI rfl (.tmp 41) (.tmp 44) rfl w.heap.size w.heap.size T k _ cs (ho.drewN 1) _ _ _ rfl _ _ _ rfl ?_ ?_ ?_ HC1.out ?_; (rw [HCL.out, HC2.out]); (intro _; exact ⟨if_neg (by omega), _, rfl, fun j v hv => by have hx := HCV.out j v hv; by_cases e : j = 0 <;> simp_all [Addr.add]⟩); (rw [HCL.out]; omega); intro w3 o3 b3; have b4 : Below w.heap.size w w3 := HB.out.drew.trans b3))
      rw [HCL.out, HS.out, HW.out]
      have o4 : Own w3 w.heap.size 2 (some ⟨w.heap.size, 0, none⟩) T T (((repL zs count).take (k + c2) ++ List.replicate (T - (k + c2)) 0).map (Value.int .i64)) := by
        have e := splice_pad (R := repL zs count) (z := (0 : Int)) (k := k) (c := c2) HR.out (by omega) HD.out
        rw [← e]
        rw [HC.out] at o3
        rw [splice_map]
        exact o3
      go_roundw
      case rel =>
        refine ⟨_, _, _, _, _, _, _, _, _, _, _, _, _, _, ⟨k + c2, 2 * j, rfl, by omega, by omega, ?_, o4, b4⟩, rfl⟩
        rcases HK.out with ⟨e, hj⟩ | e
        · by_cases hx : k ≤ T - k
          · have hc2k : c2 = k := by rw [HC2.out]; exact Nat.min_eq_left hx
            left
            have e2 : n * (2 * j) = k + k := by rw [e, Nat.mul_left_comm]; omega
            refine ⟨by omega, ?_⟩
            have : n * (2 * j) ≤ n * count := by rw [HT.out]; omega
            exact Nat.le_of_mul_le_mul_left this hn0
          · have hc2k : c2 = T - k := by rw [HC2.out]; exact Nat.min_eq_right (by omega)
            right; omega
        · omega
      case measure => simp [intOf]; omega
    · obtain rfl : k = T := by omega
      rw [Nat.sub_self, List.replicate_zero, List.append_nil, List.take_of_length_le (Nat.le_of_eq HR.out)] at ho
      go_wp2
      go_ret
      exact ⟨_, _, rfl, ho, hb⟩
end Go.Proofs.YtljimlejcecleaaGreatDoor

/- Contracts in names of small functions: size, slices.Repeat. -/
namespace Go.Proofs.YtljimlejcecleaaGreatDoor
open Go.RowKit

theorem sizeV_fc (x n : Nat) : FC Tryz.prog 43 [] [o1 (.sl x 0 n)] [] (vv (I6 n)) [] := by
  refine fc_enter (nt := 5) Tryz.func43 rfl rfl (by simp) fun w0 ω0 => ?_
  (refine goes_seq ?_; refine goes_region ?_; apply run_step rfl; (exact stp_assign rfl rfl); refine run_nil ?_; refine fin_seq ?_; refine goes_seq ?_; refine goes_region ?_; apply run_step rfl; (exact stp_move rfl rfl); apply run_step rfl; (exact stp_len rfl rfl rfl (by as_aux_lemma => kernel_rfl)); apply run_step rfl; (exact stp_assign rfl rfl); refine run_nil ?_; refine fin_seq ?_; refine goes_ret ?_)
  exact fin_ret1 (.inl rfl) rfl (.tmp rfl) trivial trivial

theorem sizeE_fc (x i n : Nat) : FC Tryz.prog 43 [] [o1 (.esl x i 0 n)] [] (vv (I6 n)) [] := by
  refine fc_enter (nt := 5) Tryz.func43 rfl rfl (by simp) fun w0 ω0 => ?_
  (refine goes_seq ?_; refine goes_region ?_; apply run_step rfl; (exact stp_assign rfl rfl); refine run_nil ?_; refine fin_seq ?_; refine goes_seq ?_; refine goes_region ?_; apply run_step rfl; (exact stp_move rfl rfl); apply run_step rfl; (exact stp_len rfl rfl rfl (by as_aux_lemma => kernel_rfl)); apply run_step rfl; (exact stp_assign rfl rfl); refine run_nil ?_; refine fin_seq ?_; refine goes_ret ?_)
  exact fin_ret1 (.inl rfl) rfl (.tmp rfl) trivial trivial

theorem repL_single (z : Int) : ∀ n, repL [z] n = List.replicate n z := fun n => by
  unfold repL
  induction n with
  | zero => rfl
  | succ n ih => simp [List.replicate_succ] at ih ⊢
theorem lk_self {α : Type} (x : Nat) (c : α) : lk x [(x, c)] = some c := by simp [lk]
/-- slices.Repeat of a list of one number -/
theorem repeat1_fc (x y n : Nat) (z : Int) (hn : n ≤ 1048576) (hn0 : 0 < n) :
    FC Tryz.prog 45 [(x, ⟨false, 2, 1, .vals (ivals [z])⟩)] [o1 (.sl x 0 1), vv (I6 n)] [(y, ⟨true, 2, 1, .vals (ivals (List.replicate n z))⟩)] (o1 (.sl y 0 n)) [] := by
  have h := fc_of_own (P := Tryz.prog) (f := 45) (ins := [(x, ⟨false, 2, 1, .vals (ivals [z])⟩)]) (args := [o1 (.sl x 0 1), vv (I6 n)]) (x := y) (E := 2) (zs := List.replicate n z) fun w η ω us hm hd => by
    obtain ⟨hl, ha⟩ := hd
    obtain ⟨u0, h0, d0⟩ := ha 0 _ rfl
    obtain ⟨u1, h1, d1⟩ := ha 1 _ rfl
    obtain ⟨ao, c, e0, hi⟩ := rdS (zs := [z]) (E := 2) (own := false) hm (lk_self _ _) d0 (by simp)
    have d1 : u1 = I6 n := d1
    subst e0 d1
    obtain rfl : us = [.slice ao 1 c, I6 n] := by
      match us, hl, h0, h1 with
      | [p, q], _, h0, h1 => simp at h0 h1; rw [h0, h1]
    refine (repeat_any ao 1 c n [z] w hi (by omega) hn (by omega) (by omega)).mono ?_
    rintro e w' ⟨ao', c', rfl, ho, hb⟩
    rw [Nat.one_mul, repL_single] at ho
    rw [List.length_replicate]
    exact ⟨ao', c', by rw [Nat.one_mul], ho, hb⟩
  rw [List.length_replicate] at h
  exact h
end Go.Proofs.YtljimlejcecleaaGreatDoor

/- The components of a diagram, the program's: components. guards: -/
namespace Go.Proofs.YtljimlejcecleaaGreatDoor
open Go.RowKit

/-- components as cells: a mask, a row of labels -/
abbrev mixC (ps : Cmps) : List Cel := ps.flatMap fun p => [.v (I6 (p.1 : Int)), .r 2 1 p.2.length (ivals p.2)]
abbrev cpOw (ps : Cmps) : Ch := ⟨true, 45, 2, .mix (mixC ps)⟩
theorem mixC_len (ps : Cmps) : (mixC ps).length = ps.length * 2 := by
  induction ps with
  | nil => rfl
  | cons p r ih => simp [mixC] at ih ⊢; omega
theorem mixC_get : ∀ {ps : Cmps} {k : Nat}, k < ps.length → (mixC ps)[k * 2]? = some (.v (I6 ((cget ps k).1 : Int))) ∧ (mixC ps)[k * 2 + 1]? = some (.r 2 1 (cget ps k).2.length (ivals (cget ps k).2))
  | [], _, h => by simp at h
  | p :: r, 0, _ => ⟨rfl, rfl⟩
  | p :: r, k + 1, h => by
    have := mixC_get (ps := r) (k := k) (by simpa using h)
    rw [show (k + 1) * 2 = k * 2 + 2 by omega]
    exact this
theorem mixC_app (a b : Cmps) : mixC (a ++ b) = mixC a ++ mixC b := by simp [mixC]
theorem mixC_set : ∀ (ps : Cmps) (k : Nat) (m : Nat) (zs : List Int), k < ps.length → ((mixC ps).set (k * 2) (.v (I6 (m : Int)))).set (k * 2 + 1) (.r 2 1 zs.length (ivals zs)) = mixC (ps.set k (m, zs))
  | [], _, _, _, h => by simp at h
  | p :: r, 0, m, zs, _ => rfl
  | p :: r, k + 1, m, zs, h => by
    have := mixC_set r k m zs (by simpa using h)
    rw [show (k + 1) * 2 = k * 2 + 2 by omega]
    show ((.v (I6 (p.1 : Int))) :: .r 2 1 p.2.length (ivals p.2) :: ((mixC r).set (k * 2) (.v (I6 (m : Int)))).set (k * 2 + 1) (.r 2 1 zs.length (ivals zs))) = _
    rw [this]; rfl
set_option maxRecDepth 100000 in
set_option maxHeartbeats 2000000 in
theorem comps_fc (zs : List Int) (L mask : Nat) (hL : zs.length = L) (h4 : L ≤ 4) (hm : mask < 1000) :
    FC Tryz.prog 23 [(1003, wRo zs)] [o1 (.sl 1003 0 L), vv (I6 mask)] [(2000, cpOw (comps zs mask))] (o1 (.sl 2000 0 (comps zs mask).length)) [] := by
  have hSz := sizeV_fc 1003 L
  refine fc_enter (nt := 68) Tryz.func23 rfl rfl (by simp) fun w0 ω0 => ?_
  have hil : L ≤ (ivals zs).length := by rw [ivals_len, hL]; exact Nat.le_refl _
  have hL1 : IntKind.i64.wrap ((L : Int) + 1) = ((L + 1 : Nat) : Int) := IntWalk.i64_in _ (by omega)
  (refine goes_seq ?_; refine goes_region ?_; apply run_step rfl; (exact stp_assign rfl rfl); refine run_nil ?_; refine fin_seq ?_; refine goes_seq ?_; refine goes_region ?_; apply run_step rfl; (exact stp_assign rfl rfl); refine run_nil ?_; refine fin_seq ?_; refine goes_seq ?_; refine goes_region ?_; apply run_step rfl; (exact stp_assign rfl rfl); refine run_nil ?_; refine fin_seq ?_; refine goes_seq ?_; refine goes_seq ?_; refine goes_region ?_; apply run_step rfl; (exact stp_move rfl rfl); apply run_step rfl; (first | (apply call_gate 43; exact stp_callR hSz (by as_aux_lemma => kernel_rfl) rfl rfl ⟨rfl, trivial⟩ trivial rfl rfl) | exact stp_add rfl rfl rfl hL1); apply run_step rfl; (first | (apply call_gate 43; exact stp_callR hSz (by as_aux_lemma => kernel_rfl) rfl rfl ⟨rfl, trivial⟩ trivial rfl rfl) | exact stp_add rfl rfl rfl hL1); apply run_step rfl; (exact stp_move rfl rfl); refine run_nil ?_; refine fin_seq ?_; refine goes_block ?_)
  refine goes_loop (fun q : Nat × Cmps × Bool => St.of [(0, o1 (.sl 1003 0 L)), (1, vv (I6 mask)), (5, o1 (.sl 2000 0 q.2.1.length)), (6, vv (.bool q.2.2)), (11, vv (I6 (L + 1 : Nat))), (12, vv (I6 q.1))] [(1003, wRo zs), (2000, cpOw q.2.1)])
    (fun q => q.1 ≤ L + 1 ∧ pTo zs mask q.1 = q.2.1 ∧ (q.1 ≤ L → q.2.2 = jn zs mask q.1)) (fun q => L + 1 - q.1) (0, [], false) ⟨Nat.zero_le _, rfl, fun _ => rfl⟩
    (Wk.trans (wk_nil (t := 5) (n := 2000) (k := 2) (E := 45) (d := .mix (mixC [])) rfl rfl) (Wk.of ⟨rfl, rfl, rfl, rfl, rfl, rfl, trivial⟩ ⟨rfl, rfl, trivial⟩ trivial)) ?_
  rintro ⟨i, ps, jb⟩ ⟨hi, hp, hj⟩
  dsimp only at hi hp hj ⊢
  have hps := pTo_ok zs mask i (by omega)
  have hnx := pTo_succ zs mask i
  rw [hp] at hps hnx
  have hpl : ps.length ≤ 5 := by have := csum_len ps; have := hps.sum; omega
  have hmx := mixC_len ps
  (refine goes_seq ?_; refine goes_region ?_; apply run_step rfl; (exact stp_bin rfl rfl rfl rfl); refine run_nil ?_; refine fin_seq ?_; refine goes_seq ?_)
  refine goes_if rfl (fun hlt => ?_) (fun hlt => ?_)
  · have hiL : i ≤ L := by omega
    have hj := hj hiL
    have hi64 : i ≤ 64 := by omega
    have hmm : mask < 1000000 := by omega
    have hmle : mask / 2 ^ i ≤ mask := Nat.div_le_self _ _
    (refine goes_skip ?_; refine fin_seq ?_; refine goes_seq ?_; refine goes_block ?_; refine goes_seq ?_; refine goes_region ?_; apply run_step rfl; (exact stp_move rfl rfl); apply run_step rfl; (exact stp_assign rfl rfl); refine run_nil ?_; refine fin_seq ?_; refine goes_seq ?_; refine goes_seq ?_; refine goes_region ?_; apply run_step rfl; (exact stp_move rfl rfl); apply run_step rfl; (exact stp_move rfl rfl); apply run_step rfl; (first | exact stp_shrN (g := i) rfl rfl rfl hi64 | exact stp_bit rfl rfl hmm | exact stp_eqBit0 rfl rfl); apply run_step rfl; (first | exact stp_shrN (g := i) rfl rfl rfl hi64 | exact stp_bit rfl rfl hmm | exact stp_eqBit0 rfl rfl); apply run_step rfl; (first | exact stp_shrN (g := i) rfl rfl rfl hi64 | exact stp_bit rfl rfl hmm | exact stp_eqBit0 rfl rfl); refine run_nil ?_; refine fin_seq ?_)
    refine goes_cond rfl (fun hb => ?_) (fun hb => ?_)
    · have hb : mBit mask i = false := by simpa using hb
      have hv : pTo zs mask (i + 1) = ps := by rw [hnx]; unfold pStep; rw [if_neg (by rw [hb]; simp)]
      (refine goes_seq ?_; refine goes_region ?_; apply run_step rfl; (exact stp_assign rfl rfl); refine run_nil ?_; refine fin_seq ?_; refine goes_exit ?_; refine fin_exit_then ?_; refine fin_exit_eq ?_; refine fin_seq ?_; refine goes_region ?_; apply run_step rfl; (exact stp_add rfl rfl rfl (by first | exact IntWalk.i64_in _ (by omega) | rfl)); apply run_step rfl; (exact stp_move rfl rfl); refine run_nil ?_)
      exact fin_round (i + 1, ps, false) ⟨by omega, hv, fun _ => by unfold jn; rw [Nat.add_sub_cancel, hb]; simp⟩ (by show L + 1 - (i + 1) < L + 1 - i; omega) (Wk.of ⟨rfl, rfl, rfl, rfl, rfl, rfl, trivial⟩ ⟨rfl, rfl, trivial⟩ trivial)
    · have hb : mBit mask i = true := by simpa using hb
      unfold pStep at hnx
      rw [if_pos hb, ← hj] at hnx
      have hjn : ∀ b : Bool, i ≤ L → (i + 1 ≤ L → b = !(iget zs i == 2)) → (i + 1 ≤ L → b = jn zs mask (i + 1)) := fun b _ h1 h2 => by
        rw [h1 h2]; unfold jn; rw [Nat.add_sub_cancel, hb]; simp
      have hi5 : i ≤ 5 := by omega
      (refine goes_skip ?_; refine fin_seq ?_; refine goes_seq ?_; refine goes_seq ?_; refine goes_region ?_; apply run_step rfl; (exact stp_move rfl rfl); refine run_nil ?_; refine fin_seq ?_)
      refine goes_cut (St.of [(0, o1 (.sl 1003 0 L)), (1, vv (I6 mask)), (5, o1 (.sl 2000 0 (pTo zs mask (i + 1)).length)), (7, vv (I6 i)), (11, vv (I6 (L + 1 : Nat))), (12, vv (I6 i))] [(1003, wRo zs), (2000, cpOw (pTo zs mask (i + 1)))]) ?_ ?_
      · refine goes_cond rfl (fun hjb => ?_) (fun hjb => ?_)
        · have hjs := jn_spec (hj ▸ hjb)
          have hne := hps.ne hjs.1 hjs.2.1
          obtain ⟨j, hjl⟩ : ∃ j, ps.length = j + 1 := ⟨ps.length - 1, by omega⟩
          have hjp : j < ps.length := by omega
          have hv : pTo zs mask (i + 1) = ps.set j ((cget ps j).1 ||| 2 ^ i, (cget ps j).2 ++ [iget zs (i - 1)]) := by
            rw [hnx, if_pos hjb]; unfold pLast; rw [show ps.length - 1 = j by omega]
          have hsub : IntKind.i64.wrap ((ps.length : Int) - 1) = (j : Int) := by rw [hjl]; exact (IntWalk.i64_in _ (by omega)).trans (by omega)
          have hget := mixC_get hjp
          have hmlt := hps.lt _ (cget_mem hjp)
          have hllt := csum_le (cget_mem hjp)
          have hsum := hps.sum
          have h2i : 2 ^ i ≤ 2 ^ 5 := Nat.pow_le_pow_right (by decide) hi5
          have hset := mixC_set ps j ((cget ps j).1 ||| 2 ^ i) ((cget ps j).2 ++ [iget zs (i - 1)]) hjp
          have hml : (mixC ps).length = ps.length * 2 := hmx
          rw [hv]
          generalize (cget ps j).1 = m at *
          generalize (cget ps j).2 = labs at *
          have gz : (ivals zs)[i - 1]? = some (I6 (iget zs (i - 1))) := ivals_get (by omega)
          have hi1 : (i : Int) - 1 = ((i - 1 : Nat) : Int) := by omega
          have hi1L : i - 1 < L := by omega
          have hm6 : m < 1000000 := by omega
          have h2i6 : 2 ^ i < 1000000 := by omega
          have hv0 : (mixC ps)[j * 2 + 0]? = some (.v (I6 (m : Int))) := hget.1
          have hv1 : ((mixC ps).set (j * 2 + 0) (.v (I6 ((m ||| 2 ^ i : Nat) : Int))))[j * 2 + 1]? = some (.r 2 1 labs.length (ivals labs)) := by
            rw [List.getElem?_set_ne (by omega)]; exact hget.2
          have hvl : (ivals (labs ++ [iget zs (i - 1)])).length = (labs.length + 1) * 1 := by rw [ivals_len]; simp
          have hk1l : j * 2 + 1 < (((mixC ps).set (j * 2 + 0) (.v (I6 ((m ||| 2 ^ i : Nat) : Int)))).set (j * 2 + 1) .any).length := by rw [List.length_set, List.length_set]; omega
          have hfin : (((mixC ps).set (j * 2 + 0) (.v (I6 ((m ||| 2 ^ i : Nat) : Int)))).set (j * 2 + 1) .any).set (j * 2 + 1) (.r 2 1 (labs.length + 1) (ivals (labs ++ [iget zs (i - 1)]))) = mixC (ps.set j (m ||| 2 ^ i, labs ++ [iget zs (i - 1)])) := by
            rw [List.set_set, ← hset]; simp
          have hix : ps.length * 2 ≤ (mixC ps).length := Nat.le_of_eq hmx.symm
          (refine goes_seq ?_; refine goes_region ?_; apply run_step rfl; (exact stp_move rfl rfl); apply run_step rfl; (exact stp_move rfl rfl); apply run_step rfl; (exact stp_len rfl rfl rfl (by as_aux_lemma => kernel_rfl)); apply run_step rfl; (first | exact stp_sub rfl rfl rfl hsub | exact stp_ixT (k := 2) (j := j) rfl rfl rfl rfl rfl (by as_aux_lemma => kernel_rfl) rfl hjp hix (by omega) rfl); apply run_step rfl; (first | exact stp_sub rfl rfl rfl hsub | exact stp_ixT (k := 2) (j := j) rfl rfl rfl rfl rfl (by as_aux_lemma => kernel_rfl) rfl hjp hix (by omega) rfl); apply run_step rfl; (exact stp_assign rfl rfl); refine run_nil ?_; refine fin_seq ?_; refine goes_seq ?_)
          apply goes_draw 7 [] [[], [0], [0, 1], [0, 1, 2], [], [4], [0, 1, 2, 3, 4, 5], [0, 1, 2, 3, 4, 5, 6], [0, 1, 2, 3, 4, 5, 6, 7], [0, 1, 2, 3, 4, 5, 6, 7, 8]] [26, 27, 28, 29, 30, 31, 32] [] (by kernel_rfl) (by kernel_rfl)
          · (apply draw_put rfl; (intro S1 hS; exact stp_move rfl (hS.op rfl)); apply draw_put rfl; (intro S1 hS; exact stp_nilCheck rfl (hS.op rfl) (hS.ch _ _ rfl)); apply draw_put rfl; (intro S1 hS; exact stp_fieldAddr (d := 0) rfl (hS.op rfl) (hS.ch _ _ rfl) (by as_aux_lemma => kernel_rfl)); (first | (apply draw_put rfl; (focus (intro S1 hS; exact stp_loadM rfl (by as_aux_lemma => kernel_rfl) (hS.op rfl) (hS.ch _ _ rfl) rfl hv0))) | (apply draw_put rfl; (focus (intro S1 hS; exact stp_shl1 (g := i) rfl (hS.op rfl) (hS.op rfl) hi5))) | (apply draw_put rfl; (focus (intro S1 hS; exact stp_orN rfl (hS.op rfl) (hS.op rfl) hm6 h2i6)))); apply draw_put rfl; (intro S1 hS; exact stp_move rfl (hS.op rfl)); (first | (apply draw_put rfl; (focus (intro S1 hS; exact stp_loadM rfl (by as_aux_lemma => kernel_rfl) (hS.op rfl) (hS.ch _ _ rfl) rfl hv0))) | (apply draw_put rfl; (focus (intro S1 hS; exact stp_shl1 (g := i) rfl (hS.op rfl) (hS.op rfl) hi5))) | (apply draw_put rfl; (focus (intro S1 hS; exact stp_orN rfl (hS.op rfl) (hS.op rfl) hm6 h2i6)))); (first | (apply draw_put rfl; (focus (intro S1 hS; exact stp_loadM rfl (by as_aux_lemma => kernel_rfl) (hS.op rfl) (hS.ch _ _ rfl) rfl hv0))) | (apply draw_put rfl; (focus (intro S1 hS; exact stp_shl1 (g := i) rfl (hS.op rfl) (hS.op rfl) hi5))) | (apply draw_put rfl; (focus (intro S1 hS; exact stp_orN rfl (hS.op rfl) (hS.op rfl) hm6 h2i6)))); exact Draw.nil)
          · rfl
          ((apply rest_one 7 rfl (by as_aux_lemma => kernel_rfl) rfl rfl; (exact stp_nilCheck rfl rfl rfl)); (apply rest_one 8 rfl (by as_aux_lemma => kernel_rfl) rfl rfl; (exact stp_fieldAddr (d := 0) rfl rfl rfl (by as_aux_lemma => kernel_rfl))); (apply rest_one 9 rfl (by as_aux_lemma => kernel_rfl) rfl rfl; (exact stp_storeM rfl rfl rfl rfl rfl hv0 (by as_aux_lemma => kernel_rfl) rfl)); (refine rest_done (by as_aux_lemma => kernel_rfl) ?_; skip))
          (refine fin_seq ?_)
          apply goes_drawF 11 [] 0 [[], [], [1], [1, 2], [1, 2, 3], [], [], [6], [5, 6, 7], [5, 6, 7, 8], [5, 6, 7, 8, 9], [1, 2, 3, 4, 5, 6, 7, 8, 9, 10], [0, 1, 2, 3, 4, 5, 6, 7, 8, 9, 10, 11], [0, 1, 2, 3, 4, 5, 6, 7, 8, 9, 10, 11, 12], [0, 1, 2, 3, 4, 5, 6, 7, 8, 9, 10, 11, 12, 13]] [35, 36, 37, 38, 39, 40, 41, 42, 43, 44, 45] [45] (by kernel_rfl) (by kernel_rfl) rfl
          · (apply draw_put rfl; (intro S1 hS; exact stp_move rfl (hS.op rfl)); apply draw_put rfl; (intro S1 hS; exact stp_move rfl (hS.op rfl)); apply draw_put rfl; (intro S1 hS; exact stp_nilCheck rfl (hS.op rfl) (hS.ch _ _ rfl)); apply draw_put rfl; (intro S1 hS; exact stp_fieldAddr (d := 1) rfl (hS.op rfl) (hS.ch _ _ rfl) (by as_aux_lemma => kernel_rfl)); (first | (apply draw_put rfl; (focus (intro S1 hS; exact stp_loadMR rfl (by as_aux_lemma => kernel_rfl) (hS.op rfl) (hS.ch _ _ rfl) rfl hv1))) | (apply draw_put rfl; (focus (intro S1 hS; exact stp_sub rfl (hS.op rfl) (hS.op rfl) (IntWalk.i64_in _ (by omega))))) | (apply draw_put rfl; (focus (intro S1 hS; exact stp_ix (j := i - 1) rfl (hS.op rfl) (hS.op rfl) (hS.ch _ _ rfl) rfl (by as_aux_lemma => kernel_rfl) hi1 hi1L hil))) | (apply draw_put rfl; (focus (intro S1 hS; exact stp_loadV rfl (by as_aux_lemma => kernel_rfl) (hS.op rfl) (hS.ch _ _ rfl) rfl gz)))); apply draw_put rfl; (intro S1 hS; exact stp_move rfl (hS.op rfl)); apply draw_put rfl; (intro S1 hS; exact stp_move rfl (hS.op rfl)); (first | (apply draw_put rfl; (focus (intro S1 hS; exact stp_loadMR rfl (by as_aux_lemma => kernel_rfl) (hS.op rfl) (hS.ch _ _ rfl) rfl hv1))) | (apply draw_put rfl; (focus (intro S1 hS; exact stp_sub rfl (hS.op rfl) (hS.op rfl) (IntWalk.i64_in _ (by omega))))) | (apply draw_put rfl; (focus (intro S1 hS; exact stp_ix (j := i - 1) rfl (hS.op rfl) (hS.op rfl) (hS.ch _ _ rfl) rfl (by as_aux_lemma => kernel_rfl) hi1 hi1L hil))) | (apply draw_put rfl; (focus (intro S1 hS; exact stp_loadV rfl (by as_aux_lemma => kernel_rfl) (hS.op rfl) (hS.ch _ _ rfl) rfl gz)))); (first | (apply draw_put rfl; (focus (intro S1 hS; exact stp_loadMR rfl (by as_aux_lemma => kernel_rfl) (hS.op rfl) (hS.ch _ _ rfl) rfl hv1))) | (apply draw_put rfl; (focus (intro S1 hS; exact stp_sub rfl (hS.op rfl) (hS.op rfl) (IntWalk.i64_in _ (by omega))))) | (apply draw_put rfl; (focus (intro S1 hS; exact stp_ix (j := i - 1) rfl (hS.op rfl) (hS.op rfl) (hS.ch _ _ rfl) rfl (by as_aux_lemma => kernel_rfl) hi1 hi1L hil))) | (apply draw_put rfl; (focus (intro S1 hS; exact stp_loadV rfl (by as_aux_lemma => kernel_rfl) (hS.op rfl) (hS.ch _ _ rfl) rfl gz)))); (first | (apply draw_put rfl; (focus (intro S1 hS; exact stp_loadMR rfl (by as_aux_lemma => kernel_rfl) (hS.op rfl) (hS.ch _ _ rfl) rfl hv1))) | (apply draw_put rfl; (focus (intro S1 hS; exact stp_sub rfl (hS.op rfl) (hS.op rfl) (IntWalk.i64_in _ (by omega))))) | (apply draw_put rfl; (focus (intro S1 hS; exact stp_ix (j := i - 1) rfl (hS.op rfl) (hS.op rfl) (hS.ch _ _ rfl) rfl (by as_aux_lemma => kernel_rfl) hi1 hi1L hil))) | (apply draw_put rfl; (focus (intro S1 hS; exact stp_loadV rfl (by as_aux_lemma => kernel_rfl) (hS.op rfl) (hS.ch _ _ rfl) rfl gz)))); apply draw_new rfl; (intro S1 hS; exact stp_lit1I (E := 2) rfl (by as_aux_lemma => kernel_rfl) (hS.op rfl)); exact Draw.nil)
          · rfl
          · refine rest_join (St.of [(0, o1 (.sl 1003 0 L)), (1, vv (I6 mask)), (5, o1 (.sl 2000 0 ps.length)), (7, vv (I6 i)), (11, vv (I6 (L + 1 : Nat))), (12, vv (I6 i))] [(1003, wRo zs), (2000, cpOw (ps.set j (m ||| 2 ^ i, labs ++ [iget zs (i - 1)])))]) ?_ ?_
            · ((apply rest_one 11 rfl (by as_aux_lemma => kernel_rfl) rfl rfl; ((first | exact Stp.pre (wk_takeMx (n := 2000) (z := 46) (s := 39) rfl rfl hv1 rfl) (stp_appI rfl (by as_aux_lemma => kernel_rfl) rfl rfl rfl rfl rfl rfl (by omega)) | exact stp_storeMx rfl rfl rfl rfl hvl rfl hk1l (by as_aux_lemma => kernel_rfl)))); (apply rest_one 12 rfl (by as_aux_lemma => kernel_rfl) rfl rfl; (exact stp_nilCheck rfl rfl rfl)); (apply rest_one 13 rfl (by as_aux_lemma => kernel_rfl) rfl rfl; (exact stp_fieldAddr (d := 1) rfl rfl rfl (by as_aux_lemma => kernel_rfl))); (apply rest_one 14 rfl (by as_aux_lemma => kernel_rfl) rfl rfl; ((first | exact Stp.pre (wk_takeMx (n := 2000) (z := 46) (s := 39) rfl rfl hv1 rfl) (stp_appI rfl (by as_aux_lemma => kernel_rfl) rfl rfl rfl rfl rfl rfl (by omega)) | exact stp_storeMx rfl rfl rfl rfl hvl rfl hk1l (by as_aux_lemma => kernel_rfl)))); (refine rest_done (by as_aux_lemma => kernel_rfl) ?_; exact fin_join (Wk.of ⟨rfl, rfl, rfl, rfl, rfl, rfl, trivial⟩ ⟨rfl, congrArg (fun l => some (⟨true, 45, 2, .mix l⟩ : Ch)) hfin, trivial⟩ trivial)))
            · (skip)
              exact fin_join (Wk.of ⟨rfl, rfl, congrArg (fun n => some (o1 (.sl 2000 0 n))) (List.length_set ..).symm, rfl, rfl, rfl, trivial⟩ ⟨rfl, rfl, trivial⟩ trivial)
          · refine rest_join (St.of [(0, o1 (.sl 1003 0 L)), (1, vv (I6 mask)), (5, o1 (.sl 2000 0 ps.length)), (7, vv (I6 i)), (11, vv (I6 (L + 1 : Nat))), (12, vv (I6 i))] [(1003, wRo zs), (2000, cpOw (ps.set j (m ||| 2 ^ i, labs ++ [iget zs (i - 1)])))]) ?_ ?_
            · ((apply rest_two 0 11 rfl (by as_aux_lemma => kernel_rfl) rfl rfl rfl rfl; (exact stp_move rfl rfl); ((first | exact Stp.pre (wk_takeMx (n := 2000) (z := 46) (s := 39) rfl rfl hv1 rfl) (stp_appI rfl (by as_aux_lemma => kernel_rfl) rfl rfl rfl rfl rfl rfl (by omega)) | exact stp_storeMx rfl rfl rfl rfl hvl rfl hk1l (by as_aux_lemma => kernel_rfl))); (focus ((apply rest_one 11 rfl (by as_aux_lemma => kernel_rfl) rfl rfl; ((first | exact Stp.pre (wk_takeMx (n := 2000) (z := 46) (s := 39) rfl rfl hv1 rfl) (stp_appI rfl (by as_aux_lemma => kernel_rfl) rfl rfl rfl rfl rfl rfl (by omega)) | exact stp_storeMx rfl rfl rfl rfl hvl rfl hk1l (by as_aux_lemma => kernel_rfl)))); (apply rest_one 12 rfl (by as_aux_lemma => kernel_rfl) rfl rfl; (exact stp_nilCheck rfl rfl rfl)); (apply rest_one 13 rfl (by as_aux_lemma => kernel_rfl) rfl rfl; (exact stp_fieldAddr (d := 1) rfl rfl rfl (by as_aux_lemma => kernel_rfl))); (apply rest_one 14 rfl (by as_aux_lemma => kernel_rfl) rfl rfl; ((first | exact Stp.pre (wk_takeMx (n := 2000) (z := 46) (s := 39) rfl rfl hv1 rfl) (stp_appI rfl (by as_aux_lemma => kernel_rfl) rfl rfl rfl rfl rfl rfl (by omega)) | exact stp_storeMx rfl rfl rfl rfl hvl rfl hk1l (by as_aux_lemma => kernel_rfl)))); (refine rest_done (by as_aux_lemma => kernel_rfl) ?_; exact fin_join (Wk.of ⟨rfl, rfl, rfl, rfl, rfl, rfl, trivial⟩ ⟨rfl, congrArg (fun l => some (⟨true, 45, 2, .mix l⟩ : Ch)) hfin, trivial⟩ trivial)))); (focus ((apply rest_one 0 rfl (by as_aux_lemma => kernel_rfl) rfl rfl; (exact stp_move rfl rfl)); (apply rest_one 12 rfl (by as_aux_lemma => kernel_rfl) rfl rfl; (exact stp_nilCheck rfl rfl rfl)); (apply rest_one 13 rfl (by as_aux_lemma => kernel_rfl) rfl rfl; (exact stp_fieldAddr (d := 1) rfl rfl rfl (by as_aux_lemma => kernel_rfl))); (apply rest_one 14 rfl (by as_aux_lemma => kernel_rfl) rfl rfl; ((first | exact Stp.pre (wk_takeMx (n := 2000) (z := 46) (s := 39) rfl rfl hv1 rfl) (stp_appI rfl (by as_aux_lemma => kernel_rfl) rfl rfl rfl rfl rfl rfl (by omega)) | exact stp_storeMx rfl rfl rfl rfl hvl rfl hk1l (by as_aux_lemma => kernel_rfl)))); (refine rest_done (by as_aux_lemma => kernel_rfl) ?_; exact fin_join (Wk.of ⟨rfl, rfl, rfl, rfl, rfl, rfl, trivial⟩ ⟨rfl, congrArg (fun l => some (⟨true, 45, 2, .mix l⟩ : Ch)) hfin, trivial⟩ trivial))))))
            · (skip)
              exact fin_join (Wk.of ⟨rfl, rfl, congrArg (fun n => some (o1 (.sl 2000 0 n))) (List.length_set ..).symm, rfl, rfl, rfl, trivial⟩ ⟨rfl, rfl, trivial⟩ trivial)
        · have hv : pTo zs mask (i + 1) = ps ++ [(2 ^ i, [])] := by rw [hnx, if_neg (by rw [hjb]; simp)]
          rw [hv]
          have hcel : ∀ (j : Nat) (c : Cel) (u : Value), [Cel.v (I6 ((2 ^ i : Nat) : Int)), Cel.r 2 1 0 []][j]? = some c → [I6 ((2 ^ i : Nat) : Int), Value.slice none 0 0][j]? = some u → celNew c u := by
            intro j c u h1 h2
            match j, h1, h2 with
            | 0, h1, h2 => simp at h1 h2; subst h1 h2; rfl
            | 1, h1, h2 => simp at h1 h2; subst h1 h2; exact ⟨rfl, rfl, rfl⟩
          have h1c : ∀ v ∈ [I6 ((2 ^ i : Nat) : Int), Value.slice none 0 0], v.oneCell' = true := by
            intro v hv
            rcases List.mem_cons.1 hv with rfl | hv
            · rfl
            · obtain rfl : v = .slice none 0 0 := by simpa using hv
              rfl
          (refine goes_region ?_; apply run_step rfl; (exact stp_move rfl rfl); apply run_step rfl; (exact stp_move rfl rfl); apply run_step rfl; (first | exact stp_shl1 (g := i) rfl rfl rfl hi5 | exact stp_build1V (vs := [I6 ((2 ^ i : Nat) : Int), .slice none 0 0]) rfl rfl rfl | exact stp_lit2V (E := 45) rfl (by as_aux_lemma => kernel_rfl) rfl | exact stp_appendMx (cn := [Cel.v (I6 ((2 ^ i : Nat) : Int)), Cel.r 2 1 0 []]) (news := [I6 ((2 ^ i : Nat) : Int), .slice none 0 0]) (k := 2) (m := 1) rfl (by as_aux_lemma => kernel_rfl) rfl rfl rfl hmx rfl (reads_vals (k := 2) (vs := [I6 ((2 ^ i : Nat) : Int), .slice none 0 0]) rfl rfl rfl rfl (Nat.le_refl _)) (by omega) h1c rfl hcel (by omega)); apply run_step rfl; (first | exact stp_shl1 (g := i) rfl rfl rfl hi5 | exact stp_build1V (vs := [I6 ((2 ^ i : Nat) : Int), .slice none 0 0]) rfl rfl rfl | exact stp_lit2V (E := 45) rfl (by as_aux_lemma => kernel_rfl) rfl | exact stp_appendMx (cn := [Cel.v (I6 ((2 ^ i : Nat) : Int)), Cel.r 2 1 0 []]) (news := [I6 ((2 ^ i : Nat) : Int), .slice none 0 0]) (k := 2) (m := 1) rfl (by as_aux_lemma => kernel_rfl) rfl rfl rfl hmx rfl (reads_vals (k := 2) (vs := [I6 ((2 ^ i : Nat) : Int), .slice none 0 0]) rfl rfl rfl rfl (Nat.le_refl _)) (by omega) h1c rfl hcel (by omega)); apply run_step rfl; (first | exact stp_shl1 (g := i) rfl rfl rfl hi5 | exact stp_build1V (vs := [I6 ((2 ^ i : Nat) : Int), .slice none 0 0]) rfl rfl rfl | exact stp_lit2V (E := 45) rfl (by as_aux_lemma => kernel_rfl) rfl | exact stp_appendMx (cn := [Cel.v (I6 ((2 ^ i : Nat) : Int)), Cel.r 2 1 0 []]) (news := [I6 ((2 ^ i : Nat) : Int), .slice none 0 0]) (k := 2) (m := 1) rfl (by as_aux_lemma => kernel_rfl) rfl rfl rfl hmx rfl (reads_vals (k := 2) (vs := [I6 ((2 ^ i : Nat) : Int), .slice none 0 0]) rfl rfl rfl rfl (Nat.le_refl _)) (by omega) h1c rfl hcel (by omega)); apply run_step rfl; (first | exact stp_shl1 (g := i) rfl rfl rfl hi5 | exact stp_build1V (vs := [I6 ((2 ^ i : Nat) : Int), .slice none 0 0]) rfl rfl rfl | exact stp_lit2V (E := 45) rfl (by as_aux_lemma => kernel_rfl) rfl | exact stp_appendMx (cn := [Cel.v (I6 ((2 ^ i : Nat) : Int)), Cel.r 2 1 0 []]) (news := [I6 ((2 ^ i : Nat) : Int), .slice none 0 0]) (k := 2) (m := 1) rfl (by as_aux_lemma => kernel_rfl) rfl rfl rfl hmx rfl (reads_vals (k := 2) (vs := [I6 ((2 ^ i : Nat) : Int), .slice none 0 0]) rfl rfl rfl rfl (Nat.le_refl _)) (by omega) h1c rfl hcel (by omega)); apply run_step rfl; (exact stp_assign rfl rfl); refine run_nil ?_)
          exact fin_join (Wk.of ⟨rfl, rfl, congrArg (fun n => some (o1 (.sl 2000 0 n))) (by simp), rfl, rfl, rfl, trivial⟩ ⟨rfl, congrArg (fun l => some (⟨true, 45, 2, .mix l⟩ : Ch)) (mixC_app ps [(2 ^ i, [])]).symm, trivial⟩ trivial)
      · (refine fin_seq ?_; refine goes_region ?_; apply run_step rfl; (exact stp_move rfl rfl); apply run_step rfl; (exact stp_move rfl rfl); apply run_step rfl; (apply call_gate 43; exact stp_callR hSz (by as_aux_lemma => kernel_rfl) rfl rfl ⟨rfl, trivial⟩ trivial rfl rfl); apply run_step rfl; (exact stp_bin rfl rfl rfl rfl); apply run_step rfl; (exact stp_move rfl rfl))
        refine run_bool 59 rfl (fun h1 => ?_) (fun h1 => ?_)
        · have h1' : i < L := by have := of_decide_eq_true h1; omega
          have gi : (ivals zs)[i]? = some (I6 (iget zs i)) := ivals_get (by omega)
          (apply run_gYes rfl rfl rfl; (exact stp_move rfl rfl); apply run_gYes rfl rfl rfl; (exact stp_move rfl rfl); apply run_gYes rfl rfl rfl; (exact stp_ix (j := i) rfl rfl rfl rfl rfl (by as_aux_lemma => kernel_rfl) rfl h1' hil); apply run_gYes rfl rfl rfl; (exact stp_loadV rfl (by as_aux_lemma => kernel_rfl) rfl rfl rfl (by first | assumption | exact ivals_get (by assumption) | exact irows_get (by assumption) | exact ivals_get (by omega) | exact irows_get (by omega) | rfl)); apply run_gYes rfl rfl rfl; (exact stp_bin rfl rfl rfl rfl); apply run_step rfl; (exact stp_pickT rfl rfl rfl); apply run_step rfl; (exact stp_assign rfl rfl); refine run_nil ?_; refine fin_block ?_; refine fin_seq ?_; refine goes_region ?_; apply run_step rfl; (exact stp_add rfl rfl rfl (by first | exact IntWalk.i64_in _ (by omega) | rfl)); apply run_step rfl; (exact stp_move rfl rfl); refine run_nil ?_)
          exact fin_round (i + 1, pTo zs mask (i + 1), iget zs i != 2) ⟨by omega, rfl, hjn _ hiL fun _ => rfl⟩ (by show L + 1 - (i + 1) < L + 1 - i; omega) (Wk.of ⟨rfl, rfl, rfl, rfl, rfl, rfl, trivial⟩ ⟨rfl, rfl, trivial⟩ trivial)
        · have h1' : ¬ i < L := by have := of_decide_eq_false h1; omega
          (apply run_gNo rfl rfl rfl rfl rfl; apply run_gNo rfl rfl rfl rfl rfl; apply run_gNo rfl rfl rfl rfl rfl; apply run_gNo rfl rfl rfl rfl rfl; apply run_gNo rfl rfl rfl rfl rfl; apply run_step rfl; (exact stp_pickF rfl rfl rfl); apply run_step rfl; (exact stp_assign rfl rfl); refine run_nil ?_; refine fin_block ?_; refine fin_seq ?_; refine goes_region ?_; apply run_step rfl; (exact stp_add rfl rfl rfl (by first | exact IntWalk.i64_in _ (by omega) | rfl)); apply run_step rfl; (exact stp_move rfl rfl); refine run_nil ?_)
          exact fin_round (i + 1, pTo zs mask (i + 1), false) ⟨by omega, rfl, fun h => absurd h (by omega)⟩ (by show L + 1 - (i + 1) < L + 1 - i; omega) (Wk.of ⟨rfl, rfl, rfl, rfl, rfl, rfl, trivial⟩ ⟨rfl, rfl, trivial⟩ trivial)
  · obtain rfl : i = L + 1 := by omega
    have hv : comps zs mask = ps := by unfold comps; rw [hL]; exact hp
    rw [hv]
    (refine goes_exit ?_; refine fin_exit_then ?_; refine fin_exit_then ?_; refine fin_exit_eq ?_; refine fin_seq ?_; refine goes_seq ?_; refine goes_region ?_; apply run_step rfl; (exact stp_move rfl rfl); apply run_step rfl; (exact stp_assign rfl rfl); refine run_nil ?_; refine fin_seq ?_; refine goes_ret ?_)
    exact fin_ret1 (.inl rfl) rfl (.tmp rfl) ⟨rfl, trivial⟩ trivial
end Go.Proofs.YtljimlejcecleaaGreatDoor

/- The degrees of a component, the program's: isEither, degreesOf, isAffine. guards: -/
namespace Go.Proofs.YtljimlejcecleaaGreatDoor
open Go.RowKit

abbrev cA (mv : Int) (i m : Nat) : AV := .s (.agg [.val (I6 mv), .esl 1000 i 0 m])
abbrev cxRo (cs : List Cel) : Ch := ⟨false, 45, 2, .mix cs⟩
set_option maxRecDepth 100000 in
set_option maxHeartbeats 1000000 in
theorem either_fc (cs : List Cel) (mv : Int) (i m n : Nat) (labs list : List Int) (hi : cs[i]? = some (.r 2 1 m (ivals labs))) (hm : labs.length = m) (hn : list.length = n) (hm4 : m ≤ 1000000) (hn4 : n ≤ 1000000) :
    FC Tryz.prog 44 [(1000, cxRo cs), (1001, wRo list)] [cA mv i m, o1 (.sl 1001 0 n)] [] (vv (.bool (eith labs list))) [] := by
  have hC := cloneS_fc 1001 7 n list hn hn4
  have hE := equalM_fc cs i m n 45 2 labs list hi hm hn hm4 hn4
  have hE2 := (equalM_fc cs i m n 45 2 labs list.reverse hi hm (by simpa using hn) hm4 hn4).nm [(1000, 1000), (1001, 7)] (by kernel_rfl)
  have hE2 : FC Tryz.prog 46 [(1000, cxRo cs), (7, wRo list.reverse)] [o1 (.esl 1000 i 0 m), o1 (.sl 7 0 n)] [] (vv (.bool (labs == list.reverse))) [] := hE2
  have hRv : ∀ ao c (w : World), Own w 0 2 ao n c (ivals list) → Calls Tryz.prog 22 #[.slice ao n c] w fun e w' => e = .returned (.tuple #[]) ∧ Own w' 0 2 ao n c (ivals list.reverse) ∧ w.grownBy w' (bk ao) := fun ao c w h => reverse_any ao n c list w 0 h
  have hrl : list.reverse.length = n := by simpa using hn
  refine fc_enter (nt := 20) Tryz.func44 rfl rfl (by simp) fun w0 ω0 => ?_
  (refine goes_seq ?_; refine goes_region ?_; apply run_step rfl; (exact stp_box rfl rfl rfl rfl); apply run_step rfl; (exact stp_assign rfl rfl); refine run_nil ?_; refine fin_seq ?_; refine goes_seq ?_; refine goes_region ?_; apply run_step rfl; (exact stp_move rfl rfl); apply run_step rfl; (first | (apply call_gate 21; exact stp_callN hC (by as_aux_lemma => kernel_rfl) rfl rfl ⟨rfl, trivial⟩ ⟨⟨_, rfl, .inl rfl⟩, trivial⟩ rfl rfl rfl) | (apply call_gate 22; exact stp_turn (zs := list) rfl (by as_aux_lemma => kernel_rfl) rfl rfl hn hrl (by omega) hRv) | (apply call_gate 46; exact stp_callR hE (by as_aux_lemma => kernel_rfl) rfl rfl ⟨rfl, rfl, trivial⟩ ⟨⟨_, rfl, .inl rfl⟩, ⟨_, rfl, .inl rfl⟩, trivial⟩ rfl rfl)); apply run_step rfl; (exact stp_assign rfl rfl); refine run_nil ?_; refine fin_seq ?_; refine goes_seq ?_; refine goes_region ?_; apply run_step rfl; (exact stp_move rfl rfl); apply run_step rfl; (first | (apply call_gate 21; exact stp_callN hC (by as_aux_lemma => kernel_rfl) rfl rfl ⟨rfl, trivial⟩ ⟨⟨_, rfl, .inl rfl⟩, trivial⟩ rfl rfl rfl) | (apply call_gate 22; exact stp_turn (zs := list) rfl (by as_aux_lemma => kernel_rfl) rfl rfl hn hrl (by omega) hRv) | (apply call_gate 46; exact stp_callR hE (by as_aux_lemma => kernel_rfl) rfl rfl ⟨rfl, rfl, trivial⟩ ⟨⟨_, rfl, .inl rfl⟩, ⟨_, rfl, .inl rfl⟩, trivial⟩ rfl rfl)); refine run_nil ?_; refine fin_seq ?_; refine goes_seq ?_; refine goes_region ?_; apply run_step rfl; (exact stp_fieldAddr (d := 1) rfl rfl rfl (by as_aux_lemma => kernel_rfl)); apply run_step rfl; (exact stp_loadF rfl (by as_aux_lemma => kernel_rfl) rfl rfl rfl rfl); apply run_step rfl; (exact stp_move rfl rfl); apply run_step rfl; (first | (apply call_gate 21; exact stp_callN hC (by as_aux_lemma => kernel_rfl) rfl rfl ⟨rfl, trivial⟩ ⟨⟨_, rfl, .inl rfl⟩, trivial⟩ rfl rfl rfl) | (apply call_gate 22; exact stp_turn (zs := list) rfl (by as_aux_lemma => kernel_rfl) rfl rfl hn hrl (by omega) hRv) | (apply call_gate 46; exact stp_callR hE (by as_aux_lemma => kernel_rfl) rfl rfl ⟨rfl, rfl, trivial⟩ ⟨⟨_, rfl, .inl rfl⟩, ⟨_, rfl, .inl rfl⟩, trivial⟩ rfl rfl)); apply run_step rfl; (exact stp_move rfl rfl))
  refine run_bool 14 rfl (fun h1 => ?_) (fun h1 => ?_)
  · have hv : eith labs list = true := by unfold eith; rw [h1]; rfl
    rw [hv]
    (apply run_gNo rfl rfl rfl rfl rfl; apply run_gNo rfl rfl rfl rfl rfl; apply run_gNo rfl rfl rfl rfl rfl; apply run_gNo rfl rfl rfl rfl rfl; apply run_step rfl; (exact stp_pickT rfl rfl rfl); apply run_step rfl; (exact stp_assign rfl rfl); refine run_nil ?_; refine fin_seq ?_; refine goes_ret ?_)
    exact fin_ret1 (.inl rfl) rfl (.tmp rfl) trivial trivial
  · have hv : eith labs list = (labs == list.reverse) := by unfold eith; rw [h1]; rfl
    rw [hv]
    (apply run_gYes rfl rfl rfl; (exact stp_fieldAddr (d := 1) rfl rfl rfl (by as_aux_lemma => kernel_rfl)); apply run_gYes rfl rfl rfl; (exact stp_loadF rfl (by as_aux_lemma => kernel_rfl) rfl rfl rfl rfl); apply run_gYes rfl rfl rfl; (exact stp_move rfl rfl); apply run_gYes rfl rfl rfl; (apply call_gate 46; exact stp_callR hE2 (by as_aux_lemma => kernel_rfl) rfl rfl ⟨rfl, rfl, trivial⟩ ⟨⟨_, rfl, .inl rfl⟩, ⟨_, rfl, .inr rfl⟩, trivial⟩ rfl rfl); apply run_step rfl; (exact stp_pickF rfl rfl rfl); apply run_step rfl; (exact stp_assign rfl rfl); refine run_nil ?_; refine fin_seq ?_; refine goes_ret ?_)
    exact fin_ret1 (.inl rfl) rfl (.tmp rfl) trivial trivial
set_option maxRecDepth 100000 in
set_option maxHeartbeats 2000000 in
theorem deg0_fc (cs : List Cel) (mv : Int) (i m : Nat) (labs : List Int) (hi : cs[i]? = some (.r 2 1 m (ivals labs))) (hm : labs.length = m) (hm4 : m ≤ 4) (h0 : m = 0) :
    FC Tryz.prog 25 [(1000, cxRo cs)] [cA mv i m] [(15, leOw [2])] (o1 (.sl 15 0 1)) [] := by
  have hSz := sizeE_fc 1000 i m
  refine fc_enter (nt := 75) Tryz.func25 rfl rfl (by simp) fun w0 ω0 => ?_
  have hw1 : IntKind.i64.wrap ((m : Int) + 1) = (m : Int) + 1 := IntWalk.i64_in _ (by omega)
  (refine goes_seq ?_; refine goes_region ?_; apply run_step rfl; (exact stp_box rfl rfl rfl rfl); apply run_step rfl; (exact stp_assign rfl rfl); refine run_nil ?_; refine fin_seq ?_; refine goes_seq ?_; refine goes_region ?_; apply run_step rfl; (exact stp_fieldAddr (d := 1) rfl rfl rfl (by as_aux_lemma => kernel_rfl)); apply run_step rfl; (exact stp_loadF rfl (by as_aux_lemma => kernel_rfl) rfl rfl rfl rfl); apply run_step rfl; (first | (apply call_gate 43; exact stp_callR hSz (by as_aux_lemma => kernel_rfl) rfl rfl ⟨rfl, trivial⟩ trivial rfl rfl) | exact stp_add rfl rfl rfl hw1); apply run_step rfl; (first | (apply call_gate 43; exact stp_callR hSz (by as_aux_lemma => kernel_rfl) rfl rfl ⟨rfl, trivial⟩ trivial rfl rfl) | exact stp_add rfl rfl rfl hw1); apply run_step rfl; (exact stp_assign rfl rfl); refine run_nil ?_; refine fin_seq ?_; refine goes_seq ?_; refine goes_block ?_; refine goes_seq ?_; refine goes_region ?_; apply run_step rfl; (exact stp_move rfl rfl); apply run_step rfl; (exact stp_bin rfl rfl rfl rfl); apply run_step rfl; (exact stp_assign rfl rfl); refine run_nil ?_; refine fin_seq ?_)
  refine goes_cond rfl (fun _ => ?_) (fun e => ?_)
  · (refine goes_seq ?_; refine goes_region ?_; apply run_step rfl; (exact stp_lit1I (E := 2) rfl (by as_aux_lemma => kernel_rfl) rfl); apply run_step rfl; (exact stp_assign rfl rfl); refine run_nil ?_; refine fin_seq ?_; refine goes_ret ?_; refine fin_ret_block ?_; refine fin_ret_then ?_)
    exact fin_ret1 (.inl rfl) rfl (.tmp rfl) ⟨rfl, trivial⟩ trivial
  · exfalso; simp at e; omega
set_option maxRecDepth 100000 in
set_option maxHeartbeats 2000000 in
theorem deg1_fc (cs : List Cel) (mv : Int) (i m : Nat) (labs : List Int) (hi : cs[i]? = some (.r 2 1 m (ivals labs))) (hm : labs.length = m) (hm4 : m ≤ 4) (h0 : m = 1) (hp : 0 < iget labs 0) :
    FC Tryz.prog 25 [(1000, cxRo cs)] [cA mv i m] [(30, leOw [2, iget labs 0])] (o1 (.sl 30 0 2)) [] := by
  have hSz := sizeE_fc 1000 i m
  refine fc_enter (nt := 75) Tryz.func25 rfl rfl (by simp) fun w0 ω0 => ?_
  have hgl : (ivals labs)[0]? = some (I6 (iget labs 0)) := ivals_get (by omega)
  have hw1 : IntKind.i64.wrap ((m : Int) + 1) = (m : Int) + 1 := IntWalk.i64_in _ (by omega)
  (refine goes_seq ?_; refine goes_region ?_; apply run_step rfl; (exact stp_box rfl rfl rfl rfl); apply run_step rfl; (exact stp_assign rfl rfl); refine run_nil ?_; refine fin_seq ?_; refine goes_seq ?_; refine goes_region ?_; apply run_step rfl; (exact stp_fieldAddr (d := 1) rfl rfl rfl (by as_aux_lemma => kernel_rfl)); apply run_step rfl; (exact stp_loadF rfl (by as_aux_lemma => kernel_rfl) rfl rfl rfl rfl); apply run_step rfl; (first | (apply call_gate 43; exact stp_callR hSz (by as_aux_lemma => kernel_rfl) rfl rfl ⟨rfl, trivial⟩ trivial rfl rfl) | exact stp_add rfl rfl rfl hw1); apply run_step rfl; (first | (apply call_gate 43; exact stp_callR hSz (by as_aux_lemma => kernel_rfl) rfl rfl ⟨rfl, trivial⟩ trivial rfl rfl) | exact stp_add rfl rfl rfl hw1); apply run_step rfl; (exact stp_assign rfl rfl); refine run_nil ?_; refine fin_seq ?_; refine goes_seq ?_; refine goes_block ?_; refine goes_seq ?_; refine goes_region ?_; apply run_step rfl; (exact stp_move rfl rfl); apply run_step rfl; (exact stp_bin rfl rfl rfl rfl); apply run_step rfl; (exact stp_assign rfl rfl); refine run_nil ?_; refine fin_seq ?_)
  refine goes_cond rfl (fun e => ?_) (fun _ => ?_)
  · exfalso; simp at e; omega
  (refine goes_seq ?_; refine goes_region ?_; apply run_step rfl; (exact stp_move rfl rfl); apply run_step rfl; (exact stp_bin rfl rfl rfl rfl); apply run_step rfl; (exact stp_move rfl rfl))
  refine run_bool 19 rfl (fun _ => ?_) (fun e => ?_)
  · (apply run_gYes rfl rfl rfl; (exact stp_fieldAddr (d := 1) rfl rfl rfl (by as_aux_lemma => kernel_rfl)); apply run_gYes rfl rfl rfl; (exact stp_loadF rfl (by as_aux_lemma => kernel_rfl) rfl rfl rfl rfl); apply run_gYes rfl rfl rfl; (first | exact stp_ixM (j := 0) rfl rfl rfl rfl rfl (by as_aux_lemma => kernel_rfl) hi (by omega) rfl (by omega) (Nat.le_refl _) | exact stp_loadEM rfl (by as_aux_lemma => kernel_rfl) rfl rfl rfl hi hgl); apply run_gYes rfl rfl rfl; (first | exact stp_ixM (j := 0) rfl rfl rfl rfl rfl (by as_aux_lemma => kernel_rfl) hi (by omega) rfl (by omega) (Nat.le_refl _) | exact stp_loadEM rfl (by as_aux_lemma => kernel_rfl) rfl rfl rfl hi hgl); apply run_gYes rfl rfl rfl; (exact stp_bin rfl rfl rfl rfl); apply run_step rfl; (exact stp_pickT rfl rfl rfl); apply run_step rfl; (exact stp_assign rfl rfl); refine run_nil ?_; refine fin_seq ?_)
    refine goes_cond rfl (fun _ => ?_) (fun e => ?_)
    · (refine goes_seq ?_; refine goes_region ?_; apply run_step rfl; (exact stp_fieldAddr (d := 1) rfl rfl rfl (by as_aux_lemma => kernel_rfl)); apply run_step rfl; (exact stp_loadF rfl (by as_aux_lemma => kernel_rfl) rfl rfl rfl rfl); apply run_step rfl; (first | exact stp_ixM (j := 0) rfl rfl rfl rfl rfl (by as_aux_lemma => kernel_rfl) hi (by omega) rfl (by omega) (Nat.le_refl _) | exact stp_loadEM rfl (by as_aux_lemma => kernel_rfl) rfl rfl rfl hi hgl); apply run_step rfl; (first | exact stp_ixM (j := 0) rfl rfl rfl rfl rfl (by as_aux_lemma => kernel_rfl) hi (by omega) rfl (by omega) (Nat.le_refl _) | exact stp_loadEM rfl (by as_aux_lemma => kernel_rfl) rfl rfl rfl hi hgl); apply run_step rfl; (exact stp_lit2I (E := 2) rfl (by as_aux_lemma => kernel_rfl) rfl rfl); apply run_step rfl; (exact stp_assign rfl rfl); refine run_nil ?_; refine fin_seq ?_; refine goes_ret ?_; refine fin_ret_block ?_; refine fin_ret_then ?_)
      exact fin_ret1 (.inl rfl) rfl (.tmp rfl) ⟨rfl, trivial⟩ trivial
    · exfalso; simp at e; omega
  · exfalso; simp at e; omega
set_option maxRecDepth 100000 in
set_option maxHeartbeats 2000000 in
theorem deg2_fc (cs : List Cel) (mv : Int) (i m : Nat) (labs : List Int) (hi : cs[i]? = some (.r 2 1 m (ivals labs))) (hm : labs.length = m) (hm4 : m ≤ 4) (h0 : 0 < m) (hq : ¬ (m = 1 ∧ 0 < iget labs 0)) (e1 : eith labs [3, 5] = true) :
    FC Tryz.prog 25 [(1000, cxRo cs)] [cA mv i m] [(35, leOw [2, 6, 10])] (o1 (.sl 35 0 3)) [] := by
  have hSz := sizeE_fc 1000 i m
  have hE1 := (either_fc cs mv i m 2 labs [3, 5] hi hm rfl (by omega) (by omega)).nm [(1000, 1000), (1001, 33)] (by kernel_rfl)
  have hE1 : FC Tryz.prog 44 [(1000, cxRo cs), (33, wRo [3, 5])] [cA mv i m, o1 (.sl 33 0 2)] [] (vv (.bool (eith labs [3, 5]))) [] := hE1
  rw [e1] at hE1
  refine fc_enter (nt := 75) Tryz.func25 rfl rfl (by simp) fun w0 ω0 => ?_
  have hw1 : IntKind.i64.wrap ((m : Int) + 1) = (m : Int) + 1 := IntWalk.i64_in _ (by omega)
  (refine goes_seq ?_; refine goes_region ?_; apply run_step rfl; (exact stp_box rfl rfl rfl rfl); apply run_step rfl; (exact stp_assign rfl rfl); refine run_nil ?_; refine fin_seq ?_; refine goes_seq ?_; refine goes_region ?_; apply run_step rfl; (exact stp_fieldAddr (d := 1) rfl rfl rfl (by as_aux_lemma => kernel_rfl)); apply run_step rfl; (exact stp_loadF rfl (by as_aux_lemma => kernel_rfl) rfl rfl rfl rfl); apply run_step rfl; (first | (apply call_gate 43; exact stp_callR hSz (by as_aux_lemma => kernel_rfl) rfl rfl ⟨rfl, trivial⟩ trivial rfl rfl) | exact stp_add rfl rfl rfl hw1); apply run_step rfl; (first | (apply call_gate 43; exact stp_callR hSz (by as_aux_lemma => kernel_rfl) rfl rfl ⟨rfl, trivial⟩ trivial rfl rfl) | exact stp_add rfl rfl rfl hw1); apply run_step rfl; (exact stp_assign rfl rfl); refine run_nil ?_; refine fin_seq ?_; refine goes_seq ?_; refine goes_block ?_; refine goes_seq ?_; refine goes_region ?_; apply run_step rfl; (exact stp_move rfl rfl); apply run_step rfl; (exact stp_bin rfl rfl rfl rfl); apply run_step rfl; (exact stp_assign rfl rfl); refine run_nil ?_; refine fin_seq ?_)
  refine goes_cond rfl (fun e => ?_) (fun _ => ?_)
  · exfalso; simp at e; omega
  (repeat (first | refine goes_seq ?_ | refine fin_seq ?_ | refine goes_skip ?_ | refine goes_block ?_ | refine fin_block ?_ | refine goes_exit ?_ | refine fin_exit_eq ?_ | refine fin_exit_ne rfl ?_ | refine fin_exit_then ?_))
  refine goes_cut (St.of [(1, o1 (.ptr 1 0)), (3, vv (I6 ((m : Int) + 1))), (16, vv (.bool false))] [(1000, cxRo cs), (1, ⟨true, 45, 2, .flat [.val (I6 mv), .esl 1000 i 0 m]⟩)]) ?_ ?_
  · refine goes_region ?_
    (apply run_step rfl; (exact stp_move rfl rfl); apply run_step rfl; (exact stp_bin rfl rfl rfl rfl); apply run_step rfl; (exact stp_move rfl rfl))
    refine run_bool 19 rfl (fun e1 => ?_) (fun e1 => ?_)
    · have e1 : m = 1 := by simp at e1; omega
      have hg2 : ¬ iget labs 0 > 0 := fun h => hq ⟨e1, h⟩
      have hgl : (ivals labs)[0]? = some (I6 (iget labs 0)) := ivals_get (by omega)
      have hbf : binI .i64 .gtr (iget labs 0) 0 = some (.bool false) := by simp [binI]; omega
      (apply run_gYes rfl rfl rfl; (exact stp_fieldAddr (d := 1) rfl rfl rfl (by as_aux_lemma => kernel_rfl)); apply run_gYes rfl rfl rfl; (exact stp_loadF rfl (by as_aux_lemma => kernel_rfl) rfl rfl rfl rfl); apply run_gYes rfl rfl rfl; (first | exact stp_bin rfl rfl rfl hbf | exact stp_ixM (j := 0) rfl rfl rfl rfl rfl (by as_aux_lemma => kernel_rfl) hi (by omega) rfl (by omega) (Nat.le_refl _) | exact stp_loadEM rfl (by as_aux_lemma => kernel_rfl) rfl rfl rfl hi hgl); apply run_gYes rfl rfl rfl; (first | exact stp_bin rfl rfl rfl hbf | exact stp_ixM (j := 0) rfl rfl rfl rfl rfl (by as_aux_lemma => kernel_rfl) hi (by omega) rfl (by omega) (Nat.le_refl _) | exact stp_loadEM rfl (by as_aux_lemma => kernel_rfl) rfl rfl rfl hi hgl); apply run_gYes rfl rfl rfl; (first | exact stp_bin rfl rfl rfl hbf | exact stp_ixM (j := 0) rfl rfl rfl rfl rfl (by as_aux_lemma => kernel_rfl) hi (by omega) rfl (by omega) (Nat.le_refl _) | exact stp_loadEM rfl (by as_aux_lemma => kernel_rfl) rfl rfl rfl hi hgl); apply run_step rfl; (exact stp_pickT rfl rfl rfl); apply run_step rfl; (exact stp_assign rfl rfl); refine run_nil ?_)
      exact fin_join (Wk.of ⟨rfl, rfl, rfl, trivial⟩ ⟨rfl, rfl, trivial⟩ trivial)
    · (apply run_gNo rfl rfl rfl rfl rfl; apply run_gNo rfl rfl rfl rfl rfl; apply run_gNo rfl rfl rfl rfl rfl; apply run_gNo rfl rfl rfl rfl rfl; apply run_gNo rfl rfl rfl rfl rfl; apply run_step rfl; (exact stp_pickF rfl rfl rfl); apply run_step rfl; (exact stp_assign rfl rfl); refine run_nil ?_)
      exact fin_join (Wk.of ⟨rfl, rfl, rfl, trivial⟩ ⟨rfl, rfl, trivial⟩ trivial)
  (refine fin_seq ?_)
  refine goes_cond rfl (fun e => by cases e) (fun _ => ?_)
  (refine goes_seq ?_; refine goes_region ?_; apply run_step rfl; (exact stp_loadAgg rfl rfl rfl rfl rfl rfl (by as_aux_lemma => kernel_rfl)); apply run_step rfl; (exact stp_lit2I (E := 2) rfl (by as_aux_lemma => kernel_rfl) rfl rfl); apply run_step rfl; (first | (apply call_gate 44; exact stp_callR hE1 (by as_aux_lemma => kernel_rfl) rfl rfl ⟨⟨.inl rfl, .inl rfl, trivial⟩, rfl, trivial⟩ ⟨⟨_, rfl, .inl rfl⟩, ⟨_, rfl, .inr rfl⟩, trivial⟩ rfl rfl) | exact stp_lit3I (E := 2) rfl (by as_aux_lemma => kernel_rfl) rfl rfl rfl | exact stp_lit4I (E := 2) rfl (by as_aux_lemma => kernel_rfl) rfl rfl rfl rfl); apply run_step rfl; (exact stp_assign rfl rfl); refine run_nil ?_; refine fin_seq ?_)
  refine goes_cond rfl (fun _ => ?_) (fun e => by cases e)
  (refine goes_seq ?_; refine goes_region ?_; apply run_step rfl; (first | exact stp_lit3I (E := 2) rfl (by as_aux_lemma => kernel_rfl) rfl rfl rfl | exact stp_lit4I (E := 2) rfl (by as_aux_lemma => kernel_rfl) rfl rfl rfl rfl); apply run_step rfl; (exact stp_assign rfl rfl); refine run_nil ?_; refine fin_seq ?_; refine goes_ret ?_; refine fin_ret_block ?_; refine fin_ret_then ?_)
  exact fin_ret1 (.inl rfl) rfl (.tmp rfl) ⟨rfl, trivial⟩ trivial
set_option maxRecDepth 100000 in
set_option maxHeartbeats 2000000 in
theorem deg3_fc (cs : List Cel) (mv : Int) (i m : Nat) (labs : List Int) (hi : cs[i]? = some (.r 2 1 m (ivals labs))) (hm : labs.length = m) (hm4 : m ≤ 4) (h0 : 0 < m) (hq : ¬ (m = 1 ∧ 0 < iget labs 0)) (e1 : eith labs [3, 5] = false) (e2 : eith labs [3, 3, 5] = true) :
    FC Tryz.prog 25 [(1000, cxRo cs)] [cA mv i m] [(40, leOw [2, 12, 20, 30])] (o1 (.sl 40 0 4)) [] := by
  have hSz := sizeE_fc 1000 i m
  have hE1 := (either_fc cs mv i m 2 labs [3, 5] hi hm rfl (by omega) (by omega)).nm [(1000, 1000), (1001, 33)] (by kernel_rfl)
  have hE1 : FC Tryz.prog 44 [(1000, cxRo cs), (33, wRo [3, 5])] [cA mv i m, o1 (.sl 33 0 2)] [] (vv (.bool (eith labs [3, 5]))) [] := hE1
  rw [e1] at hE1
  have hE2 := (either_fc cs mv i m 3 labs [3, 3, 5] hi hm rfl (by omega) (by omega)).nm [(1000, 1000), (1001, 38)] (by kernel_rfl)
  have hE2 : FC Tryz.prog 44 [(1000, cxRo cs), (38, wRo [3, 3, 5])] [cA mv i m, o1 (.sl 38 0 3)] [] (vv (.bool (eith labs [3, 3, 5]))) [] := hE2
  rw [e2] at hE2
  refine fc_enter (nt := 75) Tryz.func25 rfl rfl (by simp) fun w0 ω0 => ?_
  have hw1 : IntKind.i64.wrap ((m : Int) + 1) = (m : Int) + 1 := IntWalk.i64_in _ (by omega)
  (refine goes_seq ?_; refine goes_region ?_; apply run_step rfl; (exact stp_box rfl rfl rfl rfl); apply run_step rfl; (exact stp_assign rfl rfl); refine run_nil ?_; refine fin_seq ?_; refine goes_seq ?_; refine goes_region ?_; apply run_step rfl; (exact stp_fieldAddr (d := 1) rfl rfl rfl (by as_aux_lemma => kernel_rfl)); apply run_step rfl; (exact stp_loadF rfl (by as_aux_lemma => kernel_rfl) rfl rfl rfl rfl); apply run_step rfl; (first | (apply call_gate 43; exact stp_callR hSz (by as_aux_lemma => kernel_rfl) rfl rfl ⟨rfl, trivial⟩ trivial rfl rfl) | exact stp_add rfl rfl rfl hw1); apply run_step rfl; (first | (apply call_gate 43; exact stp_callR hSz (by as_aux_lemma => kernel_rfl) rfl rfl ⟨rfl, trivial⟩ trivial rfl rfl) | exact stp_add rfl rfl rfl hw1); apply run_step rfl; (exact stp_assign rfl rfl); refine run_nil ?_; refine fin_seq ?_; refine goes_seq ?_; refine goes_block ?_; refine goes_seq ?_; refine goes_region ?_; apply run_step rfl; (exact stp_move rfl rfl); apply run_step rfl; (exact stp_bin rfl rfl rfl rfl); apply run_step rfl; (exact stp_assign rfl rfl); refine run_nil ?_; refine fin_seq ?_)
  refine goes_cond rfl (fun e => ?_) (fun _ => ?_)
  · exfalso; simp at e; omega
  (repeat (first | refine goes_seq ?_ | refine fin_seq ?_ | refine goes_skip ?_ | refine goes_block ?_ | refine fin_block ?_ | refine goes_exit ?_ | refine fin_exit_eq ?_ | refine fin_exit_ne rfl ?_ | refine fin_exit_then ?_))
  refine goes_cut (St.of [(1, o1 (.ptr 1 0)), (3, vv (I6 ((m : Int) + 1))), (16, vv (.bool false))] [(1000, cxRo cs), (1, ⟨true, 45, 2, .flat [.val (I6 mv), .esl 1000 i 0 m]⟩)]) ?_ ?_
  · refine goes_region ?_
    (apply run_step rfl; (exact stp_move rfl rfl); apply run_step rfl; (exact stp_bin rfl rfl rfl rfl); apply run_step rfl; (exact stp_move rfl rfl))
    refine run_bool 19 rfl (fun e1 => ?_) (fun e1 => ?_)
    · have e1 : m = 1 := by simp at e1; omega
      have hg2 : ¬ iget labs 0 > 0 := fun h => hq ⟨e1, h⟩
      have hgl : (ivals labs)[0]? = some (I6 (iget labs 0)) := ivals_get (by omega)
      have hbf : binI .i64 .gtr (iget labs 0) 0 = some (.bool false) := by simp [binI]; omega
      (apply run_gYes rfl rfl rfl; (exact stp_fieldAddr (d := 1) rfl rfl rfl (by as_aux_lemma => kernel_rfl)); apply run_gYes rfl rfl rfl; (exact stp_loadF rfl (by as_aux_lemma => kernel_rfl) rfl rfl rfl rfl); apply run_gYes rfl rfl rfl; (first | exact stp_bin rfl rfl rfl hbf | exact stp_ixM (j := 0) rfl rfl rfl rfl rfl (by as_aux_lemma => kernel_rfl) hi (by omega) rfl (by omega) (Nat.le_refl _) | exact stp_loadEM rfl (by as_aux_lemma => kernel_rfl) rfl rfl rfl hi hgl); apply run_gYes rfl rfl rfl; (first | exact stp_bin rfl rfl rfl hbf | exact stp_ixM (j := 0) rfl rfl rfl rfl rfl (by as_aux_lemma => kernel_rfl) hi (by omega) rfl (by omega) (Nat.le_refl _) | exact stp_loadEM rfl (by as_aux_lemma => kernel_rfl) rfl rfl rfl hi hgl); apply run_gYes rfl rfl rfl; (first | exact stp_bin rfl rfl rfl hbf | exact stp_ixM (j := 0) rfl rfl rfl rfl rfl (by as_aux_lemma => kernel_rfl) hi (by omega) rfl (by omega) (Nat.le_refl _) | exact stp_loadEM rfl (by as_aux_lemma => kernel_rfl) rfl rfl rfl hi hgl); apply run_step rfl; (exact stp_pickT rfl rfl rfl); apply run_step rfl; (exact stp_assign rfl rfl); refine run_nil ?_)
      exact fin_join (Wk.of ⟨rfl, rfl, rfl, trivial⟩ ⟨rfl, rfl, trivial⟩ trivial)
    · (apply run_gNo rfl rfl rfl rfl rfl; apply run_gNo rfl rfl rfl rfl rfl; apply run_gNo rfl rfl rfl rfl rfl; apply run_gNo rfl rfl rfl rfl rfl; apply run_gNo rfl rfl rfl rfl rfl; apply run_step rfl; (exact stp_pickF rfl rfl rfl); apply run_step rfl; (exact stp_assign rfl rfl); refine run_nil ?_)
      exact fin_join (Wk.of ⟨rfl, rfl, rfl, trivial⟩ ⟨rfl, rfl, trivial⟩ trivial)
  (refine fin_seq ?_)
  refine goes_cond rfl (fun e => by cases e) (fun _ => ?_)
  (refine goes_seq ?_; refine goes_region ?_; apply run_step rfl; (exact stp_loadAgg rfl rfl rfl rfl rfl rfl (by as_aux_lemma => kernel_rfl)); apply run_step rfl; (exact stp_lit2I (E := 2) rfl (by as_aux_lemma => kernel_rfl) rfl rfl); apply run_step rfl; (first | (apply call_gate 44; exact stp_callR hE1 (by as_aux_lemma => kernel_rfl) rfl rfl ⟨⟨.inl rfl, .inl rfl, trivial⟩, rfl, trivial⟩ ⟨⟨_, rfl, .inl rfl⟩, ⟨_, rfl, .inr rfl⟩, trivial⟩ rfl rfl) | exact stp_lit3I (E := 2) rfl (by as_aux_lemma => kernel_rfl) rfl rfl rfl | exact stp_lit4I (E := 2) rfl (by as_aux_lemma => kernel_rfl) rfl rfl rfl rfl); apply run_step rfl; (exact stp_assign rfl rfl); refine run_nil ?_; refine fin_seq ?_)
  refine goes_cond rfl (fun e => by cases e) (fun _ => ?_)
  (refine goes_seq ?_; refine goes_region ?_; apply run_step rfl; (exact stp_loadAgg rfl rfl rfl rfl rfl rfl (by as_aux_lemma => kernel_rfl)); apply run_step rfl; (first | (apply call_gate 44; exact stp_callR hE2 (by as_aux_lemma => kernel_rfl) rfl rfl ⟨⟨.inl rfl, .inl rfl, trivial⟩, rfl, trivial⟩ ⟨⟨_, rfl, .inl rfl⟩, ⟨_, rfl, .inr rfl⟩, trivial⟩ rfl rfl) | exact stp_lit3I (E := 2) rfl (by as_aux_lemma => kernel_rfl) rfl rfl rfl | exact stp_lit4I (E := 2) rfl (by as_aux_lemma => kernel_rfl) rfl rfl rfl rfl); apply run_step rfl; (first | (apply call_gate 44; exact stp_callR hE2 (by as_aux_lemma => kernel_rfl) rfl rfl ⟨⟨.inl rfl, .inl rfl, trivial⟩, rfl, trivial⟩ ⟨⟨_, rfl, .inl rfl⟩, ⟨_, rfl, .inr rfl⟩, trivial⟩ rfl rfl) | exact stp_lit3I (E := 2) rfl (by as_aux_lemma => kernel_rfl) rfl rfl rfl | exact stp_lit4I (E := 2) rfl (by as_aux_lemma => kernel_rfl) rfl rfl rfl rfl); apply run_step rfl; (exact stp_assign rfl rfl); refine run_nil ?_; refine fin_seq ?_)
  refine goes_cond rfl (fun _ => ?_) (fun e => by cases e)
  (refine goes_seq ?_; refine goes_region ?_; apply run_step rfl; (first | exact stp_lit3I (E := 2) rfl (by as_aux_lemma => kernel_rfl) rfl rfl rfl | exact stp_lit4I (E := 2) rfl (by as_aux_lemma => kernel_rfl) rfl rfl rfl rfl); apply run_step rfl; (exact stp_assign rfl rfl); refine run_nil ?_; refine fin_seq ?_; refine goes_ret ?_; refine fin_ret_block ?_; refine fin_ret_then ?_)
  exact fin_ret1 (.inl rfl) rfl (.tmp rfl) ⟨rfl, trivial⟩ trivial
set_option maxRecDepth 100000 in
set_option maxHeartbeats 2000000 in
theorem deg4_fc (cs : List Cel) (mv : Int) (i m : Nat) (labs : List Int) (hi : cs[i]? = some (.r 2 1 m (ivals labs))) (hm : labs.length = m) (hm4 : m ≤ 4) (h0 : 0 < m) (hq : ¬ (m = 1 ∧ 0 < iget labs 0)) (e1 : eith labs [3, 5] = false) (e2 : eith labs [3, 3, 5] = false) (e3 : eith labs [3, 4, 3] = true) :
    FC Tryz.prog 25 [(1000, cxRo cs)] [cA mv i m] [(45, leOw [2, 6, 8, 12])] (o1 (.sl 45 0 4)) [] := by
  have hSz := sizeE_fc 1000 i m
  have hE1 := (either_fc cs mv i m 2 labs [3, 5] hi hm rfl (by omega) (by omega)).nm [(1000, 1000), (1001, 33)] (by kernel_rfl)
  have hE1 : FC Tryz.prog 44 [(1000, cxRo cs), (33, wRo [3, 5])] [cA mv i m, o1 (.sl 33 0 2)] [] (vv (.bool (eith labs [3, 5]))) [] := hE1
  rw [e1] at hE1
  have hE2 := (either_fc cs mv i m 3 labs [3, 3, 5] hi hm rfl (by omega) (by omega)).nm [(1000, 1000), (1001, 38)] (by kernel_rfl)
  have hE2 : FC Tryz.prog 44 [(1000, cxRo cs), (38, wRo [3, 3, 5])] [cA mv i m, o1 (.sl 38 0 3)] [] (vv (.bool (eith labs [3, 3, 5]))) [] := hE2
  rw [e2] at hE2
  have hE3 := (either_fc cs mv i m 3 labs [3, 4, 3] hi hm rfl (by omega) (by omega)).nm [(1000, 1000), (1001, 43)] (by kernel_rfl)
  have hE3 : FC Tryz.prog 44 [(1000, cxRo cs), (43, wRo [3, 4, 3])] [cA mv i m, o1 (.sl 43 0 3)] [] (vv (.bool (eith labs [3, 4, 3]))) [] := hE3
  rw [e3] at hE3
  refine fc_enter (nt := 75) Tryz.func25 rfl rfl (by simp) fun w0 ω0 => ?_
  have hw1 : IntKind.i64.wrap ((m : Int) + 1) = (m : Int) + 1 := IntWalk.i64_in _ (by omega)
  (refine goes_seq ?_; refine goes_region ?_; apply run_step rfl; (exact stp_box rfl rfl rfl rfl); apply run_step rfl; (exact stp_assign rfl rfl); refine run_nil ?_; refine fin_seq ?_; refine goes_seq ?_; refine goes_region ?_; apply run_step rfl; (exact stp_fieldAddr (d := 1) rfl rfl rfl (by as_aux_lemma => kernel_rfl)); apply run_step rfl; (exact stp_loadF rfl (by as_aux_lemma => kernel_rfl) rfl rfl rfl rfl); apply run_step rfl; (first | (apply call_gate 43; exact stp_callR hSz (by as_aux_lemma => kernel_rfl) rfl rfl ⟨rfl, trivial⟩ trivial rfl rfl) | exact stp_add rfl rfl rfl hw1); apply run_step rfl; (first | (apply call_gate 43; exact stp_callR hSz (by as_aux_lemma => kernel_rfl) rfl rfl ⟨rfl, trivial⟩ trivial rfl rfl) | exact stp_add rfl rfl rfl hw1); apply run_step rfl; (exact stp_assign rfl rfl); refine run_nil ?_; refine fin_seq ?_; refine goes_seq ?_; refine goes_block ?_; refine goes_seq ?_; refine goes_region ?_; apply run_step rfl; (exact stp_move rfl rfl); apply run_step rfl; (exact stp_bin rfl rfl rfl rfl); apply run_step rfl; (exact stp_assign rfl rfl); refine run_nil ?_; refine fin_seq ?_)
  refine goes_cond rfl (fun e => ?_) (fun _ => ?_)
  · exfalso; simp at e; omega
  (repeat (first | refine goes_seq ?_ | refine fin_seq ?_ | refine goes_skip ?_ | refine goes_block ?_ | refine fin_block ?_ | refine goes_exit ?_ | refine fin_exit_eq ?_ | refine fin_exit_ne rfl ?_ | refine fin_exit_then ?_))
  refine goes_cut (St.of [(1, o1 (.ptr 1 0)), (3, vv (I6 ((m : Int) + 1))), (16, vv (.bool false))] [(1000, cxRo cs), (1, ⟨true, 45, 2, .flat [.val (I6 mv), .esl 1000 i 0 m]⟩)]) ?_ ?_
  · refine goes_region ?_
    (apply run_step rfl; (exact stp_move rfl rfl); apply run_step rfl; (exact stp_bin rfl rfl rfl rfl); apply run_step rfl; (exact stp_move rfl rfl))
    refine run_bool 19 rfl (fun e1 => ?_) (fun e1 => ?_)
    · have e1 : m = 1 := by simp at e1; omega
      have hg2 : ¬ iget labs 0 > 0 := fun h => hq ⟨e1, h⟩
      have hgl : (ivals labs)[0]? = some (I6 (iget labs 0)) := ivals_get (by omega)
      have hbf : binI .i64 .gtr (iget labs 0) 0 = some (.bool false) := by simp [binI]; omega
      (apply run_gYes rfl rfl rfl; (exact stp_fieldAddr (d := 1) rfl rfl rfl (by as_aux_lemma => kernel_rfl)); apply run_gYes rfl rfl rfl; (exact stp_loadF rfl (by as_aux_lemma => kernel_rfl) rfl rfl rfl rfl); apply run_gYes rfl rfl rfl; (first | exact stp_bin rfl rfl rfl hbf | exact stp_ixM (j := 0) rfl rfl rfl rfl rfl (by as_aux_lemma => kernel_rfl) hi (by omega) rfl (by omega) (Nat.le_refl _) | exact stp_loadEM rfl (by as_aux_lemma => kernel_rfl) rfl rfl rfl hi hgl); apply run_gYes rfl rfl rfl; (first | exact stp_bin rfl rfl rfl hbf | exact stp_ixM (j := 0) rfl rfl rfl rfl rfl (by as_aux_lemma => kernel_rfl) hi (by omega) rfl (by omega) (Nat.le_refl _) | exact stp_loadEM rfl (by as_aux_lemma => kernel_rfl) rfl rfl rfl hi hgl); apply run_gYes rfl rfl rfl; (first | exact stp_bin rfl rfl rfl hbf | exact stp_ixM (j := 0) rfl rfl rfl rfl rfl (by as_aux_lemma => kernel_rfl) hi (by omega) rfl (by omega) (Nat.le_refl _) | exact stp_loadEM rfl (by as_aux_lemma => kernel_rfl) rfl rfl rfl hi hgl); apply run_step rfl; (exact stp_pickT rfl rfl rfl); apply run_step rfl; (exact stp_assign rfl rfl); refine run_nil ?_)
      exact fin_join (Wk.of ⟨rfl, rfl, rfl, trivial⟩ ⟨rfl, rfl, trivial⟩ trivial)
    · (apply run_gNo rfl rfl rfl rfl rfl; apply run_gNo rfl rfl rfl rfl rfl; apply run_gNo rfl rfl rfl rfl rfl; apply run_gNo rfl rfl rfl rfl rfl; apply run_gNo rfl rfl rfl rfl rfl; apply run_step rfl; (exact stp_pickF rfl rfl rfl); apply run_step rfl; (exact stp_assign rfl rfl); refine run_nil ?_)
      exact fin_join (Wk.of ⟨rfl, rfl, rfl, trivial⟩ ⟨rfl, rfl, trivial⟩ trivial)
  (refine fin_seq ?_)
  refine goes_cond rfl (fun e => by cases e) (fun _ => ?_)
  (refine goes_seq ?_; refine goes_region ?_; apply run_step rfl; (exact stp_loadAgg rfl rfl rfl rfl rfl rfl (by as_aux_lemma => kernel_rfl)); apply run_step rfl; (exact stp_lit2I (E := 2) rfl (by as_aux_lemma => kernel_rfl) rfl rfl); apply run_step rfl; (first | (apply call_gate 44; exact stp_callR hE1 (by as_aux_lemma => kernel_rfl) rfl rfl ⟨⟨.inl rfl, .inl rfl, trivial⟩, rfl, trivial⟩ ⟨⟨_, rfl, .inl rfl⟩, ⟨_, rfl, .inr rfl⟩, trivial⟩ rfl rfl) | exact stp_lit3I (E := 2) rfl (by as_aux_lemma => kernel_rfl) rfl rfl rfl | exact stp_lit4I (E := 2) rfl (by as_aux_lemma => kernel_rfl) rfl rfl rfl rfl); apply run_step rfl; (exact stp_assign rfl rfl); refine run_nil ?_; refine fin_seq ?_)
  refine goes_cond rfl (fun e => by cases e) (fun _ => ?_)
  (refine goes_seq ?_; refine goes_region ?_; apply run_step rfl; (exact stp_loadAgg rfl rfl rfl rfl rfl rfl (by as_aux_lemma => kernel_rfl)); apply run_step rfl; (first | (apply call_gate 44; exact stp_callR hE2 (by as_aux_lemma => kernel_rfl) rfl rfl ⟨⟨.inl rfl, .inl rfl, trivial⟩, rfl, trivial⟩ ⟨⟨_, rfl, .inl rfl⟩, ⟨_, rfl, .inr rfl⟩, trivial⟩ rfl rfl) | exact stp_lit3I (E := 2) rfl (by as_aux_lemma => kernel_rfl) rfl rfl rfl | exact stp_lit4I (E := 2) rfl (by as_aux_lemma => kernel_rfl) rfl rfl rfl rfl); apply run_step rfl; (first | (apply call_gate 44; exact stp_callR hE2 (by as_aux_lemma => kernel_rfl) rfl rfl ⟨⟨.inl rfl, .inl rfl, trivial⟩, rfl, trivial⟩ ⟨⟨_, rfl, .inl rfl⟩, ⟨_, rfl, .inr rfl⟩, trivial⟩ rfl rfl) | exact stp_lit3I (E := 2) rfl (by as_aux_lemma => kernel_rfl) rfl rfl rfl | exact stp_lit4I (E := 2) rfl (by as_aux_lemma => kernel_rfl) rfl rfl rfl rfl); apply run_step rfl; (exact stp_assign rfl rfl); refine run_nil ?_; refine fin_seq ?_)
  refine goes_cond rfl (fun e => by cases e) (fun _ => ?_)
  (refine goes_seq ?_; refine goes_region ?_; apply run_step rfl; (exact stp_loadAgg rfl rfl rfl rfl rfl rfl (by as_aux_lemma => kernel_rfl)); apply run_step rfl; (first | (apply call_gate 44; exact stp_callR hE3 (by as_aux_lemma => kernel_rfl) rfl rfl ⟨⟨.inl rfl, .inl rfl, trivial⟩, rfl, trivial⟩ ⟨⟨_, rfl, .inl rfl⟩, ⟨_, rfl, .inr rfl⟩, trivial⟩ rfl rfl) | exact stp_lit3I (E := 2) rfl (by as_aux_lemma => kernel_rfl) rfl rfl rfl | exact stp_lit4I (E := 2) rfl (by as_aux_lemma => kernel_rfl) rfl rfl rfl rfl); apply run_step rfl; (first | (apply call_gate 44; exact stp_callR hE3 (by as_aux_lemma => kernel_rfl) rfl rfl ⟨⟨.inl rfl, .inl rfl, trivial⟩, rfl, trivial⟩ ⟨⟨_, rfl, .inl rfl⟩, ⟨_, rfl, .inr rfl⟩, trivial⟩ rfl rfl) | exact stp_lit3I (E := 2) rfl (by as_aux_lemma => kernel_rfl) rfl rfl rfl | exact stp_lit4I (E := 2) rfl (by as_aux_lemma => kernel_rfl) rfl rfl rfl rfl); apply run_step rfl; (exact stp_assign rfl rfl); refine run_nil ?_; refine fin_seq ?_)
  refine goes_cond rfl (fun _ => ?_) (fun e => by cases e)
  (refine goes_seq ?_; refine goes_region ?_; apply run_step rfl; (first | exact stp_lit3I (E := 2) rfl (by as_aux_lemma => kernel_rfl) rfl rfl rfl | exact stp_lit4I (E := 2) rfl (by as_aux_lemma => kernel_rfl) rfl rfl rfl rfl); apply run_step rfl; (exact stp_assign rfl rfl); refine run_nil ?_; refine fin_seq ?_; refine goes_ret ?_; refine fin_ret_block ?_; refine fin_ret_then ?_)
  exact fin_ret1 (.inl rfl) rfl (.tmp rfl) ⟨rfl, trivial⟩ trivial
set_option maxRecDepth 100000 in
set_option maxHeartbeats 2000000 in
theorem deg5_fc (cs : List Cel) (mv : Int) (i m : Nat) (labs : List Int) (hi : cs[i]? = some (.r 2 1 m (ivals labs))) (hm : labs.length = m) (hm4 : m ≤ 4) (h0 : 0 < m) (hq : ¬ (m = 1 ∧ 0 < iget labs 0)) (e1 : eith labs [3, 5] = false) (e2 : eith labs [3, 3, 5] = false) (e3 : eith labs [3, 4, 3] = false) (e4 : labs = List.replicate m 3) :
    FC Tryz.prog 25 [(1000, cxRo cs)] [cA mv i m] [(2100, leOw (ramp (m + 1) 1))] (o1 (.sl 2100 0 (m + 1))) [] := by
  have hSz := sizeE_fc 1000 i m
  have hE1 := (either_fc cs mv i m 2 labs [3, 5] hi hm rfl (by omega) (by omega)).nm [(1000, 1000), (1001, 33)] (by kernel_rfl)
  have hE1 : FC Tryz.prog 44 [(1000, cxRo cs), (33, wRo [3, 5])] [cA mv i m, o1 (.sl 33 0 2)] [] (vv (.bool (eith labs [3, 5]))) [] := hE1
  rw [e1] at hE1
  have hE2 := (either_fc cs mv i m 3 labs [3, 3, 5] hi hm rfl (by omega) (by omega)).nm [(1000, 1000), (1001, 38)] (by kernel_rfl)
  have hE2 : FC Tryz.prog 44 [(1000, cxRo cs), (38, wRo [3, 3, 5])] [cA mv i m, o1 (.sl 38 0 3)] [] (vv (.bool (eith labs [3, 3, 5]))) [] := hE2
  rw [e2] at hE2
  have hE3 := (either_fc cs mv i m 3 labs [3, 4, 3] hi hm rfl (by omega) (by omega)).nm [(1000, 1000), (1001, 43)] (by kernel_rfl)
  have hE3 : FC Tryz.prog 44 [(1000, cxRo cs), (43, wRo [3, 4, 3])] [cA mv i m, o1 (.sl 43 0 3)] [] (vv (.bool (eith labs [3, 4, 3]))) [] := hE3
  rw [e3] at hE3
  refine fc_enter (nt := 75) Tryz.func25 rfl rfl (by simp) fun w0 ω0 => ?_
  have hR : FC Tryz.prog 45 [(46, ⟨false, 2, 1, .vals (ivals [3])⟩)] [o1 (.sl 46 0 1), vv (I6 m)] [(50, ⟨true, 2, 1, .vals (ivals (List.replicate m 3))⟩)] (o1 (.sl 50 0 m)) [] := repeat1_fc 46 50 m 3 (by omega) h0
  have hrl : (List.replicate m (3 : Int)).length = m := by simp
  have hQ := (equalM_fc cs i m m 45 2 labs (List.replicate m 3) hi hm hrl (by omega) (by omega)).nm [(1000, 1000), (1001, 50)] (by kernel_rfl)
  have hQ : FC Tryz.prog 46 [(1000, cxRo cs), (50, wRo (List.replicate m 3))] [o1 (.esl 1000 i 0 m), o1 (.sl 50 0 m)] [] (vv (.bool (labs == List.replicate m 3))) [] := hQ
  have hF := (either_fc cs mv i m m labs ((List.replicate m 3).set 0 4) hi hm (by simp) (by omega) (by omega)).nm [(1000, 1000), (1001, 50)] (by kernel_rfl)
  have hF : FC Tryz.prog 44 [(1000, cxRo cs), (50, wRo ((List.replicate m 3).set 0 4))] [cA mv i m, o1 (.sl 50 0 m)] [] (vv (.bool (eith labs ((List.replicate m 3).set 0 4)))) [] := hF
  have e4' : (labs == List.replicate m 3) = true := by simpa using e4
  rw [e4'] at hQ
  have hw1 : IntKind.i64.wrap ((m : Int) + 1) = (m : Int) + 1 := IntWalk.i64_in _ (by omega)
  (refine goes_seq ?_; refine goes_region ?_; apply run_step rfl; (exact stp_box rfl rfl rfl rfl); apply run_step rfl; (exact stp_assign rfl rfl); refine run_nil ?_; refine fin_seq ?_; refine goes_seq ?_; refine goes_region ?_; apply run_step rfl; (exact stp_fieldAddr (d := 1) rfl rfl rfl (by as_aux_lemma => kernel_rfl)); apply run_step rfl; (exact stp_loadF rfl (by as_aux_lemma => kernel_rfl) rfl rfl rfl rfl); apply run_step rfl; (first | (apply call_gate 43; exact stp_callR hSz (by as_aux_lemma => kernel_rfl) rfl rfl ⟨rfl, trivial⟩ trivial rfl rfl) | exact stp_add rfl rfl rfl hw1); apply run_step rfl; (first | (apply call_gate 43; exact stp_callR hSz (by as_aux_lemma => kernel_rfl) rfl rfl ⟨rfl, trivial⟩ trivial rfl rfl) | exact stp_add rfl rfl rfl hw1); apply run_step rfl; (exact stp_assign rfl rfl); refine run_nil ?_; refine fin_seq ?_; refine goes_seq ?_; refine goes_block ?_; refine goes_seq ?_; refine goes_region ?_; apply run_step rfl; (exact stp_move rfl rfl); apply run_step rfl; (exact stp_bin rfl rfl rfl rfl); apply run_step rfl; (exact stp_assign rfl rfl); refine run_nil ?_; refine fin_seq ?_)
  refine goes_cond rfl (fun e => ?_) (fun _ => ?_)
  · exfalso; simp at e; omega
  (repeat (first | refine goes_seq ?_ | refine fin_seq ?_ | refine goes_skip ?_ | refine goes_block ?_ | refine fin_block ?_ | refine goes_exit ?_ | refine fin_exit_eq ?_ | refine fin_exit_ne rfl ?_ | refine fin_exit_then ?_))
  refine goes_cut (St.of [(1, o1 (.ptr 1 0)), (3, vv (I6 ((m : Int) + 1))), (16, vv (.bool false))] [(1000, cxRo cs), (1, ⟨true, 45, 2, .flat [.val (I6 mv), .esl 1000 i 0 m]⟩)]) ?_ ?_
  · refine goes_region ?_
    (apply run_step rfl; (exact stp_move rfl rfl); apply run_step rfl; (exact stp_bin rfl rfl rfl rfl); apply run_step rfl; (exact stp_move rfl rfl))
    refine run_bool 19 rfl (fun e1 => ?_) (fun e1 => ?_)
    · have e1 : m = 1 := by simp at e1; omega
      have hg2 : ¬ iget labs 0 > 0 := fun h => hq ⟨e1, h⟩
      have hgl : (ivals labs)[0]? = some (I6 (iget labs 0)) := ivals_get (by omega)
      have hbf : binI .i64 .gtr (iget labs 0) 0 = some (.bool false) := by simp [binI]; omega
      (apply run_gYes rfl rfl rfl; (exact stp_fieldAddr (d := 1) rfl rfl rfl (by as_aux_lemma => kernel_rfl)); apply run_gYes rfl rfl rfl; (exact stp_loadF rfl (by as_aux_lemma => kernel_rfl) rfl rfl rfl rfl); apply run_gYes rfl rfl rfl; (first | exact stp_bin rfl rfl rfl hbf | exact stp_ixM (j := 0) rfl rfl rfl rfl rfl (by as_aux_lemma => kernel_rfl) hi (by omega) rfl (by omega) (Nat.le_refl _) | exact stp_loadEM rfl (by as_aux_lemma => kernel_rfl) rfl rfl rfl hi hgl); apply run_gYes rfl rfl rfl; (first | exact stp_bin rfl rfl rfl hbf | exact stp_ixM (j := 0) rfl rfl rfl rfl rfl (by as_aux_lemma => kernel_rfl) hi (by omega) rfl (by omega) (Nat.le_refl _) | exact stp_loadEM rfl (by as_aux_lemma => kernel_rfl) rfl rfl rfl hi hgl); apply run_gYes rfl rfl rfl; (first | exact stp_bin rfl rfl rfl hbf | exact stp_ixM (j := 0) rfl rfl rfl rfl rfl (by as_aux_lemma => kernel_rfl) hi (by omega) rfl (by omega) (Nat.le_refl _) | exact stp_loadEM rfl (by as_aux_lemma => kernel_rfl) rfl rfl rfl hi hgl); apply run_step rfl; (exact stp_pickT rfl rfl rfl); apply run_step rfl; (exact stp_assign rfl rfl); refine run_nil ?_)
      exact fin_join (Wk.of ⟨rfl, rfl, rfl, trivial⟩ ⟨rfl, rfl, trivial⟩ trivial)
    · (apply run_gNo rfl rfl rfl rfl rfl; apply run_gNo rfl rfl rfl rfl rfl; apply run_gNo rfl rfl rfl rfl rfl; apply run_gNo rfl rfl rfl rfl rfl; apply run_gNo rfl rfl rfl rfl rfl; apply run_step rfl; (exact stp_pickF rfl rfl rfl); apply run_step rfl; (exact stp_assign rfl rfl); refine run_nil ?_)
      exact fin_join (Wk.of ⟨rfl, rfl, rfl, trivial⟩ ⟨rfl, rfl, trivial⟩ trivial)
  (refine fin_seq ?_)
  refine goes_cond rfl (fun e => by cases e) (fun _ => ?_)
  (refine goes_seq ?_; refine goes_region ?_; apply run_step rfl; (exact stp_loadAgg rfl rfl rfl rfl rfl rfl (by as_aux_lemma => kernel_rfl)); apply run_step rfl; (exact stp_lit2I (E := 2) rfl (by as_aux_lemma => kernel_rfl) rfl rfl); apply run_step rfl; (first | (apply call_gate 44; exact stp_callR hE1 (by as_aux_lemma => kernel_rfl) rfl rfl ⟨⟨.inl rfl, .inl rfl, trivial⟩, rfl, trivial⟩ ⟨⟨_, rfl, .inl rfl⟩, ⟨_, rfl, .inr rfl⟩, trivial⟩ rfl rfl) | exact stp_lit3I (E := 2) rfl (by as_aux_lemma => kernel_rfl) rfl rfl rfl | exact stp_lit4I (E := 2) rfl (by as_aux_lemma => kernel_rfl) rfl rfl rfl rfl); apply run_step rfl; (exact stp_assign rfl rfl); refine run_nil ?_; refine fin_seq ?_)
  refine goes_cond rfl (fun e => by cases e) (fun _ => ?_)
  (refine goes_seq ?_; refine goes_region ?_; apply run_step rfl; (exact stp_loadAgg rfl rfl rfl rfl rfl rfl (by as_aux_lemma => kernel_rfl)); apply run_step rfl; (first | (apply call_gate 44; exact stp_callR hE2 (by as_aux_lemma => kernel_rfl) rfl rfl ⟨⟨.inl rfl, .inl rfl, trivial⟩, rfl, trivial⟩ ⟨⟨_, rfl, .inl rfl⟩, ⟨_, rfl, .inr rfl⟩, trivial⟩ rfl rfl) | exact stp_lit3I (E := 2) rfl (by as_aux_lemma => kernel_rfl) rfl rfl rfl | exact stp_lit4I (E := 2) rfl (by as_aux_lemma => kernel_rfl) rfl rfl rfl rfl); apply run_step rfl; (first | (apply call_gate 44; exact stp_callR hE2 (by as_aux_lemma => kernel_rfl) rfl rfl ⟨⟨.inl rfl, .inl rfl, trivial⟩, rfl, trivial⟩ ⟨⟨_, rfl, .inl rfl⟩, ⟨_, rfl, .inr rfl⟩, trivial⟩ rfl rfl) | exact stp_lit3I (E := 2) rfl (by as_aux_lemma => kernel_rfl) rfl rfl rfl | exact stp_lit4I (E := 2) rfl (by as_aux_lemma => kernel_rfl) rfl rfl rfl rfl); apply run_step rfl; (exact stp_assign rfl rfl); refine run_nil ?_; refine fin_seq ?_)
  refine goes_cond rfl (fun e => by cases e) (fun _ => ?_)
  (refine goes_seq ?_; refine goes_region ?_; apply run_step rfl; (exact stp_loadAgg rfl rfl rfl rfl rfl rfl (by as_aux_lemma => kernel_rfl)); apply run_step rfl; (first | (apply call_gate 44; exact stp_callR hE3 (by as_aux_lemma => kernel_rfl) rfl rfl ⟨⟨.inl rfl, .inl rfl, trivial⟩, rfl, trivial⟩ ⟨⟨_, rfl, .inl rfl⟩, ⟨_, rfl, .inr rfl⟩, trivial⟩ rfl rfl) | exact stp_lit3I (E := 2) rfl (by as_aux_lemma => kernel_rfl) rfl rfl rfl | exact stp_lit4I (E := 2) rfl (by as_aux_lemma => kernel_rfl) rfl rfl rfl rfl); apply run_step rfl; (first | (apply call_gate 44; exact stp_callR hE3 (by as_aux_lemma => kernel_rfl) rfl rfl ⟨⟨.inl rfl, .inl rfl, trivial⟩, rfl, trivial⟩ ⟨⟨_, rfl, .inl rfl⟩, ⟨_, rfl, .inr rfl⟩, trivial⟩ rfl rfl) | exact stp_lit3I (E := 2) rfl (by as_aux_lemma => kernel_rfl) rfl rfl rfl | exact stp_lit4I (E := 2) rfl (by as_aux_lemma => kernel_rfl) rfl rfl rfl rfl); apply run_step rfl; (exact stp_assign rfl rfl); refine run_nil ?_; refine fin_seq ?_)
  refine goes_cond rfl (fun e => by cases e) (fun _ => ?_)
  (refine goes_skip ?_; refine fin_block ?_; refine fin_seq ?_; refine goes_seq ?_; refine goes_region ?_; apply run_step rfl; (exact stp_lit1I (E := 2) rfl (by as_aux_lemma => kernel_rfl) rfl); apply run_step rfl; (exact stp_fieldAddr (d := 1) rfl rfl rfl (by as_aux_lemma => kernel_rfl)); apply run_step rfl; (exact stp_loadF rfl (by as_aux_lemma => kernel_rfl) rfl rfl rfl rfl); apply run_step rfl; (exact stp_len rfl rfl rfl (by as_aux_lemma => kernel_rfl)); apply run_step rfl; (first | (apply call_gate 45; exact stp_callN hR (by as_aux_lemma => kernel_rfl) rfl rfl ⟨rfl, rfl, trivial⟩ ⟨⟨_, rfl, .inr rfl⟩, trivial⟩ rfl rfl rfl) | (apply call_gate 46; exact stp_callR hQ (by as_aux_lemma => kernel_rfl) rfl rfl ⟨rfl, rfl, trivial⟩ ⟨⟨_, rfl, .inl rfl⟩, ⟨_, rfl, .inr rfl⟩, trivial⟩ rfl rfl)); apply run_step rfl; (exact stp_assign rfl rfl); refine run_nil ?_; refine fin_seq ?_; refine goes_seq ?_; refine goes_region ?_; apply run_step rfl; (exact stp_assign rfl rfl); refine run_nil ?_; refine fin_seq ?_; refine goes_seq ?_; refine goes_seq ?_; refine goes_region ?_; apply run_step rfl; (exact stp_fieldAddr (d := 1) rfl rfl rfl (by as_aux_lemma => kernel_rfl)); apply run_step rfl; (exact stp_loadF rfl (by as_aux_lemma => kernel_rfl) rfl rfl rfl rfl); apply run_step rfl; (exact stp_move rfl rfl); apply run_step rfl; (first | (apply call_gate 45; exact stp_callN hR (by as_aux_lemma => kernel_rfl) rfl rfl ⟨rfl, rfl, trivial⟩ ⟨⟨_, rfl, .inr rfl⟩, trivial⟩ rfl rfl rfl) | (apply call_gate 46; exact stp_callR hQ (by as_aux_lemma => kernel_rfl) rfl rfl ⟨rfl, rfl, trivial⟩ ⟨⟨_, rfl, .inl rfl⟩, ⟨_, rfl, .inr rfl⟩, trivial⟩ rfl rfl)); refine run_nil ?_; refine fin_seq ?_)
  refine goes_cond rfl (fun _ => ?_) (fun e => by cases e)
  (refine goes_region ?_; apply run_step rfl; (exact stp_assign rfl rfl); refine run_nil ?_; refine fin_seq ?_; refine goes_seq ?_; refine goes_seq ?_; refine goes_region ?_; apply run_step rfl; (exact stp_move rfl rfl); apply run_step rfl; (exact stp_bin rfl rfl rfl rfl); refine run_nil ?_; refine fin_seq ?_)
  refine goes_cond rfl (fun e => by cases e) (fun _ => ?_)
  (refine goes_skip ?_; refine fin_seq ?_; refine goes_seq ?_; refine goes_region ?_; apply run_step rfl; (exact stp_assign rfl rfl); refine run_nil ?_; refine fin_seq ?_; refine goes_seq ?_; refine goes_seq ?_; refine goes_region ?_; apply run_step rfl; (exact stp_move rfl rfl); apply run_step rfl; (exact stp_move rfl rfl); refine run_nil ?_; refine fin_seq ?_; refine goes_block ?_)
  have hlp : ∀ k : Nat, k ≤ 5 → IntKind.i64.wrap ((1 : Int) * (k : Int)) = (1 : Int) * k ∧ IntKind.i64.wrap (2 + (1 : Int) * (k : Int)) = 2 + (1 : Int) * k := fun k hk => ⟨IntWalk.i64_in _ (by omega), IntWalk.i64_in _ (by omega)⟩
  refine goes_loop (fun k : Nat => St.of [(5, vv (I6 1)), (6, o1 (.sl 2100 0 k)), (62, vv (I6 ((m : Int) + 1))), (63, vv (I6 k))] [(2100, leOw (ramp k 1))]) (fun k => k ≤ m + 1) (fun k => m + 1 - k) 0 (Nat.zero_le _) (Wk.trans (wk_nil (t := 6) (n := 2100) (k := 1) (E := 2) (d := .vals (ivals (ramp 0 1))) rfl rfl) (Wk.of ⟨rfl, rfl, rfl, rfl, trivial⟩ ⟨rfl, trivial⟩ trivial)) ?_
  rintro k hk
  have hlk := hlp k (by omega)
  (refine goes_seq ?_; refine goes_region ?_; apply run_step rfl; (exact stp_bin rfl rfl rfl rfl); refine run_nil ?_; refine fin_seq ?_; refine goes_seq ?_)
  refine goes_if rfl (fun hlt => ?_) (fun hlt => ?_)
  · (refine goes_skip ?_; refine fin_seq ?_; refine goes_seq ?_; refine goes_block ?_; refine goes_seq ?_; refine goes_region ?_; apply run_step rfl; (exact stp_move rfl rfl); apply run_step rfl; (exact stp_assign rfl rfl); refine run_nil ?_; refine fin_seq ?_; refine goes_region ?_; apply run_step rfl; (exact stp_move rfl rfl); apply run_step rfl; (exact stp_move rfl rfl); apply run_step rfl; (exact stp_move rfl rfl); apply run_step rfl; (first | exact stp_mul rfl rfl rfl hlk.1 | exact stp_add rfl rfl rfl hlk.2 | exact stp_appI rfl (by as_aux_lemma => kernel_rfl) rfl rfl rfl (ramp_len _ _) rfl rfl (by omega)); apply run_step rfl; (first | exact stp_mul rfl rfl rfl hlk.1 | exact stp_add rfl rfl rfl hlk.2 | exact stp_appI rfl (by as_aux_lemma => kernel_rfl) rfl rfl rfl (ramp_len _ _) rfl rfl (by omega)); apply run_step rfl; (exact stp_lit1I (E := 2) rfl (by as_aux_lemma => kernel_rfl) rfl); apply run_step rfl; (first | exact stp_mul rfl rfl rfl hlk.1 | exact stp_add rfl rfl rfl hlk.2 | exact stp_appI rfl (by as_aux_lemma => kernel_rfl) rfl rfl rfl (ramp_len _ _) rfl rfl (by omega)); apply run_step rfl; (exact stp_assign rfl rfl); refine run_nil ?_; refine fin_block ?_; refine fin_seq ?_; refine goes_region ?_; apply run_step rfl; (exact stp_add rfl rfl rfl (by first | exact IntWalk.i64_in _ (by omega) | rfl)); apply run_step rfl; (exact stp_move rfl rfl); refine run_nil ?_)
    exact fin_round (k + 1) (by omega) (by omega) (Wk.of ⟨rfl, rfl, rfl, rfl, trivial⟩ ⟨by rw [ramp_succ]; rfl, trivial⟩ trivial)
  · obtain rfl : k = m + 1 := by omega
    (refine goes_exit ?_; refine fin_exit_then ?_; refine fin_exit_then ?_; refine fin_exit_eq ?_; refine fin_seq ?_; refine goes_seq ?_; refine goes_region ?_; apply run_step rfl; (exact stp_move rfl rfl); apply run_step rfl; (exact stp_assign rfl rfl); refine run_nil ?_; refine fin_seq ?_; refine goes_ret ?_)
    exact fin_ret1 (.inl rfl) rfl (.tmp rfl) ⟨rfl, trivial⟩ trivial
set_option maxRecDepth 100000 in
set_option maxHeartbeats 2000000 in
theorem deg6_fc (cs : List Cel) (mv : Int) (i m : Nat) (labs : List Int) (hi : cs[i]? = some (.r 2 1 m (ivals labs))) (hm : labs.length = m) (hm4 : m ≤ 4) (h0 : 0 < m) (hq : ¬ (m = 1 ∧ 0 < iget labs 0)) (e1 : eith labs [3, 5] = false) (e2 : eith labs [3, 3, 5] = false) (e3 : eith labs [3, 4, 3] = false) (e4 : labs ≠ List.replicate m 3) (e5 : eith labs ((List.replicate m (3 : Int)).set 0 4) = true) :
    FC Tryz.prog 25 [(1000, cxRo cs)] [cA mv i m] [(2100, leOw (ramp (m + 1) 2))] (o1 (.sl 2100 0 (m + 1))) [] := by
  have hSz := sizeE_fc 1000 i m
  have hE1 := (either_fc cs mv i m 2 labs [3, 5] hi hm rfl (by omega) (by omega)).nm [(1000, 1000), (1001, 33)] (by kernel_rfl)
  have hE1 : FC Tryz.prog 44 [(1000, cxRo cs), (33, wRo [3, 5])] [cA mv i m, o1 (.sl 33 0 2)] [] (vv (.bool (eith labs [3, 5]))) [] := hE1
  rw [e1] at hE1
  have hE2 := (either_fc cs mv i m 3 labs [3, 3, 5] hi hm rfl (by omega) (by omega)).nm [(1000, 1000), (1001, 38)] (by kernel_rfl)
  have hE2 : FC Tryz.prog 44 [(1000, cxRo cs), (38, wRo [3, 3, 5])] [cA mv i m, o1 (.sl 38 0 3)] [] (vv (.bool (eith labs [3, 3, 5]))) [] := hE2
  rw [e2] at hE2
  have hE3 := (either_fc cs mv i m 3 labs [3, 4, 3] hi hm rfl (by omega) (by omega)).nm [(1000, 1000), (1001, 43)] (by kernel_rfl)
  have hE3 : FC Tryz.prog 44 [(1000, cxRo cs), (43, wRo [3, 4, 3])] [cA mv i m, o1 (.sl 43 0 3)] [] (vv (.bool (eith labs [3, 4, 3]))) [] := hE3
  rw [e3] at hE3
  refine fc_enter (nt := 75) Tryz.func25 rfl rfl (by simp) fun w0 ω0 => ?_
  have hR : FC Tryz.prog 45 [(46, ⟨false, 2, 1, .vals (ivals [3])⟩)] [o1 (.sl 46 0 1), vv (I6 m)] [(50, ⟨true, 2, 1, .vals (ivals (List.replicate m 3))⟩)] (o1 (.sl 50 0 m)) [] := repeat1_fc 46 50 m 3 (by omega) h0
  have hrl : (List.replicate m (3 : Int)).length = m := by simp
  have hQ := (equalM_fc cs i m m 45 2 labs (List.replicate m 3) hi hm hrl (by omega) (by omega)).nm [(1000, 1000), (1001, 50)] (by kernel_rfl)
  have hQ : FC Tryz.prog 46 [(1000, cxRo cs), (50, wRo (List.replicate m 3))] [o1 (.esl 1000 i 0 m), o1 (.sl 50 0 m)] [] (vv (.bool (labs == List.replicate m 3))) [] := hQ
  have hF := (either_fc cs mv i m m labs ((List.replicate m 3).set 0 4) hi hm (by simp) (by omega) (by omega)).nm [(1000, 1000), (1001, 50)] (by kernel_rfl)
  have hF : FC Tryz.prog 44 [(1000, cxRo cs), (50, wRo ((List.replicate m 3).set 0 4))] [cA mv i m, o1 (.sl 50 0 m)] [] (vv (.bool (eith labs ((List.replicate m 3).set 0 4)))) [] := hF
  have e4' : (labs == List.replicate m 3) = false := by simpa using e4
  rw [e4'] at hQ
  rw [e5] at hF
  have hw1 : IntKind.i64.wrap ((m : Int) + 1) = (m : Int) + 1 := IntWalk.i64_in _ (by omega)
  (refine goes_seq ?_; refine goes_region ?_; apply run_step rfl; (exact stp_box rfl rfl rfl rfl); apply run_step rfl; (exact stp_assign rfl rfl); refine run_nil ?_; refine fin_seq ?_; refine goes_seq ?_; refine goes_region ?_; apply run_step rfl; (exact stp_fieldAddr (d := 1) rfl rfl rfl (by as_aux_lemma => kernel_rfl)); apply run_step rfl; (exact stp_loadF rfl (by as_aux_lemma => kernel_rfl) rfl rfl rfl rfl); apply run_step rfl; (first | (apply call_gate 43; exact stp_callR hSz (by as_aux_lemma => kernel_rfl) rfl rfl ⟨rfl, trivial⟩ trivial rfl rfl) | exact stp_add rfl rfl rfl hw1); apply run_step rfl; (first | (apply call_gate 43; exact stp_callR hSz (by as_aux_lemma => kernel_rfl) rfl rfl ⟨rfl, trivial⟩ trivial rfl rfl) | exact stp_add rfl rfl rfl hw1); apply run_step rfl; (exact stp_assign rfl rfl); refine run_nil ?_; refine fin_seq ?_; refine goes_seq ?_; refine goes_block ?_; refine goes_seq ?_; refine goes_region ?_; apply run_step rfl; (exact stp_move rfl rfl); apply run_step rfl; (exact stp_bin rfl rfl rfl rfl); apply run_step rfl; (exact stp_assign rfl rfl); refine run_nil ?_; refine fin_seq ?_)
  refine goes_cond rfl (fun e => ?_) (fun _ => ?_)
  · exfalso; simp at e; omega
  (repeat (first | refine goes_seq ?_ | refine fin_seq ?_ | refine goes_skip ?_ | refine goes_block ?_ | refine fin_block ?_ | refine goes_exit ?_ | refine fin_exit_eq ?_ | refine fin_exit_ne rfl ?_ | refine fin_exit_then ?_))
  refine goes_cut (St.of [(1, o1 (.ptr 1 0)), (3, vv (I6 ((m : Int) + 1))), (16, vv (.bool false))] [(1000, cxRo cs), (1, ⟨true, 45, 2, .flat [.val (I6 mv), .esl 1000 i 0 m]⟩)]) ?_ ?_
  · refine goes_region ?_
    (apply run_step rfl; (exact stp_move rfl rfl); apply run_step rfl; (exact stp_bin rfl rfl rfl rfl); apply run_step rfl; (exact stp_move rfl rfl))
    refine run_bool 19 rfl (fun e1 => ?_) (fun e1 => ?_)
    · have e1 : m = 1 := by simp at e1; omega
      have hg2 : ¬ iget labs 0 > 0 := fun h => hq ⟨e1, h⟩
      have hgl : (ivals labs)[0]? = some (I6 (iget labs 0)) := ivals_get (by omega)
      have hbf : binI .i64 .gtr (iget labs 0) 0 = some (.bool false) := by simp [binI]; omega
      (apply run_gYes rfl rfl rfl; (exact stp_fieldAddr (d := 1) rfl rfl rfl (by as_aux_lemma => kernel_rfl)); apply run_gYes rfl rfl rfl; (exact stp_loadF rfl (by as_aux_lemma => kernel_rfl) rfl rfl rfl rfl); apply run_gYes rfl rfl rfl; (first | exact stp_bin rfl rfl rfl hbf | exact stp_ixM (j := 0) rfl rfl rfl rfl rfl (by as_aux_lemma => kernel_rfl) hi (by omega) rfl (by omega) (Nat.le_refl _) | exact stp_loadEM rfl (by as_aux_lemma => kernel_rfl) rfl rfl rfl hi hgl); apply run_gYes rfl rfl rfl; (first | exact stp_bin rfl rfl rfl hbf | exact stp_ixM (j := 0) rfl rfl rfl rfl rfl (by as_aux_lemma => kernel_rfl) hi (by omega) rfl (by omega) (Nat.le_refl _) | exact stp_loadEM rfl (by as_aux_lemma => kernel_rfl) rfl rfl rfl hi hgl); apply run_gYes rfl rfl rfl; (first | exact stp_bin rfl rfl rfl hbf | exact stp_ixM (j := 0) rfl rfl rfl rfl rfl (by as_aux_lemma => kernel_rfl) hi (by omega) rfl (by omega) (Nat.le_refl _) | exact stp_loadEM rfl (by as_aux_lemma => kernel_rfl) rfl rfl rfl hi hgl); apply run_step rfl; (exact stp_pickT rfl rfl rfl); apply run_step rfl; (exact stp_assign rfl rfl); refine run_nil ?_)
      exact fin_join (Wk.of ⟨rfl, rfl, rfl, trivial⟩ ⟨rfl, rfl, trivial⟩ trivial)
    · (apply run_gNo rfl rfl rfl rfl rfl; apply run_gNo rfl rfl rfl rfl rfl; apply run_gNo rfl rfl rfl rfl rfl; apply run_gNo rfl rfl rfl rfl rfl; apply run_gNo rfl rfl rfl rfl rfl; apply run_step rfl; (exact stp_pickF rfl rfl rfl); apply run_step rfl; (exact stp_assign rfl rfl); refine run_nil ?_)
      exact fin_join (Wk.of ⟨rfl, rfl, rfl, trivial⟩ ⟨rfl, rfl, trivial⟩ trivial)
  (refine fin_seq ?_)
  refine goes_cond rfl (fun e => by cases e) (fun _ => ?_)
  (refine goes_seq ?_; refine goes_region ?_; apply run_step rfl; (exact stp_loadAgg rfl rfl rfl rfl rfl rfl (by as_aux_lemma => kernel_rfl)); apply run_step rfl; (exact stp_lit2I (E := 2) rfl (by as_aux_lemma => kernel_rfl) rfl rfl); apply run_step rfl; (first | (apply call_gate 44; exact stp_callR hE1 (by as_aux_lemma => kernel_rfl) rfl rfl ⟨⟨.inl rfl, .inl rfl, trivial⟩, rfl, trivial⟩ ⟨⟨_, rfl, .inl rfl⟩, ⟨_, rfl, .inr rfl⟩, trivial⟩ rfl rfl) | exact stp_lit3I (E := 2) rfl (by as_aux_lemma => kernel_rfl) rfl rfl rfl | exact stp_lit4I (E := 2) rfl (by as_aux_lemma => kernel_rfl) rfl rfl rfl rfl); apply run_step rfl; (exact stp_assign rfl rfl); refine run_nil ?_; refine fin_seq ?_)
  refine goes_cond rfl (fun e => by cases e) (fun _ => ?_)
  (refine goes_seq ?_; refine goes_region ?_; apply run_step rfl; (exact stp_loadAgg rfl rfl rfl rfl rfl rfl (by as_aux_lemma => kernel_rfl)); apply run_step rfl; (first | (apply call_gate 44; exact stp_callR hE2 (by as_aux_lemma => kernel_rfl) rfl rfl ⟨⟨.inl rfl, .inl rfl, trivial⟩, rfl, trivial⟩ ⟨⟨_, rfl, .inl rfl⟩, ⟨_, rfl, .inr rfl⟩, trivial⟩ rfl rfl) | exact stp_lit3I (E := 2) rfl (by as_aux_lemma => kernel_rfl) rfl rfl rfl | exact stp_lit4I (E := 2) rfl (by as_aux_lemma => kernel_rfl) rfl rfl rfl rfl); apply run_step rfl; (first | (apply call_gate 44; exact stp_callR hE2 (by as_aux_lemma => kernel_rfl) rfl rfl ⟨⟨.inl rfl, .inl rfl, trivial⟩, rfl, trivial⟩ ⟨⟨_, rfl, .inl rfl⟩, ⟨_, rfl, .inr rfl⟩, trivial⟩ rfl rfl) | exact stp_lit3I (E := 2) rfl (by as_aux_lemma => kernel_rfl) rfl rfl rfl | exact stp_lit4I (E := 2) rfl (by as_aux_lemma => kernel_rfl) rfl rfl rfl rfl); apply run_step rfl; (exact stp_assign rfl rfl); refine run_nil ?_; refine fin_seq ?_)
  refine goes_cond rfl (fun e => by cases e) (fun _ => ?_)
  (refine goes_seq ?_; refine goes_region ?_; apply run_step rfl; (exact stp_loadAgg rfl rfl rfl rfl rfl rfl (by as_aux_lemma => kernel_rfl)); apply run_step rfl; (first | (apply call_gate 44; exact stp_callR hE3 (by as_aux_lemma => kernel_rfl) rfl rfl ⟨⟨.inl rfl, .inl rfl, trivial⟩, rfl, trivial⟩ ⟨⟨_, rfl, .inl rfl⟩, ⟨_, rfl, .inr rfl⟩, trivial⟩ rfl rfl) | exact stp_lit3I (E := 2) rfl (by as_aux_lemma => kernel_rfl) rfl rfl rfl | exact stp_lit4I (E := 2) rfl (by as_aux_lemma => kernel_rfl) rfl rfl rfl rfl); apply run_step rfl; (first | (apply call_gate 44; exact stp_callR hE3 (by as_aux_lemma => kernel_rfl) rfl rfl ⟨⟨.inl rfl, .inl rfl, trivial⟩, rfl, trivial⟩ ⟨⟨_, rfl, .inl rfl⟩, ⟨_, rfl, .inr rfl⟩, trivial⟩ rfl rfl) | exact stp_lit3I (E := 2) rfl (by as_aux_lemma => kernel_rfl) rfl rfl rfl | exact stp_lit4I (E := 2) rfl (by as_aux_lemma => kernel_rfl) rfl rfl rfl rfl); apply run_step rfl; (exact stp_assign rfl rfl); refine run_nil ?_; refine fin_seq ?_)
  refine goes_cond rfl (fun e => by cases e) (fun _ => ?_)
  (refine goes_skip ?_; refine fin_block ?_; refine fin_seq ?_; refine goes_seq ?_; refine goes_region ?_; apply run_step rfl; (exact stp_lit1I (E := 2) rfl (by as_aux_lemma => kernel_rfl) rfl); apply run_step rfl; (exact stp_fieldAddr (d := 1) rfl rfl rfl (by as_aux_lemma => kernel_rfl)); apply run_step rfl; (exact stp_loadF rfl (by as_aux_lemma => kernel_rfl) rfl rfl rfl rfl); apply run_step rfl; (exact stp_len rfl rfl rfl (by as_aux_lemma => kernel_rfl)); apply run_step rfl; (first | (apply call_gate 45; exact stp_callN hR (by as_aux_lemma => kernel_rfl) rfl rfl ⟨rfl, rfl, trivial⟩ ⟨⟨_, rfl, .inr rfl⟩, trivial⟩ rfl rfl rfl) | (apply call_gate 46; exact stp_callR hQ (by as_aux_lemma => kernel_rfl) rfl rfl ⟨rfl, rfl, trivial⟩ ⟨⟨_, rfl, .inl rfl⟩, ⟨_, rfl, .inr rfl⟩, trivial⟩ rfl rfl)); apply run_step rfl; (exact stp_assign rfl rfl); refine run_nil ?_; refine fin_seq ?_; refine goes_seq ?_; refine goes_region ?_; apply run_step rfl; (exact stp_assign rfl rfl); refine run_nil ?_; refine fin_seq ?_; refine goes_seq ?_; refine goes_seq ?_; refine goes_region ?_; apply run_step rfl; (exact stp_fieldAddr (d := 1) rfl rfl rfl (by as_aux_lemma => kernel_rfl)); apply run_step rfl; (exact stp_loadF rfl (by as_aux_lemma => kernel_rfl) rfl rfl rfl rfl); apply run_step rfl; (exact stp_move rfl rfl); apply run_step rfl; (first | (apply call_gate 45; exact stp_callN hR (by as_aux_lemma => kernel_rfl) rfl rfl ⟨rfl, rfl, trivial⟩ ⟨⟨_, rfl, .inr rfl⟩, trivial⟩ rfl rfl rfl) | (apply call_gate 46; exact stp_callR hQ (by as_aux_lemma => kernel_rfl) rfl rfl ⟨rfl, rfl, trivial⟩ ⟨⟨_, rfl, .inl rfl⟩, ⟨_, rfl, .inr rfl⟩, trivial⟩ rfl rfl)); refine run_nil ?_; refine fin_seq ?_)
  refine goes_cond rfl (fun e => by cases e) (fun _ => ?_)
  (refine goes_seq ?_; refine goes_region ?_; apply run_step rfl; (exact stp_move rfl rfl); apply run_step rfl; (exact stp_ix rfl rfl rfl rfl rfl (by as_aux_lemma => kernel_rfl) (by first | rfl | exact (Int.toNat_of_nonneg (by omega)).symm) (by first | assumption | omega | (simp; omega)) (by first | exact Nat.le_refl _ | exact Nat.le_of_eq (ivals_len _).symm | exact Nat.le_of_eq (irows_len _).symm | (refine Nat.le_trans ?_ (Nat.le_of_eq (ivals_len _).symm); (first | omega | (simp; done) | (simp; omega))) | (refine Nat.le_trans ?_ (Nat.le_of_eq (irows_len _).symm); (first | omega | (simp; done) | (simp; omega))))); apply run_step rfl; (first | exact stp_ix (j := 0) rfl rfl rfl rfl rfl (by as_aux_lemma => kernel_rfl) rfl h0 (by rw [ivals_len, hrl]; exact Nat.le_refl _) | exact stp_stI rfl rfl rfl rfl rfl (by rw [hrl]; exact h0) (by as_aux_lemma => kernel_rfl) | (apply call_gate 44; exact stp_callR hF (by as_aux_lemma => kernel_rfl) rfl rfl ⟨⟨.inl rfl, .inl rfl, trivial⟩, rfl, trivial⟩ ⟨⟨_, rfl, .inl rfl⟩, ⟨_, rfl, .inr rfl⟩, trivial⟩ rfl rfl)); refine run_nil ?_; refine fin_seq ?_; refine goes_seq ?_; refine goes_region ?_; apply run_step rfl; (exact stp_loadAgg rfl rfl rfl rfl rfl rfl (by as_aux_lemma => kernel_rfl)); apply run_step rfl; (exact stp_move rfl rfl); apply run_step rfl; (first | exact stp_ix (j := 0) rfl rfl rfl rfl rfl (by as_aux_lemma => kernel_rfl) rfl h0 (by rw [ivals_len, hrl]; exact Nat.le_refl _) | exact stp_stI rfl rfl rfl rfl rfl (by rw [hrl]; exact h0) (by as_aux_lemma => kernel_rfl) | (apply call_gate 44; exact stp_callR hF (by as_aux_lemma => kernel_rfl) rfl rfl ⟨⟨.inl rfl, .inl rfl, trivial⟩, rfl, trivial⟩ ⟨⟨_, rfl, .inl rfl⟩, ⟨_, rfl, .inr rfl⟩, trivial⟩ rfl rfl)); refine run_nil ?_; refine fin_seq ?_)
  refine goes_cond rfl (fun _ => ?_) (fun e => by cases e)
  (refine goes_region ?_; apply run_step rfl; (exact stp_assign rfl rfl); refine run_nil ?_; refine fin_seq ?_; refine goes_seq ?_; refine goes_seq ?_; refine goes_region ?_; apply run_step rfl; (exact stp_move rfl rfl); apply run_step rfl; (exact stp_bin rfl rfl rfl rfl); refine run_nil ?_; refine fin_seq ?_)
  refine goes_cond rfl (fun e => by cases e) (fun _ => ?_)
  (refine goes_skip ?_; refine fin_seq ?_; refine goes_seq ?_; refine goes_region ?_; apply run_step rfl; (exact stp_assign rfl rfl); refine run_nil ?_; refine fin_seq ?_; refine goes_seq ?_; refine goes_seq ?_; refine goes_region ?_; apply run_step rfl; (exact stp_move rfl rfl); apply run_step rfl; (exact stp_move rfl rfl); refine run_nil ?_; refine fin_seq ?_; refine goes_block ?_)
  have hlp : ∀ k : Nat, k ≤ 5 → IntKind.i64.wrap ((2 : Int) * (k : Int)) = (2 : Int) * k ∧ IntKind.i64.wrap (2 + (2 : Int) * (k : Int)) = 2 + (2 : Int) * k := fun k hk => ⟨IntWalk.i64_in _ (by omega), IntWalk.i64_in _ (by omega)⟩
  refine goes_loop (fun k : Nat => St.of [(5, vv (I6 2)), (6, o1 (.sl 2100 0 k)), (62, vv (I6 ((m : Int) + 1))), (63, vv (I6 k))] [(2100, leOw (ramp k 2))]) (fun k => k ≤ m + 1) (fun k => m + 1 - k) 0 (Nat.zero_le _) (Wk.trans (wk_nil (t := 6) (n := 2100) (k := 1) (E := 2) (d := .vals (ivals (ramp 0 2))) rfl rfl) (Wk.of ⟨rfl, rfl, rfl, rfl, trivial⟩ ⟨rfl, trivial⟩ trivial)) ?_
  rintro k hk
  have hlk := hlp k (by omega)
  (refine goes_seq ?_; refine goes_region ?_; apply run_step rfl; (exact stp_bin rfl rfl rfl rfl); refine run_nil ?_; refine fin_seq ?_; refine goes_seq ?_)
  refine goes_if rfl (fun hlt => ?_) (fun hlt => ?_)
  · (refine goes_skip ?_; refine fin_seq ?_; refine goes_seq ?_; refine goes_block ?_; refine goes_seq ?_; refine goes_region ?_; apply run_step rfl; (exact stp_move rfl rfl); apply run_step rfl; (exact stp_assign rfl rfl); refine run_nil ?_; refine fin_seq ?_; refine goes_region ?_; apply run_step rfl; (exact stp_move rfl rfl); apply run_step rfl; (exact stp_move rfl rfl); apply run_step rfl; (exact stp_move rfl rfl); apply run_step rfl; (first | exact stp_mul rfl rfl rfl hlk.1 | exact stp_add rfl rfl rfl hlk.2 | exact stp_appI rfl (by as_aux_lemma => kernel_rfl) rfl rfl rfl (ramp_len _ _) rfl rfl (by omega)); apply run_step rfl; (first | exact stp_mul rfl rfl rfl hlk.1 | exact stp_add rfl rfl rfl hlk.2 | exact stp_appI rfl (by as_aux_lemma => kernel_rfl) rfl rfl rfl (ramp_len _ _) rfl rfl (by omega)); apply run_step rfl; (exact stp_lit1I (E := 2) rfl (by as_aux_lemma => kernel_rfl) rfl); apply run_step rfl; (first | exact stp_mul rfl rfl rfl hlk.1 | exact stp_add rfl rfl rfl hlk.2 | exact stp_appI rfl (by as_aux_lemma => kernel_rfl) rfl rfl rfl (ramp_len _ _) rfl rfl (by omega)); apply run_step rfl; (exact stp_assign rfl rfl); refine run_nil ?_; refine fin_block ?_; refine fin_seq ?_; refine goes_region ?_; apply run_step rfl; (exact stp_add rfl rfl rfl (by first | exact IntWalk.i64_in _ (by omega) | rfl)); apply run_step rfl; (exact stp_move rfl rfl); refine run_nil ?_)
    exact fin_round (k + 1) (by omega) (by omega) (Wk.of ⟨rfl, rfl, rfl, rfl, trivial⟩ ⟨by rw [ramp_succ]; rfl, trivial⟩ trivial)
  · obtain rfl : k = m + 1 := by omega
    (refine goes_exit ?_; refine fin_exit_then ?_; refine fin_exit_then ?_; refine fin_exit_eq ?_; refine fin_seq ?_; refine goes_seq ?_; refine goes_region ?_; apply run_step rfl; (exact stp_move rfl rfl); apply run_step rfl; (exact stp_assign rfl rfl); refine run_nil ?_; refine fin_seq ?_; refine goes_ret ?_)
    exact fin_ret1 (.inl rfl) rfl (.tmp rfl) ⟨rfl, trivial⟩ trivial
set_option maxRecDepth 100000 in
set_option maxHeartbeats 2000000 in
theorem deg7_fc (cs : List Cel) (mv : Int) (i m : Nat) (labs : List Int) (hi : cs[i]? = some (.r 2 1 m (ivals labs))) (hm : labs.length = m) (hm4 : m ≤ 4) (h0 : 0 < m) (hq : ¬ (m = 1 ∧ 0 < iget labs 0)) (e1 : eith labs [3, 5] = false) (e2 : eith labs [3, 3, 5] = false) (e3 : eith labs [3, 4, 3] = false) (e4 : labs ≠ List.replicate m 3) (e5 : eith labs ((List.replicate m (3 : Int)).set 0 4) = false) :
    FC Tryz.prog 25 [(1000, cxRo cs)] [cA mv i m] [] (vv (.slice none 0 0)) [] := by
  have hSz := sizeE_fc 1000 i m
  have hE1 := (either_fc cs mv i m 2 labs [3, 5] hi hm rfl (by omega) (by omega)).nm [(1000, 1000), (1001, 33)] (by kernel_rfl)
  have hE1 : FC Tryz.prog 44 [(1000, cxRo cs), (33, wRo [3, 5])] [cA mv i m, o1 (.sl 33 0 2)] [] (vv (.bool (eith labs [3, 5]))) [] := hE1
  rw [e1] at hE1
  have hE2 := (either_fc cs mv i m 3 labs [3, 3, 5] hi hm rfl (by omega) (by omega)).nm [(1000, 1000), (1001, 38)] (by kernel_rfl)
  have hE2 : FC Tryz.prog 44 [(1000, cxRo cs), (38, wRo [3, 3, 5])] [cA mv i m, o1 (.sl 38 0 3)] [] (vv (.bool (eith labs [3, 3, 5]))) [] := hE2
  rw [e2] at hE2
  have hE3 := (either_fc cs mv i m 3 labs [3, 4, 3] hi hm rfl (by omega) (by omega)).nm [(1000, 1000), (1001, 43)] (by kernel_rfl)
  have hE3 : FC Tryz.prog 44 [(1000, cxRo cs), (43, wRo [3, 4, 3])] [cA mv i m, o1 (.sl 43 0 3)] [] (vv (.bool (eith labs [3, 4, 3]))) [] := hE3
  rw [e3] at hE3
  refine fc_enter (nt := 75) Tryz.func25 rfl rfl (by simp) fun w0 ω0 => ?_
  have hR : FC Tryz.prog 45 [(46, ⟨false, 2, 1, .vals (ivals [3])⟩)] [o1 (.sl 46 0 1), vv (I6 m)] [(50, ⟨true, 2, 1, .vals (ivals (List.replicate m 3))⟩)] (o1 (.sl 50 0 m)) [] := repeat1_fc 46 50 m 3 (by omega) h0
  have hrl : (List.replicate m (3 : Int)).length = m := by simp
  have hQ := (equalM_fc cs i m m 45 2 labs (List.replicate m 3) hi hm hrl (by omega) (by omega)).nm [(1000, 1000), (1001, 50)] (by kernel_rfl)
  have hQ : FC Tryz.prog 46 [(1000, cxRo cs), (50, wRo (List.replicate m 3))] [o1 (.esl 1000 i 0 m), o1 (.sl 50 0 m)] [] (vv (.bool (labs == List.replicate m 3))) [] := hQ
  have hF := (either_fc cs mv i m m labs ((List.replicate m 3).set 0 4) hi hm (by simp) (by omega) (by omega)).nm [(1000, 1000), (1001, 50)] (by kernel_rfl)
  have hF : FC Tryz.prog 44 [(1000, cxRo cs), (50, wRo ((List.replicate m 3).set 0 4))] [cA mv i m, o1 (.sl 50 0 m)] [] (vv (.bool (eith labs ((List.replicate m 3).set 0 4)))) [] := hF
  have e4' : (labs == List.replicate m 3) = false := by simpa using e4
  rw [e4'] at hQ
  rw [e5] at hF
  have hw1 : IntKind.i64.wrap ((m : Int) + 1) = (m : Int) + 1 := IntWalk.i64_in _ (by omega)
  (refine goes_seq ?_; refine goes_region ?_; apply run_step rfl; (exact stp_box rfl rfl rfl rfl); apply run_step rfl; (exact stp_assign rfl rfl); refine run_nil ?_; refine fin_seq ?_; refine goes_seq ?_; refine goes_region ?_; apply run_step rfl; (exact stp_fieldAddr (d := 1) rfl rfl rfl (by as_aux_lemma => kernel_rfl)); apply run_step rfl; (exact stp_loadF rfl (by as_aux_lemma => kernel_rfl) rfl rfl rfl rfl); apply run_step rfl; (first | (apply call_gate 43; exact stp_callR hSz (by as_aux_lemma => kernel_rfl) rfl rfl ⟨rfl, trivial⟩ trivial rfl rfl) | exact stp_add rfl rfl rfl hw1); apply run_step rfl; (first | (apply call_gate 43; exact stp_callR hSz (by as_aux_lemma => kernel_rfl) rfl rfl ⟨rfl, trivial⟩ trivial rfl rfl) | exact stp_add rfl rfl rfl hw1); apply run_step rfl; (exact stp_assign rfl rfl); refine run_nil ?_; refine fin_seq ?_; refine goes_seq ?_; refine goes_block ?_; refine goes_seq ?_; refine goes_region ?_; apply run_step rfl; (exact stp_move rfl rfl); apply run_step rfl; (exact stp_bin rfl rfl rfl rfl); apply run_step rfl; (exact stp_assign rfl rfl); refine run_nil ?_; refine fin_seq ?_)
  refine goes_cond rfl (fun e => ?_) (fun _ => ?_)
  · exfalso; simp at e; omega
  (repeat (first | refine goes_seq ?_ | refine fin_seq ?_ | refine goes_skip ?_ | refine goes_block ?_ | refine fin_block ?_ | refine goes_exit ?_ | refine fin_exit_eq ?_ | refine fin_exit_ne rfl ?_ | refine fin_exit_then ?_))
  refine goes_cut (St.of [(1, o1 (.ptr 1 0)), (3, vv (I6 ((m : Int) + 1))), (16, vv (.bool false))] [(1000, cxRo cs), (1, ⟨true, 45, 2, .flat [.val (I6 mv), .esl 1000 i 0 m]⟩)]) ?_ ?_
  · refine goes_region ?_
    (apply run_step rfl; (exact stp_move rfl rfl); apply run_step rfl; (exact stp_bin rfl rfl rfl rfl); apply run_step rfl; (exact stp_move rfl rfl))
    refine run_bool 19 rfl (fun e1 => ?_) (fun e1 => ?_)
    · have e1 : m = 1 := by simp at e1; omega
      have hg2 : ¬ iget labs 0 > 0 := fun h => hq ⟨e1, h⟩
      have hgl : (ivals labs)[0]? = some (I6 (iget labs 0)) := ivals_get (by omega)
      have hbf : binI .i64 .gtr (iget labs 0) 0 = some (.bool false) := by simp [binI]; omega
      (apply run_gYes rfl rfl rfl; (exact stp_fieldAddr (d := 1) rfl rfl rfl (by as_aux_lemma => kernel_rfl)); apply run_gYes rfl rfl rfl; (exact stp_loadF rfl (by as_aux_lemma => kernel_rfl) rfl rfl rfl rfl); apply run_gYes rfl rfl rfl; (first | exact stp_bin rfl rfl rfl hbf | exact stp_ixM (j := 0) rfl rfl rfl rfl rfl (by as_aux_lemma => kernel_rfl) hi (by omega) rfl (by omega) (Nat.le_refl _) | exact stp_loadEM rfl (by as_aux_lemma => kernel_rfl) rfl rfl rfl hi hgl); apply run_gYes rfl rfl rfl; (first | exact stp_bin rfl rfl rfl hbf | exact stp_ixM (j := 0) rfl rfl rfl rfl rfl (by as_aux_lemma => kernel_rfl) hi (by omega) rfl (by omega) (Nat.le_refl _) | exact stp_loadEM rfl (by as_aux_lemma => kernel_rfl) rfl rfl rfl hi hgl); apply run_gYes rfl rfl rfl; (first | exact stp_bin rfl rfl rfl hbf | exact stp_ixM (j := 0) rfl rfl rfl rfl rfl (by as_aux_lemma => kernel_rfl) hi (by omega) rfl (by omega) (Nat.le_refl _) | exact stp_loadEM rfl (by as_aux_lemma => kernel_rfl) rfl rfl rfl hi hgl); apply run_step rfl; (exact stp_pickT rfl rfl rfl); apply run_step rfl; (exact stp_assign rfl rfl); refine run_nil ?_)
      exact fin_join (Wk.of ⟨rfl, rfl, rfl, trivial⟩ ⟨rfl, rfl, trivial⟩ trivial)
    · (apply run_gNo rfl rfl rfl rfl rfl; apply run_gNo rfl rfl rfl rfl rfl; apply run_gNo rfl rfl rfl rfl rfl; apply run_gNo rfl rfl rfl rfl rfl; apply run_gNo rfl rfl rfl rfl rfl; apply run_step rfl; (exact stp_pickF rfl rfl rfl); apply run_step rfl; (exact stp_assign rfl rfl); refine run_nil ?_)
      exact fin_join (Wk.of ⟨rfl, rfl, rfl, trivial⟩ ⟨rfl, rfl, trivial⟩ trivial)
  (refine fin_seq ?_)
  refine goes_cond rfl (fun e => by cases e) (fun _ => ?_)
  (refine goes_seq ?_; refine goes_region ?_; apply run_step rfl; (exact stp_loadAgg rfl rfl rfl rfl rfl rfl (by as_aux_lemma => kernel_rfl)); apply run_step rfl; (exact stp_lit2I (E := 2) rfl (by as_aux_lemma => kernel_rfl) rfl rfl); apply run_step rfl; (first | (apply call_gate 44; exact stp_callR hE1 (by as_aux_lemma => kernel_rfl) rfl rfl ⟨⟨.inl rfl, .inl rfl, trivial⟩, rfl, trivial⟩ ⟨⟨_, rfl, .inl rfl⟩, ⟨_, rfl, .inr rfl⟩, trivial⟩ rfl rfl) | exact stp_lit3I (E := 2) rfl (by as_aux_lemma => kernel_rfl) rfl rfl rfl | exact stp_lit4I (E := 2) rfl (by as_aux_lemma => kernel_rfl) rfl rfl rfl rfl); apply run_step rfl; (exact stp_assign rfl rfl); refine run_nil ?_; refine fin_seq ?_)
  refine goes_cond rfl (fun e => by cases e) (fun _ => ?_)
  (refine goes_seq ?_; refine goes_region ?_; apply run_step rfl; (exact stp_loadAgg rfl rfl rfl rfl rfl rfl (by as_aux_lemma => kernel_rfl)); apply run_step rfl; (first | (apply call_gate 44; exact stp_callR hE2 (by as_aux_lemma => kernel_rfl) rfl rfl ⟨⟨.inl rfl, .inl rfl, trivial⟩, rfl, trivial⟩ ⟨⟨_, rfl, .inl rfl⟩, ⟨_, rfl, .inr rfl⟩, trivial⟩ rfl rfl) | exact stp_lit3I (E := 2) rfl (by as_aux_lemma => kernel_rfl) rfl rfl rfl | exact stp_lit4I (E := 2) rfl (by as_aux_lemma => kernel_rfl) rfl rfl rfl rfl); apply run_step rfl; (first | (apply call_gate 44; exact stp_callR hE2 (by as_aux_lemma => kernel_rfl) rfl rfl ⟨⟨.inl rfl, .inl rfl, trivial⟩, rfl, trivial⟩ ⟨⟨_, rfl, .inl rfl⟩, ⟨_, rfl, .inr rfl⟩, trivial⟩ rfl rfl) | exact stp_lit3I (E := 2) rfl (by as_aux_lemma => kernel_rfl) rfl rfl rfl | exact stp_lit4I (E := 2) rfl (by as_aux_lemma => kernel_rfl) rfl rfl rfl rfl); apply run_step rfl; (exact stp_assign rfl rfl); refine run_nil ?_; refine fin_seq ?_)
  refine goes_cond rfl (fun e => by cases e) (fun _ => ?_)
  (refine goes_seq ?_; refine goes_region ?_; apply run_step rfl; (exact stp_loadAgg rfl rfl rfl rfl rfl rfl (by as_aux_lemma => kernel_rfl)); apply run_step rfl; (first | (apply call_gate 44; exact stp_callR hE3 (by as_aux_lemma => kernel_rfl) rfl rfl ⟨⟨.inl rfl, .inl rfl, trivial⟩, rfl, trivial⟩ ⟨⟨_, rfl, .inl rfl⟩, ⟨_, rfl, .inr rfl⟩, trivial⟩ rfl rfl) | exact stp_lit3I (E := 2) rfl (by as_aux_lemma => kernel_rfl) rfl rfl rfl | exact stp_lit4I (E := 2) rfl (by as_aux_lemma => kernel_rfl) rfl rfl rfl rfl); apply run_step rfl; (first | (apply call_gate 44; exact stp_callR hE3 (by as_aux_lemma => kernel_rfl) rfl rfl ⟨⟨.inl rfl, .inl rfl, trivial⟩, rfl, trivial⟩ ⟨⟨_, rfl, .inl rfl⟩, ⟨_, rfl, .inr rfl⟩, trivial⟩ rfl rfl) | exact stp_lit3I (E := 2) rfl (by as_aux_lemma => kernel_rfl) rfl rfl rfl | exact stp_lit4I (E := 2) rfl (by as_aux_lemma => kernel_rfl) rfl rfl rfl rfl); apply run_step rfl; (exact stp_assign rfl rfl); refine run_nil ?_; refine fin_seq ?_)
  refine goes_cond rfl (fun e => by cases e) (fun _ => ?_)
  (refine goes_skip ?_; refine fin_block ?_; refine fin_seq ?_; refine goes_seq ?_; refine goes_region ?_; apply run_step rfl; (exact stp_lit1I (E := 2) rfl (by as_aux_lemma => kernel_rfl) rfl); apply run_step rfl; (exact stp_fieldAddr (d := 1) rfl rfl rfl (by as_aux_lemma => kernel_rfl)); apply run_step rfl; (exact stp_loadF rfl (by as_aux_lemma => kernel_rfl) rfl rfl rfl rfl); apply run_step rfl; (exact stp_len rfl rfl rfl (by as_aux_lemma => kernel_rfl)); apply run_step rfl; (first | (apply call_gate 45; exact stp_callN hR (by as_aux_lemma => kernel_rfl) rfl rfl ⟨rfl, rfl, trivial⟩ ⟨⟨_, rfl, .inr rfl⟩, trivial⟩ rfl rfl rfl) | (apply call_gate 46; exact stp_callR hQ (by as_aux_lemma => kernel_rfl) rfl rfl ⟨rfl, rfl, trivial⟩ ⟨⟨_, rfl, .inl rfl⟩, ⟨_, rfl, .inr rfl⟩, trivial⟩ rfl rfl)); apply run_step rfl; (exact stp_assign rfl rfl); refine run_nil ?_; refine fin_seq ?_; refine goes_seq ?_; refine goes_region ?_; apply run_step rfl; (exact stp_assign rfl rfl); refine run_nil ?_; refine fin_seq ?_; refine goes_seq ?_; refine goes_seq ?_; refine goes_region ?_; apply run_step rfl; (exact stp_fieldAddr (d := 1) rfl rfl rfl (by as_aux_lemma => kernel_rfl)); apply run_step rfl; (exact stp_loadF rfl (by as_aux_lemma => kernel_rfl) rfl rfl rfl rfl); apply run_step rfl; (exact stp_move rfl rfl); apply run_step rfl; (first | (apply call_gate 45; exact stp_callN hR (by as_aux_lemma => kernel_rfl) rfl rfl ⟨rfl, rfl, trivial⟩ ⟨⟨_, rfl, .inr rfl⟩, trivial⟩ rfl rfl rfl) | (apply call_gate 46; exact stp_callR hQ (by as_aux_lemma => kernel_rfl) rfl rfl ⟨rfl, rfl, trivial⟩ ⟨⟨_, rfl, .inl rfl⟩, ⟨_, rfl, .inr rfl⟩, trivial⟩ rfl rfl)); refine run_nil ?_; refine fin_seq ?_)
  refine goes_cond rfl (fun e => by cases e) (fun _ => ?_)
  (refine goes_seq ?_; refine goes_region ?_; apply run_step rfl; (exact stp_move rfl rfl); apply run_step rfl; (exact stp_ix rfl rfl rfl rfl rfl (by as_aux_lemma => kernel_rfl) (by first | rfl | exact (Int.toNat_of_nonneg (by omega)).symm) (by first | assumption | omega | (simp; omega)) (by first | exact Nat.le_refl _ | exact Nat.le_of_eq (ivals_len _).symm | exact Nat.le_of_eq (irows_len _).symm | (refine Nat.le_trans ?_ (Nat.le_of_eq (ivals_len _).symm); (first | omega | (simp; done) | (simp; omega))) | (refine Nat.le_trans ?_ (Nat.le_of_eq (irows_len _).symm); (first | omega | (simp; done) | (simp; omega))))); apply run_step rfl; (first | exact stp_ix (j := 0) rfl rfl rfl rfl rfl (by as_aux_lemma => kernel_rfl) rfl h0 (by rw [ivals_len, hrl]; exact Nat.le_refl _) | exact stp_stI rfl rfl rfl rfl rfl (by rw [hrl]; exact h0) (by as_aux_lemma => kernel_rfl) | (apply call_gate 44; exact stp_callR hF (by as_aux_lemma => kernel_rfl) rfl rfl ⟨⟨.inl rfl, .inl rfl, trivial⟩, rfl, trivial⟩ ⟨⟨_, rfl, .inl rfl⟩, ⟨_, rfl, .inr rfl⟩, trivial⟩ rfl rfl)); refine run_nil ?_; refine fin_seq ?_; refine goes_seq ?_; refine goes_region ?_; apply run_step rfl; (exact stp_loadAgg rfl rfl rfl rfl rfl rfl (by as_aux_lemma => kernel_rfl)); apply run_step rfl; (exact stp_move rfl rfl); apply run_step rfl; (first | exact stp_ix (j := 0) rfl rfl rfl rfl rfl (by as_aux_lemma => kernel_rfl) rfl h0 (by rw [ivals_len, hrl]; exact Nat.le_refl _) | exact stp_stI rfl rfl rfl rfl rfl (by rw [hrl]; exact h0) (by as_aux_lemma => kernel_rfl) | (apply call_gate 44; exact stp_callR hF (by as_aux_lemma => kernel_rfl) rfl rfl ⟨⟨.inl rfl, .inl rfl, trivial⟩, rfl, trivial⟩ ⟨⟨_, rfl, .inl rfl⟩, ⟨_, rfl, .inr rfl⟩, trivial⟩ rfl rfl)); refine run_nil ?_; refine fin_seq ?_)
  refine goes_cond rfl (fun e => by cases e) (fun _ => ?_)
  (refine goes_skip ?_; refine fin_seq ?_; refine goes_seq ?_; refine goes_seq ?_; refine goes_region ?_; apply run_step rfl; (exact stp_move rfl rfl); apply run_step rfl; (exact stp_bin rfl rfl rfl rfl); refine run_nil ?_; refine fin_seq ?_)
  refine goes_cond rfl (fun _ => ?_) (fun e => by cases e)
  (refine goes_seq ?_; refine goes_region ?_; apply run_step rfl; (exact stp_assign rfl rfl); refine run_nil ?_; refine fin_seq ?_; refine goes_ret ?_; refine fin_ret_then ?_)
  exact fin_ret1 (.inl rfl) rfl (.tmp rfl) trivial trivial
/-- degreesOf: nil, or a list of the call's own -/
theorem degI_fc (cs : List Cel) (mv : Int) (i m : Nat) (labs : List Int) (hi : cs[i]? = some (.r 2 1 m (ivals labs))) (hm : labs.length = m) (hm4 : m ≤ 4) :
    (degs labs = [] ∧ FC Tryz.prog 25 [(1000, cxRo cs)] [cA mv i m] [] (vv (.slice none 0 0)) []) ∨ ((degs labs).length = m + 1 ∧ FC Tryz.prog 25 [(1000, cxRo cs)] [cA mv i m] [(2100, leOw (degs labs))] (o1 (.sl 2100 0 (m + 1))) []) := by
  unfold degs
  rw [hm]
  by_cases h0 : m = 0
  · rw [if_pos h0]
    subst h0
    exact .inr ⟨rfl, (deg0_fc cs mv i 0 labs hi hm hm4 rfl).nm [(1000, 1000), (15, 2100)] (by kernel_rfl)⟩
  rw [if_neg h0]
  by_cases hq : m = 1 ∧ 0 < iget labs 0
  · rw [if_pos hq]
    obtain ⟨rfl, hp⟩ := hq
    exact .inr ⟨rfl, (deg1_fc cs mv i 1 labs hi hm hm4 rfl hp).nm [(1000, 1000), (30, 2100)] (by kernel_rfl)⟩
  rw [if_neg hq]
  have h0' : 0 < m := by omega
  cases e1 : eith labs [3, 5] with
  | true =>
    obtain rfl : m = 2 := by rcases eith_iff.1 e1 with rfl | rfl <;> exact hm.symm
    exact .inr ⟨rfl, (deg2_fc cs mv i 2 labs hi hm hm4 h0' hq e1).nm [(1000, 1000), (35, 2100)] (by kernel_rfl)⟩
  | false =>
  cases e2 : eith labs [3, 3, 5] with
  | true =>
    obtain rfl : m = 3 := by rcases eith_iff.1 e2 with rfl | rfl <;> exact hm.symm
    exact .inr ⟨rfl, (deg3_fc cs mv i 3 labs hi hm hm4 h0' hq e1 e2).nm [(1000, 1000), (40, 2100)] (by kernel_rfl)⟩
  | false =>
  cases e3 : eith labs [3, 4, 3] with
  | true =>
    obtain rfl : m = 3 := by rcases eith_iff.1 e3 with rfl | rfl <;> exact hm.symm
    exact .inr ⟨rfl, (deg4_fc cs mv i 3 labs hi hm hm4 h0' hq e1 e2 e3).nm [(1000, 1000), (45, 2100)] (by kernel_rfl)⟩
  | false =>
  by_cases e4 : labs = List.replicate m 3
  · rw [if_pos e4]
    exact .inr ⟨ramp_len _ _, deg5_fc cs mv i m labs hi hm hm4 h0' hq e1 e2 e3 e4⟩
  rw [if_neg e4]
  cases e5 : eith labs ((List.replicate m (3 : Int)).set 0 4) with
  | true => exact .inr ⟨ramp_len _ _, deg6_fc cs mv i m labs hi hm hm4 h0' hq e1 e2 e3 e4 e5⟩
  | false => exact .inl ⟨rfl, deg7_fc cs mv i m labs hi hm hm4 h0' hq e1 e2 e3 e4 e5⟩
set_option maxRecDepth 100000 in
set_option maxHeartbeats 2000000 in
theorem affine_fc (cs : List Cel) (mv : Int) (i m : Nat) (labs : List Int) (hi : cs[i]? = some (.r 2 1 m (ivals labs))) (hm : labs.length = m) (hm4 : m ≤ 4) :
    FC Tryz.prog 26 [(1000, cxRo cs)] [cA mv i m] [] (vv (.bool (affB labs))) [] := by
  have hE0 := (either_fc cs mv i m 1 labs [0] hi hm rfl (by omega) (by omega)).nm [(1000, 1000), (1001, 4)] (by kernel_rfl)
  have hE0 : FC Tryz.prog 44 [(1000, cxRo cs), (4, wRo [0])] [cA mv i m, o1 (.sl 4 0 1)] [] (vv (.bool (eith labs [0]))) [] := hE0
  have hE1 := (either_fc cs mv i m 2 labs [4, 4] hi hm rfl (by omega) (by omega)).nm [(1000, 1000), (1001, 8)] (by kernel_rfl)
  have hE1 : FC Tryz.prog 44 [(1000, cxRo cs), (8, wRo [4, 4])] [cA mv i m, o1 (.sl 8 0 2)] [] (vv (.bool (eith labs [4, 4]))) [] := hE1
  have hE2 := (either_fc cs mv i m 2 labs [3, 6] hi hm rfl (by omega) (by omega)).nm [(1000, 1000), (1001, 13)] (by kernel_rfl)
  have hE2 : FC Tryz.prog 44 [(1000, cxRo cs), (13, wRo [3, 6])] [cA mv i m, o1 (.sl 13 0 2)] [] (vv (.bool (eith labs [3, 6]))) [] := hE2
  have hE3 := (either_fc cs mv i m 3 labs [4, 3, 4] hi hm rfl (by omega) (by omega)).nm [(1000, 1000), (1001, 18)] (by kernel_rfl)
  have hE3 : FC Tryz.prog 44 [(1000, cxRo cs), (18, wRo [4, 3, 4])] [cA mv i m, o1 (.sl 18 0 3)] [] (vv (.bool (eith labs [4, 3, 4]))) [] := hE3
  have hE4 := (either_fc cs mv i m 4 labs [3, 4, 3, 3] hi hm rfl (by omega) (by omega)).nm [(1000, 1000), (1001, 23)] (by kernel_rfl)
  have hE4 : FC Tryz.prog 44 [(1000, cxRo cs), (23, wRo [3, 4, 3, 3])] [cA mv i m, o1 (.sl 23 0 4)] [] (vv (.bool (eith labs [3, 4, 3, 3]))) [] := hE4
  have hE5 := (either_fc cs mv i m 4 labs [4, 3, 3, 4] hi hm rfl (by omega) (by omega)).nm [(1000, 1000), (1001, 28)] (by kernel_rfl)
  have hE5 : FC Tryz.prog 44 [(1000, cxRo cs), (28, wRo [4, 3, 3, 4])] [cA mv i m, o1 (.sl 28 0 4)] [] (vv (.bool (eith labs [4, 3, 3, 4]))) [] := hE5
  refine fc_enter (nt := 31) Tryz.func26 rfl rfl (by simp) fun w0 ω0 => ?_
  unfold affB
  (refine goes_seq ?_; refine goes_region ?_; apply run_step rfl; (exact stp_box rfl rfl rfl rfl); apply run_step rfl; (exact stp_assign rfl rfl); refine run_nil ?_; refine fin_seq ?_; refine goes_seq ?_; refine goes_region ?_; apply run_step rfl; (exact stp_loadAgg rfl rfl rfl rfl rfl rfl (by as_aux_lemma => kernel_rfl)); apply run_step rfl; (exact stp_lit1I (E := 2) rfl (by as_aux_lemma => kernel_rfl) rfl); apply run_step rfl; (first | (apply call_gate 44; exact stp_callR hE0 (by as_aux_lemma => kernel_rfl) rfl rfl ⟨⟨.inl rfl, .inl rfl, trivial⟩, rfl, trivial⟩ ⟨⟨_, rfl, .inl rfl⟩, ⟨_, rfl, .inr rfl⟩, trivial⟩ rfl rfl) | (apply call_gate 44; exact stp_callR hE1 (by as_aux_lemma => kernel_rfl) rfl rfl ⟨⟨.inl rfl, .inl rfl, trivial⟩, rfl, trivial⟩ ⟨⟨_, rfl, .inl rfl⟩, ⟨_, rfl, .inr rfl⟩, trivial⟩ rfl rfl) | (apply call_gate 44; exact stp_callR hE2 (by as_aux_lemma => kernel_rfl) rfl rfl ⟨⟨.inl rfl, .inl rfl, trivial⟩, rfl, trivial⟩ ⟨⟨_, rfl, .inl rfl⟩, ⟨_, rfl, .inr rfl⟩, trivial⟩ rfl rfl) | (apply call_gate 44; exact stp_callR hE3 (by as_aux_lemma => kernel_rfl) rfl rfl ⟨⟨.inl rfl, .inl rfl, trivial⟩, rfl, trivial⟩ ⟨⟨_, rfl, .inl rfl⟩, ⟨_, rfl, .inr rfl⟩, trivial⟩ rfl rfl) | (apply call_gate 44; exact stp_callR hE4 (by as_aux_lemma => kernel_rfl) rfl rfl ⟨⟨.inl rfl, .inl rfl, trivial⟩, rfl, trivial⟩ ⟨⟨_, rfl, .inl rfl⟩, ⟨_, rfl, .inr rfl⟩, trivial⟩ rfl rfl) | (apply call_gate 44; exact stp_callR hE5 (by as_aux_lemma => kernel_rfl) rfl rfl ⟨⟨.inl rfl, .inl rfl, trivial⟩, rfl, trivial⟩ ⟨⟨_, rfl, .inl rfl⟩, ⟨_, rfl, .inr rfl⟩, trivial⟩ rfl rfl) | exact stp_lit3I (E := 2) rfl (by as_aux_lemma => kernel_rfl) rfl rfl rfl | exact stp_lit4I (E := 2) rfl (by as_aux_lemma => kernel_rfl) rfl rfl rfl rfl); apply run_step rfl; (exact stp_move rfl rfl))
  refine run_bool 6 rfl (fun h => ?_) (fun h => ?_)
  · rw [h]
    simp only [Bool.true_or]
    (apply run_gNo rfl rfl rfl rfl rfl; apply run_gNo rfl rfl rfl rfl rfl; apply run_gNo rfl rfl rfl rfl rfl; apply run_step rfl; (exact stp_pickT rfl rfl rfl); apply run_step rfl; (exact stp_move rfl rfl); apply run_gNo rfl rfl rfl rfl rfl; apply run_gNo rfl rfl rfl rfl rfl; apply run_gNo rfl rfl rfl rfl rfl; apply run_step rfl; (exact stp_pickT rfl rfl rfl); apply run_step rfl; (exact stp_move rfl rfl); apply run_gNo rfl rfl rfl rfl rfl; apply run_gNo rfl rfl rfl rfl rfl; apply run_gNo rfl rfl rfl rfl rfl; apply run_step rfl; (exact stp_pickT rfl rfl rfl); apply run_step rfl; (exact stp_move rfl rfl); apply run_gNo rfl rfl rfl rfl rfl; apply run_gNo rfl rfl rfl rfl rfl; apply run_gNo rfl rfl rfl rfl rfl; apply run_step rfl; (exact stp_pickT rfl rfl rfl); apply run_step rfl; (exact stp_move rfl rfl); apply run_gNo rfl rfl rfl rfl rfl; apply run_gNo rfl rfl rfl rfl rfl; apply run_gNo rfl rfl rfl rfl rfl; apply run_step rfl; (exact stp_pickT rfl rfl rfl); apply run_step rfl; (exact stp_assign rfl rfl); refine run_nil ?_; refine fin_seq ?_; refine goes_ret ?_)
    exact fin_ret1 (.inl rfl) rfl (.tmp rfl) trivial trivial
  rw [h, Bool.false_or]
  (apply run_gYes rfl rfl rfl; (exact stp_loadAgg rfl rfl rfl rfl rfl rfl (by as_aux_lemma => kernel_rfl)); apply run_gYes rfl rfl rfl; (exact stp_lit2I (E := 2) rfl (by as_aux_lemma => kernel_rfl) rfl rfl); apply run_gYes rfl rfl rfl; (first | (apply call_gate 44; exact stp_callR hE0 (by as_aux_lemma => kernel_rfl) rfl rfl ⟨⟨.inl rfl, .inl rfl, trivial⟩, rfl, trivial⟩ ⟨⟨_, rfl, .inl rfl⟩, ⟨_, rfl, .inr rfl⟩, trivial⟩ rfl rfl) | (apply call_gate 44; exact stp_callR hE1 (by as_aux_lemma => kernel_rfl) rfl rfl ⟨⟨.inl rfl, .inl rfl, trivial⟩, rfl, trivial⟩ ⟨⟨_, rfl, .inl rfl⟩, ⟨_, rfl, .inr rfl⟩, trivial⟩ rfl rfl) | (apply call_gate 44; exact stp_callR hE2 (by as_aux_lemma => kernel_rfl) rfl rfl ⟨⟨.inl rfl, .inl rfl, trivial⟩, rfl, trivial⟩ ⟨⟨_, rfl, .inl rfl⟩, ⟨_, rfl, .inr rfl⟩, trivial⟩ rfl rfl) | (apply call_gate 44; exact stp_callR hE3 (by as_aux_lemma => kernel_rfl) rfl rfl ⟨⟨.inl rfl, .inl rfl, trivial⟩, rfl, trivial⟩ ⟨⟨_, rfl, .inl rfl⟩, ⟨_, rfl, .inr rfl⟩, trivial⟩ rfl rfl) | (apply call_gate 44; exact stp_callR hE4 (by as_aux_lemma => kernel_rfl) rfl rfl ⟨⟨.inl rfl, .inl rfl, trivial⟩, rfl, trivial⟩ ⟨⟨_, rfl, .inl rfl⟩, ⟨_, rfl, .inr rfl⟩, trivial⟩ rfl rfl) | (apply call_gate 44; exact stp_callR hE5 (by as_aux_lemma => kernel_rfl) rfl rfl ⟨⟨.inl rfl, .inl rfl, trivial⟩, rfl, trivial⟩ ⟨⟨_, rfl, .inl rfl⟩, ⟨_, rfl, .inr rfl⟩, trivial⟩ rfl rfl) | exact stp_lit3I (E := 2) rfl (by as_aux_lemma => kernel_rfl) rfl rfl rfl | exact stp_lit4I (E := 2) rfl (by as_aux_lemma => kernel_rfl) rfl rfl rfl rfl); apply run_step rfl; (exact stp_pickF rfl rfl rfl); apply run_step rfl; (exact stp_move rfl rfl))
  refine run_bool 11 rfl (fun h => ?_) (fun h => ?_)
  · rw [h]
    simp only [Bool.true_or]
    (apply run_gNo rfl rfl rfl rfl rfl; apply run_gNo rfl rfl rfl rfl rfl; apply run_gNo rfl rfl rfl rfl rfl; apply run_step rfl; (exact stp_pickT rfl rfl rfl); apply run_step rfl; (exact stp_move rfl rfl); apply run_gNo rfl rfl rfl rfl rfl; apply run_gNo rfl rfl rfl rfl rfl; apply run_gNo rfl rfl rfl rfl rfl; apply run_step rfl; (exact stp_pickT rfl rfl rfl); apply run_step rfl; (exact stp_move rfl rfl); apply run_gNo rfl rfl rfl rfl rfl; apply run_gNo rfl rfl rfl rfl rfl; apply run_gNo rfl rfl rfl rfl rfl; apply run_step rfl; (exact stp_pickT rfl rfl rfl); apply run_step rfl; (exact stp_move rfl rfl); apply run_gNo rfl rfl rfl rfl rfl; apply run_gNo rfl rfl rfl rfl rfl; apply run_gNo rfl rfl rfl rfl rfl; apply run_step rfl; (exact stp_pickT rfl rfl rfl); apply run_step rfl; (exact stp_assign rfl rfl); refine run_nil ?_; refine fin_seq ?_; refine goes_ret ?_)
    exact fin_ret1 (.inl rfl) rfl (.tmp rfl) trivial trivial
  rw [h, Bool.false_or]
  (apply run_gYes rfl rfl rfl; (exact stp_loadAgg rfl rfl rfl rfl rfl rfl (by as_aux_lemma => kernel_rfl)); apply run_gYes rfl rfl rfl; (exact stp_lit2I (E := 2) rfl (by as_aux_lemma => kernel_rfl) rfl rfl); apply run_gYes rfl rfl rfl; (first | (apply call_gate 44; exact stp_callR hE0 (by as_aux_lemma => kernel_rfl) rfl rfl ⟨⟨.inl rfl, .inl rfl, trivial⟩, rfl, trivial⟩ ⟨⟨_, rfl, .inl rfl⟩, ⟨_, rfl, .inr rfl⟩, trivial⟩ rfl rfl) | (apply call_gate 44; exact stp_callR hE1 (by as_aux_lemma => kernel_rfl) rfl rfl ⟨⟨.inl rfl, .inl rfl, trivial⟩, rfl, trivial⟩ ⟨⟨_, rfl, .inl rfl⟩, ⟨_, rfl, .inr rfl⟩, trivial⟩ rfl rfl) | (apply call_gate 44; exact stp_callR hE2 (by as_aux_lemma => kernel_rfl) rfl rfl ⟨⟨.inl rfl, .inl rfl, trivial⟩, rfl, trivial⟩ ⟨⟨_, rfl, .inl rfl⟩, ⟨_, rfl, .inr rfl⟩, trivial⟩ rfl rfl) | (apply call_gate 44; exact stp_callR hE3 (by as_aux_lemma => kernel_rfl) rfl rfl ⟨⟨.inl rfl, .inl rfl, trivial⟩, rfl, trivial⟩ ⟨⟨_, rfl, .inl rfl⟩, ⟨_, rfl, .inr rfl⟩, trivial⟩ rfl rfl) | (apply call_gate 44; exact stp_callR hE4 (by as_aux_lemma => kernel_rfl) rfl rfl ⟨⟨.inl rfl, .inl rfl, trivial⟩, rfl, trivial⟩ ⟨⟨_, rfl, .inl rfl⟩, ⟨_, rfl, .inr rfl⟩, trivial⟩ rfl rfl) | (apply call_gate 44; exact stp_callR hE5 (by as_aux_lemma => kernel_rfl) rfl rfl ⟨⟨.inl rfl, .inl rfl, trivial⟩, rfl, trivial⟩ ⟨⟨_, rfl, .inl rfl⟩, ⟨_, rfl, .inr rfl⟩, trivial⟩ rfl rfl) | exact stp_lit3I (E := 2) rfl (by as_aux_lemma => kernel_rfl) rfl rfl rfl | exact stp_lit4I (E := 2) rfl (by as_aux_lemma => kernel_rfl) rfl rfl rfl rfl); apply run_step rfl; (exact stp_pickF rfl rfl rfl); apply run_step rfl; (exact stp_move rfl rfl))
  refine run_bool 16 rfl (fun h => ?_) (fun h => ?_)
  · rw [h]
    simp only [Bool.true_or]
    (apply run_gNo rfl rfl rfl rfl rfl; apply run_gNo rfl rfl rfl rfl rfl; apply run_gNo rfl rfl rfl rfl rfl; apply run_step rfl; (exact stp_pickT rfl rfl rfl); apply run_step rfl; (exact stp_move rfl rfl); apply run_gNo rfl rfl rfl rfl rfl; apply run_gNo rfl rfl rfl rfl rfl; apply run_gNo rfl rfl rfl rfl rfl; apply run_step rfl; (exact stp_pickT rfl rfl rfl); apply run_step rfl; (exact stp_move rfl rfl); apply run_gNo rfl rfl rfl rfl rfl; apply run_gNo rfl rfl rfl rfl rfl; apply run_gNo rfl rfl rfl rfl rfl; apply run_step rfl; (exact stp_pickT rfl rfl rfl); apply run_step rfl; (exact stp_assign rfl rfl); refine run_nil ?_; refine fin_seq ?_; refine goes_ret ?_)
    exact fin_ret1 (.inl rfl) rfl (.tmp rfl) trivial trivial
  rw [h, Bool.false_or]
  (apply run_gYes rfl rfl rfl; (exact stp_loadAgg rfl rfl rfl rfl rfl rfl (by as_aux_lemma => kernel_rfl)); apply run_gYes rfl rfl rfl; (first | (apply call_gate 44; exact stp_callR hE0 (by as_aux_lemma => kernel_rfl) rfl rfl ⟨⟨.inl rfl, .inl rfl, trivial⟩, rfl, trivial⟩ ⟨⟨_, rfl, .inl rfl⟩, ⟨_, rfl, .inr rfl⟩, trivial⟩ rfl rfl) | (apply call_gate 44; exact stp_callR hE1 (by as_aux_lemma => kernel_rfl) rfl rfl ⟨⟨.inl rfl, .inl rfl, trivial⟩, rfl, trivial⟩ ⟨⟨_, rfl, .inl rfl⟩, ⟨_, rfl, .inr rfl⟩, trivial⟩ rfl rfl) | (apply call_gate 44; exact stp_callR hE2 (by as_aux_lemma => kernel_rfl) rfl rfl ⟨⟨.inl rfl, .inl rfl, trivial⟩, rfl, trivial⟩ ⟨⟨_, rfl, .inl rfl⟩, ⟨_, rfl, .inr rfl⟩, trivial⟩ rfl rfl) | (apply call_gate 44; exact stp_callR hE3 (by as_aux_lemma => kernel_rfl) rfl rfl ⟨⟨.inl rfl, .inl rfl, trivial⟩, rfl, trivial⟩ ⟨⟨_, rfl, .inl rfl⟩, ⟨_, rfl, .inr rfl⟩, trivial⟩ rfl rfl) | (apply call_gate 44; exact stp_callR hE4 (by as_aux_lemma => kernel_rfl) rfl rfl ⟨⟨.inl rfl, .inl rfl, trivial⟩, rfl, trivial⟩ ⟨⟨_, rfl, .inl rfl⟩, ⟨_, rfl, .inr rfl⟩, trivial⟩ rfl rfl) | (apply call_gate 44; exact stp_callR hE5 (by as_aux_lemma => kernel_rfl) rfl rfl ⟨⟨.inl rfl, .inl rfl, trivial⟩, rfl, trivial⟩ ⟨⟨_, rfl, .inl rfl⟩, ⟨_, rfl, .inr rfl⟩, trivial⟩ rfl rfl) | exact stp_lit3I (E := 2) rfl (by as_aux_lemma => kernel_rfl) rfl rfl rfl | exact stp_lit4I (E := 2) rfl (by as_aux_lemma => kernel_rfl) rfl rfl rfl rfl); apply run_gYes rfl rfl rfl; (first | (apply call_gate 44; exact stp_callR hE0 (by as_aux_lemma => kernel_rfl) rfl rfl ⟨⟨.inl rfl, .inl rfl, trivial⟩, rfl, trivial⟩ ⟨⟨_, rfl, .inl rfl⟩, ⟨_, rfl, .inr rfl⟩, trivial⟩ rfl rfl) | (apply call_gate 44; exact stp_callR hE1 (by as_aux_lemma => kernel_rfl) rfl rfl ⟨⟨.inl rfl, .inl rfl, trivial⟩, rfl, trivial⟩ ⟨⟨_, rfl, .inl rfl⟩, ⟨_, rfl, .inr rfl⟩, trivial⟩ rfl rfl) | (apply call_gate 44; exact stp_callR hE2 (by as_aux_lemma => kernel_rfl) rfl rfl ⟨⟨.inl rfl, .inl rfl, trivial⟩, rfl, trivial⟩ ⟨⟨_, rfl, .inl rfl⟩, ⟨_, rfl, .inr rfl⟩, trivial⟩ rfl rfl) | (apply call_gate 44; exact stp_callR hE3 (by as_aux_lemma => kernel_rfl) rfl rfl ⟨⟨.inl rfl, .inl rfl, trivial⟩, rfl, trivial⟩ ⟨⟨_, rfl, .inl rfl⟩, ⟨_, rfl, .inr rfl⟩, trivial⟩ rfl rfl) | (apply call_gate 44; exact stp_callR hE4 (by as_aux_lemma => kernel_rfl) rfl rfl ⟨⟨.inl rfl, .inl rfl, trivial⟩, rfl, trivial⟩ ⟨⟨_, rfl, .inl rfl⟩, ⟨_, rfl, .inr rfl⟩, trivial⟩ rfl rfl) | (apply call_gate 44; exact stp_callR hE5 (by as_aux_lemma => kernel_rfl) rfl rfl ⟨⟨.inl rfl, .inl rfl, trivial⟩, rfl, trivial⟩ ⟨⟨_, rfl, .inl rfl⟩, ⟨_, rfl, .inr rfl⟩, trivial⟩ rfl rfl) | exact stp_lit3I (E := 2) rfl (by as_aux_lemma => kernel_rfl) rfl rfl rfl | exact stp_lit4I (E := 2) rfl (by as_aux_lemma => kernel_rfl) rfl rfl rfl rfl); apply run_step rfl; (exact stp_pickF rfl rfl rfl); apply run_step rfl; (exact stp_move rfl rfl))
  refine run_bool 21 rfl (fun h => ?_) (fun h => ?_)
  · rw [h]
    simp only [Bool.true_or]
    (apply run_gNo rfl rfl rfl rfl rfl; apply run_gNo rfl rfl rfl rfl rfl; apply run_gNo rfl rfl rfl rfl rfl; apply run_step rfl; (exact stp_pickT rfl rfl rfl); apply run_step rfl; (exact stp_move rfl rfl); apply run_gNo rfl rfl rfl rfl rfl; apply run_gNo rfl rfl rfl rfl rfl; apply run_gNo rfl rfl rfl rfl rfl; apply run_step rfl; (exact stp_pickT rfl rfl rfl); apply run_step rfl; (exact stp_assign rfl rfl); refine run_nil ?_; refine fin_seq ?_; refine goes_ret ?_)
    exact fin_ret1 (.inl rfl) rfl (.tmp rfl) trivial trivial
  rw [h, Bool.false_or]
  (apply run_gYes rfl rfl rfl; (exact stp_loadAgg rfl rfl rfl rfl rfl rfl (by as_aux_lemma => kernel_rfl)); apply run_gYes rfl rfl rfl; (first | (apply call_gate 44; exact stp_callR hE0 (by as_aux_lemma => kernel_rfl) rfl rfl ⟨⟨.inl rfl, .inl rfl, trivial⟩, rfl, trivial⟩ ⟨⟨_, rfl, .inl rfl⟩, ⟨_, rfl, .inr rfl⟩, trivial⟩ rfl rfl) | (apply call_gate 44; exact stp_callR hE1 (by as_aux_lemma => kernel_rfl) rfl rfl ⟨⟨.inl rfl, .inl rfl, trivial⟩, rfl, trivial⟩ ⟨⟨_, rfl, .inl rfl⟩, ⟨_, rfl, .inr rfl⟩, trivial⟩ rfl rfl) | (apply call_gate 44; exact stp_callR hE2 (by as_aux_lemma => kernel_rfl) rfl rfl ⟨⟨.inl rfl, .inl rfl, trivial⟩, rfl, trivial⟩ ⟨⟨_, rfl, .inl rfl⟩, ⟨_, rfl, .inr rfl⟩, trivial⟩ rfl rfl) | (apply call_gate 44; exact stp_callR hE3 (by as_aux_lemma => kernel_rfl) rfl rfl ⟨⟨.inl rfl, .inl rfl, trivial⟩, rfl, trivial⟩ ⟨⟨_, rfl, .inl rfl⟩, ⟨_, rfl, .inr rfl⟩, trivial⟩ rfl rfl) | (apply call_gate 44; exact stp_callR hE4 (by as_aux_lemma => kernel_rfl) rfl rfl ⟨⟨.inl rfl, .inl rfl, trivial⟩, rfl, trivial⟩ ⟨⟨_, rfl, .inl rfl⟩, ⟨_, rfl, .inr rfl⟩, trivial⟩ rfl rfl) | (apply call_gate 44; exact stp_callR hE5 (by as_aux_lemma => kernel_rfl) rfl rfl ⟨⟨.inl rfl, .inl rfl, trivial⟩, rfl, trivial⟩ ⟨⟨_, rfl, .inl rfl⟩, ⟨_, rfl, .inr rfl⟩, trivial⟩ rfl rfl) | exact stp_lit3I (E := 2) rfl (by as_aux_lemma => kernel_rfl) rfl rfl rfl | exact stp_lit4I (E := 2) rfl (by as_aux_lemma => kernel_rfl) rfl rfl rfl rfl); apply run_gYes rfl rfl rfl; (first | (apply call_gate 44; exact stp_callR hE0 (by as_aux_lemma => kernel_rfl) rfl rfl ⟨⟨.inl rfl, .inl rfl, trivial⟩, rfl, trivial⟩ ⟨⟨_, rfl, .inl rfl⟩, ⟨_, rfl, .inr rfl⟩, trivial⟩ rfl rfl) | (apply call_gate 44; exact stp_callR hE1 (by as_aux_lemma => kernel_rfl) rfl rfl ⟨⟨.inl rfl, .inl rfl, trivial⟩, rfl, trivial⟩ ⟨⟨_, rfl, .inl rfl⟩, ⟨_, rfl, .inr rfl⟩, trivial⟩ rfl rfl) | (apply call_gate 44; exact stp_callR hE2 (by as_aux_lemma => kernel_rfl) rfl rfl ⟨⟨.inl rfl, .inl rfl, trivial⟩, rfl, trivial⟩ ⟨⟨_, rfl, .inl rfl⟩, ⟨_, rfl, .inr rfl⟩, trivial⟩ rfl rfl) | (apply call_gate 44; exact stp_callR hE3 (by as_aux_lemma => kernel_rfl) rfl rfl ⟨⟨.inl rfl, .inl rfl, trivial⟩, rfl, trivial⟩ ⟨⟨_, rfl, .inl rfl⟩, ⟨_, rfl, .inr rfl⟩, trivial⟩ rfl rfl) | (apply call_gate 44; exact stp_callR hE4 (by as_aux_lemma => kernel_rfl) rfl rfl ⟨⟨.inl rfl, .inl rfl, trivial⟩, rfl, trivial⟩ ⟨⟨_, rfl, .inl rfl⟩, ⟨_, rfl, .inr rfl⟩, trivial⟩ rfl rfl) | (apply call_gate 44; exact stp_callR hE5 (by as_aux_lemma => kernel_rfl) rfl rfl ⟨⟨.inl rfl, .inl rfl, trivial⟩, rfl, trivial⟩ ⟨⟨_, rfl, .inl rfl⟩, ⟨_, rfl, .inr rfl⟩, trivial⟩ rfl rfl) | exact stp_lit3I (E := 2) rfl (by as_aux_lemma => kernel_rfl) rfl rfl rfl | exact stp_lit4I (E := 2) rfl (by as_aux_lemma => kernel_rfl) rfl rfl rfl rfl); apply run_step rfl; (exact stp_pickF rfl rfl rfl); apply run_step rfl; (exact stp_move rfl rfl))
  refine run_bool 26 rfl (fun h => ?_) (fun h => ?_)
  · rw [h]
    simp only [Bool.true_or]
    (apply run_gNo rfl rfl rfl rfl rfl; apply run_gNo rfl rfl rfl rfl rfl; apply run_gNo rfl rfl rfl rfl rfl; apply run_step rfl; (exact stp_pickT rfl rfl rfl); apply run_step rfl; (exact stp_assign rfl rfl); refine run_nil ?_; refine fin_seq ?_; refine goes_ret ?_)
    exact fin_ret1 (.inl rfl) rfl (.tmp rfl) trivial trivial
  rw [h, Bool.false_or]
  (apply run_gYes rfl rfl rfl; (exact stp_loadAgg rfl rfl rfl rfl rfl rfl (by as_aux_lemma => kernel_rfl)); apply run_gYes rfl rfl rfl; (first | (apply call_gate 44; exact stp_callR hE0 (by as_aux_lemma => kernel_rfl) rfl rfl ⟨⟨.inl rfl, .inl rfl, trivial⟩, rfl, trivial⟩ ⟨⟨_, rfl, .inl rfl⟩, ⟨_, rfl, .inr rfl⟩, trivial⟩ rfl rfl) | (apply call_gate 44; exact stp_callR hE1 (by as_aux_lemma => kernel_rfl) rfl rfl ⟨⟨.inl rfl, .inl rfl, trivial⟩, rfl, trivial⟩ ⟨⟨_, rfl, .inl rfl⟩, ⟨_, rfl, .inr rfl⟩, trivial⟩ rfl rfl) | (apply call_gate 44; exact stp_callR hE2 (by as_aux_lemma => kernel_rfl) rfl rfl ⟨⟨.inl rfl, .inl rfl, trivial⟩, rfl, trivial⟩ ⟨⟨_, rfl, .inl rfl⟩, ⟨_, rfl, .inr rfl⟩, trivial⟩ rfl rfl) | (apply call_gate 44; exact stp_callR hE3 (by as_aux_lemma => kernel_rfl) rfl rfl ⟨⟨.inl rfl, .inl rfl, trivial⟩, rfl, trivial⟩ ⟨⟨_, rfl, .inl rfl⟩, ⟨_, rfl, .inr rfl⟩, trivial⟩ rfl rfl) | (apply call_gate 44; exact stp_callR hE4 (by as_aux_lemma => kernel_rfl) rfl rfl ⟨⟨.inl rfl, .inl rfl, trivial⟩, rfl, trivial⟩ ⟨⟨_, rfl, .inl rfl⟩, ⟨_, rfl, .inr rfl⟩, trivial⟩ rfl rfl) | (apply call_gate 44; exact stp_callR hE5 (by as_aux_lemma => kernel_rfl) rfl rfl ⟨⟨.inl rfl, .inl rfl, trivial⟩, rfl, trivial⟩ ⟨⟨_, rfl, .inl rfl⟩, ⟨_, rfl, .inr rfl⟩, trivial⟩ rfl rfl) | exact stp_lit3I (E := 2) rfl (by as_aux_lemma => kernel_rfl) rfl rfl rfl | exact stp_lit4I (E := 2) rfl (by as_aux_lemma => kernel_rfl) rfl rfl rfl rfl); apply run_gYes rfl rfl rfl; (first | (apply call_gate 44; exact stp_callR hE0 (by as_aux_lemma => kernel_rfl) rfl rfl ⟨⟨.inl rfl, .inl rfl, trivial⟩, rfl, trivial⟩ ⟨⟨_, rfl, .inl rfl⟩, ⟨_, rfl, .inr rfl⟩, trivial⟩ rfl rfl) | (apply call_gate 44; exact stp_callR hE1 (by as_aux_lemma => kernel_rfl) rfl rfl ⟨⟨.inl rfl, .inl rfl, trivial⟩, rfl, trivial⟩ ⟨⟨_, rfl, .inl rfl⟩, ⟨_, rfl, .inr rfl⟩, trivial⟩ rfl rfl) | (apply call_gate 44; exact stp_callR hE2 (by as_aux_lemma => kernel_rfl) rfl rfl ⟨⟨.inl rfl, .inl rfl, trivial⟩, rfl, trivial⟩ ⟨⟨_, rfl, .inl rfl⟩, ⟨_, rfl, .inr rfl⟩, trivial⟩ rfl rfl) | (apply call_gate 44; exact stp_callR hE3 (by as_aux_lemma => kernel_rfl) rfl rfl ⟨⟨.inl rfl, .inl rfl, trivial⟩, rfl, trivial⟩ ⟨⟨_, rfl, .inl rfl⟩, ⟨_, rfl, .inr rfl⟩, trivial⟩ rfl rfl) | (apply call_gate 44; exact stp_callR hE4 (by as_aux_lemma => kernel_rfl) rfl rfl ⟨⟨.inl rfl, .inl rfl, trivial⟩, rfl, trivial⟩ ⟨⟨_, rfl, .inl rfl⟩, ⟨_, rfl, .inr rfl⟩, trivial⟩ rfl rfl) | (apply call_gate 44; exact stp_callR hE5 (by as_aux_lemma => kernel_rfl) rfl rfl ⟨⟨.inl rfl, .inl rfl, trivial⟩, rfl, trivial⟩ ⟨⟨_, rfl, .inl rfl⟩, ⟨_, rfl, .inr rfl⟩, trivial⟩ rfl rfl) | exact stp_lit3I (E := 2) rfl (by as_aux_lemma => kernel_rfl) rfl rfl rfl | exact stp_lit4I (E := 2) rfl (by as_aux_lemma => kernel_rfl) rfl rfl rfl rfl); apply run_step rfl; (exact stp_pickF rfl rfl rfl); apply run_step rfl; (exact stp_assign rfl rfl); refine run_nil ?_; refine fin_seq ?_; refine goes_ret ?_)
  exact fin_ret1 (.inl rfl) rfl (.tmp rfl) trivial trivial
end Go.Proofs.YtljimlejcecleaaGreatDoor

/- KindOfDiagram, the program's. guards: -/
namespace Go.Proofs.YtljimlejcecleaaGreatDoor
open Go.RowKit

theorem comp_agg {ps : Cmps} {j : Nat} (hj : j < ps.length) (x : Nm) : ∀ (i : Nat) (b : A1), [A1.val (I6 ((cget ps j).1 : Int)), A1.esl x (j * 2 + 1) 0 (cget ps j).2.length][i]? = some b → (Dat.mix (mixC ps)).at_ x (j * 2 + i) = some b := by
  intro i b hb
  have hg := mixC_get hj
  match i, hb with
  | 0, hb => simp at hb; subst hb; simp only [Dat.at_, Nat.add_zero]; rw [hg.1]
  | 1, hb => simp at hb; subst hb; simp only [Dat.at_]; rw [hg.2]
set_option maxRecDepth 100000 in
set_option maxHeartbeats 2000000 in
theorem kindI_fc (zs : List Int) (hn : zs.length ≤ 4398046511104) :
    FC Tryz.prog 11 [(1003, wRo zs)] [o1 (.sl 1003 0 zs.length)] [] (.tup [.one (.val (I6 (kindR zs))), .one (.val (I6 (kindC zs)))]) [] := by
  have hI := diagI_fc zs zs.length rfl hn
  refine fc_enter (nt := 30) Tryz.func11 rfl rfl (by simp) fun w0 ω0 => ?_
  cases hd : isDiag zs with
  | false =>
    rw [hd] at hI
    unfold kindR kindC
    rw [hd, if_neg (by simp), if_neg (by simp)]
    (refine goes_seq ?_; refine goes_region ?_; apply run_step rfl; (exact stp_assign rfl rfl); apply run_step rfl; (exact stp_assign rfl rfl); refine run_nil ?_; refine fin_seq ?_; refine goes_seq ?_; refine goes_seq ?_; refine goes_region ?_; apply run_step rfl; (exact stp_move rfl rfl); apply run_step rfl; (apply call_gate 16; exact stp_callR hI (by as_aux_lemma => kernel_rfl) rfl rfl ⟨rfl, trivial⟩ ⟨⟨_, rfl, .inl rfl⟩, trivial⟩ rfl rfl); apply run_step rfl; (exact stp_not rfl rfl); refine run_nil ?_; refine fin_seq ?_)
    refine goes_cond rfl (fun _ => ?_) (fun e => by cases e)
    (refine goes_seq ?_; refine goes_region ?_; apply run_step rfl; (exact stp_assign rfl rfl); apply run_step rfl; (exact stp_assign rfl rfl); refine run_nil ?_; refine fin_seq ?_; refine goes_ret ?_; refine fin_ret_then ?_)
    exact fin_ret2 (.inl rfl) rfl (.tmp rfl) (.tmp rfl) trivial trivial
  | true =>
    rw [hd] at hI
    have h4 := isDiag_len hd
    have hA := allI_fc zs zs.length rfl h4
    have hC := (comps_fc zs zs.length (allN zs) rfl h4 (allN_lt h4)).nm [(1003, 1003), (2000, 13)] (by kernel_rfl)
    have hC : FC Tryz.prog 23 [(1003, wRo zs)] [o1 (.sl 1003 0 zs.length), vv (I6 (allN zs))] [(13, cpOw (comps zs (allN zs)))] (o1 (.sl 13 0 (comps zs (allN zs)).length)) [] := hC
    unfold kindR kindC
    rw [hd, if_pos rfl, if_pos rfl]
    have hlab : ∀ k, k < (comps zs (allN zs)).length → Labs (cget (comps zs (allN zs)) k).2 := fun k hk => labs_of hd hk
    have hnp : (comps zs (allN zs)).length ≤ 5 := by
      have h1 := csum_len (comps zs (allN zs)); have h2 := (comps_ok zs (allN zs)).sum; omega
    generalize comps zs (allN zs) = ps at *
    generalize hN : ps.length = N at *
    have hmx := mixC_len ps
    rw [hN] at hmx
    (refine goes_seq ?_; refine goes_region ?_; apply run_step rfl; (exact stp_assign rfl rfl); apply run_step rfl; (exact stp_assign rfl rfl); refine run_nil ?_; refine fin_seq ?_; refine goes_seq ?_; refine goes_seq ?_; refine goes_region ?_; apply run_step rfl; (exact stp_move rfl rfl); apply run_step rfl; (first | (apply call_gate 16; exact stp_callR hI (by as_aux_lemma => kernel_rfl) rfl rfl ⟨rfl, trivial⟩ ⟨⟨_, rfl, .inl rfl⟩, trivial⟩ rfl rfl) | (apply call_gate 24; exact stp_callR hA (by as_aux_lemma => kernel_rfl) rfl rfl ⟨rfl, trivial⟩ ⟨⟨_, rfl, .inl rfl⟩, trivial⟩ rfl rfl) | (apply call_gate 23; exact stp_callN hC (by as_aux_lemma => kernel_rfl) rfl rfl ⟨rfl, rfl, trivial⟩ ⟨⟨_, rfl, .inl rfl⟩, trivial⟩ rfl rfl rfl)); apply run_step rfl; (exact stp_not rfl rfl); refine run_nil ?_; refine fin_seq ?_)
    refine goes_cond rfl (fun e => by cases e) (fun _ => ?_)
    (refine goes_skip ?_; refine fin_seq ?_; refine goes_seq ?_; refine goes_region ?_; apply run_step rfl; (exact stp_assign rfl rfl); refine run_nil ?_; refine fin_seq ?_; refine goes_seq ?_; refine goes_seq ?_; refine goes_region ?_; apply run_step rfl; (exact stp_move rfl rfl); apply run_step rfl; (exact stp_move rfl rfl); apply run_step rfl; (first | (apply call_gate 24; exact stp_callR hA (by as_aux_lemma => kernel_rfl) rfl rfl ⟨rfl, trivial⟩ ⟨⟨_, rfl, .inl rfl⟩, trivial⟩ rfl rfl) | (apply call_gate 23; exact stp_callN hC (by as_aux_lemma => kernel_rfl) rfl rfl ⟨rfl, rfl, trivial⟩ ⟨⟨_, rfl, .inl rfl⟩, trivial⟩ rfl rfl rfl)); apply run_step rfl; (first | (apply call_gate 24; exact stp_callR hA (by as_aux_lemma => kernel_rfl) rfl rfl ⟨rfl, trivial⟩ ⟨⟨_, rfl, .inl rfl⟩, trivial⟩ rfl rfl) | (apply call_gate 23; exact stp_callN hC (by as_aux_lemma => kernel_rfl) rfl rfl ⟨rfl, rfl, trivial⟩ ⟨⟨_, rfl, .inl rfl⟩, trivial⟩ rfl rfl rfl)); apply run_step rfl; (exact stp_len rfl rfl rfl (by as_aux_lemma => kernel_rfl)); apply run_step rfl; (exact stp_move rfl rfl); refine run_nil ?_; refine fin_seq ?_; refine goes_block ?_)
    refine goes_loop (fun j : Nat => St.of [(4, vv (I6 (kindN ps j : Nat))), (13, o1 (.sl 13 0 N)), (14, vv (I6 N)), (15, vv (I6 j))] [(13, cpOw ps)]) (fun j => j ≤ N) (fun j => N - j) 0 (Nat.zero_le _) (Wk.of ⟨rfl, rfl, rfl, rfl, trivial⟩ ⟨rfl, trivial⟩ trivial) ?_
    rintro j hj
    (refine goes_seq ?_; refine goes_region ?_; apply run_step rfl; (exact stp_bin rfl rfl rfl rfl); refine run_nil ?_; refine fin_seq ?_; refine goes_seq ?_)
    refine goes_if rfl (fun hlt => ?_) (fun hlt => ?_)
    · have hjN : j < N := by omega
      have hjp : j < ps.length := by omega
      have hL := hlab j hjN
      have hk := kindN_succ hjp
      have hk2 := kindN_le ps j
      have hagg := comp_agg hjp 13
      have hcel := (mixC_get hjp).2
      have hix : N * 2 ≤ (mixC ps).length := Nat.le_of_eq hmx.symm
      obtain ⟨labs, hlb⟩ : ∃ labs, (cget ps j).2 = labs := ⟨_, rfl⟩
      rw [hlb] at hL hk hagg hcel
      have hm4 := hL.1
      have hAf := (affine_fc (mixC ps) ((cget ps j).1 : Int) (j * 2 + 1) labs.length labs hcel rfl hm4).nm [(1000, 13)] (by kernel_rfl)
      have hAf : FC Tryz.prog 26 [(13, cxRo (mixC ps))] [.s (.agg [.val (I6 ((cget ps j).1 : Int)), .esl 13 (j * 2 + 1) 0 labs.length])] [] (vv (.bool (affB labs))) [] := hAf
      rcases degI_fc (mixC ps) ((cget ps j).1 : Int) (j * 2 + 1) labs.length labs hcel rfl hm4 with ⟨hnil, hD⟩ | ⟨hsome, hD⟩
      · have hD := hD.nm [(1000, 13)] (by kernel_rfl)
        have hD : FC Tryz.prog 25 [(13, cxRo (mixC ps))] [.s (.agg [.val (I6 ((cget ps j).1 : Int)), .esl 13 (j * 2 + 1) 0 labs.length])] [] (vv (.slice none 0 0)) [] := hD
        unfold kStep at hk
        rw [if_pos (by rw [hnil]; rfl)] at hk
        (refine goes_skip ?_; refine fin_seq ?_; refine goes_seq ?_; refine goes_block ?_; refine goes_seq ?_; refine goes_region ?_; apply run_step rfl; (first | exact stp_ixT (k := 2) (j := j) rfl rfl rfl rfl rfl (by as_aux_lemma => kernel_rfl) rfl hjN hix (by omega) rfl | exact stp_loadAggD (k := 2) rfl rfl rfl rfl rfl (by as_aux_lemma => kernel_rfl) hagg | (apply call_gate 25; exact stp_callR hD (by as_aux_lemma => kernel_rfl) rfl rfl ⟨⟨.inl rfl, .inl rfl, trivial⟩, trivial⟩ ⟨⟨_, rfl, .inr rfl⟩, trivial⟩ rfl rfl) | exact stp_nilYes (b := false) rfl (by as_aux_lemma => kernel_rfl) rfl (.inr ⟨rfl, rfl⟩)); apply run_step rfl; (first | exact stp_ixT (k := 2) (j := j) rfl rfl rfl rfl rfl (by as_aux_lemma => kernel_rfl) rfl hjN hix (by omega) rfl | exact stp_loadAggD (k := 2) rfl rfl rfl rfl rfl (by as_aux_lemma => kernel_rfl) hagg | (apply call_gate 25; exact stp_callR hD (by as_aux_lemma => kernel_rfl) rfl rfl ⟨⟨.inl rfl, .inl rfl, trivial⟩, trivial⟩ ⟨⟨_, rfl, .inr rfl⟩, trivial⟩ rfl rfl) | exact stp_nilYes (b := false) rfl (by as_aux_lemma => kernel_rfl) rfl (.inr ⟨rfl, rfl⟩)); apply run_step rfl; (exact stp_allocZ [I6 0, .slice none 0 0] rfl (by as_aux_lemma => kernel_rfl)); apply run_step rfl; (exact stp_storeAgg rfl rfl rfl rfl rfl rfl rfl rfl (by as_aux_lemma => kernel_rfl) rfl); refine run_nil ?_; refine fin_seq ?_; refine goes_block ?_; refine goes_seq ?_; refine goes_region ?_; apply run_step rfl; (exact stp_loadAgg rfl rfl rfl rfl rfl rfl (by as_aux_lemma => kernel_rfl)); apply run_step rfl; (first | exact stp_ixT (k := 2) (j := j) rfl rfl rfl rfl rfl (by as_aux_lemma => kernel_rfl) rfl hjN hix (by omega) rfl | exact stp_loadAggD (k := 2) rfl rfl rfl rfl rfl (by as_aux_lemma => kernel_rfl) hagg | (apply call_gate 25; exact stp_callR hD (by as_aux_lemma => kernel_rfl) rfl rfl ⟨⟨.inl rfl, .inl rfl, trivial⟩, trivial⟩ ⟨⟨_, rfl, .inr rfl⟩, trivial⟩ rfl rfl) | exact stp_nilYes (b := false) rfl (by as_aux_lemma => kernel_rfl) rfl (.inr ⟨rfl, rfl⟩)); apply run_step rfl; (first | exact stp_ixT (k := 2) (j := j) rfl rfl rfl rfl rfl (by as_aux_lemma => kernel_rfl) rfl hjN hix (by omega) rfl | exact stp_loadAggD (k := 2) rfl rfl rfl rfl rfl (by as_aux_lemma => kernel_rfl) hagg | (apply call_gate 25; exact stp_callR hD (by as_aux_lemma => kernel_rfl) rfl rfl ⟨⟨.inl rfl, .inl rfl, trivial⟩, trivial⟩ ⟨⟨_, rfl, .inr rfl⟩, trivial⟩ rfl rfl) | exact stp_nilYes (b := false) rfl (by as_aux_lemma => kernel_rfl) rfl (.inr ⟨rfl, rfl⟩)); apply run_step rfl; (exact stp_assign rfl rfl); refine run_nil ?_; refine fin_seq ?_)
        refine goes_cond rfl (fun e => by cases e) (fun _ => ?_)
        (refine goes_seq ?_; refine goes_region ?_; apply run_step rfl; (exact stp_loadAgg rfl rfl rfl rfl rfl rfl (by as_aux_lemma => kernel_rfl)); apply run_step rfl; (apply call_gate 26; exact stp_callR hAf (by as_aux_lemma => kernel_rfl) rfl rfl ⟨⟨.inl rfl, .inl rfl, trivial⟩, trivial⟩ ⟨⟨_, rfl, .inr rfl⟩, trivial⟩ rfl rfl); apply run_step rfl; (exact stp_assign rfl rfl); refine run_nil ?_; refine fin_seq ?_)
        refine goes_cond rfl (fun h1 => ?_) (fun h1 => ?_)
        · have hv : kindN ps (j + 1) = max (kindN ps j) 1 := by
            rw [hk, h1]
            by_cases e : kindN ps j = 2
            · rw [e, if_neg (by simp)]; rfl
            · rw [if_pos ⟨rfl, e⟩]; omega
          (refine goes_region ?_; apply run_step rfl; (exact stp_move rfl rfl); apply run_step rfl; (exact stp_maxN (n := 1) rfl rfl rfl); apply run_step rfl; (exact stp_assign rfl rfl); refine run_nil ?_; refine fin_block ?_; refine fin_block ?_; refine fin_seq ?_; refine goes_region ?_; apply run_step rfl; (exact stp_add rfl rfl rfl (by first | exact IntWalk.i64_in _ (by omega) | rfl)); apply run_step rfl; (exact stp_move rfl rfl); refine run_nil ?_)
          exact fin_round (j + 1) (by omega) (by omega) (Wk.of ⟨congrArg (fun k : Nat => some (vv (I6 (k : Int)))) hv.symm, rfl, rfl, rfl, trivial⟩ ⟨rfl, trivial⟩ trivial)
        · have hv : kindN ps (j + 1) = 2 := by rw [hk, h1, if_neg (by simp)]
          (refine goes_region ?_; apply run_step rfl; (exact stp_assign rfl rfl); refine run_nil ?_; refine fin_block ?_; refine fin_block ?_; refine fin_seq ?_; refine goes_region ?_; apply run_step rfl; (exact stp_add rfl rfl rfl (by first | exact IntWalk.i64_in _ (by omega) | rfl)); apply run_step rfl; (exact stp_move rfl rfl); refine run_nil ?_)
          exact fin_round (j + 1) (by omega) (by omega) (Wk.of ⟨congrArg (fun k : Nat => some (vv (I6 (k : Int)))) hv.symm, rfl, rfl, rfl, trivial⟩ ⟨rfl, trivial⟩ trivial)
      · have hD := hD.nm [(1000, 13), (2100, 21)] (by kernel_rfl)
        have hD : FC Tryz.prog 25 [(13, cxRo (mixC ps))] [.s (.agg [.val (I6 ((cget ps j).1 : Int)), .esl 13 (j * 2 + 1) 0 labs.length])] [(21, leOw (degs labs))] (o1 (.sl 21 0 (labs.length + 1))) [] := hD
        have hv : kindN ps (j + 1) = kindN ps j := by rw [hk]; unfold kStep; rw [if_neg (by omega)]
        have hd0 : 0 < (ivals (degs labs)).length := by rw [ivals_len]; omega
        (refine goes_skip ?_; refine fin_seq ?_; refine goes_seq ?_; refine goes_block ?_; refine goes_seq ?_; refine goes_region ?_; apply run_step rfl; (first | exact stp_ixT (k := 2) (j := j) rfl rfl rfl rfl rfl (by as_aux_lemma => kernel_rfl) rfl hjN hix (by omega) rfl | exact stp_loadAggD (k := 2) rfl rfl rfl rfl rfl (by as_aux_lemma => kernel_rfl) hagg | (apply call_gate 25; exact stp_callN hD (by as_aux_lemma => kernel_rfl) rfl rfl ⟨⟨.inl rfl, .inl rfl, trivial⟩, trivial⟩ ⟨⟨_, rfl, .inr rfl⟩, trivial⟩ rfl rfl rfl) | exact stp_nilNo (b := true) rfl (by as_aux_lemma => kernel_rfl) rfl rfl hd0 (.inr ⟨rfl, rfl⟩)); apply run_step rfl; (first | exact stp_ixT (k := 2) (j := j) rfl rfl rfl rfl rfl (by as_aux_lemma => kernel_rfl) rfl hjN hix (by omega) rfl | exact stp_loadAggD (k := 2) rfl rfl rfl rfl rfl (by as_aux_lemma => kernel_rfl) hagg | (apply call_gate 25; exact stp_callN hD (by as_aux_lemma => kernel_rfl) rfl rfl ⟨⟨.inl rfl, .inl rfl, trivial⟩, trivial⟩ ⟨⟨_, rfl, .inr rfl⟩, trivial⟩ rfl rfl rfl) | exact stp_nilNo (b := true) rfl (by as_aux_lemma => kernel_rfl) rfl rfl hd0 (.inr ⟨rfl, rfl⟩)); apply run_step rfl; (exact stp_allocZ [I6 0, .slice none 0 0] rfl (by as_aux_lemma => kernel_rfl)); apply run_step rfl; (exact stp_storeAgg rfl rfl rfl rfl rfl rfl rfl rfl (by as_aux_lemma => kernel_rfl) rfl); refine run_nil ?_; refine fin_seq ?_; refine goes_block ?_; refine goes_seq ?_; refine goes_region ?_; apply run_step rfl; (exact stp_loadAgg rfl rfl rfl rfl rfl rfl (by as_aux_lemma => kernel_rfl)); apply run_step rfl; (first | exact stp_ixT (k := 2) (j := j) rfl rfl rfl rfl rfl (by as_aux_lemma => kernel_rfl) rfl hjN hix (by omega) rfl | exact stp_loadAggD (k := 2) rfl rfl rfl rfl rfl (by as_aux_lemma => kernel_rfl) hagg | (apply call_gate 25; exact stp_callN hD (by as_aux_lemma => kernel_rfl) rfl rfl ⟨⟨.inl rfl, .inl rfl, trivial⟩, trivial⟩ ⟨⟨_, rfl, .inr rfl⟩, trivial⟩ rfl rfl rfl) | exact stp_nilNo (b := true) rfl (by as_aux_lemma => kernel_rfl) rfl rfl hd0 (.inr ⟨rfl, rfl⟩)); apply run_step rfl; (first | exact stp_ixT (k := 2) (j := j) rfl rfl rfl rfl rfl (by as_aux_lemma => kernel_rfl) rfl hjN hix (by omega) rfl | exact stp_loadAggD (k := 2) rfl rfl rfl rfl rfl (by as_aux_lemma => kernel_rfl) hagg | (apply call_gate 25; exact stp_callN hD (by as_aux_lemma => kernel_rfl) rfl rfl ⟨⟨.inl rfl, .inl rfl, trivial⟩, trivial⟩ ⟨⟨_, rfl, .inr rfl⟩, trivial⟩ rfl rfl rfl) | exact stp_nilNo (b := true) rfl (by as_aux_lemma => kernel_rfl) rfl rfl hd0 (.inr ⟨rfl, rfl⟩)); apply run_step rfl; (exact stp_assign rfl rfl); refine run_nil ?_; refine fin_seq ?_)
        refine goes_cond rfl (fun _ => ?_) (fun e => by cases e)
        (refine goes_skip ?_; refine fin_block ?_; refine fin_block ?_; refine fin_seq ?_; refine goes_region ?_; apply run_step rfl; (exact stp_add rfl rfl rfl (by first | exact IntWalk.i64_in _ (by omega) | rfl)); apply run_step rfl; (exact stp_move rfl rfl); refine run_nil ?_)
        exact fin_round (j + 1) (by omega) (by omega) (Wk.of ⟨congrArg (fun k : Nat => some (vv (I6 (k : Int)))) hv.symm, rfl, rfl, rfl, trivial⟩ ⟨rfl, trivial⟩ trivial)
    · obtain rfl : j = N := by omega
      (refine goes_exit ?_; refine fin_exit_then ?_; refine fin_exit_then ?_; refine fin_exit_eq ?_; refine fin_seq ?_; refine goes_seq ?_; refine goes_region ?_; apply run_step rfl; (exact stp_move rfl rfl); apply run_step rfl; (exact stp_assign rfl rfl); apply run_step rfl; (exact stp_assign rfl rfl); refine run_nil ?_; refine fin_seq ?_; refine goes_ret ?_)
      exact fin_ret2 (.inl rfl) rfl (.tmp rfl) (.tmp rfl) trivial trivial
end Go.Proofs.YtljimlejcecleaaGreatDoor

/- From contracts in names to contracts in words: the doors of the functions that the laws call. -/
namespace Go.Proofs.YtljimlejcecleaaGreatDoor
open Go.RowKit

theorem denL1 {η : Env} {a : AV} {u : Value} (h : Den η a u) : DenL η [a] [u] := ⟨rfl, fun j av hj => by
  match j, hj with
  | 0, hj => simp at hj; subst hj; exact ⟨u, rfl, h⟩⟩
theorem den_tup2 {η : Env} {a b : A2} {v : Value} (h : Den η (.tup [a, b]) v) : ∃ u u', v = .tuple #[u, u'] ∧ Den2 η a u ∧ Den2 η b u' := by
  obtain ⟨us, rfl, hl, ha⟩ := h
  obtain ⟨u0, g0, d0⟩ := ha 0 _ rfl
  obtain ⟨u1, g1, d1⟩ := ha 1 _ rfl
  refine ⟨u0, u1, ?_, d0, d1⟩
  match us, hl with
  | ⟨[p, q]⟩, _ => simp at g0 g1; rw [g0, g1]
theorem two_vals {P : Program} {f : FuncId} {args : Array Value} {w : World} {a b : Value} {outs : List (Nm × Ch)} (h : Calls P f args w fun e w' => ∃ v η ω, e = .returned v ∧ Den η (.tup [.one (.val a), .one (.val b)]) v ∧ Mem η ω w' (fun x => lk x outs) ∧ Below w.heap.size w w' ∧ ∀ b, b < w.heap.size → ω b = none) :
    Calls P f args w fun e w' => e = .returned (.tuple #[a, b]) ∧ Below w.heap.size w w' := by
  refine h.mono ?_
  rintro e w' ⟨v, η, ω, rfl, hd, _, hb, _⟩
  obtain ⟨u, u', rfl, h1, h2⟩ := den_tup2 hd
  have h1 : u = a := h1
  have h2 : u' = b := h2
  subst h1 h2
  exact ⟨rfl, hb⟩

/-- a list, and a list and a number -/
theorem fitS {E : Nat} {w : World} {v : Value} {zs : List Int} (h : OwS E w v zs) : zs.length ≤ 4398046511104 := by
  obtain ⟨ao, n, c, rfl, ho⟩ := h
  have := ho.len; have := ho.2
  simp at *; omega
theorem callS {f : FuncId} {outs : List (Nm × Ch)} {res : AV} {zs : List Int} (hf : zs.length ≤ 4398046511104 → FC Tryz.prog f [(1003, wRo zs)] [o1 (.sl 1003 0 zs.length)] outs res []) {E : Nat} {w : World} {lo hi : Nat} {v : Value} (h : OwnS E w lo hi v zs) :
    Calls Tryz.prog f #[v] w fun e w' => ∃ v η ω, e = .returned v ∧ Den η res v ∧ Mem η ω w' (fun x => lk x outs) ∧ Below w.heap.size w w' ∧ ∀ b, b < w.heap.size → ω b = none := by
  obtain ⟨hd, r, rfl, hv⟩ := ofS 1003 2 h.1
  exact (hf (fitS h.1)).call (l := [(1003, (wRo zs, hd, r))]) (us := [_]) (fun p hp => by simp at hp; subst hp; exact hv) rfl (denL1 (den_sl (q := (wRo zs, hd, r)) rfl))
end Go.Proofs.YtljimlejcecleaaGreatDoor

/- KindOfDiagram, in words. -/
namespace Go.Proofs.YtljimlejcecleaaGreatDoor
open Go.RowKit

theorem api_implKind {E : Nat} {lo hi : Nat} {v : Value} {zs : List Int} (w : World) (h : OwnS E w lo hi v zs) :
    Calls Tryz.prog 11 #[v] w fun e w' => e = .returned (.tuple #[.int .i64 (kindR zs), .int .i64 (kindC zs)]) ∧ Below w.heap.size w w' := two_vals (callS (fun k => kindI_fc zs k) h)
end Go.Proofs.YtljimlejcecleaaGreatDoor

/- ReverseDiagram, the program's and the reference's. -/
namespace Go.Proofs.YtljimlejcecleaaGreatDoor
open Go.RowKit

def revR (zs : List Int) : List Int := if isDiag zs = true then turned zs else []
def revC (zs : List Int) : Int := if isDiag zs = true then 0 else 1

set_option maxHeartbeats 400000 in
theorem implReverse_any (ao : Option Addr) (n c : Nat) (zs : List Int) (w : World) (h : Ints w ao n zs) (hn : n ≤ 1048576) :
    Calls Tryz.prog 10 #[.slice ao n c] w fun e w' => ∃ ao' n' c', e = .returned (.tuple #[.slice ao' n' c', .int .i64 (revC zs)]) ∧ Own w' w.heap.size 2 ao' n' c' ((revR zs).map (Value.int .i64)) ∧ Below w.heap.size w w' := by
  cases hd : isDiag zs with
  | true =>
    have hR : revR zs = turned zs := by simp [revR, hd]
    have hC : revC zs = 0 := by simp [revC, hd]
    have HD := Lib.hid hd
    rw [hR, hC]
    clear hd hR hC
    go_enter Tryz.func10, Tryz.ntmps10
    go_wp2_with fail
    refine (isDiagramImpl_any _ _ _ zs _ h).mono ?_
    rintro e w1 ⟨rfl, b1⟩
    rw [HD.out]
    go_wp2_with fail
    refine (clone_any _ _ _ zs _ (h.below b1) hn).mono ?_
    rintro e w2 ⟨ao', c', rfl, ho, b2⟩
    go_wp2_with fail
    have hlt := ho.lt
    refine (reverse_any _ _ _ zs _ w1.heap.size ho).mono ?_
    rintro e w3 ⟨rfl, ho3, hg⟩
    go_wp2
    go_ret2
    exact ⟨_, _, _, rfl, ho3.mono b1.size, (b1.trans (b2.mono b1.size)).grown hg (b1.trans (b2.mono b1.size)).size (fun g hg' => Nat.le_trans b1.size (hlt g hg').1)⟩
  | false =>
    have hR : revR zs = [] := by simp [revR, hd]
    have hC : revC zs = 1 := by simp [revC, hd]
    have HD := Lib.hid hd
    rw [hR, hC]
    clear hd hR hC
    go_enter Tryz.func10, Tryz.ntmps10
    go_wp2_with fail
    refine (isDiagramImpl_any _ _ _ zs _ h).mono ?_
    rintro e w1 ⟨rfl, b1⟩
    rw [HD.out]
    go_wp2
    go_ret2
    exact ⟨_, _, _, rfl, Own.nil_ _ _ _, b1⟩

theorem api_implReverse {v : Value} {zs : List Int} (w : World) (h : RdS w v zs) (hn : zs.length ≤ 1048576) :
    Calls Tryz.prog 10 #[v] w fun e w' => ∃ v', e = .returned (.tuple #[v', .int .i64 (revC zs)]) ∧ OwnS 2 w' w.heap.size w'.heap.size v' (revR zs) ∧ Below w.heap.size w w' := by
  obtain ⟨ao, n, c, rfl, hi⟩ := h
  refine (implReverse_any ao n c zs w hi (by rw [← hi.1]; exact hn)).mono ?_
  rintro e w' ⟨a', n', c', rfl, ho, hb⟩
  exact ⟨_, rfl, OwnS.of ho, hb⟩
end Go.Proofs.YtljimlejcecleaaGreatDoor

/- IsDiagram, the program's and the reference's: the doors. -/
namespace Go.Proofs.YtljimlejcecleaaGreatDoor
open Go.RowKit

theorem implIsDiagram_any (ao : Option Addr) (n c : Nat) (zs : List Int) (w : World) (h : Ints w ao n zs) :
    Calls Tryz.prog 8 #[.slice ao n c] w fun e w' => e = .returned (.bool (isDiag zs)) ∧ Below w.heap.size w w' := by
  go_enter Tryz.func8, Tryz.ntmps8
  go_wp2_with fail
  refine (isDiagramImpl_any ao n c zs w h).mono ?_
  rintro e w1 ⟨rfl, hb⟩
  go_wp2
  go_ret
  exact ⟨rfl, hb⟩
end Go.Proofs.YtljimlejcecleaaGreatDoor

/- Coset enumeration: what it computes, on lists. No program in sight. -/
namespace Go.Proofs.YtljimlejcecleaaGreatDoor

/-- each coset points to itself or to a lesser one -/
def Down (less : List Int) : Prop := ∀ c, c < less.length → 0 ≤ iget less c ∧ iget less c ≤ c
def ent (im : List (List Int)) (c g : Nat) : Int := iget (lget im c) g
structure WF (ng : Nat) (im : List (List Int)) (less : List Int) : Prop where
  len : im.length = less.length
  row : ∀ c, c < im.length → (lget im c).length = ng
  down : Down less
  ent : ∀ c g, c < im.length → g < ng → ent im c g < less.length
def alive (less : List Int) : Nat := ((List.range less.length).filter fun c => iget less c == (c : Int)).length
def fuel (ng : Nat) (less : List Int) (q : List (Int × Int)) : Nat := alive less * (ng + 1) + q.length
end Go.Proofs.YtljimlejcecleaaGreatDoor

/- Coset enumeration: l11Find. -/
namespace Go.Proofs.YtljimlejcecleaaGreatDoor
open Go.RowKit

end Go.Proofs.YtljimlejcecleaaGreatDoor

/- Coset enumeration: l11Define. -/
namespace Go.Proofs.YtljimlejcecleaaGreatDoor
open Go.RowKit

end Go.Proofs.YtljimlejcecleaaGreatDoor

/- The laws' helpers on lists of words: likeInts, same9, run9. -/
namespace Go.Proofs.YtljimlejcecleaaGreatDoor
open Go.RowKit

set_option maxHeartbeats 400000 in
theorem likeInts_any (a b : Option Addr) (n ca cb : Nat) (zs : List Int) (w : World) (ha : Ints w a n zs) (hb : Ints w b n zs) :
    Calls Tryz.prog 12 #[.slice a n ca, .slice b n cb] w fun e w' => e = .returned (.bool true) ∧ ∃ m, w' = w.drewN m := by
  have hla := ha.2.1
  have hl' : ((n : Int) != (n:Int)) = false := by simp
  go_enter Tryz.func12, Tryz.ntmps12
  go_wp2
  go_loopw [5] (fun i wr => ∃ k : Nat, k ≤ n ∧ i = .int .i64 k ∧ ∃ m, wr = w.drewN m) (fun i _ => n - (intOf i).toNat)
  case atStart => exact ⟨0, Nat.zero_le _, rfl, 0, rfl⟩
  case round =>
    obtain ⟨k, hk, rfl, m, rfl⟩ := hrel
    by_cases hlt : k < n
    · obtain ⟨ba, oa, rfl, hca⟩ := ha.at_ hlt
      obtain ⟨bb, ob, rfl, hcb⟩ := hb.at_ hlt
      have he' : (iget zs k != iget zs k) = false := by simp
      go_wp2_with fail
      go_quiet (fail)
      go_wp2
      go_roundw
      case rel => exact ⟨k + 1, by omega, by go_num, _, rfl⟩
      case measure => first | (simp [intOf]; done) | (simp [intOf]; omega)
    · obtain rfl : k = n := by omega
      go_wp2
      go_ret
      exact ⟨rfl, _, rfl⟩
end Go.Proofs.YtljimlejcecleaaGreatDoor

/- The presentation of a diagram: what both call. -/
namespace Go.Proofs.YtljimlejcecleaaGreatDoor
open Go.RowKit

end Go.Proofs.YtljimlejcecleaaGreatDoor

/- The laws' helpers on words and codes: times9, big. -/
namespace Go.Proofs.YtljimlejcecleaaGreatDoor
open Go.RowKit

theorem big_any (ao : Option Addr) (n c : Nat) (w : World) : Calls Tryz.prog 4 #[.slice ao n c] w fun e w' => e = .returned (.bool (decide (4096 < n))) ∧ w' = w := by
  by_cases h : 4096 < n
  · have e0 : decide ((4096 : Int) < n) = true := by simp; omega
    go_enter Tryz.func4, Tryz.ntmps4
    go_wp2
    go_ret
    exact ⟨by simp [h], rfl⟩
  · have e0 : decide ((4096 : Int) < n) = false := by simp; omega
    go_enter Tryz.func4, Tryz.ntmps4
    go_wp2
    go_ret
    exact ⟨by simp [h], rfl⟩
end Go.Proofs.YtljimlejcecleaaGreatDoor
