/- isPresentation, the program's: areWithin, isLetters, slices.ContainsFunc at [][]int64. -/
import Derived.Test.Ytdkmihnpobobiaa11Is
namespace Go.Proofs.Ytdkmihnpobobiaa
open Go.RowKit

theorem areWithinFn_any (z lo hi : Int) (b1 b2 : Nat) (w : World) (h1 : w.cell? ⟨b1, 0, none⟩ = some (.int .i64 lo)) (h2 : w.cell? ⟨b2, 0, none⟩ = some (.int .i64 hi)) :
    Calls Try.prog 182 #[.int .i64 z, .pointer (some ⟨b1, 0, none⟩), .pointer (some ⟨b2, 0, none⟩)] w fun e w' => e = .returned (.bool (!inB z lo hi)) ∧ w' = w := by
  go_enter Try.func182, Try.ntmps182
  go_wp2_with (go_at_call 66; refine (within_any _ _ _ _).mono ?_; rintro e w' ⟨rfl, rfl⟩)
  go_ret
  exact ⟨rfl, rfl⟩

set_option maxHeartbeats 400000 in
set_option maxRecDepth 100000 in
theorem areWithin_any (ao : Option Addr) (n c : Nat) (zs : List Int) (lo hi : Int) (w : World) (h : Ints w ao n zs) :
    Calls Try.prog 162 #[.slice ao n c, .int .i64 lo, .int .i64 hi] w fun e w' => e = .returned (.bool (zs.all (fun z => inB z lo hi))) ∧ Below w.heap.size w w' := by
  have hmf : ∀ (fn : Fn) (first cap : Array Value) (w : World), (Instr.makeFunc fn first cap).run Try.prog w = .ok (.func fn first cap) w := fun _ _ _ _ => rfl
  have hany : zs.any (fun z => !inB z lo hi) = !(zs.all (fun z => inB z lo hi)) := by rw [List.any_eq_not_all_not]; simp
  have HA := Lib.hid hany
  clear hany
  have hb := below_alloc2 w (.cells #[.int .i64 lo] 2) (.cells #[.int .i64 hi] 2)
  have k1 : Blk ((w.alloc (.cells #[.int .i64 lo] 2)).alloc (.cells #[.int .i64 hi] 2)) w.heap.size 2 #[.int .i64 lo] := (blk_at rfl).alloc _
  have k2 : Blk ((w.alloc (.cells #[.int .i64 lo] 2)).alloc (.cells #[.int .i64 hi] 2)) (w.heap.size + 1) 2 #[.int .i64 hi] := blk_at (by simp)
  go_enter Try.func162, Try.ntmps162
  go_wp2_with fail
  refine (containsFunc_any 182 #[.pointer (some ⟨w.heap.size, 0, none⟩), .pointer (some ⟨w.heap.size + 1, 0, none⟩)] (fun z => !inB z lo hi) ao n c zs _ (h.below hb) (fun _ _ => by rfl)
    (fun j hj w' hb' => (areWithinFn_any _ lo hi w.heap.size (w.heap.size + 1) w' ((k1.belowS hb').cell 0) ((k2.belowS hb').cell 0)).mono ?_)).mono ?_
  · rintro e w1 ⟨rfl, rfl⟩; exact ⟨rfl, Below.refl _ _⟩
  rintro e w1 ⟨rfl, hb1⟩
  go_wp2
  go_ret
  exact ⟨ret_bool (by rw [HA.out]; simp), hb.trans (hb1.mono hb.size)⟩

set_option maxHeartbeats 400000 in
theorem isLetters_any (g : Int) (ao : Option Addr) (n c : Nat) (zs : List Int) (w : World) (h : Ints w ao n zs) (hg0 : 0 ≤ g) (hg1 : g ≤ 1000) :
    Calls Try.prog 129 #[.slice ao n c, .int .i64 g] w fun e w' => e = .returned (.bool (isWordTo (g - 1) zs)) ∧ Below w.heap.size w w' := by
  have HL := Lib.hid h.1
  have hn := h.2.1
  by_cases hs : n ≤ 64
  · have h1 : decide ((n : Int) ≤ 64) = true := by simp; omega
    go_enter Try.func129, Try.ntmps129
    go_wp2_with fail
    refine (areWithin_any ao n c zs _ _ _ h).mono ?_
    rintro e w1 ⟨rfl, hb1⟩
    go_wp2
    go_ret
    exact ⟨ret_bool (by unfold isWordTo; rw [HL.out]; simp [hs]), hb1⟩
  · have h1 : decide ((n : Int) ≤ 64) = false := by simp; omega
    go_enter Try.func129, Try.ntmps129
    go_wp2
    go_ret
    exact ⟨ret_bool (by unfold isWordTo; rw [HL.out]; simp; intro; omega), Below.refl _ _⟩

/-- the first index at which p holds, or -1 -/
def findL (p : List Int → Bool) (zss : List (List Int)) : Int := match zss.findIdx? p with | some i => i | none => -1
theorem findL_none {p : List Int → Bool} {zss : List (List Int)} (h : zss.any p = false) : findL p zss = -1 := by
  have : zss.findIdx? p = none := by rw [List.findIdx?_eq_none_iff]; intro x hx; have := (List.any_eq_false.1 h) x hx; simpa using this
  simp [findL, this]
theorem findL_some {p : List Int → Bool} {zss : List (List Int)} {k : Nat} (hk : k < zss.length) (hn : (zss.take k).any p = false) (hp : p (lget zss k) = true) : findL p zss = k := by
  have : zss.findIdx? p = some k := by
    rw [List.findIdx?_eq_some_iff_getElem]
    refine ⟨hk, by rw [← lget_lt hk]; exact hp, fun j hj => ?_⟩
    have hx : zss[j]'(by omega) ∈ zss.take k := by rw [List.mem_take_iff_getElem]; exact ⟨j, by omega, rfl⟩
    have := (List.any_eq_false.1 hn) _ hx
    simpa using this
  simp [findL, this]
theorem findL_any (p : List Int → Bool) (zss : List (List Int)) : decide (0 ≤ findL p zss) = zss.any p := by
  cases h : zss.any p with
  | false => rw [findL_none h]; rfl
  | true =>
    rw [decide_eq_true_iff]
    unfold findL
    cases h2 : zss.findIdx? p with
    | some i => exact Int.natCast_nonneg i
    | none =>
      rw [List.findIdx?_eq_none_iff] at h2
      obtain ⟨x, hx, hp⟩ := List.any_eq_true.1 h
      have := h2 x hx
      simp [hp] at this

set_option maxHeartbeats 400000 in
theorem indexFuncL_any (fn : Nat) (cap : Array Value) (p : List Int → Bool) (ao : Option Addr) (n c : Nat) (zss : List (List Int)) (w : World) (h : Intss w ao n zss)
    (hcf : ∀ (args : Array Value) (w : World), (callFunc fn args).run Try.prog w = .ok (.enter fn args) w)
    (hf : ∀ j, j < n → ∀ w' a' n' c', Below w.heap.size w w' → Ints w' a' n' (lget zss j) → Calls Try.prog fn (#[.slice a' n' c'] ++ cap) w' fun e w'' => e = .returned (.bool (p (lget zss j))) ∧ Below w'.heap.size w' w'') :
    Calls Try.prog 130 #[.slice ao n c, .func (.func fn) #[] cap] w fun e w' => e = .returned (.int .i64 (findL p zss)) ∧ Below w.heap.size w w' := by
  have hn := h.2.1
  have HF := Lib.hid hf
  clear hf
  have HL := Lib.hid h.1
  go_enter Try.func130, Try.ntmps130
  go_wp2
  go_loopw [8] (fun i wr => ∃ k : Nat, k ≤ n ∧ i = .int .i64 k ∧ (zss.take k).any p = false ∧ Below w.heap.size w wr) (fun i _ => n - (intOf i).toNat)
  case atStart => exact ⟨0, Nat.zero_le _, rfl, by simp, Below.refl _ _⟩
  case round =>
    obtain ⟨k, hk, rfl, hpre, hb⟩ := hrel
    have HP := Lib.hid hpre
    clear hpre
    by_cases hlt : k < n
    · obtain ⟨b, off, a1, n1, c1, rfl, hc, hin⟩ := (h.below hb).at_ hlt
      have HI := Lib.hid hin
      clear h hin
      cases hp : p (lget zss k) with
      | true =>
        have HX := Lib.hid hp
        clear hp
        go_wp2_with fail
        refine (HF.out k hlt _ a1 n1 c1 hb HI.out).mono ?_
        rintro e w1 ⟨rfl, hb1⟩
        rw [HX.out]
        go_wp2
        go_ret
        exact ⟨ret_int (findL_some (by rw [HL.out]; exact hlt) HP.out HX.out).symm, hb.trans (hb1.mono hb.size)⟩
      | false =>
        have HX := Lib.hid hp
        clear hp
        go_wp2_with fail
        refine (HF.out k hlt _ a1 n1 c1 hb HI.out).mono ?_
        rintro e w1 ⟨rfl, hb1⟩
        rw [HX.out]
        go_wp2
        go_roundw
        case rel => exact ⟨k + 1, by omega, by go_num, by rw [any_take_lget (by rw [HL.out]; exact hlt), HP.out, HX.out]; rfl, hb.trans (hb1.mono hb.size)⟩
        case measure => simp [intOf]; omega
    · obtain rfl : k = n := by omega
      go_wp2
      go_ret
      exact ⟨ret_int (findL_none (by have := HP.out; rwa [List.take_of_length_le (Nat.le_of_eq HL.out)] at this)).symm, hb⟩

theorem containsFuncL_any (fn : Nat) (cap : Array Value) (p : List Int → Bool) (ao : Option Addr) (n c : Nat) (zss : List (List Int)) (w : World) (h : Intss w ao n zss)
    (hcf : ∀ (args : Array Value) (w : World), (callFunc fn args).run Try.prog w = .ok (.enter fn args) w)
    (hf : ∀ j, j < n → ∀ w' a' n' c', Below w.heap.size w w' → Ints w' a' n' (lget zss j) → Calls Try.prog fn (#[.slice a' n' c'] ++ cap) w' fun e w'' => e = .returned (.bool (p (lget zss j))) ∧ Below w'.heap.size w' w'') :
    Calls Try.prog 74 #[.slice ao n c, .func (.func fn) #[] cap] w fun e w' => e = .returned (.bool (zss.any p)) ∧ Below w.heap.size w w' := by
  have HF := Lib.hid hf
  clear hf
  go_enter Try.func74, Try.ntmps74
  go_wp2_with fail
  refine (indexFuncL_any fn cap p ao n c zss w h hcf HF.out).mono ?_
  rintro e w1 ⟨rfl, hb1⟩
  go_wp2
  go_ret
  exact ⟨ret_bool (findL_any p zss), hb1⟩

/-- no relator: not a word, or empty -/
def badRel (g : Int) (zs : List Int) : Bool := !(isWordTo (g - 1) zs && decide (1 ≤ zs.length))

set_option maxHeartbeats 400000 in
theorem isPresFn_any (g : Int) (b : Nat) (ao : Option Addr) (n c : Nat) (zs : List Int) (w : World) (h : Ints w ao n zs) (hg0 : 0 ≤ g) (hg1 : g ≤ 1000) (hc : w.cell? ⟨b, 0, none⟩ = some (.int .i64 g)) :
    Calls Try.prog 128 #[.slice ao n c, .pointer (some ⟨b, 0, none⟩)] w fun e w' => e = .returned (.bool (badRel g zs)) ∧ Below w.heap.size w w' := by
  have HL := Lib.hid h.1
  have hn := h.2.1
  by_cases h0 : n = 0
  · have e0 : ((n : Int) == 0) = true := by simp; omega
    have H0 := Lib.hid h0
    clear h0
    go_enter Try.func128, Try.ntmps128
    go_wp2
    go_ret
    exact ⟨ret_bool (by unfold badRel; rw [HL.out, H0.out]; simp), Below.refl _ _⟩
  · have e0 : ((n : Int) == 0) = false := by simp; omega
    have hz : decide (1 ≤ n) = true := by simp; omega
    have HZ := Lib.hid hz
    clear hz
    go_enter Try.func128, Try.ntmps128
    go_wp2_with fail
    refine (isLetters_any g ao n c zs _ h hg0 hg1).mono ?_
    rintro e w1 ⟨rfl, hb1⟩
    go_wp2
    go_ret
    exact ⟨ret_bool (by unfold badRel; rw [HL.out, HZ.out]; simp), hb1⟩

set_option maxHeartbeats 400000 in
set_option maxRecDepth 100000 in
theorem isPresentation_any {v : Value} {d : PresD} (w : World) (h : RdP w v d) :
    Calls Try.prog 72 #[v] w fun e w' => e = .returned (.bool (isPres d)) ∧ Below w.heap.size w w' := by
  obtain ⟨ao, n, c, rfl, hi⟩ := h
  have hmf : ∀ (fn : Fn) (first cap : Array Value) (w : World), (Instr.makeFunc fn first cap).run Try.prog w = .ok (.func fn first cap) w := fun _ _ _ _ => rfl
  have hn := hi.2.1
  have HL := Lib.hid hi.1
  have hb := below_alloc1 w (.cells #[.int .i64 d.1, .slice ao n c] 25)
  have kb : Blk (w.alloc (.cells #[.int .i64 d.1, .slice ao n c] 25)) w.heap.size 25 #[.int .i64 d.1, .slice ao n c] := blk_at rfl
  cases hg : inB d.1 1 5 with
  | true =>
    have HX := Lib.hid hg
    have hg' := inB_true.1 hg
    have hany : d.2.any (badRel d.1) = !(d.2.all (fun zs => isWordTo (d.1 - 1) zs && decide (1 ≤ zs.length))) := by
      rw [List.any_eq_not_all_not]; congr 2; funext zs; unfold badRel; exact Bool.not_not _
    have HA := Lib.hid hany
    clear hg hany
    by_cases hs : n ≤ 24
    · have h1 : decide ((n : Int) ≤ 24) = true := by simp; omega
      go_enter Try.func72, Try.ntmps72
      go_wp2_with (go_at_call 66; refine (within_any _ _ _ _).mono ?_; rintro e w' ⟨rfl, rfl⟩; rw [HX.out])
      refine (containsFuncL_any 128 #[.pointer (some ⟨w.heap.size, 0, none⟩)] (badRel d.1) ao n c d.2 _ (hi.below hb) (fun _ _ => by rfl)
        (fun j hj w' a' n' c' hb' hin => isPresFn_any d.1 w.heap.size a' n' c' _ w' hin (by omega) (by omega) ((kb.belowS hb').cell 0))).mono ?_
      rintro e w1 ⟨rfl, hb1⟩
      go_wp2
      go_ret
      exact ⟨ret_bool (by rw [HA.out, isPres_in HX.out]; unfold wordsTo; rw [HL.out]; simp [hs]), hb.trans (hb1.mono hb.size)⟩
    · have h1 : decide ((n : Int) ≤ 24) = false := by simp; omega
      go_enter Try.func72, Try.ntmps72
      go_wp2_with (go_at_call 66; refine (within_any _ _ _ _).mono ?_; rintro e w' ⟨rfl, rfl⟩; rw [HX.out])
      go_ret
      exact ⟨ret_bool (by rw [isPres_in HX.out]; unfold wordsTo; rw [HL.out]; simp; intro; omega), hb⟩
  | false =>
    have HX := Lib.hid hg
    clear hg
    go_enter Try.func72, Try.ntmps72
    go_wp2_with (go_at_call 66; refine (within_any _ _ _ _).mono ?_; rintro e w' ⟨rfl, rfl⟩; rw [HX.out])
    go_ret
    exact ⟨ret_bool (isPres_out HX.out).symm, hb⟩
end Go.Proofs.Ytdkmihnpobobiaa
