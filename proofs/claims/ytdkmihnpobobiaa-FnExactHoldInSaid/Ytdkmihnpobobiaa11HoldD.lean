/- HoldIn, the program's, and both doors. -/
import Derived.Test.Ytdkmihnpobobiaa11HoldS
namespace Go.Proofs.Ytdkmihnpobobiaa
open Go.RowKit

theorem sizeL_any (ao : Option Addr) (n c : Nat) (w : World) : Calls Try.prog 73 #[.slice ao n c] w fun e w' => e = .returned (.int .i64 n) ∧ w = w' := by
  go_enter Try.func73, Try.ntmps73
  go_wp2
  go_ret
  exact ⟨rfl, rfl⟩

/-- the program's test of one of the permutations -/
def badPerm (qs : List (List Int)) (q : List Int) : Bool := !(isPerm q && isPerm (lget qs 0) && decide (q.length = (lget qs 0).length))
theorem badPerm_any {qs : List (List Int)} (h : 0 < qs.length) : qs.any (badPerm qs) = !isPerms qs := by
  cases hp : isPerms qs with
  | true =>
    have h0 := (isPerms_true.1 hp 0 h).1
    rw [List.any_eq_false.2]; rfl
    intro q hq
    obtain ⟨k, hk, rfl⟩ := List.getElem_of_mem hq
    have := isPerms_true.1 hp k hk
    rw [lget_lt hk] at this
    unfold badPerm; simp [this.1, this.2, h0]
  | false =>
    cases ha : qs.any (badPerm qs) with
    | true => rfl
    | false =>
      rw [List.any_eq_false] at ha
      have : isPerms qs = true := isPerms_true.2 fun k hk => by
        have h1 := ha _ (lget_mem hk)
        unfold badPerm at h1
        simp at h1
        exact ⟨h1.1.1, h1.2⟩
      rw [this] at hp; cases hp

set_option maxHeartbeats 400000 in
theorem holdFn_any (b0 : Nat) (ao : Option Addr) (n c : Nat) (qs : List (List Int)) (ap : Option Addr) (np cp : Nat) (q : List Int) (w : World) (hc : w.cell? ⟨b0, 0, none⟩ = some (.slice ao n c)) (h : Intss w ao n qs) (hn : 0 < n) (hq : Ints w ap np q) :
    Calls Try.prog 75 #[.slice ap np cp, .pointer (some ⟨b0, 0, none⟩)] w fun e w' => e = .returned (.bool (badPerm qs q)) ∧ Below w.heap.size w w' := by
  obtain ⟨b, off, a1, n1, c1, rfl, hc1, h1⟩ := h.at_ hn
  rw [Nat.add_zero] at hc1
  have q0 : (0 : Int) < (n : Int) := by omega
  go_enter Try.func75, Try.ntmps75
  go_wp2_with fail
  refine (arePerm_any ap np cp q a1 n1 c1 (lget qs 0) _ hq h1).mono ?_
  rintro e w1 ⟨rfl, b1⟩
  go_wp2
  go_ret
  exact ⟨ret_bool (by unfold badPerm; rw [Bool.not_and, Bool.not_and]), b1⟩

set_option maxRecDepth 100000 in
set_option maxHeartbeats 3200000 in
theorem implHoldIn_any {v : Value} {d : PresD} (ao : Option Addr) (n c : Nat) (qs : List (List Int)) (w : World) (h : RdP w v d) (h' : Intss w ao n qs) :
    Calls Try.prog 32 #[v, .slice ao n c] w fun e w' => e = .returned (.tuple #[.bool (holdR d qs), .int .i64 (holdC d qs)]) ∧ Below w.heap.size w w' := by
  obtain ⟨ro, rn, rc, rfl, hr⟩ := h
  have hmf : ∀ (fn : Fn) (first cap : Array Value) (w : World), (Instr.makeFunc fn first cap).run Try.prog w = .ok (.func fn first cap) w := fun _ _ _ _ => rfl
  have HL := Lib.hid h'.1
  have hn1 := h'.2.1
  have hb := below_alloc2 w (.cells #[.int .i64 d.1, .slice ro rn rc] 25) (.cells #[.slice ao n c] 23)
  have kb : Blk ((w.alloc (.cells #[.int .i64 d.1, .slice ro rn rc] 25)).alloc (.cells #[.slice ao n c] 23)) w.heap.size 25 #[.int .i64 d.1, .slice ro rn rc] := (blk_at rfl).alloc _
  have kc : Blk ((w.alloc (.cells #[.int .i64 d.1, .slice ro rn rc] 25)).alloc (.cells #[.slice ao n c] 23)) (w.heap.size + 1) 23 #[.slice ao n c] := blk_at (by simp)
  have KB := Lib.hid kb
  have KC := Lib.hid kc
  have hr1 : RdP ((w.alloc (.cells #[.int .i64 d.1, .slice ro rn rc] 25)).alloc (.cells #[.slice ao n c] 23)) (.agg #[.int .i64 d.1, .slice ro rn rc]) d := ⟨ro, rn, rc, rfl, hr.below hb⟩
  have h1 := h'.below hb
  have HB := Lib.hid hb
  clear kb kc hb hr h'
  cases hp : isPres d with
  | false =>
    have HP := Lib.hid hp
    have HX := Lib.hid (holdR_no (holdArgs_1 (qs := qs) hp))
    clear hp
    go_enter Try.func32, Try.ntmps32
    go_wp2_with fail
    (refine wp_region_calm (by kernel_rfl) (by kernel_rfl) ?_; (repeat (first | go_big_quiet_skip | (go_big_quiet_want; first | (go_big_quiet_op; go_big_quiet_on) | (apply quiet_val; (· (intro _ hw; have f0 : (_ : World).cell? ⟨w.heap.size, 0, none⟩ = some (.int .i64 d.1) := (KB.out.belowS hw).cell 0; have f1 : (_ : World).cell? ⟨w.heap.size, 1, none⟩ = some (.slice ro rn rc) := (KB.out.belowS hw).cell 1; go_simp; exact rfl)); go_simp; go_big_quiet_on) | (apply quiet_call; (· (intro _ _; go_simp; exact ⟨rfl, rfl⟩)); (· (intro _ hw; go_at_call 72; refine (isPresentation_any _ (RdP.below hr1 hw)).mono ?_; rintro e w2 ⟨rfl, b2⟩; rw [HP.out]; exact ⟨rfl, below_tr b2 hw⟩)); go_simp; go_big_quiet_on)))); refine wpQuiet_nil ?_; intro wq bq)
    go_wp2_with fail
    go_ret2
    exact ⟨by rw [HX.out.1, HX.out.2]; rfl, below_tr bq HB.out⟩
  | true =>
    have hg := isPres_gens hp
    have HP := Lib.hid hp
    have HWD := Lib.hid (isPres_words hp)
    clear hp
    by_cases hlen : (qs.length : Int) = d.1
    · have hnd : d.1 = (n : Int) := by rw [← HL.out]; exact hlen.symm
      have hn0 : 0 < n := by omega
      have HLEN := Lib.hid hlen
      have HA := Lib.hid (badPerm_any (qs := qs) (by rw [HL.out]; exact hn0))
      have HND := Lib.hid hnd
      have hne : ((n : Int) != d.1) = false := by rw [hnd]; simp
      clear hnd hlen
      cases hpm : isPerms qs with
      | false =>
        have HX := Lib.hid (holdR_no (d := d) (holdArgs_3 hpm))
        have HM := Lib.hid hpm
        clear hpm
        go_enter Try.func32, Try.ntmps32
        go_wp2_with fail
        (refine wp_region_calm (by kernel_rfl) (by kernel_rfl) ?_; (repeat (first | go_big_quiet_skip | (go_big_quiet_want; first | (go_big_quiet_op; go_big_quiet_on) | (apply quiet_val; (· (intro _ hw; have f0 : (_ : World).cell? ⟨w.heap.size, 0, none⟩ = some (.int .i64 d.1) := (KB.out.belowS hw).cell 0; have f1 : (_ : World).cell? ⟨w.heap.size, 1, none⟩ = some (.slice ro rn rc) := (KB.out.belowS hw).cell 1; have f2 : (_ : World).cell? ⟨w.heap.size + 1, 0, none⟩ = some (.slice ao n c) := (KC.out.belowS hw).cell 0; go_simp; exact rfl)); go_simp; go_big_quiet_on) | (apply quiet_call; (· (intro _ _; go_simp; exact ⟨rfl, rfl⟩)); (· (intro _ hw; first | (go_at_call 72; refine (isPresentation_any _ (RdP.below hr1 hw)).mono ?_; rintro e w2 ⟨rfl, b2⟩; rw [HP.out]; exact ⟨rfl, below_tr b2 hw⟩) | (go_at_call 73; refine (sizeL_any _ _ _ _).mono ?_; rintro e w2 ⟨rfl, hw2⟩; subst hw2; exact ⟨rfl, hw⟩) | (refine (containsFuncL_any 75 #[.pointer (some ⟨w.heap.size + 1, 0, none⟩)] (badPerm qs) ao n c qs _ (h1.below hw) (fun _ _ => by rfl) (fun j hj w' a' n' c' hb' hi => holdFn_any (w.heap.size + 1) ao n c qs a' n' c' _ w' (((KC.out.belowS hw).belowS hb').cell 0) ((h1.below hw).below hb') hn0 hi)).mono ?_; rintro e w2 ⟨rfl, b2⟩; rw [HA.out, HM.out]; exact ⟨rfl, below_tr b2 hw⟩))); go_simp; go_big_quiet_on)))); refine wpQuiet_nil ?_; intro wq bq)
        go_wp2_with fail
        go_ret2
        exact ⟨by rw [HX.out.1, HX.out.2]; rfl, below_tr bq HB.out⟩
      | true =>
        have hha : holdArgs d qs = true := by unfold holdArgs; rw [HP.out, hpm, decide_eq_true HLEN.out]; rfl
        have HX := Lib.hid (holdR_yes hha)
        have HQ := Lib.hid (isPerms_leads hpm)
        have hm4 := isPerm_few (isPerms_true.1 hpm 0 (by rw [HL.out]; exact hn0)).1
        have HM := Lib.hid hpm
        clear hpm hha
        go_enter Try.func32, Try.ntmps32
        go_wp2_with fail
        (refine wp_region_calm (by kernel_rfl) (by kernel_rfl) ?_; (repeat (first | go_big_quiet_skip | (go_big_quiet_want; first | (go_big_quiet_op; go_big_quiet_on) | (apply quiet_val; (· (intro _ hw; have f0 : (_ : World).cell? ⟨w.heap.size, 0, none⟩ = some (.int .i64 d.1) := (KB.out.belowS hw).cell 0; have f1 : (_ : World).cell? ⟨w.heap.size, 1, none⟩ = some (.slice ro rn rc) := (KB.out.belowS hw).cell 1; have f2 : (_ : World).cell? ⟨w.heap.size + 1, 0, none⟩ = some (.slice ao n c) := (KC.out.belowS hw).cell 0; go_simp; exact rfl)); go_simp; go_big_quiet_on) | (apply quiet_call; (· (intro _ _; go_simp; exact ⟨rfl, rfl⟩)); (· (intro _ hw; first | (go_at_call 72; refine (isPresentation_any _ (RdP.below hr1 hw)).mono ?_; rintro e w2 ⟨rfl, b2⟩; rw [HP.out]; exact ⟨rfl, below_tr b2 hw⟩) | (go_at_call 73; refine (sizeL_any _ _ _ _).mono ?_; rintro e w2 ⟨rfl, hw2⟩; subst hw2; exact ⟨rfl, hw⟩) | (refine (containsFuncL_any 75 #[.pointer (some ⟨w.heap.size + 1, 0, none⟩)] (badPerm qs) ao n c qs _ (h1.below hw) (fun _ _ => by rfl) (fun j hj w' a' n' c' hb' hi => holdFn_any (w.heap.size + 1) ao n c qs a' n' c' _ w' (((KC.out.belowS hw).belowS hb').cell 0) ((h1.below hw).below hb') hn0 hi)).mono ?_; rintro e w2 ⟨rfl, b2⟩; rw [HA.out, HM.out]; exact ⟨rfl, below_tr b2 hw⟩))); go_simp; go_big_quiet_on)))); refine wpQuiet_nil ?_; intro wq bq)
        have y0 : wq.cell? ⟨w.heap.size, 0, none⟩ = some (.int .i64 d.1) := (KB.out.belowS bq).cell 0
        have y1 : wq.cell? ⟨w.heap.size, 1, none⟩ = some (.slice ro rn rc) := (KB.out.belowS bq).cell 1
        have y2 : wq.cell? ⟨w.heap.size + 1, 0, none⟩ = some (.slice ao n c) := (KC.out.belowS bq).cell 0
        go_wp2_with fail
        refine (implHold_any ao n c _ qs _ (RdP.below hr1 bq) (h1.below bq) rfl hn0 hm4 HQ.out (fun i hi z hz => by have := (HWD.out i hi).2 z hz; have := HLEN.out; omega)).mono ?_
        rintro e w2 ⟨rfl, b2⟩
        go_wp2_with fail
        go_ret2
        exact ⟨by rw [HX.out.1, HX.out.2]; rfl, below_tr b2 (below_tr bq HB.out)⟩
    · have HX := Lib.hid (holdR_no (holdArgs_2 hlen))
      have hne : ((n : Int) != d.1) = true := by rw [← HL.out]; simpa using hlen
      go_enter Try.func32, Try.ntmps32
      go_wp2_with fail
      (refine wp_region_calm (by kernel_rfl) (by kernel_rfl) ?_; (repeat (first | go_big_quiet_skip | (go_big_quiet_want; first | (go_big_quiet_op; go_big_quiet_on) | (apply quiet_val; (· (intro _ hw; have f0 : (_ : World).cell? ⟨w.heap.size, 0, none⟩ = some (.int .i64 d.1) := (KB.out.belowS hw).cell 0; have f1 : (_ : World).cell? ⟨w.heap.size, 1, none⟩ = some (.slice ro rn rc) := (KB.out.belowS hw).cell 1; have f2 : (_ : World).cell? ⟨w.heap.size + 1, 0, none⟩ = some (.slice ao n c) := (KC.out.belowS hw).cell 0; go_simp; exact rfl)); go_simp; go_big_quiet_on) | (apply quiet_call; (· (intro _ _; go_simp; exact ⟨rfl, rfl⟩)); (· (intro _ hw; first | (go_at_call 72; refine (isPresentation_any _ (RdP.below hr1 hw)).mono ?_; rintro e w2 ⟨rfl, b2⟩; rw [HP.out]; exact ⟨rfl, below_tr b2 hw⟩) | (go_at_call 73; refine (sizeL_any _ _ _ _).mono ?_; rintro e w2 ⟨rfl, hw2⟩; subst hw2; exact ⟨rfl, hw⟩))); go_simp; go_big_quiet_on)))); refine wpQuiet_nil ?_; intro wq bq)
      go_wp2_with fail
      go_ret2
      exact ⟨by rw [HX.out.1, HX.out.2]; rfl, below_tr bq HB.out⟩

theorem api_specHoldIn {v v' : Value} {d : PresD} {qs : List (List Int)} (w : World) (h : RdP w v d) (h' : RdSS w v' qs) :
    Calls Try.prog 29 #[v, v'] w fun e w' => e = .returned (.tuple #[.bool (holdR d qs), .int .i64 (holdC d qs)]) ∧ Below w.heap.size w w' := by
  obtain ⟨ao, n, c, rfl, hi⟩ := h'
  exact specHold_any ao n c qs w h hi
theorem api_implHoldIn {v v' : Value} {d : PresD} {qs : List (List Int)} (w : World) (h : RdP w v d) (h' : RdSS w v' qs) :
    Calls Try.prog 32 #[v, v'] w fun e w' => e = .returned (.tuple #[.bool (holdR d qs), .int .i64 (holdC d qs)]) ∧ Below w.heap.size w w' := by
  obtain ⟨ao, n, c, rfl, hi⟩ := h'
  exact implHoldIn_any ao n c qs w h hi
end Go.Proofs.Ytdkmihnpobobiaa
