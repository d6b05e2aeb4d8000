/- HoldIn, the program's, and both doors. -/
import Derived.Test.YtpognnifgcacnaaPart4
import Derived.Test.YtpognnifgcacnaaPart3
import Derived.Test.YtpognnifgcacnaaPart7
namespace Go.Proofs.Ytpognnifgcacnaa
open Go.RowKit

theorem sizeL_any (ao : Option Addr) (n c : Nat) (w : World) : Calls Try.prog 145 #[.slice ao n c] w fun e w' => e = .returned (.int .i64 n) ∧ w = w' := by
  go_enter Try.func145, Try.ntmps145
  go_wp2
  go_ret
  exact ⟨rfl, rfl⟩

/-- the program's test of one of the permutations -/
def badPerm (qs : List (List Int)) (q : List Int) : Bool := !(isPerm q && isPerm (lget qs 0) && decide (q.length = (lget qs 0).length))
theorem badPerm_any {qs : List (List Int)} (h : 0 < qs.length) : qs.any (badPerm qs) = !isPerms qs := by
  cases hp : isPerms qs with
  | true =>
    have h0 := (isPerms_true.1 hp 0 h).1
    rw [List.any_eq_false.2]; rfl
    intro q hq
    obtain ⟨k, hk, rfl⟩ := List.getElem_of_mem hq
    have := isPerms_true.1 hp k hk
    rw [lget_lt hk] at this
    unfold badPerm; simp [this.1, this.2, h0]
  | false =>
    cases ha : qs.any (badPerm qs) with
    | true => rfl
    | false =>
      rw [List.any_eq_false] at ha
      have : isPerms qs = true := isPerms_true.2 fun k hk => by
        have h1 := ha _ (lget_mem hk)
        unfold badPerm at h1
        simp at h1
        exact ⟨h1.1.1, h1.2⟩
      rw [this] at hp; cases hp

set_option maxHeartbeats 400000 in
theorem holdFn_any (b0 : Nat) (ao : Option Addr) (n c : Nat) (qs : List (List Int)) (ap : Option Addr) (np cp : Nat) (q : List Int) (w : World) (hc : w.cell? ⟨b0, 0, none⟩ = some (.slice ao n c)) (h : Intss w ao n qs) (hn : 0 < n) (hq : Ints w ap np q) :
    Calls Try.prog 147 #[.slice ap np cp, .pointer (some ⟨b0, 0, none⟩)] w fun e w' => e = .returned (.bool (badPerm qs q)) ∧ Below w.heap.size w w' := by
  obtain ⟨b, off, a1, n1, c1, rfl, hc1, h1⟩ := h.at_ hn
  rw [Nat.add_zero] at hc1
  have q0 : (0 : Int) < (n : Int) := by omega
  go_enter Try.func147, Try.ntmps147
  go_wp2_with fail
  refine (arePerm_any ap np cp q a1 n1 c1 (lget qs 0) _ hq h1).mono ?_
  rintro e w1 ⟨rfl, b1⟩
  go_wp2
  go_ret
  exact ⟨ret_bool (by unfold badPerm; rw [Bool.not_and, Bool.not_and]), b1⟩

set_option maxRecDepth 100000 in
set_option maxHeartbeats 3200000 in
theorem implHoldIn_any {v : Value} {d : PresD} (ao : Option Addr) (n c : Nat) (qs : List (List Int)) (w : World) (h : RdP w v d) (h' : Intss w ao n qs) :
    Calls Try.prog 67 #[v, .slice ao n c] w fun e w' => e = .returned (.tuple #[.bool (holdR d qs), .int .i64 (holdC d qs)]) ∧ Below w.heap.size w w' := by
  obtain ⟨ro, rn, rc, rfl, hr⟩ := h
  have hmf : ∀ (fn : Fn) (first cap : Array Value) (w : World), (Instr.makeFunc fn first cap).run Try.prog w = .ok (.func fn first cap) w := fun _ _ _ _ => rfl
  have HL := Lib.hid h'.1
  have hn1 := h'.2.1
  have hb := below_alloc2 w (.cells #[.int .i64 d.1, .slice ro rn rc] 72) (.cells #[.slice ao n c] 39)
  have kb : Blk ((w.alloc (.cells #[.int .i64 d.1, .slice ro rn rc] 72)).alloc (.cells #[.slice ao n c] 39)) w.heap.size 72 #[.int .i64 d.1, .slice ro rn rc] := (blk_at rfl).alloc _
  have kc : Blk ((w.alloc (.cells #[.int .i64 d.1, .slice ro rn rc] 72)).alloc (.cells #[.slice ao n c] 39)) (w.heap.size + 1) 39 #[.slice ao n c] := blk_at (by simp)
  have KB := Lib.hid kb
  have KC := Lib.hid kc
  have hr1 : RdP ((w.alloc (.cells #[.int .i64 d.1, .slice ro rn rc] 72)).alloc (.cells #[.slice ao n c] 39)) (.agg #[.int .i64 d.1, .slice ro rn rc]) d := ⟨ro, rn, rc, rfl, hr.below hb⟩
  have h1 := h'.below hb
  have HB := Lib.hid hb
  clear kb kc hb hr h'
  cases hp : isPres d with
  | false =>
    have HP := Lib.hid hp
    have HX := Lib.hid (holdR_no (holdArgs_1 (qs := qs) hp))
    clear hp
    go_enter Try.func67, Try.ntmps67
    go_wp2_with fail
    (refine wp_region_calm (by kernel_rfl) (by kernel_rfl) ?_; (repeat (first | go_big_quiet_skip | (go_big_quiet_want; first | (go_big_quiet_op; go_big_quiet_on) | (apply quiet_val; (· (intro _ hw; have f0 : (_ : World).cell? ⟨w.heap.size, 0, none⟩ = some (.int .i64 d.1) := (KB.out.belowS hw).cell 0; have f1 : (_ : World).cell? ⟨w.heap.size, 1, none⟩ = some (.slice ro rn rc) := (KB.out.belowS hw).cell 1; go_simp; exact rfl)); go_simp; go_big_quiet_on) | (apply quiet_call; (· (intro _ _; go_simp; exact ⟨rfl, rfl⟩)); (· (intro _ hw; go_at_call 137; refine (isPresentation_any _ (RdP.below hr1 hw)).mono ?_; rintro e w2 ⟨rfl, b2⟩; rw [HP.out]; exact ⟨rfl, below_tr b2 hw⟩)); go_simp; go_big_quiet_on)))); refine wpQuiet_nil ?_; intro wq bq)
    go_wp2_with fail
    go_ret2
    exact ⟨by rw [HX.out.1, HX.out.2]; rfl, below_tr bq HB.out⟩
  | true =>
    have hg := isPres_gens hp
    have HP := Lib.hid hp
    have HWD := Lib.hid (isPres_words hp)
    clear hp
    by_cases hlen : (qs.length : Int) = d.1
    · have hnd : d.1 = (n : Int) := by rw [← HL.out]; exact hlen.symm
      have hn0 : 0 < n := by omega
      have HLEN := Lib.hid hlen
      have HA := Lib.hid (badPerm_any (qs := qs) (by rw [HL.out]; exact hn0))
      have HND := Lib.hid hnd
      have hne : ((n : Int) != d.1) = false := by rw [hnd]; simp
      clear hnd hlen
      cases hpm : isPerms qs with
      | false =>
        have HX := Lib.hid (holdR_no (d := d) (holdArgs_3 hpm))
        have HM := Lib.hid hpm
        clear hpm
        go_enter Try.func67, Try.ntmps67
        go_wp2_with fail
        (refine wp_region_calm (by kernel_rfl) (by kernel_rfl) ?_; (repeat (first | go_big_quiet_skip | (go_big_quiet_want; first | (go_big_quiet_op; go_big_quiet_on) | (apply quiet_val; (· (intro _ hw; have f0 : (_ : World).cell? ⟨w.heap.size, 0, none⟩ = some (.int .i64 d.1) := (KB.out.belowS hw).cell 0; have f1 : (_ : World).cell? ⟨w.heap.size, 1, none⟩ = some (.slice ro rn rc) := (KB.out.belowS hw).cell 1; have f2 : (_ : World).cell? ⟨w.heap.size + 1, 0, none⟩ = some (.slice ao n c) := (KC.out.belowS hw).cell 0; go_simp; exact rfl)); go_simp; go_big_quiet_on) | (apply quiet_call; (· (intro _ _; go_simp; exact ⟨rfl, rfl⟩)); (· (intro _ hw; first | (go_at_call 137; refine (isPresentation_any _ (RdP.below hr1 hw)).mono ?_; rintro e w2 ⟨rfl, b2⟩; rw [HP.out]; exact ⟨rfl, below_tr b2 hw⟩) | (go_at_call 145; refine (sizeL_any _ _ _ _).mono ?_; rintro e w2 ⟨rfl, hw2⟩; subst hw2; exact ⟨rfl, hw⟩) | (refine (containsFuncL_any 147 #[.pointer (some ⟨w.heap.size + 1, 0, none⟩)] (badPerm qs) ao n c qs _ (h1.below hw) (fun _ _ => by rfl) (fun j hj w' a' n' c' hb' hi => holdFn_any (w.heap.size + 1) ao n c qs a' n' c' _ w' (((KC.out.belowS hw).belowS hb').cell 0) ((h1.below hw).below hb') hn0 hi)).mono ?_; rintro e w2 ⟨rfl, b2⟩; rw [HA.out, HM.out]; exact ⟨rfl, below_tr b2 hw⟩))); go_simp; go_big_quiet_on)))); refine wpQuiet_nil ?_; intro wq bq)
        go_wp2_with fail
        go_ret2
        exact ⟨by rw [HX.out.1, HX.out.2]; rfl, below_tr bq HB.out⟩
      | true =>
        have hha : holdArgs d qs = true := by unfold holdArgs; rw [HP.out, hpm, decide_eq_true HLEN.out]; rfl
        have HX := Lib.hid (holdR_yes hha)
        have HQ := Lib.hid (isPerms_leads hpm)
        have hm4 := isPerm_few (isPerms_true.1 hpm 0 (by rw [HL.out]; exact hn0)).1
        have HM := Lib.hid hpm
        clear hpm hha
        go_enter Try.func67, Try.ntmps67
        go_wp2_with fail
        (refine wp_region_calm (by kernel_rfl) (by kernel_rfl) ?_; (repeat (first | go_big_quiet_skip | (go_big_quiet_want; first | (go_big_quiet_op; go_big_quiet_on) | (apply quiet_val; (· (intro _ hw; have f0 : (_ : World).cell? ⟨w.heap.size, 0, none⟩ = some (.int .i64 d.1) := (KB.out.belowS hw).cell 0; have f1 : (_ : World).cell? ⟨w.heap.size, 1, none⟩ = some (.slice ro rn rc) := (KB.out.belowS hw).cell 1; have f2 : (_ : World).cell? ⟨w.heap.size + 1, 0, none⟩ = some (.slice ao n c) := (KC.out.belowS hw).cell 0; go_simp; exact rfl)); go_simp; go_big_quiet_on) | (apply quiet_call; (· (intro _ _; go_simp; exact ⟨rfl, rfl⟩)); (· (intro _ hw; first | (go_at_call 137; refine (isPresentation_any _ (RdP.below hr1 hw)).mono ?_; rintro e w2 ⟨rfl, b2⟩; rw [HP.out]; exact ⟨rfl, below_tr b2 hw⟩) | (go_at_call 145; refine (sizeL_any _ _ _ _).mono ?_; rintro e w2 ⟨rfl, hw2⟩; subst hw2; exact ⟨rfl, hw⟩) | (refine (containsFuncL_any 147 #[.pointer (some ⟨w.heap.size + 1, 0, none⟩)] (badPerm qs) ao n c qs _ (h1.below hw) (fun _ _ => by rfl) (fun j hj w' a' n' c' hb' hi => holdFn_any (w.heap.size + 1) ao n c qs a' n' c' _ w' (((KC.out.belowS hw).belowS hb').cell 0) ((h1.below hw).below hb') hn0 hi)).mono ?_; rintro e w2 ⟨rfl, b2⟩; rw [HA.out, HM.out]; exact ⟨rfl, below_tr b2 hw⟩))); go_simp; go_big_quiet_on)))); refine wpQuiet_nil ?_; intro wq bq)
        have y0 : wq.cell? ⟨w.heap.size, 0, none⟩ = some (.int .i64 d.1) := (KB.out.belowS bq).cell 0
        have y1 : wq.cell? ⟨w.heap.size, 1, none⟩ = some (.slice ro rn rc) := (KB.out.belowS bq).cell 1
        have y2 : wq.cell? ⟨w.heap.size + 1, 0, none⟩ = some (.slice ao n c) := (KC.out.belowS bq).cell 0
        go_wp2_with fail
        refine (implHold_any ao n c _ qs _ (RdP.below hr1 bq) (h1.below bq) rfl hn0 hm4 HQ.out (fun i hi z hz => by have := (HWD.out i hi).2 z hz; have := HLEN.out; omega)).mono ?_
        rintro e w2 ⟨rfl, b2⟩
        go_wp2_with fail
        go_ret2
        exact ⟨by rw [HX.out.1, HX.out.2]; rfl, below_tr b2 (below_tr bq HB.out)⟩
    · have HX := Lib.hid (holdR_no (holdArgs_2 hlen))
      have hne : ((n : Int) != d.1) = true := by rw [← HL.out]; simpa using hlen
      go_enter Try.func67, Try.ntmps67
      go_wp2_with fail
      (refine wp_region_calm (by kernel_rfl) (by kernel_rfl) ?_; (repeat (first | go_big_quiet_skip | (go_big_quiet_want; first | (go_big_quiet_op; go_big_quiet_on) | (apply quiet_val; (· (intro _ hw; have f0 : (_ : World).cell? ⟨w.heap.size, 0, none⟩ = some (.int .i64 d.1) := (KB.out.belowS hw).cell 0; have f1 : (_ : World).cell? ⟨w.heap.size, 1, none⟩ = some (.slice ro rn rc) := (KB.out.belowS hw).cell 1; have f2 : (_ : World).cell? ⟨w.heap.size + 1, 0, none⟩ = some (.slice ao n c) := (KC.out.belowS hw).cell 0; go_simp; exact rfl)); go_simp; go_big_quiet_on) | (apply quiet_call; (· (intro _ _; go_simp; exact ⟨rfl, rfl⟩)); (· (intro _ hw; first | (go_at_call 137; refine (isPresentation_any _ (RdP.below hr1 hw)).mono ?_; rintro e w2 ⟨rfl, b2⟩; rw [HP.out]; exact ⟨rfl, below_tr b2 hw⟩) | (go_at_call 145; refine (sizeL_any _ _ _ _).mono ?_; rintro e w2 ⟨rfl, hw2⟩; subst hw2; exact ⟨rfl, hw⟩))); go_simp; go_big_quiet_on)))); refine wpQuiet_nil ?_; intro wq bq)
      go_wp2_with fail
      go_ret2
      exact ⟨by rw [HX.out.1, HX.out.2]; rfl, below_tr bq HB.out⟩

theorem api_implHoldIn {v v' : Value} {d : PresD} {qs : List (List Int)} (w : World) (h : RdP w v d) (h' : RdSS w v' qs) :
    Calls Try.prog 67 #[v, v'] w fun e w' => e = .returned (.tuple #[.bool (holdR d qs), .int .i64 (holdC d qs)]) ∧ Below w.heap.size w w' := by
  obtain ⟨ao, n, c, rfl, hi⟩ := h'
  exact implHoldIn_any ao n c qs w h hi
end Go.Proofs.Ytpognnifgcacnaa

/- IsPresentation, both: the doors. -/
namespace Go.Proofs.Ytpognnifgcacnaa
open Go.RowKit


theorem api_specIsPresentation {v : Value} {d : PresD} (w : World) (h : RdP w v d) :
    Calls Try.prog 64 #[v] w fun e w' => e = .returned (.bool (isPres d)) ∧ Below w.heap.size w w' := by
  obtain ⟨ao, n, c, rfl, hi⟩ := h
  have hb := below_alloc1 w (.cells #[.int .i64 d.1, .slice ao n c] 72)
  go_enter Try.func64, Try.ntmps64
  go_wp2_with fail
  refine (spec11Is_any _ ⟨ao, n, c, rfl, hi.below hb⟩).mono ?_
  rintro e w1 ⟨rfl, hb1⟩
  go_wp2
  go_ret
  exact ⟨rfl, hb.trans (hb1.mono hb.size)⟩
theorem api_implIsPresentation {v : Value} {d : PresD} (w : World) (h : RdP w v d) :
    Calls Try.prog 63 #[v] w fun e w' => e = .returned (.bool (isPres d)) ∧ Below w.heap.size w w' := by
  obtain ⟨ao, n, c, rfl, hi⟩ := h
  have hb := below_alloc1 w (.cells #[.int .i64 d.1, .slice ao n c] 72)
  go_enter Try.func63, Try.ntmps63
  go_wp2_with fail
  refine (isPresentation_any _ ⟨ao, n, c, rfl, hi.below hb⟩).mono ?_
  rintro e w1 ⟨rfl, hb1⟩
  go_wp2
  go_ret
  exact ⟨rfl, hb.trans (hb1.mono hb.size)⟩
end Go.Proofs.Ytpognnifgcacnaa

/- The walk of FnCosetTables: true, whatever the draws. Written by gen_wct.py. -/
namespace Go.Proofs.Ytpognnifgcacnaa
open Go.RowKit

set_option maxRecDepth 100000 in
set_option maxHeartbeats 6400000 in
theorem walkCosetTables {ao : Option Addr} {n c : Nat} (w : World) (h : Bts w ao n w.heap.size) :
    Calls Try.prog 12 #[.slice ao n c] w fun e w' => e = .returned (.bool true) ∧ Below w.heap.size w w' := by
  go_enter Try.func12, Try.ntmps12
  go_wp2_with fail
  refine (big_any ao n c w).mono ?_
  rintro e w1 ⟨rfl, hw1⟩
  obtain rfl : w = w1 := hw1.symm
  by_cases hbig : 4096 < n
  · go_wp2
    go_ret
    exact ⟨rfl, Below.refl _ _⟩
  · go_wp2_with fail
    refine (drawCT_any ao n c w h).mono ?_
    rintro e w2 ⟨v, d, u, ws, rfl, op, ow, hd, hws, B2⟩
    obtain ⟨a2, n2, c2, rfl⟩ := op.form
    obtain ⟨a3, n3, c3, rfl, hwl⟩ := ow.form
    have z2 := B2.size
    have HWL := Lib.hid hwl
    have hn3 : n3 ≤ 3 := by omega
    clear hwl hd hws
    go_upto_region 4 with (fail)
    have bx := below_alloc1 w2 (.cells #[.int .i64 d.1, .slice a2 n2 c2] 72)
    have kb3 : Blk (w2.alloc (.cells #[.int .i64 d.1, .slice a2 n2 c2] 72)) w2.heap.size 72 #[.int .i64 d.1, .slice a2 n2 c2] := blk_at rfl
    generalize w2.alloc (.cells #[.int .i64 d.1, .slice a2 n2 c2] 72) = w3 at *
    have B3 := B2.trans (bx.mono z2)
    have OP3 := Lib.hid (op.below bx)
    have OW3 := Lib.hid (ow.below bx)
    have z3 := bx.size
    have zk := kb3.lt
    clear bx op ow B2
    have ckb0_3 := kb3.cell 0
    simp at ckb0_3
    have ckb1_3 := kb3.cell 1
    simp at ckb1_3
    go_wp2_with fail
    refine (api_implCT _ OP3.out OW3.out).mono ?_
    rintro e w4 ⟨r, rfl, ot, b4⟩
    have z4 := b4.size
    have B4 := B3.trans (b4.mono (by omega))
    have OP4 := Lib.hid (OP3.out.below b4)
    have OW4 := Lib.hid (OW3.out.below b4)
    have kb4 := kb3.belowS b4
    have ckb0_4 := kb4.cell 0
    simp at ckb0_4
    have ckb1_4 := kb4.cell 1
    simp at ckb1_4
    clear B3 OP3 OW3 kb3 ckb0_3 ckb1_3 b4
    obtain ⟨a4, n4, c4, rfl, hl4⟩ := ot.form
    have HL4 := Lib.hid hl4
    clear hl4
    have OT4 := Lib.hid (ot)
    clear ot
    go_wp2_with fail
    refine (api_specCT _ OP4.out OW4.out).mono ?_
    rintro e w5 ⟨r5, rfl, ot, b5⟩
    have z5 := b5.size
    have B5 := B4.trans (b5.mono (by omega))
    have OP5 := Lib.hid (OP4.out.below b5)
    have OW5 := Lib.hid (OW4.out.below b5)
    have kb5 := kb4.belowS b5
    have OT5 := Lib.hid (OT4.out.below b5)
    have ckb0_5 := kb5.cell 0
    simp at ckb0_5
    have ckb1_5 := kb5.cell 1
    simp at ckb1_5
    clear B4 OP4 OW4 kb4 OT4 ckb0_4 ckb1_4 b5
    obtain ⟨a5, n5, c5, rfl, hl5⟩ := ot.form
    clear hl5
    have OU5 := Lib.hid (ot)
    clear ot
    generalize hC : ctC d ws = C at *
    have HC := Lib.hid hC
    clear hC
    go_upto_region 6 with (fail)
    (refine wp_region_calm (by kernel_rfl) (by kernel_rfl) ?_; (repeat (first | go_big_quiet_skip | (go_big_quiet_want; first | (go_big_quiet_op; go_big_quiet_on) | (apply quiet_val; (· (intro _ hw; have f0 : (_ : World).cell? ⟨w2.heap.size, 0, none⟩ = some (.int .i64 d.1) := (kb5.belowS hw).cell 0; have f1 : (_ : World).cell? ⟨w2.heap.size, 1, none⟩ = some (.slice a2 n2 c2) := (kb5.belowS hw).cell 1; go_simp; exact rfl)); go_simp; go_big_quiet_on) | (apply quiet_call; (· (intro _ _; go_simp; exact ⟨rfl, rfl⟩)); (· (intro _ hw; first | (go_at_call 62; refine (same9_any _ (OT5.out.below hw).rd (OU5.out.below hw).rd).mono ?_; rintro e w2 ⟨rfl, b2⟩; exact ⟨rfl, below_tr b2 hw⟩) | (go_at_call 63; refine (api_implIsPresentation _ (OP5.out.below hw).rd).mono ?_; rintro e w2 ⟨rfl, b2⟩; exact ⟨rfl, below_tr b2 hw⟩) | (go_at_call 64; refine (api_specIsPresentation _ (OP5.out.below hw).rd).mono ?_; rintro e w2 ⟨rfl, b2⟩; exact ⟨rfl, below_tr b2 hw⟩))); go_simp; go_big_quiet_on)))); refine wpQuiet_nil ?_; intro wq bq)
    have z6 := bq.size
    have B6 := B5.trans (bq.mono (by omega))
    have OP6 := Lib.hid (OP5.out.below bq)
    have OW6 := Lib.hid (OW5.out.below bq)
    have kb6 := kb5.belowS bq
    have OT6 := Lib.hid (OT5.out.below bq)
    have OU6 := Lib.hid (OU5.out.below bq)
    have ckb0_6 := kb6.cell 0
    simp at ckb0_6
    have ckb1_6 := kb6.cell 1
    simp at ckb1_6
    clear B5 OP5 OW5 kb5 OT5 OU5 ckb0_5 ckb1_5 bq
    go_wp2_with fail
    refine (api_implIndex _ OP6.out OW6.out).mono ?_
    rintro e w7 ⟨rfl, b7⟩
    have z7 := b7.size
    have B7 := B6.trans (b7.mono (by omega))
    have OP7 := Lib.hid (OP6.out.below b7)
    have OW7 := Lib.hid (OW6.out.below b7)
    have kb7 := kb6.belowS b7
    have OT7 := Lib.hid (OT6.out.below b7)
    have OU7 := Lib.hid (OU6.out.below b7)
    have ckb0_7 := kb7.cell 0
    simp at ckb0_7
    have ckb1_7 := kb7.cell 1
    simp at ckb1_7
    clear B6 OP6 OW6 kb6 OT6 OU6 ckb0_6 ckb1_6 b7
    go_wp2_with fail
    refine (api_specIndex _ OP7.out OW7.out).mono ?_
    rintro e w8 ⟨rfl, b8⟩
    have z8 := b8.size
    have B8 := B7.trans (b8.mono (by omega))
    have OP8 := Lib.hid (OP7.out.below b8)
    have OW8 := Lib.hid (OW7.out.below b8)
    have kb8 := kb7.belowS b8
    have OT8 := Lib.hid (OT7.out.below b8)
    have OU8 := Lib.hid (OU7.out.below b8)
    have ckb0_8 := kb8.cell 0
    simp at ckb0_8
    have ckb1_8 := kb8.cell 1
    simp at ckb1_8
    clear B7 OP7 OW7 kb7 OT7 OU7 ckb0_7 ckb1_7 b8
    by_cases hC0 : C = 0
    · skip
      subst hC0
      obtain ⟨m, H⟩ := ct_ok HC.out
      rw [H.idxc, H.idxr]
      have hm1 := H.n1
      have hm4 := H.n4
      have HH := Lib.hid H
      have hd1 : d.1 = (n4 : Int) := by rw [← HL4.out]; exact H.len.symm
      have HD1 := Lib.hid hd1
      have hn4 : 0 < n4 := by rw [← HL4.out]; exact H.pos
      clear H hd1
      go_upto_region 14 with (fail)
      go_wp2_with fail
      refine (api_implHoldIn _ OP8.out.rd OT8.out.rd).mono ?_
      rintro e w9 ⟨rfl, b9⟩
      have z9 := b9.size
      have B9 := B8.trans (b9.mono (by omega))
      have OP9 := Lib.hid (OP8.out.below b9)
      have OW9 := Lib.hid (OW8.out.below b9)
      have kb9 := kb8.belowS b9
      have OT9 := Lib.hid (OT8.out.below b9)
      have OU9 := Lib.hid (OU8.out.below b9)
      have ckb0_9 := kb9.cell 0
      simp at ckb0_9
      have ckb1_9 := kb9.cell 1
      simp at ckb1_9
      clear B8 OP8 OW8 kb8 OT8 OU8 ckb0_8 ckb1_8 b9
      rw [HH.out.holdc, HH.out.holdr]
      have ht := OT9.out.rd
      obtain ⟨ax, nx, cx, ex, hx⟩ := ht
      injection ex with ex1 ex2 ex3
      subst ex1 ex2 ex3
      obtain ⟨b0, o0, a0, n0, c0, rfl, hc0, hi0⟩ := hx.at_ hn4
      have hn0 : n0 = m := by rw [← hi0.1]; exact HH.out.leads.len 0 (by rw [HL4.out]; exact hn4)
      subst hn0
      simp at hc0
      have g1 : decide ((n0 : Int) < 1) = false := by simp; omega
      have g2 : ((n4 : Int) != d.1) = false := by rw [HD1.out]; simp
      have g3 : (d.1 != d.1) = false := by simp
      clear hx hi0
      clear g3
      go_upto_region 17 with (fail)
      go_wp2_with fail
      go_loopw [15] (fun iv wr => ∃ j : Nat, iv = .int .i64 j ∧ j ≤ n3 ∧ w9 = wr) (fun iv _ => n3 - (intOf iv).toNat)
      case atStart => exact ⟨0, rfl, Nat.zero_le _, rfl⟩
      case round =>
        obtain ⟨j, rfl, hj, rfl⟩ := hrel
        by_cases hlt : j < n3
        · obtain ⟨ax, nx, cx, ey, hy⟩ := OW9.out.rd
          injection ey with ey1 ey2 ey3
          subst ey1 ey2 ey3
          obtain ⟨b1, o1, a1, n1, c1, rfl, hc1, hi1⟩ := hy.at_ hlt
          have hjw : j < ws.length := by rw [HWL.out]; exact hlt
          have HJ := Lib.hid hjw
          have HI1 := Lib.hid hi1
          clear hy hi1 hjw
          go_wp2_with fail
          refine (run9_any a1 n1 c1 (lget ws j) 0 _ OT9.out.rd HI1.out HH.out.leads (HH.out.low j HJ.out) (by omega) (by omega)).mono ?_
          rintro e wz ⟨rfl, hwz⟩
          rw [HH.out.home j HJ.out]
          subst hwz
          go_wp2_with fail
          go_roundw
          case rel => exact ⟨j + 1, by go_num, by omega, trivial⟩
          case measure => first | (simp [intOf]; done) | (simp [intOf]; omega)
        · obtain rfl : j = n3 := by omega
          go_wp2_with fail
          refine (api_implGroup _ OP9.out).mono ?_
          rintro e w10 ⟨rfl, b10⟩
          have z10 := b10.size
          have B10 := B9.trans (b10.mono (by omega))
          have OP10 := Lib.hid (OP9.out.below b10)
          have OW10 := Lib.hid (OW9.out.below b10)
          have kb10 := kb9.belowS b10
          have OT10 := Lib.hid (OT9.out.below b10)
          have OU10 := Lib.hid (OU9.out.below b10)
          have ckb0_10 := kb10.cell 0
          simp at ckb0_10
          have ckb1_10 := kb10.cell 1
          simp at ckb1_10
          clear B9 OP9 OW9 kb9 OT9 OU9 ckb0_9 ckb1_9 b10
          go_wp2_with fail
          refine (api_specGroup _ OP10.out).mono ?_
          rintro e w11 ⟨rfl, b11⟩
          have z11 := b11.size
          have B11 := B10.trans (b11.mono (by omega))
          have OP11 := Lib.hid (OP10.out.below b11)
          have OW11 := Lib.hid (OW10.out.below b11)
          have kb11 := kb10.belowS b11
          have OT11 := Lib.hid (OT10.out.below b11)
          have OU11 := Lib.hid (OU10.out.below b11)
          have ckb0_11 := kb11.cell 0
          simp at ckb0_11
          have ckb1_11 := kb11.cell 1
          simp at ckb1_11
          clear B10 OP10 OW10 kb10 OT10 OU10 ckb0_10 ckb1_10 b11
          by_cases h3 : idxC d [] = 0
          · obtain ⟨q, hq1, hq2, hq3⟩ := HH.out.dvd h3
            rw [h3, hq1]
            have g4 : (q : Int).tmod n0 = 0 := by
              obtain ⟨k, hk⟩ := hq2
              rw [hk, Int.natCast_mul, Int.mul_tmod_right]
            have g5 : (q : Int) % n0 = 0 := by
              obtain ⟨k, hk⟩ := hq2
              rw [hk, Int.natCast_mul, Int.mul_emod_right]
            have g6 : ((n0 : Int) == 0) = false := beq_false_of_ne (by omega)
            clear hq1 hq2 h3
            go_wp2
            go_ret
            exact ⟨rfl, B11⟩
          · generalize idxC d [] = X at *
            generalize idxR d [] = Y at *
            have g7 : (X != 0) = true := by simpa using h3
            go_wp2
            go_ret
            exact ⟨rfl, B11⟩
    · skip
      have hR : ctR d ws = [] := by
        have := HC.out
        unfold ctC at this
        unfold ctR
        split
        · rw [if_pos (by assumption)] at this
          split
          · rw [if_pos (by assumption)] at this; exact absurd this.symm hC0
          · rfl
        · rfl
      have hn4 : n4 = 0 := by rw [← HL4.out, hR]; rfl
      subst hn4
      clear hR
      generalize idxC d ws = X at *
      generalize idxR d ws = Y at *
      have g1 : (C != 0) = true := by simpa using hC0
      go_wp2
      go_ret
      exact ⟨rfl, B8⟩
end Go.Proofs.Ytpognnifgcacnaa
