/- Whether each component of a set has a ringed node: lists; the program's. guards: -/
import Derived.Test.YtlpeghdbjfnenaaPart7
import Derived.Test.YtlpeghdbjfnenaaPart1
namespace Go.Proofs.Ytlpeghdbjfnenaa
open Go.RowKit

def ringB (r : Nat) (p : Nat × List Int) : Bool := !((p.1 &&& r) == 0)
def admB (zs : List Int) (set r : Nat) : Bool := (comps zs set).all (ringB r)
/-- the first component without a ringed node, -1 if there is none -/
def idxZ (ps : Cmps) (r : Nat) : Int := match ps.findIdx? (fun p => !ringB r p) with | some k => (k : Int) | none => -1
theorem idxZ_hit {ps : Cmps} {r j : Nat} (hj : j < ps.length) (h1 : ∀ x, x < j → ringB r (cget ps x) = true) (h2 : ringB r (cget ps j) = false) : idxZ ps r = j := by
  have : ps.findIdx? (fun p => !ringB r p) = some j := by
    rw [List.findIdx?_eq_some_iff_getElem]
    refine ⟨hj, by rw [← cget_lt hj, h2]; rfl, fun x hx => ?_⟩
    have := h1 x hx
    rw [cget_lt (by omega)] at this
    rw [this]; simp
  unfold idxZ; rw [this]
theorem idxZ_none {ps : Cmps} {r : Nat} (h1 : ∀ x, x < ps.length → ringB r (cget ps x) = true) : idxZ ps r = -1 := by
  have : ps.findIdx? (fun p => !ringB r p) = none := by
    rw [List.findIdx?_eq_none_iff]
    intro p hp
    obtain ⟨x, hx, rfl⟩ := List.getElem_of_mem hp
    have := h1 x hx
    rw [cget_lt hx] at this
    rw [this]; rfl
  unfold idxZ; rw [this]
theorem idxZ_adm (ps : Cmps) (r : Nat) : (!decide (idxZ ps r ≥ 0)) = ps.all (ringB r) := by
  cases h : ps.all (ringB r) with
  | true =>
    rw [List.all_eq_true] at h
    rw [idxZ_none fun x hx => h _ (cget_mem hx)]; rfl
  | false =>
    have : ∃ k, ps.findIdx? (fun p => !ringB r p) = some k := by
      cases hf : ps.findIdx? (fun p => !ringB r p) with
      | some k => exact ⟨k, rfl⟩
      | none =>
        rw [List.findIdx?_eq_none_iff] at hf
        have : ps.all (ringB r) = true := List.all_eq_true.2 fun p hp => by simpa using hf p hp
        rw [this] at h; cases h
    obtain ⟨k, hk⟩ := this
    unfold idxZ; rw [hk]; simp
abbrev bxRo (r : Nat) : Ch := ⟨false, 2, 1, .flat [.val (I6 (r : Int))]⟩
set_option maxRecDepth 100000 in
theorem clo_fc (cs : List Cel) (mv r i m : Nat) (labs : List Int) (hi : cs[i]? = some (.r 2 1 m (ivals labs))) (hmv : mv < 1000000) (hr : r < 1000000) :
    FC Try.prog 131 [(1000, cxRo cs), (1006, bxRo r)] [cA mv i m, o1 (.ptr 1006 0)] [] (vv (.bool (decide (((mv &&& r : Nat) : Int) = 0)))) [] := by
  refine fc_enter (nt := 9) Try.func131 rfl rfl (by simp) fun w0 ω0 => ?_
  (refine goes_seq ?_; refine goes_region ?_; apply run_step rfl; (exact stp_box rfl rfl rfl rfl); apply run_step rfl; (exact stp_assign rfl rfl); refine run_nil ?_; refine fin_seq ?_; refine goes_seq ?_; refine goes_region ?_; apply run_step rfl; (exact stp_fieldAddr (d := 0) rfl rfl rfl (by as_aux_lemma => kernel_rfl)); apply run_step rfl; (exact stp_loadF rfl (by as_aux_lemma => kernel_rfl) rfl rfl rfl rfl); apply run_step rfl; (exact stp_loadF rfl (by as_aux_lemma => kernel_rfl) rfl rfl rfl rfl); apply run_step rfl; (exact stp_andN rfl rfl rfl hmv hr); apply run_step rfl; (exact stp_bin rfl rfl rfl rfl); apply run_step rfl; (exact stp_assign rfl rfl); refine run_nil ?_; refine fin_seq ?_; refine goes_ret ?_)
  exact fin_ret1 (.inl rfl) rfl (.tmp rfl) trivial trivial
set_option maxRecDepth 100000 in
theorem idx_fc (ps : Cmps) (N r : Nat) (hN : ps.length = N) (h5 : N ≤ 5) (hr : r < 1000000) (hm : ∀ k, k < N → (cget ps k).1 < 1000000) :
    FC Try.prog 146 [(1000, cxRo (mixC ps)), (1006, bxRo r)] [o1 (.sl 1000 0 N), o1 (.clo (.func 131) [(1006, 0)])] [] (vv (I6 (idxZ ps r))) [] := by
  refine fc_enter (nt := 19) Try.func146 rfl rfl (by simp) fun w0 ω0 => ?_
  have hmx := mixC_len ps
  rw [hN] at hmx
  (refine goes_seq ?_; refine goes_region ?_; apply run_step rfl; (exact stp_assign rfl rfl); refine run_nil ?_; refine fin_seq ?_; refine goes_seq ?_; refine goes_seq ?_; refine goes_region ?_; apply run_step rfl; (exact stp_move rfl rfl); apply run_step rfl; (exact stp_len rfl rfl rfl (by as_aux_lemma => kernel_rfl)); apply run_step rfl; (exact stp_move rfl rfl); refine run_nil ?_; refine fin_seq ?_; refine goes_block ?_)
  refine goes_loop (fun j : Nat => St.of [(0, o1 (.sl 1000 0 N)), (1, o1 (.clo (.func 131) [(1006, 0)])), (7, vv (I6 N)), (8, vv (I6 j))] [(1000, cxRo (mixC ps)), (1006, bxRo r)]) (fun j => j ≤ N ∧ ∀ x, x < j → ringB r (cget ps x) = true) (fun j => N - j) 0 ⟨Nat.zero_le _, fun x hx => absurd hx (by omega)⟩ (Wk.of ⟨rfl, rfl, rfl, rfl, trivial⟩ ⟨rfl, rfl, trivial⟩ trivial) ?_
  rintro j ⟨hj, hall⟩
  (refine goes_seq ?_; refine goes_region ?_; apply run_step rfl; (exact stp_bin rfl rfl rfl rfl); refine run_nil ?_; refine fin_seq ?_; refine goes_seq ?_)
  refine goes_if rfl (fun hlt => ?_) (fun hlt => ?_)
  · have hjN : j < N := by omega
    have hjp : j < ps.length := by omega
    have hagg := comp_agg hjp 1000
    have hcel := (mixC_get hjp).2
    have hix : N * 2 ≤ (mixC ps).length := Nat.le_of_eq hmx.symm
    have hmk := hm j hjN
    have hC := clo_fc (mixC ps) (cget ps j).1 r (j * 2 + 1) (cget ps j).2.length (cget ps j).2 hcel hmk hr
    have hrb : ringB r (cget ps j) = !decide ((((cget ps j).1 &&& r : Nat) : Int) = 0) := by
      unfold ringB
      congr 1
      by_cases e : (cget ps j).1 &&& r = 0
      · rw [e]; rfl
      · rw [decide_eq_false (by omega), beq_eq_false_iff_ne]; exact e
    (refine goes_skip ?_; refine fin_seq ?_; refine goes_seq ?_; refine goes_block ?_; refine goes_seq ?_; refine goes_region ?_; apply run_step rfl; (exact stp_move rfl rfl); apply run_step rfl; (exact stp_assign rfl rfl); refine run_nil ?_; refine fin_seq ?_; refine goes_seq ?_; refine goes_region ?_; apply run_step rfl; (exact stp_move rfl rfl); apply run_step rfl; (exact stp_move rfl rfl); apply run_step rfl; (exact stp_move rfl rfl); apply run_step rfl; (first | exact stp_ixT (k := 2) (j := j) rfl rfl rfl rfl rfl (by as_aux_lemma => kernel_rfl) rfl hjN hix (by omega) rfl | exact stp_loadAggD (k := 2) rfl rfl rfl rfl rfl (by as_aux_lemma => kernel_rfl) hagg | exact stp_callC (args := [cA ((cget ps j).1 : Nat) (j * 2 + 1) (cget ps j).2.length]) rfl hC (by as_aux_lemma => kernel_rfl) rfl rfl ⟨⟨.inl rfl, .inl rfl, trivial⟩, trivial⟩ ⟨⟨_, rfl, .inl rfl⟩, ⟨_, rfl, .inl rfl⟩, trivial⟩ rfl rfl); apply run_step rfl; (first | exact stp_ixT (k := 2) (j := j) rfl rfl rfl rfl rfl (by as_aux_lemma => kernel_rfl) rfl hjN hix (by omega) rfl | exact stp_loadAggD (k := 2) rfl rfl rfl rfl rfl (by as_aux_lemma => kernel_rfl) hagg | exact stp_callC (args := [cA ((cget ps j).1 : Nat) (j * 2 + 1) (cget ps j).2.length]) rfl hC (by as_aux_lemma => kernel_rfl) rfl rfl ⟨⟨.inl rfl, .inl rfl, trivial⟩, trivial⟩ ⟨⟨_, rfl, .inl rfl⟩, ⟨_, rfl, .inl rfl⟩, trivial⟩ rfl rfl); apply run_step rfl; (first | exact stp_ixT (k := 2) (j := j) rfl rfl rfl rfl rfl (by as_aux_lemma => kernel_rfl) rfl hjN hix (by omega) rfl | exact stp_loadAggD (k := 2) rfl rfl rfl rfl rfl (by as_aux_lemma => kernel_rfl) hagg | exact stp_callC (args := [cA ((cget ps j).1 : Nat) (j * 2 + 1) (cget ps j).2.length]) rfl hC (by as_aux_lemma => kernel_rfl) rfl rfl ⟨⟨.inl rfl, .inl rfl, trivial⟩, trivial⟩ ⟨⟨_, rfl, .inl rfl⟩, ⟨_, rfl, .inl rfl⟩, trivial⟩ rfl rfl); refine run_nil ?_; refine fin_seq ?_)
    refine goes_cond rfl (fun e => ?_) (fun e => ?_)
    · rw [e] at hrb
      rw [idxZ_hit hjp hall (by rw [hrb]; rfl)]
      (refine goes_seq ?_; refine goes_region ?_; apply run_step rfl; (exact stp_move rfl rfl); apply run_step rfl; (exact stp_assign rfl rfl); refine run_nil ?_; refine fin_seq ?_; refine goes_ret ?_; refine fin_ret_block ?_; refine fin_ret_then ?_; refine fin_ret_then ?_; refine fin_ret_block ?_; refine fin_ret_then ?_)
      exact fin_ret1 (.inl rfl) rfl (.tmp rfl) trivial trivial
    · rw [e] at hrb
      (refine goes_skip ?_; refine fin_block ?_; refine fin_seq ?_; refine goes_region ?_; apply run_step rfl; (exact stp_add rfl rfl rfl (by first | exact IntWalk.i64_in _ (by omega) | rfl)); apply run_step rfl; (exact stp_move rfl rfl); refine run_nil ?_)
      exact fin_round (j + 1) ⟨by omega, fun x hx => by
        by_cases ex : x = j
        · rw [ex, hrb]; rfl
        · exact hall x (by omega)⟩ (by omega) (Wk.of ⟨rfl, rfl, rfl, rfl, trivial⟩ ⟨rfl, rfl, trivial⟩ trivial)
  · obtain rfl : j = N := by omega
    rw [idxZ_none fun x hx => hall x (by omega)]
    (refine goes_exit ?_; refine fin_exit_then ?_; refine fin_exit_then ?_; refine fin_exit_eq ?_; refine fin_seq ?_; refine goes_seq ?_; refine goes_region ?_; apply run_step rfl; (exact stp_assign rfl rfl); refine run_nil ?_; refine fin_seq ?_; refine goes_ret ?_)
    exact fin_ret1 (.inl rfl) rfl (.tmp rfl) trivial trivial
set_option maxRecDepth 100000 in
theorem has_fc (ps : Cmps) (N r : Nat) (hN : ps.length = N) (h5 : N ≤ 5) (hr : r < 1000000) (hm : ∀ k, k < N → (cget ps k).1 < 1000000) :
    FC Try.prog 130 [(1000, cxRo (mixC ps)), (1006, bxRo r)] [o1 (.sl 1000 0 N), o1 (.clo (.func 131) [(1006, 0)])] [] (vv (.bool (decide (idxZ ps r ≥ 0)))) [] := by
  have hI := idx_fc ps N r hN h5 hr hm
  refine fc_enter (nt := 9) Try.func130 rfl rfl (by simp) fun w0 ω0 => ?_
  (refine goes_seq ?_; refine goes_region ?_; apply run_step rfl; (exact stp_assign rfl rfl); refine run_nil ?_; refine fin_seq ?_; refine goes_seq ?_; refine goes_region ?_; apply run_step rfl; (exact stp_move rfl rfl); apply run_step rfl; (exact stp_move rfl rfl); apply run_step rfl; (apply call_gate 146; exact stp_callR hI (by as_aux_lemma => kernel_rfl) rfl rfl ⟨rfl, rfl, trivial⟩ ⟨⟨_, rfl, .inl rfl⟩, ⟨_, rfl, .inl rfl⟩, trivial⟩ rfl rfl); apply run_step rfl; (exact stp_bin rfl rfl rfl rfl); apply run_step rfl; (exact stp_assign rfl rfl); refine run_nil ?_; refine fin_seq ?_; refine goes_ret ?_)
  exact fin_ret1 (.inl rfl) rfl (.tmp rfl) trivial trivial
theorem comps_len5 {zs : List Int} (h4 : zs.length ≤ 4) (mask : Nat) : (comps zs mask).length ≤ 5 := by
  have h1 := csum_len (comps zs mask); have h2 := (comps_ok zs mask).sum; omega
theorem comps_lt {zs : List Int} (h4 : zs.length ≤ 4) (mask : Nat) : ∀ k, k < (comps zs mask).length → (cget (comps zs mask) k).1 < 1000000 := fun k hk => by
  have h1 := (comps_ok zs mask).lt _ (cget_mem hk)
  have h2 : 2 ^ (zs.length + 1) ≤ 2 ^ 5 := Nat.pow_le_pow_right (by decide) (by omega)
  omega
set_option maxRecDepth 100000 in
theorem adm_fc (zs : List Int) (L r set : Nat) (hL : zs.length = L) (h4 : L ≤ 4) (hr : r < 1000) (hs : set < 1000) :
    FC Try.prog 90 [(1003, wRo zs)] [o1 (.sl 1003 0 L), vv (I6 r), vv (I6 set)] [] (vv (.bool (admB zs set r))) [] := by
  have hC := (comps_fc zs L set hL h4 hs).nm [(1003, 1003), (2000, 9)] (by kernel_rfl)
  have hC : FC Try.prog 63 [(1003, wRo zs)] [o1 (.sl 1003 0 L), vv (I6 set)] [(9, cpOw (comps zs set))] (o1 (.sl 9 0 (comps zs set).length)) [] := hC
  have hH := (has_fc (comps zs set) (comps zs set).length r rfl (comps_len5 (by omega) set) (by omega) (comps_lt (by omega) set)).nm [(1000, 9), (1006, 4)] (by kernel_rfl)
  have hH : FC Try.prog 130 [(9, cxRo (mixC (comps zs set))), (4, bxRo r)] [o1 (.sl 9 0 (comps zs set).length), o1 (.clo (.func 131) [(4, 0)])] [] (vv (.bool (decide (idxZ (comps zs set) r ≥ 0)))) [] := hH
  have hv : admB zs set r = !decide (idxZ (comps zs set) r ≥ 0) := (idxZ_adm _ _).symm
  rw [hv]
  refine fc_enter (nt := 13) Try.func90 rfl rfl (by simp) fun w0 ω0 => ?_
  (refine goes_seq ?_; refine goes_region ?_; apply run_step rfl; (exact stp_box rfl rfl rfl rfl); apply run_step rfl; (exact stp_assign rfl rfl); refine run_nil ?_; refine fin_seq ?_; refine goes_seq ?_; refine goes_region ?_; apply run_step rfl; (exact stp_move rfl rfl); apply run_step rfl; (exact stp_move rfl rfl); apply run_step rfl; (first | (apply call_gate 63; exact stp_callN hC (by as_aux_lemma => kernel_rfl) rfl rfl ⟨rfl, rfl, trivial⟩ ⟨⟨_, rfl, .inl rfl⟩, trivial⟩ rfl rfl rfl) | exact stp_makeFunc rfl rfl | (apply call_gate 130; exact stp_callR hH (by as_aux_lemma => kernel_rfl) rfl rfl ⟨rfl, rfl, trivial⟩ ⟨⟨_, rfl, .inr rfl⟩, ⟨_, rfl, .inr rfl⟩, trivial⟩ rfl rfl)); apply run_step rfl; (first | (apply call_gate 63; exact stp_callN hC (by as_aux_lemma => kernel_rfl) rfl rfl ⟨rfl, rfl, trivial⟩ ⟨⟨_, rfl, .inl rfl⟩, trivial⟩ rfl rfl rfl) | exact stp_makeFunc rfl rfl | (apply call_gate 130; exact stp_callR hH (by as_aux_lemma => kernel_rfl) rfl rfl ⟨rfl, rfl, trivial⟩ ⟨⟨_, rfl, .inr rfl⟩, ⟨_, rfl, .inr rfl⟩, trivial⟩ rfl rfl)); apply run_step rfl; (first | (apply call_gate 63; exact stp_callN hC (by as_aux_lemma => kernel_rfl) rfl rfl ⟨rfl, rfl, trivial⟩ ⟨⟨_, rfl, .inl rfl⟩, trivial⟩ rfl rfl rfl) | exact stp_makeFunc rfl rfl | (apply call_gate 130; exact stp_callR hH (by as_aux_lemma => kernel_rfl) rfl rfl ⟨rfl, rfl, trivial⟩ ⟨⟨_, rfl, .inr rfl⟩, ⟨_, rfl, .inr rfl⟩, trivial⟩ rfl rfl)); apply run_step rfl; (exact stp_not rfl rfl); apply run_step rfl; (exact stp_assign rfl rfl); refine run_nil ?_; refine fin_seq ?_; refine goes_ret ?_)
  exact fin_ret1 (.inl rfl) rfl (.tmp rfl) trivial trivial
end Go.Proofs.Ytlpeghdbjfnenaa

/- Whether each component of a set has a ringed node: the reference's. guards: -/
namespace Go.Proofs.Ytlpeghdbjfnenaa
open Go.RowKit

def gB (r : Nat) (ps : Cmps) : Bool := ps.dropLast.all (ringB r)
def rB (r : Nat) (ps : Cmps) : Bool := match ps.getLast? with | none => true | some p => ringB r p
theorem gB_app (r : Nat) (qs : Cmps) (p : Nat × List Int) : gB r (qs ++ [p]) = qs.all (ringB r) := by unfold gB; rw [List.dropLast_concat]
theorem rB_app (r : Nat) (qs : Cmps) (p : Nat × List Int) : rB r (qs ++ [p]) = ringB r p := by unfold rB; rw [List.getLast?_concat]
theorem cmps_cases (ps : Cmps) : ps = [] ∨ ∃ qs p, ps = qs ++ [p] := by
  rcases List.eq_nil_or_concat ps with h | ⟨qs, p, h⟩
  · exact .inl h
  · exact .inr ⟨qs, p, by rw [h, List.concat_eq_append]⟩
theorem all_gr (r : Nat) (ps : Cmps) : ps.all (ringB r) = (gB r ps && rB r ps) := by
  rcases cmps_cases ps with rfl | ⟨qs, p, rfl⟩
  · rfl
  · rw [gB_app, rB_app, List.all_append, List.all_cons, List.all_nil, Bool.and_true]
theorem ring_one (r i : Nat) (l : List Int) : ringB r (2 ^ i, l) = mBit r i := by
  unfold ringB
  have h : mBit r i = r.testBit i := by unfold mBit; rw [Nat.testBit_eq_decide_div_mod_eq]; rfl
  rw [h]
  show (!(2 ^ i &&& r == 0)) = _
  cases hb : r.testBit i with
  | true =>
    have : 2 ^ i &&& r ≠ 0 := fun e => by
      have h2 : (2 ^ i &&& r).testBit i = true := by rw [Nat.testBit_and, Nat.testBit_two_pow_self, hb]; rfl
      rw [e] at h2; simp at h2
    simpa using this
  | false =>
    have : 2 ^ i &&& r = 0 := by
      apply Nat.eq_of_testBit_eq
      intro j
      rw [Nat.testBit_and, Nat.zero_testBit, Nat.testBit_two_pow]
      by_cases e : i = j
      · rw [← e, hb]; simp
      · simp [e]
    rw [this]; rfl
theorem ring_or (r m i : Nat) (l l' : List Int) : ringB r (m ||| 2 ^ i, l) = (ringB r (m, l') || mBit r i) := by
  rw [← ring_one r i []]
  unfold ringB
  show (!((m ||| 2 ^ i) &&& r == 0)) = (!(m &&& r == 0) || !(2 ^ i &&& r == 0))
  rw [Nat.and_or_distrib_right]
  by_cases h1 : m &&& r = 0
  · rw [h1, Nat.zero_or]; simp
  · have : ¬ (m &&& r ||| 2 ^ i &&& r) = 0 := fun e => h1 (Nat.or_eq_zero_iff.1 e).1
    rw [beq_eq_false_iff_ne.2 this, beq_eq_false_iff_ne.2 h1]; rfl
theorem gr_none {zs : List Int} {set i : Nat} (h : mBit set i = false) : pTo zs set (i + 1) = pTo zs set i := by
  rw [pTo_succ]; unfold pStep; rw [if_neg (by rw [h]; simp)]
theorem gr_new {zs : List Int} {set i : Nat} (r : Nat) (h : mBit set i = true) (hj : jn zs set i = false) : gB r (pTo zs set (i + 1)) = (gB r (pTo zs set i) && rB r (pTo zs set i)) ∧ rB r (pTo zs set (i + 1)) = mBit r i := by
  rw [pTo_succ]; unfold pStep; rw [if_pos h, if_neg (by rw [hj]; simp), gB_app, rB_app, ring_one, all_gr]
  exact ⟨rfl, rfl⟩
theorem gr_join {zs : List Int} {set i : Nat} (r : Nat) (h : mBit set i = true) (hj : jn zs set i = true) (hi : i ≤ zs.length + 1) : gB r (pTo zs set (i + 1)) = gB r (pTo zs set i) ∧ rB r (pTo zs set (i + 1)) = (rB r (pTo zs set i) || mBit r i) := by
  have hok := pTo_ok zs set i hi
  have hs := jn_spec hj
  have hne := hok.ne hs.1 hs.2.1
  rw [pTo_succ]; unfold pStep; rw [if_pos h, if_pos hj]
  rcases cmps_cases (pTo zs set i) with e | ⟨qs, p, e⟩
  · rw [e] at hne; exact absurd hne (by simp)
  · rw [e]
    have hl : (qs ++ [p]).length - 1 = qs.length := by simp
    have hg : cget (qs ++ [p]) qs.length = p := by rw [cget_lt (by simp)]; simp
    unfold pLast
    rw [hl, hg, show (qs ++ [p]).set qs.length (p.1 ||| 2 ^ i, p.2 ++ [iget zs (i - 1)]) = qs ++ [(p.1 ||| 2 ^ i, p.2 ++ [iget zs (i - 1)])] by rw [List.set_append_right _ _ (Nat.le_refl _)]; simp, gB_app, gB_app, rB_app, rB_app]
    exact ⟨rfl, ring_or r p.1 i _ p.2⟩
set_option maxRecDepth 100000 in
set_option maxHeartbeats 2000000 in
theorem rng_fc (zs : List Int) (L set r : Nat) (hL : zs.length = L) (h4 : L ≤ 4) (hs : set < 1000) (hr : r < 1000) :
    FC Try.prog 129 [(1003, wRo zs)] [o1 (.sl 1003 0 L), vv (I6 set), vv (I6 r)] [] (vv (.bool (admB zs set r))) [] := by
  have hR := rankS_fc zs L h4
  have hil : L ≤ (ivals zs).length := by rw [ivals_len, hL]; exact Nat.le_refl _
  have hss : set < 1000000 := by omega
  have hrr : r < 1000000 := by omega
  refine fc_enter (nt := 58) Try.func129 rfl rfl (by simp) fun w0 ω0 => ?_
  (refine goes_seq ?_; refine goes_region ?_; apply run_step rfl; (exact stp_assign rfl rfl); refine run_nil ?_; refine fin_seq ?_; refine goes_seq ?_; refine goes_region ?_; apply run_step rfl; (exact stp_assign rfl rfl); refine run_nil ?_; refine fin_seq ?_; refine goes_seq ?_; refine goes_region ?_; apply run_step rfl; (exact stp_assign rfl rfl); refine run_nil ?_; refine fin_seq ?_; refine goes_seq ?_; refine goes_seq ?_; refine goes_region ?_; apply run_step rfl; (exact stp_assign rfl rfl); refine run_nil ?_; refine fin_seq ?_; refine goes_block ?_)
  refine goes_loop (fun i : Nat => St.of [(0, o1 (.sl 1003 0 L)), (1, vv (I6 set)), (2, vv (I6 r)), (7, vv (.bool (gB r (pTo zs set i)))), (8, vv (.bool (rB r (pTo zs set i)))), (9, vv (I6 i))] [(1003, wRo zs)]) (fun i => i ≤ L + 1) (fun i => L + 1 - i) 0 (Nat.zero_le _) (Wk.of ⟨rfl, rfl, rfl, rfl, rfl, rfl, trivial⟩ ⟨rfl, trivial⟩ trivial) ?_
  rintro i hi
  (refine goes_seq ?_; refine goes_seq ?_; refine goes_region ?_; apply run_step rfl; (exact stp_move rfl rfl); apply run_step rfl; (exact stp_move rfl rfl); apply run_step rfl; (apply call_gate 103; exact stp_callR hR (by as_aux_lemma => kernel_rfl) rfl rfl ⟨rfl, trivial⟩ ⟨⟨_, rfl, .inl rfl⟩, trivial⟩ rfl rfl); apply run_step rfl; (exact stp_bin rfl rfl rfl rfl); refine run_nil ?_; refine fin_seq ?_)
  refine goes_if rfl (fun hlt => ?_) (fun hlt => ?_)
  · have hiL : i ≤ L := by omega
    have hi64 : i ≤ 64 := by omega
    have hcv : IntKind.u64.wrap (i : Int) = (i : Int) := by rw [IntKind.wrap_u64]; omega
    (refine goes_skip ?_; refine fin_seq ?_; refine goes_seq ?_; refine goes_block ?_; refine goes_seq ?_; refine goes_seq ?_; refine goes_region ?_; apply run_step rfl; (exact stp_move rfl rfl); apply run_step rfl; (exact stp_move rfl rfl); apply run_step rfl; (first | exact stp_convN rfl rfl (by as_aux_lemma => kernel_rfl) (by as_aux_lemma => kernel_rfl) hcv | exact stp_shrN (g := i) rfl rfl rfl hi64 | exact stp_bit rfl rfl hss | exact stp_eqBit0 rfl rfl); apply run_step rfl; (first | exact stp_convN rfl rfl (by as_aux_lemma => kernel_rfl) (by as_aux_lemma => kernel_rfl) hcv | exact stp_shrN (g := i) rfl rfl rfl hi64 | exact stp_bit rfl rfl hss | exact stp_eqBit0 rfl rfl); apply run_step rfl; (first | exact stp_convN rfl rfl (by as_aux_lemma => kernel_rfl) (by as_aux_lemma => kernel_rfl) hcv | exact stp_shrN (g := i) rfl rfl rfl hi64 | exact stp_bit rfl rfl hss | exact stp_eqBit0 rfl rfl); apply run_step rfl; (first | exact stp_convN rfl rfl (by as_aux_lemma => kernel_rfl) (by as_aux_lemma => kernel_rfl) hcv | exact stp_shrN (g := i) rfl rfl rfl hi64 | exact stp_bit rfl rfl hss | exact stp_eqBit0 rfl rfl); refine run_nil ?_; refine fin_seq ?_)
    refine goes_cond rfl (fun hb => ?_) (fun hb => ?_)
    · have hb : mBit set i = false := by simpa using hb
      have hv := gr_none (zs := zs) hb
      (refine goes_exit ?_; refine fin_exit_then ?_; refine fin_exit_eq ?_; refine fin_seq ?_; refine goes_region ?_; apply run_step rfl; (exact stp_move rfl rfl); apply run_step rfl; (exact stp_add rfl rfl rfl (by first | exact IntWalk.i64_in _ (by omega) | rfl)); apply run_step rfl; (exact stp_assign rfl rfl); refine run_nil ?_)
      exact fin_round (i + 1) (by omega) (by omega) (Wk.of ⟨rfl, rfl, rfl, congrArg (fun z => some (vv (.bool (gB r z)))) hv.symm, congrArg (fun z => some (vv (.bool (rB r z)))) hv.symm, rfl, trivial⟩ ⟨rfl, trivial⟩ trivial)
    · have hb : mBit set i = true := by simpa using hb
      (repeat (first | refine goes_seq ?_ | refine fin_seq ?_ | refine goes_skip ?_ | refine goes_block ?_ | refine fin_block ?_ | refine goes_exit ?_ | refine fin_exit_eq ?_ | refine fin_exit_ne rfl ?_ | refine fin_exit_then ?_))
      refine goes_cut (St.of [(0, o1 (.sl 1003 0 L)), (1, vv (I6 set)), (2, vv (I6 r)), (7, vv (.bool (gB r (pTo zs set i)))), (8, vv (.bool (rB r (pTo zs set i)))), (9, vv (I6 i)), (40, vv (.bool (!jn zs set i)))] [(1003, wRo zs)]) ?_ ?_
      · refine goes_region ?_
        (apply run_step rfl; (exact stp_move rfl rfl); apply run_step rfl; (exact stp_bin rfl rfl rfl rfl); apply run_step rfl; (exact stp_move rfl rfl))
        refine run_bool 24 rfl (fun h1 => ?_) (fun h1 => ?_)
        · have hv : jn zs set i = false := by
            have : ¬ 0 < i := by
              have : (i : Int) = 0 := by simpa using h1
              omega
            unfold jn; rw [decide_eq_false this]; rfl
          rw [hv]
          (apply run_gNo rfl rfl rfl rfl rfl; apply run_gNo rfl rfl rfl rfl rfl; apply run_gNo rfl rfl rfl rfl rfl; apply run_gNo rfl rfl rfl rfl rfl; apply run_gNo rfl rfl rfl rfl rfl; apply run_gNo rfl rfl rfl rfl rfl; apply run_gNo rfl rfl rfl rfl rfl; apply run_step rfl; (exact stp_pickT rfl rfl rfl); apply run_step rfl; (exact stp_move rfl rfl); apply run_gNo rfl rfl rfl rfl rfl; apply run_gNo rfl rfl rfl rfl rfl; apply run_gNo rfl rfl rfl rfl rfl; apply run_gNo rfl rfl rfl rfl rfl; apply run_gNo rfl rfl rfl rfl rfl; apply run_gNo rfl rfl rfl rfl rfl; apply run_step rfl; (exact stp_pickT rfl rfl rfl); refine run_nil ?_)
          exact fin_join (Wk.of ⟨rfl, rfl, rfl, rfl, rfl, rfl, rfl, trivial⟩ ⟨rfl, trivial⟩ trivial)
        · have hi0 : 0 < i := by
            have : (i : Int) ≠ 0 := by simpa using h1
            omega
          have hsb : IntKind.i64.wrap ((i : Int) - 1) = ((i - 1 : Nat) : Int) := (IntWalk.i64_in _ (by omega)).trans (by omega)
          have hcv1 : IntKind.u64.wrap ((i - 1 : Nat) : Int) = ((i - 1 : Nat) : Int) := by rw [IntKind.wrap_u64]; omega
          have hi64' : i - 1 ≤ 64 := by omega
          (apply run_gYes rfl rfl rfl; (exact stp_move rfl rfl); apply run_gYes rfl rfl rfl; (exact stp_move rfl rfl); apply run_gYes rfl rfl rfl; (first | exact stp_sub rfl rfl rfl hsb | exact stp_convN rfl rfl (by as_aux_lemma => kernel_rfl) (by as_aux_lemma => kernel_rfl) hcv1 | exact stp_shrN (g := i - 1) rfl rfl rfl hi64' | exact stp_bit rfl rfl hss | exact stp_eqBit0 rfl rfl); apply run_gYes rfl rfl rfl; (first | exact stp_sub rfl rfl rfl hsb | exact stp_convN rfl rfl (by as_aux_lemma => kernel_rfl) (by as_aux_lemma => kernel_rfl) hcv1 | exact stp_shrN (g := i - 1) rfl rfl rfl hi64' | exact stp_bit rfl rfl hss | exact stp_eqBit0 rfl rfl); apply run_gYes rfl rfl rfl; (first | exact stp_sub rfl rfl rfl hsb | exact stp_convN rfl rfl (by as_aux_lemma => kernel_rfl) (by as_aux_lemma => kernel_rfl) hcv1 | exact stp_shrN (g := i - 1) rfl rfl rfl hi64' | exact stp_bit rfl rfl hss | exact stp_eqBit0 rfl rfl); apply run_gYes rfl rfl rfl; (first | exact stp_sub rfl rfl rfl hsb | exact stp_convN rfl rfl (by as_aux_lemma => kernel_rfl) (by as_aux_lemma => kernel_rfl) hcv1 | exact stp_shrN (g := i - 1) rfl rfl rfl hi64' | exact stp_bit rfl rfl hss | exact stp_eqBit0 rfl rfl); apply run_gYes rfl rfl rfl; (first | exact stp_sub rfl rfl rfl hsb | exact stp_convN rfl rfl (by as_aux_lemma => kernel_rfl) (by as_aux_lemma => kernel_rfl) hcv1 | exact stp_shrN (g := i - 1) rfl rfl rfl hi64' | exact stp_bit rfl rfl hss | exact stp_eqBit0 rfl rfl); apply run_step rfl; (exact stp_pickF rfl rfl rfl); apply run_step rfl; (exact stp_move rfl rfl))
          refine run_bool 33 rfl (fun h2 => ?_) (fun h2 => ?_)
          · have h2 : mBit set (i - 1) = false := by simpa using h2
            have hv : jn zs set i = false := by unfold jn; rw [h2]; simp
            rw [hv]
            (apply run_gNo rfl rfl rfl rfl rfl; apply run_gNo rfl rfl rfl rfl rfl; apply run_gNo rfl rfl rfl rfl rfl; apply run_gNo rfl rfl rfl rfl rfl; apply run_gNo rfl rfl rfl rfl rfl; apply run_gNo rfl rfl rfl rfl rfl; apply run_step rfl; (exact stp_pickT rfl rfl rfl); refine run_nil ?_)
            exact fin_join (Wk.of ⟨rfl, rfl, rfl, rfl, rfl, rfl, rfl, trivial⟩ ⟨rfl, trivial⟩ trivial)
          · have h2 : mBit set (i - 1) = true := by simpa using h2
            have gz : (ivals zs)[i - 1]? = some (I6 (iget zs (i - 1))) := ivals_get (by omega)
            have hv : (!jn zs set i) = (iget zs (i - 1) == 2) := by unfold jn; rw [decide_eq_true hi0, h2]; simp
            rw [hv]
            (apply run_gYes rfl rfl rfl; (exact stp_move rfl rfl); apply run_gYes rfl rfl rfl; (exact stp_move rfl rfl); apply run_gYes rfl rfl rfl; (first | exact stp_sub rfl rfl rfl hsb | exact stp_ix (j := i - 1) rfl rfl rfl rfl rfl (by as_aux_lemma => kernel_rfl) rfl (by omega) hil | exact stp_loadV rfl (by as_aux_lemma => kernel_rfl) rfl rfl rfl gz); apply run_gYes rfl rfl rfl; (first | exact stp_sub rfl rfl rfl hsb | exact stp_ix (j := i - 1) rfl rfl rfl rfl rfl (by as_aux_lemma => kernel_rfl) rfl (by omega) hil | exact stp_loadV rfl (by as_aux_lemma => kernel_rfl) rfl rfl rfl gz); apply run_gYes rfl rfl rfl; (first | exact stp_sub rfl rfl rfl hsb | exact stp_ix (j := i - 1) rfl rfl rfl rfl rfl (by as_aux_lemma => kernel_rfl) rfl (by omega) hil | exact stp_loadV rfl (by as_aux_lemma => kernel_rfl) rfl rfl rfl gz); apply run_gYes rfl rfl rfl; (exact stp_bin rfl rfl rfl rfl); apply run_step rfl; (exact stp_pickF rfl rfl rfl); refine run_nil ?_)
            exact fin_join (Wk.of ⟨rfl, rfl, rfl, rfl, rfl, rfl, rfl, trivial⟩ ⟨rfl, trivial⟩ trivial)
      (refine fin_seq ?_)
      refine goes_cond rfl (fun hjb => ?_) (fun hjb => ?_)
      · have hjb : jn zs set i = false := by simpa using hjb
        obtain ⟨hv1, hv2⟩ := gr_new r hb hjb
        cases hg : gB r (pTo zs set i) with
        | true =>
          rw [hg, Bool.true_and] at hv1
          (refine goes_seq ?_; refine goes_region ?_; apply run_step rfl; (exact stp_move rfl rfl); apply run_step rfl; (exact stp_move rfl rfl); apply run_gYes rfl rfl rfl; (exact stp_move rfl rfl); apply run_step rfl; (exact stp_pickT rfl rfl rfl); apply run_step rfl; (exact stp_assign rfl rfl); refine run_nil ?_; refine fin_seq ?_; refine goes_region ?_; apply run_step rfl; (exact stp_assign rfl rfl); refine run_nil ?_; refine fin_seq ?_; refine goes_region ?_; apply run_step rfl; (exact stp_move rfl rfl); apply run_step rfl; (exact stp_move rfl rfl); apply run_gYes rfl rfl rfl; (exact stp_move rfl rfl); apply run_gYes rfl rfl rfl; (exact stp_move rfl rfl); apply run_gYes rfl rfl rfl; (first | exact stp_convN rfl rfl (by as_aux_lemma => kernel_rfl) (by as_aux_lemma => kernel_rfl) hcv | exact stp_shrN (g := i) rfl rfl rfl hi64 | exact stp_bit rfl rfl hrr | exact stp_eqBit rfl rfl); apply run_gYes rfl rfl rfl; (first | exact stp_convN rfl rfl (by as_aux_lemma => kernel_rfl) (by as_aux_lemma => kernel_rfl) hcv | exact stp_shrN (g := i) rfl rfl rfl hi64 | exact stp_bit rfl rfl hrr | exact stp_eqBit rfl rfl); apply run_gYes rfl rfl rfl; (first | exact stp_convN rfl rfl (by as_aux_lemma => kernel_rfl) (by as_aux_lemma => kernel_rfl) hcv | exact stp_shrN (g := i) rfl rfl rfl hi64 | exact stp_bit rfl rfl hrr | exact stp_eqBit rfl rfl); apply run_gYes rfl rfl rfl; (first | exact stp_convN rfl rfl (by as_aux_lemma => kernel_rfl) (by as_aux_lemma => kernel_rfl) hcv | exact stp_shrN (g := i) rfl rfl rfl hi64 | exact stp_bit rfl rfl hrr | exact stp_eqBit rfl rfl); apply run_step rfl; (exact stp_pickF rfl rfl rfl); apply run_step rfl; (exact stp_assign rfl rfl); refine run_nil ?_; refine fin_block ?_; refine fin_seq ?_; refine goes_region ?_; apply run_step rfl; (exact stp_move rfl rfl); apply run_step rfl; (exact stp_add rfl rfl rfl (by first | exact IntWalk.i64_in _ (by omega) | rfl)); apply run_step rfl; (exact stp_assign rfl rfl); refine run_nil ?_)
          exact fin_round (i + 1) (by omega) (by omega) (Wk.of ⟨rfl, rfl, rfl, congrArg (fun z => some (vv (.bool z))) hv1.symm, congrArg (fun z => some (vv (.bool z))) hv2.symm, rfl, trivial⟩ ⟨rfl, trivial⟩ trivial)
        | false =>
          rw [hg, Bool.false_and] at hv1
          (refine goes_seq ?_; refine goes_region ?_; apply run_step rfl; (exact stp_move rfl rfl); apply run_step rfl; (exact stp_move rfl rfl); apply run_gNo rfl rfl rfl rfl rfl; apply run_step rfl; (exact stp_pickF rfl rfl rfl); apply run_step rfl; (exact stp_assign rfl rfl); refine run_nil ?_; refine fin_seq ?_; refine goes_region ?_; apply run_step rfl; (exact stp_assign rfl rfl); refine run_nil ?_; refine fin_seq ?_; refine goes_region ?_; apply run_step rfl; (exact stp_move rfl rfl); apply run_step rfl; (exact stp_move rfl rfl); apply run_gYes rfl rfl rfl; (exact stp_move rfl rfl); apply run_gYes rfl rfl rfl; (exact stp_move rfl rfl); apply run_gYes rfl rfl rfl; (first | exact stp_convN rfl rfl (by as_aux_lemma => kernel_rfl) (by as_aux_lemma => kernel_rfl) hcv | exact stp_shrN (g := i) rfl rfl rfl hi64 | exact stp_bit rfl rfl hrr | exact stp_eqBit rfl rfl); apply run_gYes rfl rfl rfl; (first | exact stp_convN rfl rfl (by as_aux_lemma => kernel_rfl) (by as_aux_lemma => kernel_rfl) hcv | exact stp_shrN (g := i) rfl rfl rfl hi64 | exact stp_bit rfl rfl hrr | exact stp_eqBit rfl rfl); apply run_gYes rfl rfl rfl; (first | exact stp_convN rfl rfl (by as_aux_lemma => kernel_rfl) (by as_aux_lemma => kernel_rfl) hcv | exact stp_shrN (g := i) rfl rfl rfl hi64 | exact stp_bit rfl rfl hrr | exact stp_eqBit rfl rfl); apply run_gYes rfl rfl rfl; (first | exact stp_convN rfl rfl (by as_aux_lemma => kernel_rfl) (by as_aux_lemma => kernel_rfl) hcv | exact stp_shrN (g := i) rfl rfl rfl hi64 | exact stp_bit rfl rfl hrr | exact stp_eqBit rfl rfl); apply run_step rfl; (exact stp_pickF rfl rfl rfl); apply run_step rfl; (exact stp_assign rfl rfl); refine run_nil ?_; refine fin_block ?_; refine fin_seq ?_; refine goes_region ?_; apply run_step rfl; (exact stp_move rfl rfl); apply run_step rfl; (exact stp_add rfl rfl rfl (by first | exact IntWalk.i64_in _ (by omega) | rfl)); apply run_step rfl; (exact stp_assign rfl rfl); refine run_nil ?_)
          exact fin_round (i + 1) (by omega) (by omega) (Wk.of ⟨rfl, rfl, rfl, congrArg (fun z => some (vv (.bool z))) hv1.symm, congrArg (fun z => some (vv (.bool z))) hv2.symm, rfl, trivial⟩ ⟨rfl, trivial⟩ trivial)
      · have hjb : jn zs set i = true := by simpa using hjb
        obtain ⟨hv1, hv2⟩ := gr_join r hb hjb (by omega)
        cases hg : rB r (pTo zs set i) with
        | true =>
          rw [hg, Bool.true_or] at hv2
          (refine goes_skip ?_; refine fin_seq ?_; refine goes_region ?_; apply run_step rfl; (exact stp_move rfl rfl); apply run_step rfl; (exact stp_move rfl rfl); apply run_gNo rfl rfl rfl rfl rfl; apply run_gNo rfl rfl rfl rfl rfl; apply run_gNo rfl rfl rfl rfl rfl; apply run_gNo rfl rfl rfl rfl rfl; apply run_gNo rfl rfl rfl rfl rfl; apply run_gNo rfl rfl rfl rfl rfl; apply run_step rfl; (exact stp_pickT rfl rfl rfl); apply run_step rfl; (exact stp_assign rfl rfl); refine run_nil ?_; refine fin_block ?_; refine fin_seq ?_; refine goes_region ?_; apply run_step rfl; (exact stp_move rfl rfl); apply run_step rfl; (exact stp_add rfl rfl rfl (by first | exact IntWalk.i64_in _ (by omega) | rfl)); apply run_step rfl; (exact stp_assign rfl rfl); refine run_nil ?_)
          exact fin_round (i + 1) (by omega) (by omega) (Wk.of ⟨rfl, rfl, rfl, congrArg (fun z => some (vv (.bool z))) hv1.symm, congrArg (fun z => some (vv (.bool z))) hv2.symm, rfl, trivial⟩ ⟨rfl, trivial⟩ trivial)
        | false =>
          rw [hg, Bool.false_or] at hv2
          (refine goes_skip ?_; refine fin_seq ?_; refine goes_region ?_; apply run_step rfl; (exact stp_move rfl rfl); apply run_step rfl; (exact stp_move rfl rfl); apply run_gYes rfl rfl rfl; (exact stp_move rfl rfl); apply run_gYes rfl rfl rfl; (exact stp_move rfl rfl); apply run_gYes rfl rfl rfl; (first | exact stp_convN rfl rfl (by as_aux_lemma => kernel_rfl) (by as_aux_lemma => kernel_rfl) hcv | exact stp_shrN (g := i) rfl rfl rfl hi64 | exact stp_bit rfl rfl hrr | exact stp_eqBit rfl rfl); apply run_gYes rfl rfl rfl; (first | exact stp_convN rfl rfl (by as_aux_lemma => kernel_rfl) (by as_aux_lemma => kernel_rfl) hcv | exact stp_shrN (g := i) rfl rfl rfl hi64 | exact stp_bit rfl rfl hrr | exact stp_eqBit rfl rfl); apply run_gYes rfl rfl rfl; (first | exact stp_convN rfl rfl (by as_aux_lemma => kernel_rfl) (by as_aux_lemma => kernel_rfl) hcv | exact stp_shrN (g := i) rfl rfl rfl hi64 | exact stp_bit rfl rfl hrr | exact stp_eqBit rfl rfl); apply run_gYes rfl rfl rfl; (first | exact stp_convN rfl rfl (by as_aux_lemma => kernel_rfl) (by as_aux_lemma => kernel_rfl) hcv | exact stp_shrN (g := i) rfl rfl rfl hi64 | exact stp_bit rfl rfl hrr | exact stp_eqBit rfl rfl); apply run_step rfl; (exact stp_pickF rfl rfl rfl); apply run_step rfl; (exact stp_assign rfl rfl); refine run_nil ?_; refine fin_block ?_; refine fin_seq ?_; refine goes_region ?_; apply run_step rfl; (exact stp_move rfl rfl); apply run_step rfl; (exact stp_add rfl rfl rfl (by first | exact IntWalk.i64_in _ (by omega) | rfl)); apply run_step rfl; (exact stp_assign rfl rfl); refine run_nil ?_)
          exact fin_round (i + 1) (by omega) (by omega) (Wk.of ⟨rfl, rfl, rfl, congrArg (fun z => some (vv (.bool z))) hv1.symm, congrArg (fun z => some (vv (.bool z))) hv2.symm, rfl, trivial⟩ ⟨rfl, trivial⟩ trivial)
  · obtain rfl : i = L + 1 := by omega
    have hv : admB zs set r = (gB r (pTo zs set (L + 1)) && rB r (pTo zs set (L + 1))) := by unfold admB comps; rw [all_gr, hL]
    rw [hv]
    cases hg : gB r (pTo zs set (L + 1)) with
    | true =>
      rw [Bool.true_and]
      (refine goes_exit ?_; refine fin_exit_then ?_; refine fin_exit_then ?_; refine fin_exit_eq ?_; refine fin_seq ?_; refine goes_seq ?_; refine goes_region ?_; apply run_step rfl; (exact stp_move rfl rfl); apply run_step rfl; (exact stp_move rfl rfl); apply run_gYes rfl rfl rfl; (exact stp_move rfl rfl); apply run_step rfl; (exact stp_pickT rfl rfl rfl); apply run_step rfl; (exact stp_assign rfl rfl); refine run_nil ?_; refine fin_seq ?_; refine goes_ret ?_)
      exact fin_ret1 (.inl rfl) rfl (.tmp rfl) trivial trivial
    | false =>
      rw [Bool.false_and]
      (refine goes_exit ?_; refine fin_exit_then ?_; refine fin_exit_then ?_; refine fin_exit_eq ?_; refine fin_seq ?_; refine goes_seq ?_; refine goes_region ?_; apply run_step rfl; (exact stp_move rfl rfl); apply run_step rfl; (exact stp_move rfl rfl); apply run_gNo rfl rfl rfl rfl rfl; apply run_step rfl; (exact stp_pickF rfl rfl rfl); apply run_step rfl; (exact stp_assign rfl rfl); refine run_nil ?_; refine fin_seq ?_; refine goes_ret ?_)
      exact fin_ret1 (.inl rfl) rfl (.tmp rfl) trivial trivial
end Go.Proofs.Ytlpeghdbjfnenaa

/- The errors of ringed diagrams; IsRinged. guards: -/
namespace Go.Proofs.Ytlpeghdbjfnenaa
open Go.RowKit

section
variable {P : Program} {nt : Nat} {S : St} {t : Nat} {ty : TypeId} {ps : String} {af : Array Edge} {gd : Option (Nat × Bool)} {x y : Operand}
theorem stp_shlX {xt yt : TypeId} {kk : IntKind} {g : Nat} (ht : Nat.blt t nt = true) (hx : S.op x = some (vv (I6 1))) (hy : S.op y = some (vv (.int kk (g : Int)))) :
    Stp P nt ⟨some t, .binOp .shl xt x y yt, ty, ps, af, gd⟩ S (S.put t (vv (I6 (IntKind.i64.wrap (1 * 2 ^ (min g 64)))))) :=
  Stp.pure rfl ht fun _ _ η _ s w hs => by
    refine ⟨I6 (IntKind.i64.wrap (1 * 2 ^ (min g 64))), ?_, rfl⟩
    have e : Op.shift .shl .i64 1 kk (g : Int) = pure (I6 (IntKind.i64.wrap (1 * 2 ^ (min g 64)))) := by
      unfold Op.shift
      rw [if_neg (by omega)]
      rfl
    simp [execOp, hs.opV hx, hs.opV hy, eqGuard, binOp, e]
end
/-- what the reference takes for the mask of all nodes, whatever the labels -/
def wholeV (L : Nat) : Int := IntKind.i64.wrap (IntKind.i64.wrap (1 * 2 ^ (min (L + 1) 64)) - 1)
set_option maxRecDepth 100000 in
theorem rank2_fc (zs : List Int) (L : Nat) (hn : L ≤ 4398046511104) : FC Try.prog 103 [(1003, wRo zs)] [o1 (.sl 1003 0 L)] [] (vv (I6 (L + 1 : Nat))) [] := by
  have hw : IntKind.i64.wrap ((L : Int) + 1) = ((L + 1 : Nat) : Int) := IntWalk.i64_in _ (by omega)
  have hw2 : IntKind.i64.wrap (L : Int) = (L : Int) := IntWalk.i64_in _ (by omega)
  refine fc_enter (nt := 6) Try.func103 rfl rfl (by simp) fun w0 ω0 => ?_
  (refine goes_seq ?_; refine goes_region ?_; apply run_step rfl; (exact stp_assign rfl rfl); refine run_nil ?_; refine fin_seq ?_; refine goes_seq ?_; refine goes_region ?_; apply run_step rfl; (exact stp_move rfl rfl); apply run_step rfl; (exact stp_len rfl rfl rfl (by as_aux_lemma => kernel_rfl)); apply run_step rfl; (first | exact stp_add rfl rfl rfl hw | exact stp_convN rfl rfl (by as_aux_lemma => kernel_rfl) (by as_aux_lemma => kernel_rfl) hw2); apply run_step rfl; (exact stp_assign rfl rfl); refine run_nil ?_; refine fin_seq ?_; refine goes_ret ?_)
  exact fin_ret1 (.inl rfl) rfl (.tmp rfl) trivial trivial
set_option maxRecDepth 100000 in
theorem whole2_fc (zs : List Int) (L : Nat) (hn : L ≤ 4398046511104) : FC Try.prog 61 [(1003, wRo zs)] [o1 (.sl 1003 0 L)] [] (vv (I6 (wholeV L))) [] := by
  have hR := rank2_fc zs L hn
  have hcv : IntKind.u64.wrap ((L + 1 : Nat) : Int) = ((L + 1 : Nat) : Int) := by rw [IntKind.wrap_u64]; omega
  refine fc_enter (nt := 8) Try.func61 rfl rfl (by simp) fun w0 ω0 => ?_
  (refine goes_seq ?_; refine goes_region ?_; apply run_step rfl; (exact stp_assign rfl rfl); refine run_nil ?_; refine fin_seq ?_; refine goes_seq ?_; refine goes_region ?_; apply run_step rfl; (exact stp_move rfl rfl); apply run_step rfl; (first | (apply call_gate 103; exact stp_callR hR (by as_aux_lemma => kernel_rfl) rfl rfl ⟨rfl, trivial⟩ ⟨⟨_, rfl, .inl rfl⟩, trivial⟩ rfl rfl) | exact stp_convN rfl rfl (by as_aux_lemma => kernel_rfl) (by as_aux_lemma => kernel_rfl) hcv | exact stp_shlX (g := L + 1) rfl rfl rfl | exact stp_sub rfl rfl rfl rfl); apply run_step rfl; (first | (apply call_gate 103; exact stp_callR hR (by as_aux_lemma => kernel_rfl) rfl rfl ⟨rfl, trivial⟩ ⟨⟨_, rfl, .inl rfl⟩, trivial⟩ rfl rfl) | exact stp_convN rfl rfl (by as_aux_lemma => kernel_rfl) (by as_aux_lemma => kernel_rfl) hcv | exact stp_shlX (g := L + 1) rfl rfl rfl | exact stp_sub rfl rfl rfl rfl); apply run_step rfl; (first | (apply call_gate 103; exact stp_callR hR (by as_aux_lemma => kernel_rfl) rfl rfl ⟨rfl, trivial⟩ ⟨⟨_, rfl, .inl rfl⟩, trivial⟩ rfl rfl) | exact stp_convN rfl rfl (by as_aux_lemma => kernel_rfl) (by as_aux_lemma => kernel_rfl) hcv | exact stp_shlX (g := L + 1) rfl rfl rfl | exact stp_sub rfl rfl rfl rfl); apply run_step rfl; (first | (apply call_gate 103; exact stp_callR hR (by as_aux_lemma => kernel_rfl) rfl rfl ⟨rfl, trivial⟩ ⟨⟨_, rfl, .inl rfl⟩, trivial⟩ rfl rfl) | exact stp_convN rfl rfl (by as_aux_lemma => kernel_rfl) (by as_aux_lemma => kernel_rfl) hcv | exact stp_shlX (g := L + 1) rfl rfl rfl | exact stp_sub rfl rfl rfl rfl); apply run_step rfl; (exact stp_assign rfl rfl); refine run_nil ?_; refine fin_seq ?_; refine goes_ret ?_)
  exact fin_ret1 (.inl rfl) rfl (.tmp rfl) trivial trivial
/-- the error of a ringed diagram -/
def ringC (zs : List Int) (m : Int) : Int := if isDiag zs = true then (if inB m 0 (allN zs) = true then (if finB zs (allN zs) = true then (if admB zs (allN zs) m.toNat = true then 0 else 5) else 5) else 2) else 1
theorem ringC_no {zs : List Int} {m : Int} (hd : isDiag zs = false) : ringC zs m = 1 := by unfold ringC; rw [hd, if_neg (by simp)]
theorem ringC_out {zs : List Int} {m : Int} (hd : isDiag zs = true) (hb : inB m 0 (allN zs) = false) : ringC zs m = 2 := by unfold ringC; rw [hd, if_pos rfl, hb, if_neg (by simp)]
theorem ringC_inf {zs : List Int} {k : Nat} (hd : isDiag zs = true) (hb : inB (k : Int) 0 (allN zs) = true) (hf : finB zs (allN zs) = false) : ringC zs k = 5 := by unfold ringC; rw [hd, if_pos rfl, hb, if_pos rfl, hf, if_neg (by simp)]
theorem ringC_in {zs : List Int} {k : Nat} (hd : isDiag zs = true) (hb : inB (k : Int) 0 (allN zs) = true) (hf : finB zs (allN zs) = true) : ringC zs k = if admB zs (allN zs) k = true then 0 else 5 := by unfold ringC; rw [hd, if_pos rfl, hb, if_pos rfl, hf, if_pos rfl, Int.toNat_natCast]
theorem finC_diag {zs : List Int} (hd : isDiag zs = true) : maskC zs (allN zs) = if finB zs (allN zs) = true then 0 else 5 := finC_in zs hd
set_option maxRecDepth 100000 in
set_option maxHeartbeats 1000000 in
theorem codeS_fc (zs : List Int) (L : Nat) (m : Int) (hL : zs.length = L) (hn : L ≤ 4398046511104) :
    FC Try.prog 89 [(1003, wRo zs)] [o1 (.sl 1003 0 L), vv (I6 m)] [] (vv (I6 (ringC zs m))) [] := by
  have hI := diagS_fc zs L hL hn
  refine fc_enter (nt := 31) Try.func89 rfl rfl (by simp) fun w0 ω0 => ?_
  cases hd : isDiag zs with
  | false =>
    rw [hd] at hI
    have hW := whole2_fc zs L hn
    have hM := maskS_fc zs L (wholeV L) hL hn
    rw [ringC_no hd]
    (refine goes_seq ?_; refine goes_region ?_; apply run_step rfl; (exact stp_assign rfl rfl); refine run_nil ?_; refine fin_seq ?_; refine goes_seq ?_; refine goes_region ?_; apply run_step rfl; (exact stp_move rfl rfl); apply run_step rfl; (exact stp_move rfl rfl); apply run_step rfl; (first | (apply call_gate 61; exact stp_callR hW (by as_aux_lemma => kernel_rfl) rfl rfl ⟨rfl, trivial⟩ ⟨⟨_, rfl, .inl rfl⟩, trivial⟩ rfl rfl) | (apply call_gate 83; exact stp_callR hM (by as_aux_lemma => kernel_rfl) rfl rfl ⟨rfl, rfl, trivial⟩ ⟨⟨_, rfl, .inl rfl⟩, trivial⟩ rfl rfl) | (apply call_gate 59; exact stp_callR hI (by as_aux_lemma => kernel_rfl) rfl rfl ⟨rfl, trivial⟩ ⟨⟨_, rfl, .inl rfl⟩, trivial⟩ rfl rfl)); apply run_step rfl; (first | (apply call_gate 61; exact stp_callR hW (by as_aux_lemma => kernel_rfl) rfl rfl ⟨rfl, trivial⟩ ⟨⟨_, rfl, .inl rfl⟩, trivial⟩ rfl rfl) | (apply call_gate 83; exact stp_callR hM (by as_aux_lemma => kernel_rfl) rfl rfl ⟨rfl, rfl, trivial⟩ ⟨⟨_, rfl, .inl rfl⟩, trivial⟩ rfl rfl) | (apply call_gate 59; exact stp_callR hI (by as_aux_lemma => kernel_rfl) rfl rfl ⟨rfl, trivial⟩ ⟨⟨_, rfl, .inl rfl⟩, trivial⟩ rfl rfl)); apply run_step rfl; (exact stp_assign rfl rfl); refine run_nil ?_; refine fin_seq ?_; refine goes_seq ?_; refine goes_block ?_; refine goes_seq ?_; refine goes_region ?_; apply run_step rfl; (exact stp_move rfl rfl); apply run_step rfl; (first | (apply call_gate 61; exact stp_callR hW (by as_aux_lemma => kernel_rfl) rfl rfl ⟨rfl, trivial⟩ ⟨⟨_, rfl, .inl rfl⟩, trivial⟩ rfl rfl) | (apply call_gate 83; exact stp_callR hM (by as_aux_lemma => kernel_rfl) rfl rfl ⟨rfl, rfl, trivial⟩ ⟨⟨_, rfl, .inl rfl⟩, trivial⟩ rfl rfl) | (apply call_gate 59; exact stp_callR hI (by as_aux_lemma => kernel_rfl) rfl rfl ⟨rfl, trivial⟩ ⟨⟨_, rfl, .inl rfl⟩, trivial⟩ rfl rfl)); apply run_step rfl; (exact stp_not rfl rfl); apply run_step rfl; (exact stp_assign rfl rfl); refine run_nil ?_; refine fin_seq ?_)
    refine goes_cond rfl (fun _ => ?_) (fun e => by cases e)
    (refine goes_seq ?_; refine goes_region ?_; apply run_step rfl; (exact stp_assign rfl rfl); refine run_nil ?_; refine fin_seq ?_; refine goes_ret ?_; refine fin_ret_block ?_; refine fin_ret_then ?_)
    exact fin_ret1 (.inl rfl) rfl (.tmp rfl) trivial trivial
  | true =>
    rw [hd] at hI
    have h4 : L ≤ 4 := by have := isDiag_len hd; omega
    have hW := wholeS_fc zs L hL h4
    have hM := maskS_fc zs L (allN zs) hL hn
    rw [finC_diag hd] at hM
    have hIn := in_fc m 0 (allN zs)
    cases hb : inB m 0 (allN zs) with
    | false =>
      rw [hb] at hIn
      rw [ringC_out hd hb]
      (refine goes_seq ?_; refine goes_region ?_; apply run_step rfl; (exact stp_assign rfl rfl); refine run_nil ?_; refine fin_seq ?_; refine goes_seq ?_; refine goes_region ?_; apply run_step rfl; (exact stp_move rfl rfl); apply run_step rfl; (exact stp_move rfl rfl); apply run_step rfl; (first | (apply call_gate 61; exact stp_callR hW (by as_aux_lemma => kernel_rfl) rfl rfl ⟨rfl, trivial⟩ ⟨⟨_, rfl, .inl rfl⟩, trivial⟩ rfl rfl) | (apply call_gate 83; exact stp_callR hM (by as_aux_lemma => kernel_rfl) rfl rfl ⟨rfl, rfl, trivial⟩ ⟨⟨_, rfl, .inl rfl⟩, trivial⟩ rfl rfl) | (apply call_gate 59; exact stp_callR hI (by as_aux_lemma => kernel_rfl) rfl rfl ⟨rfl, trivial⟩ ⟨⟨_, rfl, .inl rfl⟩, trivial⟩ rfl rfl)); apply run_step rfl; (first | (apply call_gate 61; exact stp_callR hW (by as_aux_lemma => kernel_rfl) rfl rfl ⟨rfl, trivial⟩ ⟨⟨_, rfl, .inl rfl⟩, trivial⟩ rfl rfl) | (apply call_gate 83; exact stp_callR hM (by as_aux_lemma => kernel_rfl) rfl rfl ⟨rfl, rfl, trivial⟩ ⟨⟨_, rfl, .inl rfl⟩, trivial⟩ rfl rfl) | (apply call_gate 59; exact stp_callR hI (by as_aux_lemma => kernel_rfl) rfl rfl ⟨rfl, trivial⟩ ⟨⟨_, rfl, .inl rfl⟩, trivial⟩ rfl rfl)); apply run_step rfl; (exact stp_assign rfl rfl); refine run_nil ?_; refine fin_seq ?_; refine goes_seq ?_; refine goes_block ?_; refine goes_seq ?_; refine goes_region ?_; apply run_step rfl; (exact stp_move rfl rfl); apply run_step rfl; (first | (apply call_gate 61; exact stp_callR hW (by as_aux_lemma => kernel_rfl) rfl rfl ⟨rfl, trivial⟩ ⟨⟨_, rfl, .inl rfl⟩, trivial⟩ rfl rfl) | (apply call_gate 83; exact stp_callR hM (by as_aux_lemma => kernel_rfl) rfl rfl ⟨rfl, rfl, trivial⟩ ⟨⟨_, rfl, .inl rfl⟩, trivial⟩ rfl rfl) | (apply call_gate 59; exact stp_callR hI (by as_aux_lemma => kernel_rfl) rfl rfl ⟨rfl, trivial⟩ ⟨⟨_, rfl, .inl rfl⟩, trivial⟩ rfl rfl)); apply run_step rfl; (exact stp_not rfl rfl); apply run_step rfl; (exact stp_assign rfl rfl); refine run_nil ?_; refine fin_seq ?_)
      refine goes_cond rfl (fun e => by cases e) (fun _ => ?_)
      (refine goes_seq ?_; refine goes_region ?_; apply run_step rfl; (exact stp_move rfl rfl); apply run_step rfl; (exact stp_move rfl rfl); apply run_step rfl; (first | (apply call_gate 61; exact stp_callR hW (by as_aux_lemma => kernel_rfl) rfl rfl ⟨rfl, trivial⟩ ⟨⟨_, rfl, .inl rfl⟩, trivial⟩ rfl rfl) | (apply call_gate 101; exact stp_callR hIn (by as_aux_lemma => kernel_rfl) rfl rfl ⟨rfl, rfl, rfl, trivial⟩ trivial rfl rfl)); apply run_step rfl; (first | (apply call_gate 61; exact stp_callR hW (by as_aux_lemma => kernel_rfl) rfl rfl ⟨rfl, trivial⟩ ⟨⟨_, rfl, .inl rfl⟩, trivial⟩ rfl rfl) | (apply call_gate 101; exact stp_callR hIn (by as_aux_lemma => kernel_rfl) rfl rfl ⟨rfl, rfl, rfl, trivial⟩ trivial rfl rfl)); apply run_step rfl; (exact stp_not rfl rfl); apply run_step rfl; (exact stp_assign rfl rfl); refine run_nil ?_; refine fin_seq ?_)
      refine goes_cond rfl (fun _ => ?_) (fun e => by cases e)
      (refine goes_seq ?_; refine goes_region ?_; apply run_step rfl; (exact stp_assign rfl rfl); refine run_nil ?_; refine fin_seq ?_; refine goes_ret ?_; refine fin_ret_block ?_; refine fin_ret_then ?_)
      exact fin_ret1 (.inl rfl) rfl (.tmp rfl) trivial trivial
    | true =>
      rw [hb] at hIn
      have hlt := allN_lt (zs := zs) (by omega)
      have hbb := inB_true.1 hb
      obtain ⟨k, rfl⟩ := Int.eq_ofNat_of_zero_le hbb.1
      have hG := rng_fc zs L (allN zs) k hL h4 (by omega) (by omega)
      (refine goes_seq ?_; refine goes_region ?_; apply run_step rfl; (exact stp_assign rfl rfl); refine run_nil ?_; refine fin_seq ?_; refine goes_seq ?_; refine goes_region ?_; apply run_step rfl; (exact stp_move rfl rfl); apply run_step rfl; (exact stp_move rfl rfl); apply run_step rfl; (first | (apply call_gate 61; exact stp_callR hW (by as_aux_lemma => kernel_rfl) rfl rfl ⟨rfl, trivial⟩ ⟨⟨_, rfl, .inl rfl⟩, trivial⟩ rfl rfl) | (apply call_gate 83; exact stp_callR hM (by as_aux_lemma => kernel_rfl) rfl rfl ⟨rfl, rfl, trivial⟩ ⟨⟨_, rfl, .inl rfl⟩, trivial⟩ rfl rfl) | (apply call_gate 59; exact stp_callR hI (by as_aux_lemma => kernel_rfl) rfl rfl ⟨rfl, trivial⟩ ⟨⟨_, rfl, .inl rfl⟩, trivial⟩ rfl rfl)); apply run_step rfl; (first | (apply call_gate 61; exact stp_callR hW (by as_aux_lemma => kernel_rfl) rfl rfl ⟨rfl, trivial⟩ ⟨⟨_, rfl, .inl rfl⟩, trivial⟩ rfl rfl) | (apply call_gate 83; exact stp_callR hM (by as_aux_lemma => kernel_rfl) rfl rfl ⟨rfl, rfl, trivial⟩ ⟨⟨_, rfl, .inl rfl⟩, trivial⟩ rfl rfl) | (apply call_gate 59; exact stp_callR hI (by as_aux_lemma => kernel_rfl) rfl rfl ⟨rfl, trivial⟩ ⟨⟨_, rfl, .inl rfl⟩, trivial⟩ rfl rfl)); apply run_step rfl; (exact stp_assign rfl rfl); refine run_nil ?_; refine fin_seq ?_; refine goes_seq ?_; refine goes_block ?_; refine goes_seq ?_; refine goes_region ?_; apply run_step rfl; (exact stp_move rfl rfl); apply run_step rfl; (first | (apply call_gate 61; exact stp_callR hW (by as_aux_lemma => kernel_rfl) rfl rfl ⟨rfl, trivial⟩ ⟨⟨_, rfl, .inl rfl⟩, trivial⟩ rfl rfl) | (apply call_gate 83; exact stp_callR hM (by as_aux_lemma => kernel_rfl) rfl rfl ⟨rfl, rfl, trivial⟩ ⟨⟨_, rfl, .inl rfl⟩, trivial⟩ rfl rfl) | (apply call_gate 59; exact stp_callR hI (by as_aux_lemma => kernel_rfl) rfl rfl ⟨rfl, trivial⟩ ⟨⟨_, rfl, .inl rfl⟩, trivial⟩ rfl rfl)); apply run_step rfl; (exact stp_not rfl rfl); apply run_step rfl; (exact stp_assign rfl rfl); refine run_nil ?_; refine fin_seq ?_)
      refine goes_cond rfl (fun e => by cases e) (fun _ => ?_)
      (refine goes_seq ?_; refine goes_region ?_; apply run_step rfl; (exact stp_move rfl rfl); apply run_step rfl; (exact stp_move rfl rfl); apply run_step rfl; (first | (apply call_gate 61; exact stp_callR hW (by as_aux_lemma => kernel_rfl) rfl rfl ⟨rfl, trivial⟩ ⟨⟨_, rfl, .inl rfl⟩, trivial⟩ rfl rfl) | (apply call_gate 101; exact stp_callR hIn (by as_aux_lemma => kernel_rfl) rfl rfl ⟨rfl, rfl, rfl, trivial⟩ trivial rfl rfl)); apply run_step rfl; (first | (apply call_gate 61; exact stp_callR hW (by as_aux_lemma => kernel_rfl) rfl rfl ⟨rfl, trivial⟩ ⟨⟨_, rfl, .inl rfl⟩, trivial⟩ rfl rfl) | (apply call_gate 101; exact stp_callR hIn (by as_aux_lemma => kernel_rfl) rfl rfl ⟨rfl, rfl, rfl, trivial⟩ trivial rfl rfl)); apply run_step rfl; (exact stp_not rfl rfl); apply run_step rfl; (exact stp_assign rfl rfl); refine run_nil ?_; refine fin_seq ?_)
      refine goes_cond rfl (fun e => by cases e) (fun _ => ?_)
      cases hf : finB zs (allN zs) with
      | false =>
        rw [ringC_inf hd hb hf, if_neg (show ¬ (false = true) by simp)]
        (refine goes_seq ?_; refine goes_region ?_; apply run_step rfl; (exact stp_move rfl rfl); apply run_step rfl; (exact stp_bin rfl rfl rfl rfl); apply run_step rfl; (exact stp_assign rfl rfl); refine run_nil ?_; refine fin_seq ?_)
        refine goes_cond rfl (fun _ => ?_) (fun e => by cases e)
        (refine goes_seq ?_; refine goes_region ?_; apply run_step rfl; (exact stp_move rfl rfl); apply run_step rfl; (exact stp_assign rfl rfl); refine run_nil ?_; refine fin_seq ?_; refine goes_ret ?_; refine fin_ret_block ?_; refine fin_ret_then ?_)
        exact fin_ret1 (.inl rfl) rfl (.tmp rfl) trivial trivial
      | true =>
        rw [ringC_in hd hb hf, if_pos (show true = true from rfl)]
        (refine goes_seq ?_; refine goes_region ?_; apply run_step rfl; (exact stp_move rfl rfl); apply run_step rfl; (exact stp_bin rfl rfl rfl rfl); apply run_step rfl; (exact stp_assign rfl rfl); refine run_nil ?_; refine fin_seq ?_)
        refine goes_cond rfl (fun e => by cases e) (fun _ => ?_)
        (refine goes_seq ?_; refine goes_region ?_; apply run_step rfl; (exact stp_move rfl rfl); apply run_step rfl; (exact stp_move rfl rfl); apply run_step rfl; (first | (apply call_gate 61; exact stp_callR hW (by as_aux_lemma => kernel_rfl) rfl rfl ⟨rfl, trivial⟩ ⟨⟨_, rfl, .inl rfl⟩, trivial⟩ rfl rfl) | (apply call_gate 129; exact stp_callR hG (by as_aux_lemma => kernel_rfl) rfl rfl ⟨rfl, rfl, rfl, trivial⟩ ⟨⟨_, rfl, .inl rfl⟩, trivial⟩ rfl rfl)); apply run_step rfl; (exact stp_move rfl rfl); apply run_step rfl; (first | (apply call_gate 61; exact stp_callR hW (by as_aux_lemma => kernel_rfl) rfl rfl ⟨rfl, trivial⟩ ⟨⟨_, rfl, .inl rfl⟩, trivial⟩ rfl rfl) | (apply call_gate 129; exact stp_callR hG (by as_aux_lemma => kernel_rfl) rfl rfl ⟨rfl, rfl, rfl, trivial⟩ ⟨⟨_, rfl, .inl rfl⟩, trivial⟩ rfl rfl)); apply run_step rfl; (exact stp_not rfl rfl); apply run_step rfl; (exact stp_assign rfl rfl); refine run_nil ?_; refine fin_seq ?_)
        refine goes_cond rfl (fun h => ?_) (fun h => ?_)
        · have ha : admB zs (allN zs) k = false := by simpa using h
          rw [ha, if_neg (by simp)]
          (refine goes_seq ?_; refine goes_region ?_; apply run_step rfl; (exact stp_assign rfl rfl); refine run_nil ?_; refine fin_seq ?_; refine goes_ret ?_; refine fin_ret_block ?_; refine fin_ret_then ?_)
          exact fin_ret1 (.inl rfl) rfl (.tmp rfl) trivial trivial
        · have ha : admB zs (allN zs) k = true := by simpa using h
          rw [ha, if_pos rfl]
          (refine goes_skip ?_; refine fin_block ?_; refine fin_seq ?_; refine goes_seq ?_; refine goes_region ?_; apply run_step rfl; (exact stp_assign rfl rfl); refine run_nil ?_; refine fin_seq ?_; refine goes_ret ?_)
          exact fin_ret1 (.inl rfl) rfl (.tmp rfl) trivial trivial
end Go.Proofs.Ytlpeghdbjfnenaa

/- IsRinged, the program's and the reference's. guards: -/
namespace Go.Proofs.Ytlpeghdbjfnenaa
open Go.RowKit

def irR (zs : List Int) (m : Int) : Bool := ringC zs m == 0
def irC (zs : List Int) (m : Int) : Int := if ringC zs m = 1 then 1 else if ringC zs m = 2 then 2 else 0
theorem ringC_vals (zs : List Int) (m : Int) : ringC zs m = 0 ∨ ringC zs m = 1 ∨ ringC zs m = 2 ∨ ringC zs m = 5 := by
  unfold ringC
  split
  · split
    · split
      · split
        · exact .inl rfl
        · exact .inr (.inr (.inr rfl))
      · exact .inr (.inr (.inr rfl))
    · exact .inr (.inr (.inl rfl))
  · exact .inr (.inl rfl)
set_option maxRecDepth 100000 in
theorem irS_fc (zs : List Int) (m : Int) (hn : zs.length ≤ 4398046511104) :
    FC Try.prog 49 [(1003, wRo zs)] [o1 (.sl 1003 0 zs.length), vv (I6 m)] [] (.tup [.one (.val (.bool (irR zs m))), .one (.val (I6 (irC zs m)))]) [] := by
  have hC := codeS_fc zs zs.length m rfl hn
  unfold irR irC
  refine fc_enter (nt := 19) Try.func49 rfl rfl (by simp) fun w0 ω0 => ?_
  rcases ringC_vals zs m with e | e | e | e
  · rw [e] at hC ⊢
    (refine goes_seq ?_; refine goes_region ?_; apply run_step rfl; (exact stp_assign rfl rfl); apply run_step rfl; (exact stp_assign rfl rfl); refine run_nil ?_; refine fin_seq ?_; refine goes_seq ?_; refine goes_region ?_; apply run_step rfl; (exact stp_move rfl rfl); apply run_step rfl; (exact stp_move rfl rfl); apply run_step rfl; (apply call_gate 89; exact stp_callR hC (by as_aux_lemma => kernel_rfl) rfl rfl ⟨rfl, rfl, trivial⟩ ⟨⟨_, rfl, .inl rfl⟩, trivial⟩ rfl rfl); apply run_step rfl; (exact stp_assign rfl rfl); refine run_nil ?_; refine fin_seq ?_; refine goes_seq ?_; refine goes_seq ?_; refine goes_region ?_; apply run_step rfl; (exact stp_move rfl rfl); apply run_step rfl; (exact stp_bin rfl rfl rfl rfl); apply run_step rfl; (exact stp_move rfl rfl); apply run_gYes rfl rfl rfl; (exact stp_move rfl rfl); apply run_gYes rfl rfl rfl; (exact stp_bin rfl rfl rfl rfl); apply run_step rfl; (exact stp_pickF rfl rfl rfl); refine run_nil ?_; refine fin_seq ?_)
    refine goes_cond rfl (fun e => by cases e) (fun _ => ?_)
    (refine goes_skip ?_; refine fin_seq ?_; refine goes_seq ?_; refine goes_region ?_; apply run_step rfl; (exact stp_move rfl rfl); apply run_step rfl; (exact stp_bin rfl rfl rfl rfl); apply run_step rfl; (exact stp_assign rfl rfl); apply run_step rfl; (exact stp_assign rfl rfl); refine run_nil ?_; refine fin_seq ?_; refine goes_ret ?_)
    exact fin_ret2 (.inl rfl) rfl (.tmp rfl) (.tmp rfl) trivial trivial
  · rw [e] at hC ⊢
    (refine goes_seq ?_; refine goes_region ?_; apply run_step rfl; (exact stp_assign rfl rfl); apply run_step rfl; (exact stp_assign rfl rfl); refine run_nil ?_; refine fin_seq ?_; refine goes_seq ?_; refine goes_region ?_; apply run_step rfl; (exact stp_move rfl rfl); apply run_step rfl; (exact stp_move rfl rfl); apply run_step rfl; (apply call_gate 89; exact stp_callR hC (by as_aux_lemma => kernel_rfl) rfl rfl ⟨rfl, rfl, trivial⟩ ⟨⟨_, rfl, .inl rfl⟩, trivial⟩ rfl rfl); apply run_step rfl; (exact stp_assign rfl rfl); refine run_nil ?_; refine fin_seq ?_; refine goes_seq ?_; refine goes_seq ?_; refine goes_region ?_; apply run_step rfl; (exact stp_move rfl rfl); apply run_step rfl; (exact stp_bin rfl rfl rfl rfl); apply run_step rfl; (exact stp_move rfl rfl); apply run_gNo rfl rfl rfl rfl rfl; apply run_gNo rfl rfl rfl rfl rfl; apply run_step rfl; (exact stp_pickT rfl rfl rfl); refine run_nil ?_; refine fin_seq ?_)
    refine goes_cond rfl (fun _ => ?_) (fun e => by cases e)
    (refine goes_seq ?_; refine goes_region ?_; apply run_step rfl; (exact stp_move rfl rfl); apply run_step rfl; (exact stp_assign rfl rfl); apply run_step rfl; (exact stp_assign rfl rfl); refine run_nil ?_; refine fin_seq ?_; refine goes_ret ?_; refine fin_ret_then ?_)
    exact fin_ret2 (.inl rfl) rfl (.tmp rfl) (.tmp rfl) trivial trivial
  · rw [e] at hC ⊢
    (refine goes_seq ?_; refine goes_region ?_; apply run_step rfl; (exact stp_assign rfl rfl); apply run_step rfl; (exact stp_assign rfl rfl); refine run_nil ?_; refine fin_seq ?_; refine goes_seq ?_; refine goes_region ?_; apply run_step rfl; (exact stp_move rfl rfl); apply run_step rfl; (exact stp_move rfl rfl); apply run_step rfl; (apply call_gate 89; exact stp_callR hC (by as_aux_lemma => kernel_rfl) rfl rfl ⟨rfl, rfl, trivial⟩ ⟨⟨_, rfl, .inl rfl⟩, trivial⟩ rfl rfl); apply run_step rfl; (exact stp_assign rfl rfl); refine run_nil ?_; refine fin_seq ?_; refine goes_seq ?_; refine goes_seq ?_; refine goes_region ?_; apply run_step rfl; (exact stp_move rfl rfl); apply run_step rfl; (exact stp_bin rfl rfl rfl rfl); apply run_step rfl; (exact stp_move rfl rfl); apply run_gYes rfl rfl rfl; (exact stp_move rfl rfl); apply run_gYes rfl rfl rfl; (exact stp_bin rfl rfl rfl rfl); apply run_step rfl; (exact stp_pickF rfl rfl rfl); refine run_nil ?_; refine fin_seq ?_)
    refine goes_cond rfl (fun _ => ?_) (fun e => by cases e)
    (refine goes_seq ?_; refine goes_region ?_; apply run_step rfl; (exact stp_move rfl rfl); apply run_step rfl; (exact stp_assign rfl rfl); apply run_step rfl; (exact stp_assign rfl rfl); refine run_nil ?_; refine fin_seq ?_; refine goes_ret ?_; refine fin_ret_then ?_)
    exact fin_ret2 (.inl rfl) rfl (.tmp rfl) (.tmp rfl) trivial trivial
  · rw [e] at hC ⊢
    (refine goes_seq ?_; refine goes_region ?_; apply run_step rfl; (exact stp_assign rfl rfl); apply run_step rfl; (exact stp_assign rfl rfl); refine run_nil ?_; refine fin_seq ?_; refine goes_seq ?_; refine goes_region ?_; apply run_step rfl; (exact stp_move rfl rfl); apply run_step rfl; (exact stp_move rfl rfl); apply run_step rfl; (apply call_gate 89; exact stp_callR hC (by as_aux_lemma => kernel_rfl) rfl rfl ⟨rfl, rfl, trivial⟩ ⟨⟨_, rfl, .inl rfl⟩, trivial⟩ rfl rfl); apply run_step rfl; (exact stp_assign rfl rfl); refine run_nil ?_; refine fin_seq ?_; refine goes_seq ?_; refine goes_seq ?_; refine goes_region ?_; apply run_step rfl; (exact stp_move rfl rfl); apply run_step rfl; (exact stp_bin rfl rfl rfl rfl); apply run_step rfl; (exact stp_move rfl rfl); apply run_gYes rfl rfl rfl; (exact stp_move rfl rfl); apply run_gYes rfl rfl rfl; (exact stp_bin rfl rfl rfl rfl); apply run_step rfl; (exact stp_pickF rfl rfl rfl); refine run_nil ?_; refine fin_seq ?_)
    refine goes_cond rfl (fun e => by cases e) (fun _ => ?_)
    (refine goes_skip ?_; refine fin_seq ?_; refine goes_seq ?_; refine goes_region ?_; apply run_step rfl; (exact stp_move rfl rfl); apply run_step rfl; (exact stp_bin rfl rfl rfl rfl); apply run_step rfl; (exact stp_assign rfl rfl); apply run_step rfl; (exact stp_assign rfl rfl); refine run_nil ?_; refine fin_seq ?_; refine goes_ret ?_)
    exact fin_ret2 (.inl rfl) rfl (.tmp rfl) (.tmp rfl) trivial trivial
set_option maxRecDepth 100000 in
set_option maxHeartbeats 1000000 in
theorem irI_fc (zs : List Int) (m : Int) (hn : zs.length ≤ 4398046511104) :
    FC Try.prog 50 [(1003, wRo zs)] [o1 (.sl 1003 0 zs.length), vv (I6 m)] [] (.tup [.one (.val (.bool (irR zs m))), .one (.val (I6 (irC zs m)))]) [] := by
  have hI := diagI_fc zs zs.length rfl hn
  unfold irR irC
  refine fc_enter (nt := 32) Try.func50 rfl rfl (by simp) fun w0 ω0 => ?_
  cases hd : isDiag zs with
  | false =>
    rw [hd] at hI
    rw [ringC_no hd]
    (refine goes_seq ?_; refine goes_region ?_; apply run_step rfl; (exact stp_assign rfl rfl); apply run_step rfl; (exact stp_assign rfl rfl); refine run_nil ?_; refine fin_seq ?_; refine goes_seq ?_; refine goes_block ?_; refine goes_seq ?_; refine goes_region ?_; apply run_step rfl; (exact stp_move rfl rfl); apply run_step rfl; (apply call_gate 62; exact stp_callR hI (by as_aux_lemma => kernel_rfl) rfl rfl ⟨rfl, trivial⟩ ⟨⟨_, rfl, .inl rfl⟩, trivial⟩ rfl rfl); apply run_step rfl; (exact stp_not rfl rfl); apply run_step rfl; (exact stp_assign rfl rfl); refine run_nil ?_; refine fin_seq ?_)
    refine goes_cond rfl (fun _ => ?_) (fun e => by cases e)
    (refine goes_seq ?_; refine goes_region ?_; apply run_step rfl; (exact stp_assign rfl rfl); apply run_step rfl; (exact stp_assign rfl rfl); refine run_nil ?_; refine fin_seq ?_; refine goes_ret ?_; refine fin_ret_block ?_; refine fin_ret_then ?_)
    exact fin_ret2 (.inl rfl) rfl (.tmp rfl) (.tmp rfl) trivial trivial
  | true =>
    rw [hd] at hI
    have h4 := isDiag_len hd
    have hM := isMask_fc zs zs.length m rfl h4
    have hA := allI_fc zs zs.length rfl h4
    cases hb : inB m 0 (allN zs) with
    | false =>
      rw [hb] at hM
      rw [ringC_out hd hb]
      (refine goes_seq ?_; refine goes_region ?_; apply run_step rfl; (exact stp_assign rfl rfl); apply run_step rfl; (exact stp_assign rfl rfl); refine run_nil ?_; refine fin_seq ?_; refine goes_seq ?_; refine goes_block ?_; refine goes_seq ?_; refine goes_region ?_; apply run_step rfl; (exact stp_move rfl rfl); apply run_step rfl; (apply call_gate 62; exact stp_callR hI (by as_aux_lemma => kernel_rfl) rfl rfl ⟨rfl, trivial⟩ ⟨⟨_, rfl, .inl rfl⟩, trivial⟩ rfl rfl); apply run_step rfl; (exact stp_not rfl rfl); apply run_step rfl; (exact stp_assign rfl rfl); refine run_nil ?_; refine fin_seq ?_)
      refine goes_cond rfl (fun e => by cases e) (fun _ => ?_)
      (refine goes_seq ?_; refine goes_region ?_; apply run_step rfl; (exact stp_move rfl rfl); apply run_step rfl; (exact stp_move rfl rfl); apply run_step rfl; (apply call_gate 85; exact stp_callR hM (by as_aux_lemma => kernel_rfl) rfl rfl ⟨rfl, rfl, trivial⟩ ⟨⟨_, rfl, .inl rfl⟩, trivial⟩ rfl rfl); apply run_step rfl; (exact stp_not rfl rfl); apply run_step rfl; (exact stp_assign rfl rfl); refine run_nil ?_; refine fin_seq ?_)
      refine goes_cond rfl (fun _ => ?_) (fun e => by cases e)
      (refine goes_seq ?_; refine goes_region ?_; apply run_step rfl; (exact stp_assign rfl rfl); apply run_step rfl; (exact stp_assign rfl rfl); refine run_nil ?_; refine fin_seq ?_; refine goes_ret ?_; refine fin_ret_block ?_; refine fin_ret_then ?_)
      exact fin_ret2 (.inl rfl) rfl (.tmp rfl) (.tmp rfl) trivial trivial
    | true =>
      rw [hb] at hM
      have hlt := allN_lt h4
      have hbb := inB_true.1 hb
      obtain ⟨k, rfl⟩ := Int.eq_ofNat_of_zero_le hbb.1
      cases hf : finB zs (allN zs) with
      | false =>
        have hO := ordNo_fc zs zs.length (allN zs) rfl hd (by omega) hf
        rw [ringC_inf hd hb hf]
        (refine goes_seq ?_; refine goes_region ?_; apply run_step rfl; (exact stp_assign rfl rfl); apply run_step rfl; (exact stp_assign rfl rfl); refine run_nil ?_; refine fin_seq ?_; refine goes_seq ?_; refine goes_block ?_; refine goes_seq ?_; refine goes_region ?_; apply run_step rfl; (exact stp_move rfl rfl); apply run_step rfl; (apply call_gate 62; exact stp_callR hI (by as_aux_lemma => kernel_rfl) rfl rfl ⟨rfl, trivial⟩ ⟨⟨_, rfl, .inl rfl⟩, trivial⟩ rfl rfl); apply run_step rfl; (exact stp_not rfl rfl); apply run_step rfl; (exact stp_assign rfl rfl); refine run_nil ?_; refine fin_seq ?_)
        refine goes_cond rfl (fun e => by cases e) (fun _ => ?_)
        (refine goes_seq ?_; refine goes_region ?_; apply run_step rfl; (exact stp_move rfl rfl); apply run_step rfl; (exact stp_move rfl rfl); apply run_step rfl; (apply call_gate 85; exact stp_callR hM (by as_aux_lemma => kernel_rfl) rfl rfl ⟨rfl, rfl, trivial⟩ ⟨⟨_, rfl, .inl rfl⟩, trivial⟩ rfl rfl); apply run_step rfl; (exact stp_not rfl rfl); apply run_step rfl; (exact stp_assign rfl rfl); refine run_nil ?_; refine fin_seq ?_)
        refine goes_cond rfl (fun e => by cases e) (fun _ => ?_)
        (refine goes_skip ?_; refine fin_block ?_; refine fin_seq ?_; refine goes_seq ?_; refine goes_region ?_; apply run_step rfl; (exact stp_move rfl rfl); apply run_step rfl; (exact stp_move rfl rfl); apply run_step rfl; (first | (apply call_gate 64; exact stp_callR hA (by as_aux_lemma => kernel_rfl) rfl rfl ⟨rfl, trivial⟩ ⟨⟨_, rfl, .inl rfl⟩, trivial⟩ rfl rfl) | (apply call_gate 86; exact stp_callR hO (by as_aux_lemma => kernel_rfl) rfl rfl ⟨rfl, rfl, trivial⟩ ⟨⟨_, rfl, .inl rfl⟩, trivial⟩ rfl rfl)); apply run_step rfl; (first | (apply call_gate 64; exact stp_callR hA (by as_aux_lemma => kernel_rfl) rfl rfl ⟨rfl, trivial⟩ ⟨⟨_, rfl, .inl rfl⟩, trivial⟩ rfl rfl) | (apply call_gate 86; exact stp_callR hO (by as_aux_lemma => kernel_rfl) rfl rfl ⟨rfl, rfl, trivial⟩ ⟨⟨_, rfl, .inl rfl⟩, trivial⟩ rfl rfl)); apply run_step rfl; (exact stp_move rfl rfl); apply run_step rfl; (exact stp_extract rfl rfl rfl); apply run_step rfl; (exact stp_extract rfl rfl rfl); apply run_step rfl; (exact stp_assign rfl rfl); apply run_step rfl; (exact stp_assign rfl rfl); refine run_nil ?_; refine fin_seq ?_; refine goes_seq ?_; refine goes_region ?_; apply run_step rfl; (exact stp_move rfl rfl); apply run_step rfl; (exact stp_move rfl rfl); apply run_gNo rfl rfl rfl rfl rfl; apply run_gNo rfl rfl rfl rfl rfl; apply run_gNo rfl rfl rfl rfl rfl; apply run_gNo rfl rfl rfl rfl rfl; apply run_gNo rfl rfl rfl rfl rfl; apply run_step rfl; (exact stp_pickF rfl rfl rfl); apply run_step rfl; (exact stp_assign rfl rfl); apply run_step rfl; (exact stp_assign rfl rfl); refine run_nil ?_; refine fin_seq ?_; refine goes_ret ?_)
        exact fin_ret2 (.inl rfl) rfl (.tmp rfl) (.tmp rfl) trivial trivial
      | true =>
        have hO := ordYes_fc zs zs.length (allN zs) rfl hd (by omega) hf
        have hG := adm_fc zs zs.length k (allN zs) rfl h4 (by omega) (by omega)
        rw [ringC_in hd hb hf]
        have e1 : ((if admB zs (allN zs) k = true then (0 : Int) else 5) == 0) = admB zs (allN zs) k := by
          cases admB zs (allN zs) k <;> rfl
        have e2 : (if (if admB zs (allN zs) k = true then (0 : Int) else 5) = 1 then (1 : Int) else if (if admB zs (allN zs) k = true then (0 : Int) else 5) = 2 then 2 else 0) = 0 := by
          cases admB zs (allN zs) k <;> rfl
        rw [e1, e2]
        (refine goes_seq ?_; refine goes_region ?_; apply run_step rfl; (exact stp_assign rfl rfl); apply run_step rfl; (exact stp_assign rfl rfl); refine run_nil ?_; refine fin_seq ?_; refine goes_seq ?_; refine goes_block ?_; refine goes_seq ?_; refine goes_region ?_; apply run_step rfl; (exact stp_move rfl rfl); apply run_step rfl; (apply call_gate 62; exact stp_callR hI (by as_aux_lemma => kernel_rfl) rfl rfl ⟨rfl, trivial⟩ ⟨⟨_, rfl, .inl rfl⟩, trivial⟩ rfl rfl); apply run_step rfl; (exact stp_not rfl rfl); apply run_step rfl; (exact stp_assign rfl rfl); refine run_nil ?_; refine fin_seq ?_)
        refine goes_cond rfl (fun e => by cases e) (fun _ => ?_)
        (refine goes_seq ?_; refine goes_region ?_; apply run_step rfl; (exact stp_move rfl rfl); apply run_step rfl; (exact stp_move rfl rfl); apply run_step rfl; (apply call_gate 85; exact stp_callR hM (by as_aux_lemma => kernel_rfl) rfl rfl ⟨rfl, rfl, trivial⟩ ⟨⟨_, rfl, .inl rfl⟩, trivial⟩ rfl rfl); apply run_step rfl; (exact stp_not rfl rfl); apply run_step rfl; (exact stp_assign rfl rfl); refine run_nil ?_; refine fin_seq ?_)
        refine goes_cond rfl (fun e => by cases e) (fun _ => ?_)
        (refine goes_skip ?_; refine fin_block ?_; refine fin_seq ?_; refine goes_seq ?_; refine goes_region ?_; apply run_step rfl; (exact stp_move rfl rfl); apply run_step rfl; (exact stp_move rfl rfl); apply run_step rfl; (first | (apply call_gate 64; exact stp_callR hA (by as_aux_lemma => kernel_rfl) rfl rfl ⟨rfl, trivial⟩ ⟨⟨_, rfl, .inl rfl⟩, trivial⟩ rfl rfl) | (apply call_gate 86; exact stp_callR hO (by as_aux_lemma => kernel_rfl) rfl rfl ⟨rfl, rfl, trivial⟩ ⟨⟨_, rfl, .inl rfl⟩, trivial⟩ rfl rfl) | (apply call_gate 90; exact stp_callR hG (by as_aux_lemma => kernel_rfl) rfl rfl ⟨rfl, rfl, rfl, trivial⟩ ⟨⟨_, rfl, .inl rfl⟩, trivial⟩ rfl rfl)); apply run_step rfl; (first | (apply call_gate 64; exact stp_callR hA (by as_aux_lemma => kernel_rfl) rfl rfl ⟨rfl, trivial⟩ ⟨⟨_, rfl, .inl rfl⟩, trivial⟩ rfl rfl) | (apply call_gate 86; exact stp_callR hO (by as_aux_lemma => kernel_rfl) rfl rfl ⟨rfl, rfl, trivial⟩ ⟨⟨_, rfl, .inl rfl⟩, trivial⟩ rfl rfl) | (apply call_gate 90; exact stp_callR hG (by as_aux_lemma => kernel_rfl) rfl rfl ⟨rfl, rfl, rfl, trivial⟩ ⟨⟨_, rfl, .inl rfl⟩, trivial⟩ rfl rfl)); apply run_step rfl; (exact stp_move rfl rfl); apply run_step rfl; (exact stp_extract rfl rfl rfl); apply run_step rfl; (exact stp_extract rfl rfl rfl); apply run_step rfl; (exact stp_assign rfl rfl); apply run_step rfl; (exact stp_assign rfl rfl); refine run_nil ?_; refine fin_seq ?_; refine goes_seq ?_; refine goes_region ?_; apply run_step rfl; (exact stp_move rfl rfl); apply run_step rfl; (exact stp_move rfl rfl); apply run_gYes rfl rfl rfl; (exact stp_move rfl rfl); apply run_gYes rfl rfl rfl; (exact stp_move rfl rfl); apply run_gYes rfl rfl rfl; (exact stp_move rfl rfl); apply run_gYes rfl rfl rfl; (first | (apply call_gate 64; exact stp_callR hA (by as_aux_lemma => kernel_rfl) rfl rfl ⟨rfl, trivial⟩ ⟨⟨_, rfl, .inl rfl⟩, trivial⟩ rfl rfl) | (apply call_gate 86; exact stp_callR hO (by as_aux_lemma => kernel_rfl) rfl rfl ⟨rfl, rfl, trivial⟩ ⟨⟨_, rfl, .inl rfl⟩, trivial⟩ rfl rfl) | (apply call_gate 90; exact stp_callR hG (by as_aux_lemma => kernel_rfl) rfl rfl ⟨rfl, rfl, rfl, trivial⟩ ⟨⟨_, rfl, .inl rfl⟩, trivial⟩ rfl rfl)); apply run_gYes rfl rfl rfl; (first | (apply call_gate 64; exact stp_callR hA (by as_aux_lemma => kernel_rfl) rfl rfl ⟨rfl, trivial⟩ ⟨⟨_, rfl, .inl rfl⟩, trivial⟩ rfl rfl) | (apply call_gate 86; exact stp_callR hO (by as_aux_lemma => kernel_rfl) rfl rfl ⟨rfl, rfl, trivial⟩ ⟨⟨_, rfl, .inl rfl⟩, trivial⟩ rfl rfl) | (apply call_gate 90; exact stp_callR hG (by as_aux_lemma => kernel_rfl) rfl rfl ⟨rfl, rfl, rfl, trivial⟩ ⟨⟨_, rfl, .inl rfl⟩, trivial⟩ rfl rfl)); apply run_step rfl; (exact stp_pickT rfl rfl rfl); apply run_step rfl; (exact stp_assign rfl rfl); apply run_step rfl; (exact stp_assign rfl rfl); refine run_nil ?_; refine fin_seq ?_; refine goes_ret ?_)
        exact fin_ret2 (.inl rfl) rfl (.tmp rfl) (.tmp rfl) trivial trivial

theorem api_specIr {E : Nat} {lo hi : Nat} {v : Value} {zs : List Int} (m : Int) (w : World) (h : OwnS E w lo hi v zs) :
    Calls Try.prog 49 #[v, .int .i64 m] w fun e w' => e = .returned (.tuple #[.bool (irR zs m), .int .i64 (irC zs m)]) ∧ Below w.heap.size w w' := two_vals (callSI m (fun k => irS_fc zs m k) h)
theorem api_implIr {E : Nat} {lo hi : Nat} {v : Value} {zs : List Int} (m : Int) (w : World) (h : OwnS E w lo hi v zs) :
    Calls Try.prog 50 #[v, .int .i64 m] w fun e w' => e = .returned (.tuple #[.bool (irR zs m), .int .i64 (irC zs m)]) ∧ Below w.heap.size w w' := two_vals (callSI m (fun k => irI_fc zs m k) h)
end Go.Proofs.Ytlpeghdbjfnenaa

/- The walk of FnExactIsRinged: true, whatever the arguments. Written by genwalk.py. -/
namespace Go.Proofs.Ytlpeghdbjfnenaa
open Go.RowKit

set_option maxHeartbeats 3200000 in
theorem walkIsRinged {a0 : Option Addr} {n0 c0 : Nat} {zs : List Int} (m : Int) (w : World) (h0 : Ints w a0 n0 zs) (_hw : (Lit.int .i64 m).wf = true) :
    Calls Try.prog 11 #[.slice a0 n0 c0, .int .i64 m] w fun e w' => e = .returned (.bool true) ∧ Below w.heap.size w w' := by
  have B0 : Below w.heap.size w w := Below.refl _ _
  have hb0 := h0.2.1
  by_cases hs0 : n0 ≤ 1048576
  · have g0 : decide ((1048576 : Int) < n0) = false := by simp; omega
    have hl0 : zs.length = n0 := h0.1
    have HL0 := Lib.hid hl0
    clear hl0
    go_enter Try.func11, Try.ntmps11
    go_wp2_with fail
    refine (law_toS _ (show RdS _ _ _ from ⟨_, _, _, rfl, (h0.below B0)⟩) (by rw [HL0.out]; omega)).mono ?_
    rintro e w1 ⟨u1, rfl, o1, b1⟩
    have s1 := b1.size
    have B1 : Below w.heap.size w w1 := B0.trans (b1.mono B0.size)
    go_wp2_with fail
    refine (api_specIr m _ o1 ).mono ?_
    rintro e w2 ⟨rfl, b2⟩
    have s2 := b2.size
    have B2 : Below w.heap.size w w2 := B1.trans (b2.mono B1.size)
    go_wp2_with fail
    refine (law_toS _ (show RdS _ _ _ from ⟨_, _, _, rfl, (h0.below B2)⟩) (by rw [HL0.out]; omega)).mono ?_
    rintro e w3 ⟨u3, rfl, o3, b3⟩
    have s3 := b3.size
    have B3 : Below w.heap.size w w3 := B2.trans (b3.mono B2.size)
    go_wp2_with fail
    refine (api_implIr m _ o3 ).mono ?_
    rintro e w4 ⟨rfl, b4⟩
    have s4 := b4.size
    have B4 : Below w.heap.size w w4 := B3.trans (b4.mono B3.size)
    go_wp2_with fail
    refine (law_toS _ (show RdS _ _ _ from ⟨_, _, _, rfl, (h0.below B4)⟩) (by rw [HL0.out]; omega)).mono ?_
    rintro e w5 ⟨u5, rfl, o5, b5⟩
    have s5 := b5.size
    have B5 : Below w.heap.size w w5 := B4.trans (b5.mono B4.size)
    go_wp2_with fail
    refine (law_eqS _ ((o3.below b4).below b5).rd o5.rd).mono ?_
    rintro e w6 ⟨rfl, b6⟩
    have s6 := b6.size
    have B6 : Below w.heap.size w w6 := B5.trans (b6.mono B5.size)
    go_wp2
    go_ret
    exact ⟨rfl, B6⟩
  · have g0 : decide ((1048576 : Int) < n0) = true := by simp; omega
    go_enter Try.func11, Try.ntmps11
    go_wp2
    go_ret
    exact ⟨rfl, B0⟩
end Go.Proofs.Ytlpeghdbjfnenaa
