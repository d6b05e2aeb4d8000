/- Whether each component of a set has a ringed node: lists; the program's. guards: -/
import Derived.Test.YtlpeghdbjfnenaaPart7
namespace Go.Proofs.Ytlpeghdbjfnenaa
open Go.RowKit

def ringB (r : Nat) (p : Nat × List Int) : Bool := !((p.1 &&& r) == 0)
def admB (zs : List Int) (set r : Nat) : Bool := (comps zs set).all (ringB r)
/-- the first component without a ringed node, -1 if there is none -/
def idxZ (ps : Cmps) (r : Nat) : Int := match ps.findIdx? (fun p => !ringB r p) with | some k => (k : Int) | none => -1
theorem idxZ_hit {ps : Cmps} {r j : Nat} (hj : j < ps.length) (h1 : ∀ x, x < j → ringB r (cget ps x) = true) (h2 : ringB r (cget ps j) = false) : idxZ ps r = j := by
  have : ps.findIdx? (fun p => !ringB r p) = some j := by
    rw [List.findIdx?_eq_some_iff_getElem]
    refine ⟨hj, by rw [← cget_lt hj, h2]; rfl, fun x hx => ?_⟩
    have := h1 x hx
    rw [cget_lt (by omega)] at this
    rw [this]; simp
  unfold idxZ; rw [this]
theorem idxZ_none {ps : Cmps} {r : Nat} (h1 : ∀ x, x < ps.length → ringB r (cget ps x) = true) : idxZ ps r = -1 := by
  have : ps.findIdx? (fun p => !ringB r p) = none := by
    rw [List.findIdx?_eq_none_iff]
    intro p hp
    obtain ⟨x, hx, rfl⟩ := List.getElem_of_mem hp
    have := h1 x hx
    rw [cget_lt hx] at this
    rw [this]; rfl
  unfold idxZ; rw [this]
theorem idxZ_adm (ps : Cmps) (r : Nat) : (!decide (idxZ ps r ≥ 0)) = ps.all (ringB r) := by
  cases h : ps.all (ringB r) with
  | true =>
    rw [List.all_eq_true] at h
    rw [idxZ_none fun x hx => h _ (cget_mem hx)]; rfl
  | false =>
    have : ∃ k, ps.findIdx? (fun p => !ringB r p) = some k := by
      cases hf : ps.findIdx? (fun p => !ringB r p) with
      | some k => exact ⟨k, rfl⟩
      | none =>
        rw [List.findIdx?_eq_none_iff] at hf
        have : ps.all (ringB r) = true := List.all_eq_true.2 fun p hp => by simpa using hf p hp
        rw [this] at h; cases h
    obtain ⟨k, hk⟩ := this
    unfold idxZ; rw [hk]; simp
abbrev bxRo (r : Nat) : Ch := ⟨false, 2, 1, .flat [.val (I6 (r : Int))]⟩
set_option maxRecDepth 100000 in
theorem clo_fc (cs : List Cel) (mv r i m : Nat) (labs : List Int) (hi : cs[i]? = some (.r 2 1 m (ivals labs))) (hmv : mv < 1000000) (hr : r < 1000000) :
    FC Try.prog 131 [(1000, cxRo cs), (1006, bxRo r)] [cA mv i m, o1 (.ptr 1006 0)] [] (vv (.bool (decide (((mv &&& r : Nat) : Int) = 0)))) [] := by
  refine fc_enter (nt := 9) Try.func131 rfl rfl (by simp) fun w0 ω0 => ?_
  (refine goes_seq ?_; refine goes_region ?_; apply run_step rfl; (exact stp_box rfl rfl rfl rfl); apply run_step rfl; (exact stp_assign rfl rfl); refine run_nil ?_; refine fin_seq ?_; refine goes_seq ?_; refine goes_region ?_; apply run_step rfl; (exact stp_fieldAddr (d := 0) rfl rfl rfl (by as_aux_lemma => kernel_rfl)); apply run_step rfl; (exact stp_loadF rfl (by as_aux_lemma => kernel_rfl) rfl rfl rfl rfl); apply run_step rfl; (exact stp_loadF rfl (by as_aux_lemma => kernel_rfl) rfl rfl rfl rfl); apply run_step rfl; (exact stp_andN rfl rfl rfl hmv hr); apply run_step rfl; (exact stp_bin rfl rfl rfl rfl); apply run_step rfl; (exact stp_assign rfl rfl); refine run_nil ?_; refine fin_seq ?_; refine goes_ret ?_)
  exact fin_ret1 (.inl rfl) rfl (.tmp rfl) trivial trivial
set_option maxRecDepth 100000 in
theorem idx_fc (ps : Cmps) (N r : Nat) (hN : ps.length = N) (h5 : N ≤ 5) (hr : r < 1000000) (hm : ∀ k, k < N → (cget ps k).1 < 1000000) :
    FC Try.prog 146 [(1000, cxRo (mixC ps)), (1006, bxRo r)] [o1 (.sl 1000 0 N), o1 (.clo (.func 131) [(1006, 0)])] [] (vv (I6 (idxZ ps r))) [] := by
  refine fc_enter (nt := 19) Try.func146 rfl rfl (by simp) fun w0 ω0 => ?_
  have hmx := mixC_len ps
  rw [hN] at hmx
  (refine goes_seq ?_; refine goes_region ?_; apply run_step rfl; (exact stp_assign rfl rfl); refine run_nil ?_; refine fin_seq ?_; refine goes_seq ?_; refine goes_seq ?_; refine goes_region ?_; apply run_step rfl; (exact stp_move rfl rfl); apply run_step rfl; (exact stp_len rfl rfl rfl (by as_aux_lemma => kernel_rfl)); apply run_step rfl; (exact stp_move rfl rfl); refine run_nil ?_; refine fin_seq ?_; refine goes_block ?_)
  refine goes_loop (fun j : Nat => St.of [(0, o1 (.sl 1000 0 N)), (1, o1 (.clo (.func 131) [(1006, 0)])), (7, vv (I6 N)), (8, vv (I6 j))] [(1000, cxRo (mixC ps)), (1006, bxRo r)]) (fun j => j ≤ N ∧ ∀ x, x < j → ringB r (cget ps x) = true) (fun j => N - j) 0 ⟨Nat.zero_le _, fun x hx => absurd hx (by omega)⟩ (Wk.of ⟨rfl, rfl, rfl, rfl, trivial⟩ ⟨rfl, rfl, trivial⟩ trivial) ?_
  rintro j ⟨hj, hall⟩
  (refine goes_seq ?_; refine goes_region ?_; apply run_step rfl; (exact stp_bin rfl rfl rfl rfl); refine run_nil ?_; refine fin_seq ?_; refine goes_seq ?_)
  refine goes_if rfl (fun hlt => ?_) (fun hlt => ?_)
  · have hjN : j < N := by omega
    have hjp : j < ps.length := by omega
    have hagg := comp_agg hjp 1000
    have hcel := (mixC_get hjp).2
    have hix : N * 2 ≤ (mixC ps).length := Nat.le_of_eq hmx.symm
    have hmk := hm j hjN
    have hC := clo_fc (mixC ps) (cget ps j).1 r (j * 2 + 1) (cget ps j).2.length (cget ps j).2 hcel hmk hr
    have hrb : ringB r (cget ps j) = !decide ((((cget ps j).1 &&& r : Nat) : Int) = 0) := by
      unfold ringB
      congr 1
      by_cases e : (cget ps j).1 &&& r = 0
      · rw [e]; rfl
      · rw [decide_eq_false (by omega), beq_eq_false_iff_ne]; exact e
    (refine goes_skip ?_; refine fin_seq ?_; refine goes_seq ?_; refine goes_block ?_; refine goes_seq ?_; refine goes_region ?_; apply run_step rfl; (exact stp_move rfl rfl); apply run_step rfl; (exact stp_assign rfl rfl); refine run_nil ?_; refine fin_seq ?_; refine goes_seq ?_; refine goes_region ?_; apply run_step rfl; (exact stp_move rfl rfl); apply run_step rfl; (exact stp_move rfl rfl); apply run_step rfl; (exact stp_move rfl rfl); apply run_step rfl; (first | exact stp_ixT (k := 2) (j := j) rfl rfl rfl rfl rfl (by as_aux_lemma => kernel_rfl) rfl hjN hix (by omega) rfl | exact stp_loadAggD (k := 2) rfl rfl rfl rfl rfl (by as_aux_lemma => kernel_rfl) hagg | exact stp_callC (args := [cA ((cget ps j).1 : Nat) (j * 2 + 1) (cget ps j).2.length]) rfl hC (by as_aux_lemma => kernel_rfl) rfl rfl ⟨⟨.inl rfl, .inl rfl, trivial⟩, trivial⟩ ⟨⟨_, rfl, .inl rfl⟩, ⟨_, rfl, .inl rfl⟩, trivial⟩ rfl rfl); apply run_step rfl; (first | exact stp_ixT (k := 2) (j := j) rfl rfl rfl rfl rfl (by as_aux_lemma => kernel_rfl) rfl hjN hix (by omega) rfl | exact stp_loadAggD (k := 2) rfl rfl rfl rfl rfl (by as_aux_lemma => kernel_rfl) hagg | exact stp_callC (args := [cA ((cget ps j).1 : Nat) (j * 2 + 1) (cget ps j).2.length]) rfl hC (by as_aux_lemma => kernel_rfl) rfl rfl ⟨⟨.inl rfl, .inl rfl, trivial⟩, trivial⟩ ⟨⟨_, rfl, .inl rfl⟩, ⟨_, rfl, .inl rfl⟩, trivial⟩ rfl rfl); apply run_step rfl; (first | exact stp_ixT (k := 2) (j := j) rfl rfl rfl rfl rfl (by as_aux_lemma => kernel_rfl) rfl hjN hix (by omega) rfl | exact stp_loadAggD (k := 2) rfl rfl rfl rfl rfl (by as_aux_lemma => kernel_rfl) hagg | exact stp_callC (args := [cA ((cget ps j).1 : Nat) (j * 2 + 1) (cget ps j).2.length]) rfl hC (by as_aux_lemma => kernel_rfl) rfl rfl ⟨⟨.inl rfl, .inl rfl, trivial⟩, trivial⟩ ⟨⟨_, rfl, .inl rfl⟩, ⟨_, rfl, .inl rfl⟩, trivial⟩ rfl rfl); refine run_nil ?_; refine fin_seq ?_)
    refine goes_cond rfl (fun e => ?_) (fun e => ?_)
    · rw [e] at hrb
      rw [idxZ_hit hjp hall (by rw [hrb]; rfl)]
      (refine goes_seq ?_; refine goes_region ?_; apply run_step rfl; (exact stp_move rfl rfl); apply run_step rfl; (exact stp_assign rfl rfl); refine run_nil ?_; refine fin_seq ?_; refine goes_ret ?_; refine fin_ret_block ?_; refine fin_ret_then ?_; refine fin_ret_then ?_; refine fin_ret_block ?_; refine fin_ret_then ?_)
      exact fin_ret1 (.inl rfl) rfl (.tmp rfl) trivial trivial
    · rw [e] at hrb
      (refine goes_skip ?_; refine fin_block ?_; refine fin_seq ?_; refine goes_region ?_; apply run_step rfl; (exact stp_add rfl rfl rfl (by first | exact IntWalk.i64_in _ (by omega) | rfl)); apply run_step rfl; (exact stp_move rfl rfl); refine run_nil ?_)
      exact fin_round (j + 1) ⟨by omega, fun x hx => by
        by_cases ex : x = j
        · rw [ex, hrb]; rfl
        · exact hall x (by omega)⟩ (by omega) (Wk.of ⟨rfl, rfl, rfl, rfl, trivial⟩ ⟨rfl, rfl, trivial⟩ trivial)
  · obtain rfl : j = N := by omega
    rw [idxZ_none fun x hx => hall x (by omega)]
    (refine goes_exit ?_; refine fin_exit_then ?_; refine fin_exit_then ?_; refine fin_exit_eq ?_; refine fin_seq ?_; refine goes_seq ?_; refine goes_region ?_; apply run_step rfl; (exact stp_assign rfl rfl); refine run_nil ?_; refine fin_seq ?_; refine goes_ret ?_)
    exact fin_ret1 (.inl rfl) rfl (.tmp rfl) trivial trivial
set_option maxRecDepth 100000 in
theorem has_fc (ps : Cmps) (N r : Nat) (hN : ps.length = N) (h5 : N ≤ 5) (hr : r < 1000000) (hm : ∀ k, k < N → (cget ps k).1 < 1000000) :
    FC Try.prog 130 [(1000, cxRo (mixC ps)), (1006, bxRo r)] [o1 (.sl 1000 0 N), o1 (.clo (.func 131) [(1006, 0)])] [] (vv (.bool (decide (idxZ ps r ≥ 0)))) [] := by
  have hI := idx_fc ps N r hN h5 hr hm
  refine fc_enter (nt := 9) Try.func130 rfl rfl (by simp) fun w0 ω0 => ?_
  (refine goes_seq ?_; refine goes_region ?_; apply run_step rfl; (exact stp_assign rfl rfl); refine run_nil ?_; refine fin_seq ?_; refine goes_seq ?_; refine goes_region ?_; apply run_step rfl; (exact stp_move rfl rfl); apply run_step rfl; (exact stp_move rfl rfl); apply run_step rfl; (apply call_gate 146; exact stp_callR hI (by as_aux_lemma => kernel_rfl) rfl rfl ⟨rfl, rfl, trivial⟩ ⟨⟨_, rfl, .inl rfl⟩, ⟨_, rfl, .inl rfl⟩, trivial⟩ rfl rfl); apply run_step rfl; (exact stp_bin rfl rfl rfl rfl); apply run_step rfl; (exact stp_assign rfl rfl); refine run_nil ?_; refine fin_seq ?_; refine goes_ret ?_)
  exact fin_ret1 (.inl rfl) rfl (.tmp rfl) trivial trivial
theorem comps_len5 {zs : List Int} (h4 : zs.length ≤ 4) (mask : Nat) : (comps zs mask).length ≤ 5 := by
  have h1 := csum_len (comps zs mask); have h2 := (comps_ok zs mask).sum; omega
theorem comps_lt {zs : List Int} (h4 : zs.length ≤ 4) (mask : Nat) : ∀ k, k < (comps zs mask).length → (cget (comps zs mask) k).1 < 1000000 := fun k hk => by
  have h1 := (comps_ok zs mask).lt _ (cget_mem hk)
  have h2 : 2 ^ (zs.length + 1) ≤ 2 ^ 5 := Nat.pow_le_pow_right (by decide) (by omega)
  omega
set_option maxRecDepth 100000 in
theorem adm_fc (zs : List Int) (L r set : Nat) (hL : zs.length = L) (h4 : L ≤ 4) (hr : r < 1000) (hs : set < 1000) :
    FC Try.prog 90 [(1003, wRo zs)] [o1 (.sl 1003 0 L), vv (I6 r), vv (I6 set)] [] (vv (.bool (admB zs set r))) [] := by
  have hC := (comps_fc zs L set hL h4 hs).nm [(1003, 1003), (2000, 9)] (by kernel_rfl)
  have hC : FC Try.prog 63 [(1003, wRo zs)] [o1 (.sl 1003 0 L), vv (I6 set)] [(9, cpOw (comps zs set))] (o1 (.sl 9 0 (comps zs set).length)) [] := hC
  have hH := (has_fc (comps zs set) (comps zs set).length r rfl (comps_len5 (by omega) set) (by omega) (comps_lt (by omega) set)).nm [(1000, 9), (1006, 4)] (by kernel_rfl)
  have hH : FC Try.prog 130 [(9, cxRo (mixC (comps zs set))), (4, bxRo r)] [o1 (.sl 9 0 (comps zs set).length), o1 (.clo (.func 131) [(4, 0)])] [] (vv (.bool (decide (idxZ (comps zs set) r ≥ 0)))) [] := hH
  have hv : admB zs set r = !decide (idxZ (comps zs set) r ≥ 0) := (idxZ_adm _ _).symm
  rw [hv]
  refine fc_enter (nt := 13) Try.func90 rfl rfl (by simp) fun w0 ω0 => ?_
  (refine goes_seq ?_; refine goes_region ?_; apply run_step rfl; (exact stp_box rfl rfl rfl rfl); apply run_step rfl; (exact stp_assign rfl rfl); refine run_nil ?_; refine fin_seq ?_; refine goes_seq ?_; refine goes_region ?_; apply run_step rfl; (exact stp_move rfl rfl); apply run_step rfl; (exact stp_move rfl rfl); apply run_step rfl; (first | (apply call_gate 63; exact stp_callN hC (by as_aux_lemma => kernel_rfl) rfl rfl ⟨rfl, rfl, trivial⟩ ⟨⟨_, rfl, .inl rfl⟩, trivial⟩ rfl rfl rfl) | exact stp_makeFunc rfl rfl | (apply call_gate 130; exact stp_callR hH (by as_aux_lemma => kernel_rfl) rfl rfl ⟨rfl, rfl, trivial⟩ ⟨⟨_, rfl, .inr rfl⟩, ⟨_, rfl, .inr rfl⟩, trivial⟩ rfl rfl)); apply run_step rfl; (first | (apply call_gate 63; exact stp_callN hC (by as_aux_lemma => kernel_rfl) rfl rfl ⟨rfl, rfl, trivial⟩ ⟨⟨_, rfl, .inl rfl⟩, trivial⟩ rfl rfl rfl) | exact stp_makeFunc rfl rfl | (apply call_gate 130; exact stp_callR hH (by as_aux_lemma => kernel_rfl) rfl rfl ⟨rfl, rfl, trivial⟩ ⟨⟨_, rfl, .inr rfl⟩, ⟨_, rfl, .inr rfl⟩, trivial⟩ rfl rfl)); apply run_step rfl; (first | (apply call_gate 63; exact stp_callN hC (by as_aux_lemma => kernel_rfl) rfl rfl ⟨rfl, rfl, trivial⟩ ⟨⟨_, rfl, .inl rfl⟩, trivial⟩ rfl rfl rfl) | exact stp_makeFunc rfl rfl | (apply call_gate 130; exact stp_callR hH (by as_aux_lemma => kernel_rfl) rfl rfl ⟨rfl, rfl, trivial⟩ ⟨⟨_, rfl, .inr rfl⟩, ⟨_, rfl, .inr rfl⟩, trivial⟩ rfl rfl)); apply run_step rfl; (exact stp_not rfl rfl); apply run_step rfl; (exact stp_assign rfl rfl); refine run_nil ?_; refine fin_seq ?_; refine goes_ret ?_)
  exact fin_ret1 (.inl rfl) rfl (.tmp rfl) trivial trivial
end Go.Proofs.Ytlpeghdbjfnenaa

/- Whether each component of a set has a ringed node: the reference's. guards: -/
namespace Go.Proofs.Ytlpeghdbjfnenaa
open Go.RowKit

def gB (r : Nat) (ps : Cmps) : Bool := ps.dropLast.all (ringB r)
def rB (r : Nat) (ps : Cmps) : Bool := match ps.getLast? with | none => true | some p => ringB r p
theorem gB_app (r : Nat) (qs : Cmps) (p : Nat × List Int) : gB r (qs ++ [p]) = qs.all (ringB r) := by unfold gB; rw [List.dropLast_concat]
theorem rB_app (r : Nat) (qs : Cmps) (p : Nat × List Int) : rB r (qs ++ [p]) = ringB r p := by unfold rB; rw [List.getLast?_concat]
theorem cmps_cases (ps : Cmps) : ps = [] ∨ ∃ qs p, ps = qs ++ [p] := by
  rcases List.eq_nil_or_concat ps with h | ⟨qs, p, h⟩
  · exact .inl h
  · exact .inr ⟨qs, p, by rw [h, List.concat_eq_append]⟩
theorem all_gr (r : Nat) (ps : Cmps) : ps.all (ringB r) = (gB r ps && rB r ps) := by
  rcases cmps_cases ps with rfl | ⟨qs, p, rfl⟩
  · rfl
  · rw [gB_app, rB_app, List.all_append, List.all_cons, List.all_nil, Bool.and_true]
theorem ring_one (r i : Nat) (l : List Int) : ringB r (2 ^ i, l) = mBit r i := by
  unfold ringB
  have h : mBit r i = r.testBit i := by unfold mBit; rw [Nat.testBit_eq_decide_div_mod_eq]; rfl
  rw [h]
  show (!(2 ^ i &&& r == 0)) = _
  cases hb : r.testBit i with
  | true =>
    have : 2 ^ i &&& r ≠ 0 := fun e => by
      have h2 : (2 ^ i &&& r).testBit i = true := by rw [Nat.testBit_and, Nat.testBit_two_pow_self, hb]; rfl
      rw [e] at h2; simp at h2
    simpa using this
  | false =>
    have : 2 ^ i &&& r = 0 := by
      apply Nat.eq_of_testBit_eq
      intro j
      rw [Nat.testBit_and, Nat.zero_testBit, Nat.testBit_two_pow]
      by_cases e : i = j
      · rw [← e, hb]; simp
      · simp [e]
    rw [this]; rfl
theorem ring_or (r m i : Nat) (l l' : List Int) : ringB r (m ||| 2 ^ i, l) = (ringB r (m, l') || mBit r i) := by
  rw [← ring_one r i []]
  unfold ringB
  show (!((m ||| 2 ^ i) &&& r == 0)) = (!(m &&& r == 0) || !(2 ^ i &&& r == 0))
  rw [Nat.and_or_distrib_right]
  by_cases h1 : m &&& r = 0
  · rw [h1, Nat.zero_or]; simp
  · have : ¬ (m &&& r ||| 2 ^ i &&& r) = 0 := fun e => h1 (Nat.or_eq_zero_iff.1 e).1
    rw [beq_eq_false_iff_ne.2 this, beq_eq_false_iff_ne.2 h1]; rfl
theorem gr_none {zs : List Int} {set i : Nat} (h : mBit set i = false) : pTo zs set (i + 1) = pTo zs set i := by
  rw [pTo_succ]; unfold pStep; rw [if_neg (by rw [h]; simp)]
theorem gr_new {zs : List Int} {set i : Nat} (r : Nat) (h : mBit set i = true) (hj : jn zs set i = false) : gB r (pTo zs set (i + 1)) = (gB r (pTo zs set i) && rB r (pTo zs set i)) ∧ rB r (pTo zs set (i + 1)) = mBit r i := by
  rw [pTo_succ]; unfold pStep; rw [if_pos h, if_neg (by rw [hj]; simp), gB_app, rB_app, ring_one, all_gr]
  exact ⟨rfl, rfl⟩
theorem gr_join {zs : List Int} {set i : Nat} (r : Nat) (h : mBit set i = true) (hj : jn zs set i = true) (hi : i ≤ zs.length + 1) : gB r (pTo zs set (i + 1)) = gB r (pTo zs set i) ∧ rB r (pTo zs set (i + 1)) = (rB r (pTo zs set i) || mBit r i) := by
  have hok := pTo_ok zs set i hi
  have hs := jn_spec hj
  have hne := hok.ne hs.1 hs.2.1
  rw [pTo_succ]; unfold pStep; rw [if_pos h, if_pos hj]
  rcases cmps_cases (pTo zs set i) with e | ⟨qs, p, e⟩
  · rw [e] at hne; exact absurd hne (by simp)
  · rw [e]
    have hl : (qs ++ [p]).length - 1 = qs.length := by simp
    have hg : cget (qs ++ [p]) qs.length = p := by rw [cget_lt (by simp)]; simp
    unfold pLast
    rw [hl, hg, show (qs ++ [p]).set qs.length (p.1 ||| 2 ^ i, p.2 ++ [iget zs (i - 1)]) = qs ++ [(p.1 ||| 2 ^ i, p.2 ++ [iget zs (i - 1)])] by rw [List.set_append_right _ _ (Nat.le_refl _)]; simp, gB_app, gB_app, rB_app, rB_app]
    exact ⟨rfl, ring_or r p.1 i _ p.2⟩
set_option maxRecDepth 100000 in
set_option maxHeartbeats 2000000 in
theorem rng_fc (zs : List Int) (L set r : Nat) (hL : zs.length = L) (h4 : L ≤ 4) (hs : set < 1000) (hr : r < 1000) :
    FC Try.prog 129 [(1003, wRo zs)] [o1 (.sl 1003 0 L), vv (I6 set), vv (I6 r)] [] (vv (.bool (admB zs set r))) [] := by
  have hR := rankS_fc zs L h4
  have hil : L ≤ (ivals zs).length := by rw [ivals_len, hL]; exact Nat.le_refl _
  have hss : set < 1000000 := by omega
  have hrr : r < 1000000 := by omega
  refine fc_enter (nt := 58) Try.func129 rfl rfl (by simp) fun w0 ω0 => ?_
  (refine goes_seq ?_; refine goes_region ?_; apply run_step rfl; (exact stp_assign rfl rfl); refine run_nil ?_; refine fin_seq ?_; refine goes_seq ?_; refine goes_region ?_; apply run_step rfl; (exact stp_assign rfl rfl); refine run_nil ?_; refine fin_seq ?_; refine goes_seq ?_; refine goes_region ?_; apply run_step rfl; (exact stp_assign rfl rfl); refine run_nil ?_; refine fin_seq ?_; refine goes_seq ?_; refine goes_seq ?_; refine goes_region ?_; apply run_step rfl; (exact stp_assign rfl rfl); refine run_nil ?_; refine fin_seq ?_; refine goes_block ?_)
  refine goes_loop (fun i : Nat => St.of [(0, o1 (.sl 1003 0 L)), (1, vv (I6 set)), (2, vv (I6 r)), (7, vv (.bool (gB r (pTo zs set i)))), (8, vv (.bool (rB r (pTo zs set i)))), (9, vv (I6 i))] [(1003, wRo zs)]) (fun i => i ≤ L + 1) (fun i => L + 1 - i) 0 (Nat.zero_le _) (Wk.of ⟨rfl, rfl, rfl, rfl, rfl, rfl, trivial⟩ ⟨rfl, trivial⟩ trivial) ?_
  rintro i hi
  (refine goes_seq ?_; refine goes_seq ?_; refine goes_region ?_; apply run_step rfl; (exact stp_move rfl rfl); apply run_step rfl; (exact stp_move rfl rfl); apply run_step rfl; (apply call_gate 103; exact stp_callR hR (by as_aux_lemma => kernel_rfl) rfl rfl ⟨rfl, trivial⟩ ⟨⟨_, rfl, .inl rfl⟩, trivial⟩ rfl rfl); apply run_step rfl; (exact stp_bin rfl rfl rfl rfl); refine run_nil ?_; refine fin_seq ?_)
  refine goes_if rfl (fun hlt => ?_) (fun hlt => ?_)
  · have hiL : i ≤ L := by omega
    have hi64 : i ≤ 64 := by omega
    have hcv : IntKind.u64.wrap (i : Int) = (i : Int) := by rw [IntKind.wrap_u64]; omega
    (refine goes_skip ?_; refine fin_seq ?_; refine goes_seq ?_; refine goes_block ?_; refine goes_seq ?_; refine goes_seq ?_; refine goes_region ?_; apply run_step rfl; (exact stp_move rfl rfl); apply run_step rfl; (exact stp_move rfl rfl); apply run_step rfl; (first | exact stp_convN rfl rfl (by as_aux_lemma => kernel_rfl) (by as_aux_lemma => kernel_rfl) hcv | exact stp_shrN (g := i) rfl rfl rfl hi64 | exact stp_bit rfl rfl hss | exact stp_eqBit0 rfl rfl); apply run_step rfl; (first | exact stp_convN rfl rfl (by as_aux_lemma => kernel_rfl) (by as_aux_lemma => kernel_rfl) hcv | exact stp_shrN (g := i) rfl rfl rfl hi64 | exact stp_bit rfl rfl hss | exact stp_eqBit0 rfl rfl); apply run_step rfl; (first | exact stp_convN rfl rfl (by as_aux_lemma => kernel_rfl) (by as_aux_lemma => kernel_rfl) hcv | exact stp_shrN (g := i) rfl rfl rfl hi64 | exact stp_bit rfl rfl hss | exact stp_eqBit0 rfl rfl); apply run_step rfl; (first | exact stp_convN rfl rfl (by as_aux_lemma => kernel_rfl) (by as_aux_lemma => kernel_rfl) hcv | exact stp_shrN (g := i) rfl rfl rfl hi64 | exact stp_bit rfl rfl hss | exact stp_eqBit0 rfl rfl); refine run_nil ?_; refine fin_seq ?_)
    refine goes_cond rfl (fun hb => ?_) (fun hb => ?_)
    · have hb : mBit set i = false := by simpa using hb
      have hv := gr_none (zs := zs) hb
      (refine goes_exit ?_; refine fin_exit_then ?_; refine fin_exit_eq ?_; refine fin_seq ?_; refine goes_region ?_; apply run_step rfl; (exact stp_move rfl rfl); apply run_step rfl; (exact stp_add rfl rfl rfl (by first | exact IntWalk.i64_in _ (by omega) | rfl)); apply run_step rfl; (exact stp_assign rfl rfl); refine run_nil ?_)
      exact fin_round (i + 1) (by omega) (by omega) (Wk.of ⟨rfl, rfl, rfl, congrArg (fun z => some (vv (.bool (gB r z)))) hv.symm, congrArg (fun z => some (vv (.bool (rB r z)))) hv.symm, rfl, trivial⟩ ⟨rfl, trivial⟩ trivial)
    · have hb : mBit set i = true := by simpa using hb
      (repeat (first | refine goes_seq ?_ | refine fin_seq ?_ | refine goes_skip ?_ | refine goes_block ?_ | refine fin_block ?_ | refine goes_exit ?_ | refine fin_exit_eq ?_ | refine fin_exit_ne rfl ?_ | refine fin_exit_then ?_))
      refine goes_cut (St.of [(0, o1 (.sl 1003 0 L)), (1, vv (I6 set)), (2, vv (I6 r)), (7, vv (.bool (gB r (pTo zs set i)))), (8, vv (.bool (rB r (pTo zs set i)))), (9, vv (I6 i)), (40, vv (.bool (!jn zs set i)))] [(1003, wRo zs)]) ?_ ?_
      · refine goes_region ?_
        (apply run_step rfl; (exact stp_move rfl rfl); apply run_step rfl; (exact stp_bin rfl rfl rfl rfl); apply run_step rfl; (exact stp_move rfl rfl))
        refine run_bool 24 rfl (fun h1 => ?_) (fun h1 => ?_)
        · have hv : jn zs set i = false := by
            have : ¬ 0 < i := by
              have : (i : Int) = 0 := by simpa using h1
              omega
            unfold jn; rw [decide_eq_false this]; rfl
          rw [hv]
          (apply run_gNo rfl rfl rfl rfl rfl; apply run_gNo rfl rfl rfl rfl rfl; apply run_gNo rfl rfl rfl rfl rfl; apply run_gNo rfl rfl rfl rfl rfl; apply run_gNo rfl rfl rfl rfl rfl; apply run_gNo rfl rfl rfl rfl rfl; apply run_gNo rfl rfl rfl rfl rfl; apply run_step rfl; (exact stp_pickT rfl rfl rfl); apply run_step rfl; (exact stp_move rfl rfl); apply run_gNo rfl rfl rfl rfl rfl; apply run_gNo rfl rfl rfl rfl rfl; apply run_gNo rfl rfl rfl rfl rfl; apply run_gNo rfl rfl rfl rfl rfl; apply run_gNo rfl rfl rfl rfl rfl; apply run_gNo rfl rfl rfl rfl rfl; apply run_step rfl; (exact stp_pickT rfl rfl rfl); refine run_nil ?_)
          exact fin_join (Wk.of ⟨rfl, rfl, rfl, rfl, rfl, rfl, rfl, trivial⟩ ⟨rfl, trivial⟩ trivial)
        · have hi0 : 0 < i := by
            have : (i : Int) ≠ 0 := by simpa using h1
            omega
          have hsb : IntKind.i64.wrap ((i : Int) - 1) = ((i - 1 : Nat) : Int) := (IntWalk.i64_in _ (by omega)).trans (by omega)
          have hcv1 : IntKind.u64.wrap ((i - 1 : Nat) : Int) = ((i - 1 : Nat) : Int) := by rw [IntKind.wrap_u64]; omega
          have hi64' : i - 1 ≤ 64 := by omega
          (apply run_gYes rfl rfl rfl; (exact stp_move rfl rfl); apply run_gYes rfl rfl rfl; (exact stp_move rfl rfl); apply run_gYes rfl rfl rfl; (first | exact stp_sub rfl rfl rfl hsb | exact stp_convN rfl rfl (by as_aux_lemma => kernel_rfl) (by as_aux_lemma => kernel_rfl) hcv1 | exact stp_shrN (g := i - 1) rfl rfl rfl hi64' | exact stp_bit rfl rfl hss | exact stp_eqBit0 rfl rfl); apply run_gYes rfl rfl rfl; (first | exact stp_sub rfl rfl rfl hsb | exact stp_convN rfl rfl (by as_aux_lemma => kernel_rfl) (by as_aux_lemma => kernel_rfl) hcv1 | exact stp_shrN (g := i - 1) rfl rfl rfl hi64' | exact stp_bit rfl rfl hss | exact stp_eqBit0 rfl rfl); apply run_gYes rfl rfl rfl; (first | exact stp_sub rfl rfl rfl hsb | exact stp_convN rfl rfl (by as_aux_lemma => kernel_rfl) (by as_aux_lemma => kernel_rfl) hcv1 | exact stp_shrN (g := i - 1) rfl rfl rfl hi64' | exact stp_bit rfl rfl hss | exact stp_eqBit0 rfl rfl); apply run_gYes rfl rfl rfl; (first | exact stp_sub rfl rfl rfl hsb | exact stp_convN rfl rfl (by as_aux_lemma => kernel_rfl) (by as_aux_lemma => kernel_rfl) hcv1 | exact stp_shrN (g := i - 1) rfl rfl rfl hi64' | exact stp_bit rfl rfl hss | exact stp_eqBit0 rfl rfl); apply run_gYes rfl rfl rfl; (first | exact stp_sub rfl rfl rfl hsb | exact stp_convN rfl rfl (by as_aux_lemma => kernel_rfl) (by as_aux_lemma => kernel_rfl) hcv1 | exact stp_shrN (g := i - 1) rfl rfl rfl hi64' | exact stp_bit rfl rfl hss | exact stp_eqBit0 rfl rfl); apply run_step rfl; (exact stp_pickF rfl rfl rfl); apply run_step rfl; (exact stp_move rfl rfl))
          refine run_bool 33 rfl (fun h2 => ?_) (fun h2 => ?_)
          · have h2 : mBit set (i - 1) = false := by simpa using h2
            have hv : jn zs set i = false := by unfold jn; rw [h2]; simp
            rw [hv]
            (apply run_gNo rfl rfl rfl rfl rfl; apply run_gNo rfl rfl rfl rfl rfl; apply run_gNo rfl rfl rfl rfl rfl; apply run_gNo rfl rfl rfl rfl rfl; apply run_gNo rfl rfl rfl rfl rfl; apply run_gNo rfl rfl rfl rfl rfl; apply run_step rfl; (exact stp_pickT rfl rfl rfl); refine run_nil ?_)
            exact fin_join (Wk.of ⟨rfl, rfl, rfl, rfl, rfl, rfl, rfl, trivial⟩ ⟨rfl, trivial⟩ trivial)
          · have h2 : mBit set (i - 1) = true := by simpa using h2
            have gz : (ivals zs)[i - 1]? = some (I6 (iget zs (i - 1))) := ivals_get (by omega)
            have hv : (!jn zs set i) = (iget zs (i - 1) == 2) := by unfold jn; rw [decide_eq_true hi0, h2]; simp
            rw [hv]
            (apply run_gYes rfl rfl rfl; (exact stp_move rfl rfl); apply run_gYes rfl rfl rfl; (exact stp_move rfl rfl); apply run_gYes rfl rfl rfl; (first | exact stp_sub rfl rfl rfl hsb | exact stp_ix (j := i - 1) rfl rfl rfl rfl rfl (by as_aux_lemma => kernel_rfl) rfl (by omega) hil | exact stp_loadV rfl (by as_aux_lemma => kernel_rfl) rfl rfl rfl gz); apply run_gYes rfl rfl rfl; (first | exact stp_sub rfl rfl rfl hsb | exact stp_ix (j := i - 1) rfl rfl rfl rfl rfl (by as_aux_lemma => kernel_rfl) rfl (by omega) hil | exact stp_loadV rfl (by as_aux_lemma => kernel_rfl) rfl rfl rfl gz); apply run_gYes rfl rfl rfl; (first | exact stp_sub rfl rfl rfl hsb | exact stp_ix (j := i - 1) rfl rfl rfl rfl rfl (by as_aux_lemma => kernel_rfl) rfl (by omega) hil | exact stp_loadV rfl (by as_aux_lemma => kernel_rfl) rfl rfl rfl gz); apply run_gYes rfl rfl rfl; (exact stp_bin rfl rfl rfl rfl); apply run_step rfl; (exact stp_pickF rfl rfl rfl); refine run_nil ?_)
            exact fin_join (Wk.of ⟨rfl, rfl, rfl, rfl, rfl, rfl, rfl, trivial⟩ ⟨rfl, trivial⟩ trivial)
      (refine fin_seq ?_)
      refine goes_cond rfl (fun hjb => ?_) (fun hjb => ?_)
      · have hjb : jn zs set i = false := by simpa using hjb
        obtain ⟨hv1, hv2⟩ := gr_new r hb hjb
        cases hg : gB r (pTo zs set i) with
        | true =>
          rw [hg, Bool.true_and] at hv1
          (refine goes_seq ?_; refine goes_region ?_; apply run_step rfl; (exact stp_move rfl rfl); apply run_step rfl; (exact stp_move rfl rfl); apply run_gYes rfl rfl rfl; (exact stp_move rfl rfl); apply run_step rfl; (exact stp_pickT rfl rfl rfl); apply run_step rfl; (exact stp_assign rfl rfl); refine run_nil ?_; refine fin_seq ?_; refine goes_region ?_; apply run_step rfl; (exact stp_assign rfl rfl); refine run_nil ?_; refine fin_seq ?_; refine goes_region ?_; apply run_step rfl; (exact stp_move rfl rfl); apply run_step rfl; (exact stp_move rfl rfl); apply run_gYes rfl rfl rfl; (exact stp_move rfl rfl); apply run_gYes rfl rfl rfl; (exact stp_move rfl rfl); apply run_gYes rfl rfl rfl; (first | exact stp_convN rfl rfl (by as_aux_lemma => kernel_rfl) (by as_aux_lemma => kernel_rfl) hcv | exact stp_shrN (g := i) rfl rfl rfl hi64 | exact stp_bit rfl rfl hrr | exact stp_eqBit rfl rfl); apply run_gYes rfl rfl rfl; (first | exact stp_convN rfl rfl (by as_aux_lemma => kernel_rfl) (by as_aux_lemma => kernel_rfl) hcv | exact stp_shrN (g := i) rfl rfl rfl hi64 | exact stp_bit rfl rfl hrr | exact stp_eqBit rfl rfl); apply run_gYes rfl rfl rfl; (first | exact stp_convN rfl rfl (by as_aux_lemma => kernel_rfl) (by as_aux_lemma => kernel_rfl) hcv | exact stp_shrN (g := i) rfl rfl rfl hi64 | exact stp_bit rfl rfl hrr | exact stp_eqBit rfl rfl); apply run_gYes rfl rfl rfl; (first | exact stp_convN rfl rfl (by as_aux_lemma => kernel_rfl) (by as_aux_lemma => kernel_rfl) hcv | exact stp_shrN (g := i) rfl rfl rfl hi64 | exact stp_bit rfl rfl hrr | exact stp_eqBit rfl rfl); apply run_step rfl; (exact stp_pickF rfl rfl rfl); apply run_step rfl; (exact stp_assign rfl rfl); refine run_nil ?_; refine fin_block ?_; refine fin_seq ?_; refine goes_region ?_; apply run_step rfl; (exact stp_move rfl rfl); apply run_step rfl; (exact stp_add rfl rfl rfl (by first | exact IntWalk.i64_in _ (by omega) | rfl)); apply run_step rfl; (exact stp_assign rfl rfl); refine run_nil ?_)
          exact fin_round (i + 1) (by omega) (by omega) (Wk.of ⟨rfl, rfl, rfl, congrArg (fun z => some (vv (.bool z))) hv1.symm, congrArg (fun z => some (vv (.bool z))) hv2.symm, rfl, trivial⟩ ⟨rfl, trivial⟩ trivial)
        | false =>
          rw [hg, Bool.false_and] at hv1
          (refine goes_seq ?_; refine goes_region ?_; apply run_step rfl; (exact stp_move rfl rfl); apply run_step rfl; (exact stp_move rfl rfl); apply run_gNo rfl rfl rfl rfl rfl; apply run_step rfl; (exact stp_pickF rfl rfl rfl); apply run_step rfl; (exact stp_assign rfl rfl); refine run_nil ?_; refine fin_seq ?_; refine goes_region ?_; apply run_step rfl; (exact stp_assign rfl rfl); refine run_nil ?_; refine fin_seq ?_; refine goes_region ?_; apply run_step rfl; (exact stp_move rfl rfl); apply run_step rfl; (exact stp_move rfl rfl); apply run_gYes rfl rfl rfl; (exact stp_move rfl rfl); apply run_gYes rfl rfl rfl; (exact stp_move rfl rfl); apply run_gYes rfl rfl rfl; (first | exact stp_convN rfl rfl (by as_aux_lemma => kernel_rfl) (by as_aux_lemma => kernel_rfl) hcv | exact stp_shrN (g := i) rfl rfl rfl hi64 | exact stp_bit rfl rfl hrr | exact stp_eqBit rfl rfl); apply run_gYes rfl rfl rfl; (first | exact stp_convN rfl rfl (by as_aux_lemma => kernel_rfl) (by as_aux_lemma => kernel_rfl) hcv | exact stp_shrN (g := i) rfl rfl rfl hi64 | exact stp_bit rfl rfl hrr | exact stp_eqBit rfl rfl); apply run_gYes rfl rfl rfl; (first | exact stp_convN rfl rfl (by as_aux_lemma => kernel_rfl) (by as_aux_lemma => kernel_rfl) hcv | exact stp_shrN (g := i) rfl rfl rfl hi64 | exact stp_bit rfl rfl hrr | exact stp_eqBit rfl rfl); apply run_gYes rfl rfl rfl; (first | exact stp_convN rfl rfl (by as_aux_lemma => kernel_rfl) (by as_aux_lemma => kernel_rfl) hcv | exact stp_shrN (g := i) rfl rfl rfl hi64 | exact stp_bit rfl rfl hrr | exact stp_eqBit rfl rfl); apply run_step rfl; (exact stp_pickF rfl rfl rfl); apply run_step rfl; (exact stp_assign rfl rfl); refine run_nil ?_; refine fin_block ?_; refine fin_seq ?_; refine goes_region ?_; apply run_step rfl; (exact stp_move rfl rfl); apply run_step rfl; (exact stp_add rfl rfl rfl (by first | exact IntWalk.i64_in _ (by omega) | rfl)); apply run_step rfl; (exact stp_assign rfl rfl); refine run_nil ?_)
          exact fin_round (i + 1) (by omega) (by omega) (Wk.of ⟨rfl, rfl, rfl, congrArg (fun z => some (vv (.bool z))) hv1.symm, congrArg (fun z => some (vv (.bool z))) hv2.symm, rfl, trivial⟩ ⟨rfl, trivial⟩ trivial)
      · have hjb : jn zs set i = true := by simpa using hjb
        obtain ⟨hv1, hv2⟩ := gr_join r hb hjb (by omega)
        cases hg : rB r (pTo zs set i) with
        | true =>
          rw [hg, Bool.true_or] at hv2
          (refine goes_skip ?_; refine fin_seq ?_; refine goes_region ?_; apply run_step rfl; (exact stp_move rfl rfl); apply run_step rfl; (exact stp_move rfl rfl); apply run_gNo rfl rfl rfl rfl rfl; apply run_gNo rfl rfl rfl rfl rfl; apply run_gNo rfl rfl rfl rfl rfl; apply run_gNo rfl rfl rfl rfl rfl; apply run_gNo rfl rfl rfl rfl rfl; apply run_gNo rfl rfl rfl rfl rfl; apply run_step rfl; (exact stp_pickT rfl rfl rfl); apply run_step rfl; (exact stp_assign rfl rfl); refine run_nil ?_; refine fin_block ?_; refine fin_seq ?_; refine goes_region ?_; apply run_step rfl; (exact stp_move rfl rfl); apply run_step rfl; (exact stp_add rfl rfl rfl (by first | exact IntWalk.i64_in _ (by omega) | rfl)); apply run_step rfl; (exact stp_assign rfl rfl); refine run_nil ?_)
          exact fin_round (i + 1) (by omega) (by omega) (Wk.of ⟨rfl, rfl, rfl, congrArg (fun z => some (vv (.bool z))) hv1.symm, congrArg (fun z => some (vv (.bool z))) hv2.symm, rfl, trivial⟩ ⟨rfl, trivial⟩ trivial)
        | false =>
          rw [hg, Bool.false_or] at hv2
          (refine goes_skip ?_; refine fin_seq ?_; refine goes_region ?_; apply run_step rfl; (exact stp_move rfl rfl); apply run_step rfl; (exact stp_move rfl rfl); apply run_gYes rfl rfl rfl; (exact stp_move rfl rfl); apply run_gYes rfl rfl rfl; (exact stp_move rfl rfl); apply run_gYes rfl rfl rfl; (first | exact stp_convN rfl rfl (by as_aux_lemma => kernel_rfl) (by as_aux_lemma => kernel_rfl) hcv | exact stp_shrN (g := i) rfl rfl rfl hi64 | exact stp_bit rfl rfl hrr | exact stp_eqBit rfl rfl); apply run_gYes rfl rfl rfl; (first | exact stp_convN rfl rfl (by as_aux_lemma => kernel_rfl) (by as_aux_lemma => kernel_rfl) hcv | exact stp_shrN (g := i) rfl rfl rfl hi64 | exact stp_bit rfl rfl hrr | exact stp_eqBit rfl rfl); apply run_gYes rfl rfl rfl; (first | exact stp_convN rfl rfl (by as_aux_lemma => kernel_rfl) (by as_aux_lemma => kernel_rfl) hcv | exact stp_shrN (g := i) rfl rfl rfl hi64 | exact stp_bit rfl rfl hrr | exact stp_eqBit rfl rfl); apply run_gYes rfl rfl rfl; (first | exact stp_convN rfl rfl (by as_aux_lemma => kernel_rfl) (by as_aux_lemma => kernel_rfl) hcv | exact stp_shrN (g := i) rfl rfl rfl hi64 | exact stp_bit rfl rfl hrr | exact stp_eqBit rfl rfl); apply run_step rfl; (exact stp_pickF rfl rfl rfl); apply run_step rfl; (exact stp_assign rfl rfl); refine run_nil ?_; refine fin_block ?_; refine fin_seq ?_; refine goes_region ?_; apply run_step rfl; (exact stp_move rfl rfl); apply run_step rfl; (exact stp_add rfl rfl rfl (by first | exact IntWalk.i64_in _ (by omega) | rfl)); apply run_step rfl; (exact stp_assign rfl rfl); refine run_nil ?_)
          exact fin_round (i + 1) (by omega) (by omega) (Wk.of ⟨rfl, rfl, rfl, congrArg (fun z => some (vv (.bool z))) hv1.symm, congrArg (fun z => some (vv (.bool z))) hv2.symm, rfl, trivial⟩ ⟨rfl, trivial⟩ trivial)
  · obtain rfl : i = L + 1 := by omega
    have hv : admB zs set r = (gB r (pTo zs set (L + 1)) && rB r (pTo zs set (L + 1))) := by unfold admB comps; rw [all_gr, hL]
    rw [hv]
    cases hg : gB r (pTo zs set (L + 1)) with
    | true =>
      rw [Bool.true_and]
      (refine goes_exit ?_; refine fin_exit_then ?_; refine fin_exit_then ?_; refine fin_exit_eq ?_; refine fin_seq ?_; refine goes_seq ?_; refine goes_region ?_; apply run_step rfl; (exact stp_move rfl rfl); apply run_step rfl; (exact stp_move rfl rfl); apply run_gYes rfl rfl rfl; (exact stp_move rfl rfl); apply run_step rfl; (exact stp_pickT rfl rfl rfl); apply run_step rfl; (exact stp_assign rfl rfl); refine run_nil ?_; refine fin_seq ?_; refine goes_ret ?_)
      exact fin_ret1 (.inl rfl) rfl (.tmp rfl) trivial trivial
    | false =>
      rw [Bool.false_and]
      (refine goes_exit ?_; refine fin_exit_then ?_; refine fin_exit_then ?_; refine fin_exit_eq ?_; refine fin_seq ?_; refine goes_seq ?_; refine goes_region ?_; apply run_step rfl; (exact stp_move rfl rfl); apply run_step rfl; (exact stp_move rfl rfl); apply run_gNo rfl rfl rfl rfl rfl; apply run_step rfl; (exact stp_pickF rfl rfl rfl); apply run_step rfl; (exact stp_assign rfl rfl); refine run_nil ?_; refine fin_seq ?_; refine goes_ret ?_)
      exact fin_ret1 (.inl rfl) rfl (.tmp rfl) trivial trivial
end Go.Proofs.Ytlpeghdbjfnenaa

/- The errors of ringed diagrams; IsRinged. guards: -/
namespace Go.Proofs.Ytlpeghdbjfnenaa
open Go.RowKit

section
variable {P : Program} {nt : Nat} {S : St} {t : Nat} {ty : TypeId} {ps : String} {af : Array Edge} {gd : Option (Nat × Bool)} {x y : Operand}
theorem stp_shlX {xt yt : TypeId} {kk : IntKind} {g : Nat} (ht : Nat.blt t nt = true) (hx : S.op x = some (vv (I6 1))) (hy : S.op y = some (vv (.int kk (g : Int)))) :
    Stp P nt ⟨some t, .binOp .shl xt x y yt, ty, ps, af, gd⟩ S (S.put t (vv (I6 (IntKind.i64.wrap (1 * 2 ^ (min g 64)))))) :=
  Stp.pure rfl ht fun _ _ η _ s w hs => by
    refine ⟨I6 (IntKind.i64.wrap (1 * 2 ^ (min g 64))), ?_, rfl⟩
    have e : Op.shift .shl .i64 1 kk (g : Int) = pure (I6 (IntKind.i64.wrap (1 * 2 ^ (min g 64)))) := by
      unfold Op.shift
      rw [if_neg (by omega)]
      rfl
    simp [execOp, hs.opV hx, hs.opV hy, eqGuard, binOp, e]
end
/-- what the reference takes for the mask of all nodes, whatever the labels -/
def wholeV (L : Nat) : Int := IntKind.i64.wrap (IntKind.i64.wrap (1 * 2 ^ (min (L + 1) 64)) - 1)
set_option maxRecDepth 100000 in
theorem rank2_fc (zs : List Int) (L : Nat) (hn : L ≤ 4398046511104) : FC Try.prog 103 [(1003, wRo zs)] [o1 (.sl 1003 0 L)] [] (vv (I6 (L + 1 : Nat))) [] := by
  have hw : IntKind.i64.wrap ((L : Int) + 1) = ((L + 1 : Nat) : Int) := IntWalk.i64_in _ (by omega)
  have hw2 : IntKind.i64.wrap (L : Int) = (L : Int) := IntWalk.i64_in _ (by omega)
  refine fc_enter (nt := 6) Try.func103 rfl rfl (by simp) fun w0 ω0 => ?_
  (refine goes_seq ?_; refine goes_region ?_; apply run_step rfl; (exact stp_assign rfl rfl); refine run_nil ?_; refine fin_seq ?_; refine goes_seq ?_; refine goes_region ?_; apply run_step rfl; (exact stp_move rfl rfl); apply run_step rfl; (exact stp_len rfl rfl rfl (by as_aux_lemma => kernel_rfl)); apply run_step rfl; (first | exact stp_add rfl rfl rfl hw | exact stp_convN rfl rfl (by as_aux_lemma => kernel_rfl) (by as_aux_lemma => kernel_rfl) hw2); apply run_step rfl; (exact stp_assign rfl rfl); refine run_nil ?_; refine fin_seq ?_; refine goes_ret ?_)
  exact fin_ret1 (.inl rfl) rfl (.tmp rfl) trivial trivial
set_option maxRecDepth 100000 in
theorem whole2_fc (zs : List Int) (L : Nat) (hn : L ≤ 4398046511104) : FC Try.prog 61 [(1003, wRo zs)] [o1 (.sl 1003 0 L)] [] (vv (I6 (wholeV L))) [] := by
  have hR := rank2_fc zs L hn
  have hcv : IntKind.u64.wrap ((L + 1 : Nat) : Int) = ((L + 1 : Nat) : Int) := by rw [IntKind.wrap_u64]; omega
  refine fc_enter (nt := 8) Try.func61 rfl rfl (by simp) fun w0 ω0 => ?_
  (refine goes_seq ?_; refine goes_region ?_; apply run_step rfl; (exact stp_assign rfl rfl); refine run_nil ?_; refine fin_seq ?_; refine goes_seq ?_; refine goes_region ?_; apply run_step rfl; (exact stp_move rfl rfl); apply run_step rfl; (first | (apply call_gate 103; exact stp_callR hR (by as_aux_lemma => kernel_rfl) rfl rfl ⟨rfl, trivial⟩ ⟨⟨_, rfl, .inl rfl⟩, trivial⟩ rfl rfl) | exact stp_convN rfl rfl (by as_aux_lemma => kernel_rfl) (by as_aux_lemma => kernel_rfl) hcv | exact stp_shlX (g := L + 1) rfl rfl rfl | exact stp_sub rfl rfl rfl rfl); apply run_step rfl; (first | (apply call_gate 103; exact stp_callR hR (by as_aux_lemma => kernel_rfl) rfl rfl ⟨rfl, trivial⟩ ⟨⟨_, rfl, .inl rfl⟩, trivial⟩ rfl rfl) | exact stp_convN rfl rfl (by as_aux_lemma => kernel_rfl) (by as_aux_lemma => kernel_rfl) hcv | exact stp_shlX (g := L + 1) rfl rfl rfl | exact stp_sub rfl rfl rfl rfl); apply run_step rfl; (first | (apply call_gate 103; exact stp_callR hR (by as_aux_lemma => kernel_rfl) rfl rfl ⟨rfl, trivial⟩ ⟨⟨_, rfl, .inl rfl⟩, trivial⟩ rfl rfl) | exact stp_convN rfl rfl (by as_aux_lemma => kernel_rfl) (by as_aux_lemma => kernel_rfl) hcv | exact stp_shlX (g := L + 1) rfl rfl rfl | exact stp_sub rfl rfl rfl rfl); apply run_step rfl; (first | (apply call_gate 103; exact stp_callR hR (by as_aux_lemma => kernel_rfl) rfl rfl ⟨rfl, trivial⟩ ⟨⟨_, rfl, .inl rfl⟩, trivial⟩ rfl rfl) | exact stp_convN rfl rfl (by as_aux_lemma => kernel_rfl) (by as_aux_lemma => kernel_rfl) hcv | exact stp_shlX (g := L + 1) rfl rfl rfl | exact stp_sub rfl rfl rfl rfl); apply run_step rfl; (exact stp_assign rfl rfl); refine run_nil ?_; refine fin_seq ?_; refine goes_ret ?_)
  exact fin_ret1 (.inl rfl) rfl (.tmp rfl) trivial trivial
/-- the error of a ringed diagram -/
def ringC (zs : List Int) (m : Int) : Int := if isDiag zs = true then (if inB m 0 (allN zs) = true then (if finB zs (allN zs) = true then (if admB zs (allN zs) m.toNat = true then 0 else 5) else 5) else 2) else 1
theorem ringC_no {zs : List Int} {m : Int} (hd : isDiag zs = false) : ringC zs m = 1 := by unfold ringC; rw [hd, if_neg (by simp)]
theorem ringC_out {zs : List Int} {m : Int} (hd : isDiag zs = true) (hb : inB m 0 (allN zs) = false) : ringC zs m = 2 := by unfold ringC; rw [hd, if_pos rfl, hb, if_neg (by simp)]
theorem ringC_inf {zs : List Int} {k : Nat} (hd : isDiag zs = true) (hb : inB (k : Int) 0 (allN zs) = true) (hf : finB zs (allN zs) = false) : ringC zs k = 5 := by unfold ringC; rw [hd, if_pos rfl, hb, if_pos rfl, hf, if_neg (by simp)]
theorem ringC_in {zs : List Int} {k : Nat} (hd : isDiag zs = true) (hb : inB (k : Int) 0 (allN zs) = true) (hf : finB zs (allN zs) = true) : ringC zs k = if admB zs (allN zs) k = true then 0 else 5 := by unfold ringC; rw [hd, if_pos rfl, hb, if_pos rfl, hf, if_pos rfl, Int.toNat_natCast]
theorem finC_diag {zs : List Int} (hd : isDiag zs = true) : maskC zs (allN zs) = if finB zs (allN zs) = true then 0 else 5 := finC_in zs hd
set_option maxRecDepth 100000 in
set_option maxHeartbeats 1000000 in
theorem codeS_fc (zs : List Int) (L : Nat) (m : Int) (hL : zs.length = L) (hn : L ≤ 4398046511104) :
    FC Try.prog 89 [(1003, wRo zs)] [o1 (.sl 1003 0 L), vv (I6 m)] [] (vv (I6 (ringC zs m))) [] := by
  have hI := diagS_fc zs L hL hn
  refine fc_enter (nt := 31) Try.func89 rfl rfl (by simp) fun w0 ω0 => ?_
  cases hd : isDiag zs with
  | false =>
    rw [hd] at hI
    have hW := whole2_fc zs L hn
    have hM := maskS_fc zs L (wholeV L) hL hn
    rw [ringC_no hd]
    (refine goes_seq ?_; refine goes_region ?_; apply run_step rfl; (exact stp_assign rfl rfl); refine run_nil ?_; refine fin_seq ?_; refine goes_seq ?_; refine goes_region ?_; apply run_step rfl; (exact stp_move rfl rfl); apply run_step rfl; (exact stp_move rfl rfl); apply run_step rfl; (first | (apply call_gate 61; exact stp_callR hW (by as_aux_lemma => kernel_rfl) rfl rfl ⟨rfl, trivial⟩ ⟨⟨_, rfl, .inl rfl⟩, trivial⟩ rfl rfl) | (apply call_gate 83; exact stp_callR hM (by as_aux_lemma => kernel_rfl) rfl rfl ⟨rfl, rfl, trivial⟩ ⟨⟨_, rfl, .inl rfl⟩, trivial⟩ rfl rfl) | (apply call_gate 59; exact stp_callR hI (by as_aux_lemma => kernel_rfl) rfl rfl ⟨rfl, trivial⟩ ⟨⟨_, rfl, .inl rfl⟩, trivial⟩ rfl rfl)); apply run_step rfl; (first | (apply call_gate 61; exact stp_callR hW (by as_aux_lemma => kernel_rfl) rfl rfl ⟨rfl, trivial⟩ ⟨⟨_, rfl, .inl rfl⟩, trivial⟩ rfl rfl) | (apply call_gate 83; exact stp_callR hM (by as_aux_lemma => kernel_rfl) rfl rfl ⟨rfl, rfl, trivial⟩ ⟨⟨_, rfl, .inl rfl⟩, trivial⟩ rfl rfl) | (apply call_gate 59; exact stp_callR hI (by as_aux_lemma => kernel_rfl) rfl rfl ⟨rfl, trivial⟩ ⟨⟨_, rfl, .inl rfl⟩, trivial⟩ rfl rfl)); apply run_step rfl; (exact stp_assign rfl rfl); refine run_nil ?_; refine fin_seq ?_; refine goes_seq ?_; refine goes_block ?_; refine goes_seq ?_; refine goes_region ?_; apply run_step rfl; (exact stp_move rfl rfl); apply run_step rfl; (first | (apply call_gate 61; exact stp_callR hW (by as_aux_lemma => kernel_rfl) rfl rfl ⟨rfl, trivial⟩ ⟨⟨_, rfl, .inl rfl⟩, trivial⟩ rfl rfl) | (apply call_gate 83; exact stp_callR hM (by as_aux_lemma => kernel_rfl) rfl rfl ⟨rfl, rfl, trivial⟩ ⟨⟨_, rfl, .inl rfl⟩, trivial⟩ rfl rfl) | (apply call_gate 59; exact stp_callR hI (by as_aux_lemma => kernel_rfl) rfl rfl ⟨rfl, trivial⟩ ⟨⟨_, rfl, .inl rfl⟩, trivial⟩ rfl rfl)); apply run_step rfl; (exact stp_not rfl rfl); apply run_step rfl; (exact stp_assign rfl rfl); refine run_nil ?_; refine fin_seq ?_)
    refine goes_cond rfl (fun _ => ?_) (fun e => by cases e)
    (refine goes_seq ?_; refine goes_region ?_; apply run_step rfl; (exact stp_assign rfl rfl); refine run_nil ?_; refine fin_seq ?_; refine goes_ret ?_; refine fin_ret_block ?_; refine fin_ret_then ?_)
    exact fin_ret1 (.inl rfl) rfl (.tmp rfl) trivial trivial
  | true =>
    rw [hd] at hI
    have h4 : L ≤ 4 := by have := isDiag_len hd; omega
    have hW := wholeS_fc zs L hL h4
    have hM := maskS_fc zs L (allN zs) hL hn
    rw [finC_diag hd] at hM
    have hIn := in_fc m 0 (allN zs)
    cases hb : inB m 0 (allN zs) with
    | false =>
      rw [hb] at hIn
      rw [ringC_out hd hb]
      (refine goes_seq ?_; refine goes_region ?_; apply run_step rfl; (exact stp_assign rfl rfl); refine run_nil ?_; refine fin_seq ?_; refine goes_seq ?_; refine goes_region ?_; apply run_step rfl; (exact stp_move rfl rfl); apply run_step rfl; (exact stp_move rfl rfl); apply run_step rfl; (first | (apply call_gate 61; exact stp_callR hW (by as_aux_lemma => kernel_rfl) rfl rfl ⟨rfl, trivial⟩ ⟨⟨_, rfl, .inl rfl⟩, trivial⟩ rfl rfl) | (apply call_gate 83; exact stp_callR hM (by as_aux_lemma => kernel_rfl) rfl rfl ⟨rfl, rfl, trivial⟩ ⟨⟨_, rfl, .inl rfl⟩, trivial⟩ rfl rfl) | (apply call_gate 59; exact stp_callR hI (by as_aux_lemma => kernel_rfl) rfl rfl ⟨rfl, trivial⟩ ⟨⟨_, rfl, .inl rfl⟩, trivial⟩ rfl rfl)); apply run_step rfl; (first | (apply call_gate 61; exact stp_callR hW (by as_aux_lemma => kernel_rfl) rfl rfl ⟨rfl, trivial⟩ ⟨⟨_, rfl, .inl rfl⟩, trivial⟩ rfl rfl) | (apply call_gate 83; exact stp_callR hM (by as_aux_lemma => kernel_rfl) rfl rfl ⟨rfl, rfl, trivial⟩ ⟨⟨_, rfl, .inl rfl⟩, trivial⟩ rfl rfl) | (apply call_gate 59; exact stp_callR hI (by as_aux_lemma => kernel_rfl) rfl rfl ⟨rfl, trivial⟩ ⟨⟨_, rfl, .inl rfl⟩, trivial⟩ rfl rfl)); apply run_step rfl; (exact stp_assign rfl rfl); refine run_nil ?_; refine fin_seq ?_; refine goes_seq ?_; refine goes_block ?_; refine goes_seq ?_; refine goes_region ?_; apply run_step rfl; (exact stp_move rfl rfl); apply run_step rfl; (first | (apply call_gate 61; exact stp_callR hW (by as_aux_lemma => kernel_rfl) rfl rfl ⟨rfl, trivial⟩ ⟨⟨_, rfl, .inl rfl⟩, trivial⟩ rfl rfl) | (apply call_gate 83; exact stp_callR hM (by as_aux_lemma => kernel_rfl) rfl rfl ⟨rfl, rfl, trivial⟩ ⟨⟨_, rfl, .inl rfl⟩, trivial⟩ rfl rfl) | (apply call_gate 59; exact stp_callR hI (by as_aux_lemma => kernel_rfl) rfl rfl ⟨rfl, trivial⟩ ⟨⟨_, rfl, .inl rfl⟩, trivial⟩ rfl rfl)); apply run_step rfl; (exact stp_not rfl rfl); apply run_step rfl; (exact stp_assign rfl rfl); refine run_nil ?_; refine fin_seq ?_)
      refine goes_cond rfl (fun e => by cases e) (fun _ => ?_)
      (refine goes_seq ?_; refine goes_region ?_; apply run_step rfl; (exact stp_move rfl rfl); apply run_step rfl; (exact stp_move rfl rfl); apply run_step rfl; (first | (apply call_gate 61; exact stp_callR hW (by as_aux_lemma => kernel_rfl) rfl rfl ⟨rfl, trivial⟩ ⟨⟨_, rfl, .inl rfl⟩, trivial⟩ rfl rfl) | (apply call_gate 101; exact stp_callR hIn (by as_aux_lemma => kernel_rfl) rfl rfl ⟨rfl, rfl, rfl, trivial⟩ trivial rfl rfl)); apply run_step rfl; (first | (apply call_gate 61; exact stp_callR hW (by as_aux_lemma => kernel_rfl) rfl rfl ⟨rfl, trivial⟩ ⟨⟨_, rfl, .inl rfl⟩, trivial⟩ rfl rfl) | (apply call_gate 101; exact stp_callR hIn (by as_aux_lemma => kernel_rfl) rfl rfl ⟨rfl, rfl, rfl, trivial⟩ trivial rfl rfl)); apply run_step rfl; (exact stp_not rfl rfl); apply run_step rfl; (exact stp_assign rfl rfl); refine run_nil ?_; refine fin_seq ?_)
      refine goes_cond rfl (fun _ => ?_) (fun e => by cases e)
      (refine goes_seq ?_; refine goes_region ?_; apply run_step rfl; (exact stp_assign rfl rfl); refine run_nil ?_; refine fin_seq ?_; refine goes_ret ?_; refine fin_ret_block ?_; refine fin_ret_then ?_)
      exact fin_ret1 (.inl rfl) rfl (.tmp rfl) trivial trivial
    | true =>
      rw [hb] at hIn
      have hlt := allN_lt (zs := zs) (by omega)
      have hbb := inB_true.1 hb
      obtain ⟨k, rfl⟩ := Int.eq_ofNat_of_zero_le hbb.1
      have hG := rng_fc zs L (allN zs) k hL h4 (by omega) (by omega)
      (refine goes_seq ?_; refine goes_region ?_; apply run_step rfl; (exact stp_assign rfl rfl); refine run_nil ?_; refine fin_seq ?_; refine goes_seq ?_; refine goes_region ?_; apply run_step rfl; (exact stp_move rfl rfl); apply run_step rfl; (exact stp_move rfl rfl); apply run_step rfl; (first | (apply call_gate 61; exact stp_callR hW (by as_aux_lemma => kernel_rfl) rfl rfl ⟨rfl, trivial⟩ ⟨⟨_, rfl, .inl rfl⟩, trivial⟩ rfl rfl) | (apply call_gate 83; exact stp_callR hM (by as_aux_lemma => kernel_rfl) rfl rfl ⟨rfl, rfl, trivial⟩ ⟨⟨_, rfl, .inl rfl⟩, trivial⟩ rfl rfl) | (apply call_gate 59; exact stp_callR hI (by as_aux_lemma => kernel_rfl) rfl rfl ⟨rfl, trivial⟩ ⟨⟨_, rfl, .inl rfl⟩, trivial⟩ rfl rfl)); apply run_step rfl; (first | (apply call_gate 61; exact stp_callR hW (by as_aux_lemma => kernel_rfl) rfl rfl ⟨rfl, trivial⟩ ⟨⟨_, rfl, .inl rfl⟩, trivial⟩ rfl rfl) | (apply call_gate 83; exact stp_callR hM (by as_aux_lemma => kernel_rfl) rfl rfl ⟨rfl, rfl, trivial⟩ ⟨⟨_, rfl, .inl rfl⟩, trivial⟩ rfl rfl) | (apply call_gate 59; exact stp_callR hI (by as_aux_lemma => kernel_rfl) rfl rfl ⟨rfl, trivial⟩ ⟨⟨_, rfl, .inl rfl⟩, trivial⟩ rfl rfl)); apply run_step rfl; (exact stp_assign rfl rfl); refine run_nil ?_; refine fin_seq ?_; refine goes_seq ?_; refine goes_block ?_; refine goes_seq ?_; refine goes_region ?_; apply run_step rfl; (exact stp_move rfl rfl); apply run_step rfl; (first | (apply call_gate 61; exact stp_callR hW (by as_aux_lemma => kernel_rfl) rfl rfl ⟨rfl, trivial⟩ ⟨⟨_, rfl, .inl rfl⟩, trivial⟩ rfl rfl) | (apply call_gate 83; exact stp_callR hM (by as_aux_lemma => kernel_rfl) rfl rfl ⟨rfl, rfl, trivial⟩ ⟨⟨_, rfl, .inl rfl⟩, trivial⟩ rfl rfl) | (apply call_gate 59; exact stp_callR hI (by as_aux_lemma => kernel_rfl) rfl rfl ⟨rfl, trivial⟩ ⟨⟨_, rfl, .inl rfl⟩, trivial⟩ rfl rfl)); apply run_step rfl; (exact stp_not rfl rfl); apply run_step rfl; (exact stp_assign rfl rfl); refine run_nil ?_; refine fin_seq ?_)
      refine goes_cond rfl (fun e => by cases e) (fun _ => ?_)
      (refine goes_seq ?_; refine goes_region ?_; apply run_step rfl; (exact stp_move rfl rfl); apply run_step rfl; (exact stp_move rfl rfl); apply run_step rfl; (first | (apply call_gate 61; exact stp_callR hW (by as_aux_lemma => kernel_rfl) rfl rfl ⟨rfl, trivial⟩ ⟨⟨_, rfl, .inl rfl⟩, trivial⟩ rfl rfl) | (apply call_gate 101; exact stp_callR hIn (by as_aux_lemma => kernel_rfl) rfl rfl ⟨rfl, rfl, rfl, trivial⟩ trivial rfl rfl)); apply run_step rfl; (first | (apply call_gate 61; exact stp_callR hW (by as_aux_lemma => kernel_rfl) rfl rfl ⟨rfl, trivial⟩ ⟨⟨_, rfl, .inl rfl⟩, trivial⟩ rfl rfl) | (apply call_gate 101; exact stp_callR hIn (by as_aux_lemma => kernel_rfl) rfl rfl ⟨rfl, rfl, rfl, trivial⟩ trivial rfl rfl)); apply run_step rfl; (exact stp_not rfl rfl); apply run_step rfl; (exact stp_assign rfl rfl); refine run_nil ?_; refine fin_seq ?_)
      refine goes_cond rfl (fun e => by cases e) (fun _ => ?_)
      cases hf : finB zs (allN zs) with
      | false =>
        rw [ringC_inf hd hb hf, if_neg (show ¬ (false = true) by simp)]
        (refine goes_seq ?_; refine goes_region ?_; apply run_step rfl; (exact stp_move rfl rfl); apply run_step rfl; (exact stp_bin rfl rfl rfl rfl); apply run_step rfl; (exact stp_assign rfl rfl); refine run_nil ?_; refine fin_seq ?_)
        refine goes_cond rfl (fun _ => ?_) (fun e => by cases e)
        (refine goes_seq ?_; refine goes_region ?_; apply run_step rfl; (exact stp_move rfl rfl); apply run_step rfl; (exact stp_assign rfl rfl); refine run_nil ?_; refine fin_seq ?_; refine goes_ret ?_; refine fin_ret_block ?_; refine fin_ret_then ?_)
        exact fin_ret1 (.inl rfl) rfl (.tmp rfl) trivial trivial
      | true =>
        rw [ringC_in hd hb hf, if_pos (show true = true from rfl)]
        (refine goes_seq ?_; refine goes_region ?_; apply run_step rfl; (exact stp_move rfl rfl); apply run_step rfl; (exact stp_bin rfl rfl rfl rfl); apply run_step rfl; (exact stp_assign rfl rfl); refine run_nil ?_; refine fin_seq ?_)
        refine goes_cond rfl (fun e => by cases e) (fun _ => ?_)
        (refine goes_seq ?_; refine goes_region ?_; apply run_step rfl; (exact stp_move rfl rfl); apply run_step rfl; (exact stp_move rfl rfl); apply run_step rfl; (first | (apply call_gate 61; exact stp_callR hW (by as_aux_lemma => kernel_rfl) rfl rfl ⟨rfl, trivial⟩ ⟨⟨_, rfl, .inl rfl⟩, trivial⟩ rfl rfl) | (apply call_gate 129; exact stp_callR hG (by as_aux_lemma => kernel_rfl) rfl rfl ⟨rfl, rfl, rfl, trivial⟩ ⟨⟨_, rfl, .inl rfl⟩, trivial⟩ rfl rfl)); apply run_step rfl; (exact stp_move rfl rfl); apply run_step rfl; (first | (apply call_gate 61; exact stp_callR hW (by as_aux_lemma => kernel_rfl) rfl rfl ⟨rfl, trivial⟩ ⟨⟨_, rfl, .inl rfl⟩, trivial⟩ rfl rfl) | (apply call_gate 129; exact stp_callR hG (by as_aux_lemma => kernel_rfl) rfl rfl ⟨rfl, rfl, rfl, trivial⟩ ⟨⟨_, rfl, .inl rfl⟩, trivial⟩ rfl rfl)); apply run_step rfl; (exact stp_not rfl rfl); apply run_step rfl; (exact stp_assign rfl rfl); refine run_nil ?_; refine fin_seq ?_)
        refine goes_cond rfl (fun h => ?_) (fun h => ?_)
        · have ha : admB zs (allN zs) k = false := by simpa using h
          rw [ha, if_neg (by simp)]
          (refine goes_seq ?_; refine goes_region ?_; apply run_step rfl; (exact stp_assign rfl rfl); refine run_nil ?_; refine fin_seq ?_; refine goes_ret ?_; refine fin_ret_block ?_; refine fin_ret_then ?_)
          exact fin_ret1 (.inl rfl) rfl (.tmp rfl) trivial trivial
        · have ha : admB zs (allN zs) k = true := by simpa using h
          rw [ha, if_pos rfl]
          (refine goes_skip ?_; refine fin_block ?_; refine fin_seq ?_; refine goes_seq ?_; refine goes_region ?_; apply run_step rfl; (exact stp_assign rfl rfl); refine run_nil ?_; refine fin_seq ?_; refine goes_ret ?_)
          exact fin_ret1 (.inl rfl) rfl (.tmp rfl) trivial trivial
end Go.Proofs.Ytlpeghdbjfnenaa

/- Fixed nodes, on masks; and-not and shifts of a bit. -/
namespace Go.Proofs.Ytlpeghdbjfnenaa
open Go.RowKit

/-- a without the bits of b -/
def notN (a b : Nat) : Nat := a ^^^ (a &&& b)
theorem notN_bit (a b j : Nat) : (notN a b).testBit j = (a.testBit j && !b.testBit j) := by
  unfold notN
  rw [Nat.testBit_xor, Nat.testBit_and]
  cases a.testBit j <;> cases b.testBit j <;> rfl
theorem notN_le (a b : Nat) : notN a b ≤ a := by
  apply Nat.le_of_testBit
  intro j h
  rw [notN_bit] at h
  simp at h
  exact h.1
theorem bits_not_i64 (a b : Nat) (ha : a < 1000000) (hb : b < 1000000) : IntKind.i64.wrap ((BitVec.ofInt 64 (a : Int) &&& ~~~ BitVec.ofInt 64 (b : Int)).toNat : Int) = ((notN a b : Nat) : Int) := by
  have h1 : (BitVec.ofInt 64 (a : Int)).toNat = a := by
    rw [BitVec.ofInt_natCast, BitVec.toNat_ofNat]; exact Nat.mod_eq_of_lt (by omega)
  have h2 : (BitVec.ofInt 64 (b : Int)).toNat = b := by
    rw [BitVec.ofInt_natCast, BitVec.toNat_ofNat]; exact Nat.mod_eq_of_lt (by omega)
  have h3 : BitVec.ofInt 64 (a : Int) &&& ~~~ BitVec.ofInt 64 (b : Int) = BitVec.ofInt 64 (a : Int) ^^^ (BitVec.ofInt 64 (a : Int) &&& BitVec.ofInt 64 (b : Int)) := by
    apply BitVec.eq_of_getLsbD_eq
    intro i hi
    rw [BitVec.getLsbD_and, BitVec.getLsbD_not, BitVec.getLsbD_xor, BitVec.getLsbD_and]
    simp only [hi, decide_true, Bool.true_and]
    cases (BitVec.ofInt 64 (a : Int)).getLsbD i <;> cases (BitVec.ofInt 64 (b : Int)).getLsbD i <;> rfl
  have h4 := notN_le a b
  rw [h3, BitVec.toNat_xor, BitVec.toNat_and, h1, h2, IntKind.wrap_i64]
  unfold notN at h4 ⊢
  omega
section
variable {P : Program} {nt : Nat} {S : St} {t : Nat} {ty : TypeId} {ps : String} {af : Array Edge} {gd : Option (Nat × Bool)} {x y : Operand}
theorem stp_notN {xt yt : TypeId} {a b : Nat} (ht : Nat.blt t nt = true) (hx : S.op x = some (vv (I6 (a : Int)))) (hy : S.op y = some (vv (I6 (b : Int)))) (ha : a < 1000000) (hb : b < 1000000) :
    Stp P nt ⟨some t, .binOp .andNot xt x y yt, ty, ps, af, gd⟩ S (S.put t (vv (I6 ((notN a b : Nat) : Int)))) :=
  Stp.pure rfl ht fun _ _ η _ s w hs => by
    refine ⟨I6 ((notN a b : Nat) : Int), ?_, rfl⟩
    have hb' := bits_not_i64 a b ha hb
    have e : Op.intBits .andNot .i64 (a : Int) (b : Int) = pure (I6 ((notN a b : Nat) : Int)) := by rw [← hb']; rfl
    simp [execOp, hs.opV hx, hs.opV hy, eqGuard, binOp, e]
/-- a bit, moved up -/
theorem stp_shlB {xt yt : TypeId} {kk : IntKind} {b g : Nat} (ht : Nat.blt t nt = true) (hx : S.op x = some (vv (I6 (b : Int)))) (hy : S.op y = some (vv (.int kk (g : Int)))) (hb : b ≤ 1) (hg : g ≤ 5) :
    Stp P nt ⟨some t, .binOp .shl xt x y yt, ty, ps, af, gd⟩ S (S.put t (vv (I6 ((b * 2 ^ g : Nat) : Int)))) :=
  Stp.pure rfl ht fun _ _ η _ s w hs => by
    refine ⟨I6 ((b * 2 ^ g : Nat) : Int), ?_, rfl⟩
    have e : Op.shift .shl .i64 (b : Int) kk (g : Int) = pure (I6 ((b * 2 ^ g : Nat) : Int)) := by
      have h2 : 2 ^ g ≤ 2 ^ 5 := Nat.pow_le_pow_right (by decide) hg
      have h3 : b * 2 ^ g ≤ 1 * 2 ^ 5 := Nat.mul_le_mul hb h2
      rw [shift_shl_i64 (x := (b : Int)) (y := (g : Int)) (yk := kk) (Int.natCast_nonneg g) (by omega), Int.toNat_natCast]
      have h4 : (b : Int) * 2 ^ g = ((b * 2 ^ g : Nat) : Int) := by rw [Int.natCast_mul, Int.natCast_pow]; rfl
      rw [h4, IntWalk.i64_in _ (by omega)]
    have hw : IntKind.i64.wrap ((b : Int) * 2 ^ g) = (b : Int) * 2 ^ g := by
      have h2 : 2 ^ g ≤ 2 ^ 5 := Nat.pow_le_pow_right (by decide) hg
      have h3 : b * 2 ^ g ≤ 1 * 2 ^ 5 := Nat.mul_le_mul hb h2
      have h4 : (b : Int) * 2 ^ g = ((b * 2 ^ g : Nat) : Int) := by rw [Int.natCast_mul, Int.natCast_pow]; rfl
      rw [h4]; exact IntWalk.i64_in _ (by omega)
    simp [execOp, hs.opV hx, hs.opV hy, eqGuard, binOp, e, hw]
end
theorem mBit_test (m g : Nat) : mBit m g = m.testBit g := by unfold mBit; rw [Nat.testBit_eq_decide_div_mod_eq]; rfl
/-- the bit g of m -/
def bitN (m g : Nat) : Nat := (m / 2 ^ g) &&& 1
theorem bitN_le (m g : Nat) : bitN m g ≤ 1 := by unfold bitN; rw [Nat.and_one_is_mod]; omega
theorem bitN_test (m g k j : Nat) : (bitN m g * 2 ^ k).testBit j = (m.testBit g && decide (j = k)) := by
  have h : bitN m g = if m.testBit g = true then 1 else 0 := by
    unfold bitN; rw [Nat.and_one_is_mod, Nat.testBit_eq_decide_div_mod_eq]
    rcases Nat.mod_two_eq_zero_or_one (m / 2 ^ g) with h | h <;> rw [h] <;> rfl
  rw [h]
  cases m.testBit g with
  | true =>
    rw [if_pos rfl, Nat.one_mul, Nat.testBit_two_pow, Bool.true_and]
    by_cases e : j = k
    · rw [e]
    · rw [decide_eq_false e, decide_eq_false (fun h => e h.symm)]
  | false => rw [if_neg (by simp), Nat.zero_mul, Nat.zero_testBit, Bool.false_and]
def lab (zs : List Int) (i : Nat) : Bool := !(iget zs i == 2)
def nearTo (zs : List Int) (set : Nat) : Nat → Nat
  | 0 => set
  | i + 1 => if lab zs i = true then nearTo zs set i ||| (bitN set i * 2 ^ (i + 1) ||| bitN set (i + 1) * 2 ^ i) else nearTo zs set i
def nbL (zs : List Int) (set i : Nat) : Bool := decide (0 < i) && (mBit set (i - 1) && lab zs (i - 1))
def nbR (zs : List Int) (set i : Nat) : Bool := decide (i + 1 < zs.length + 1) && (mBit set (i + 1) && lab zs i)
theorem near_test (zs : List Int) (set : Nat) : ∀ i j, (nearTo zs set i).testBit j = (set.testBit j || (decide (0 < j ∧ j - 1 < i) && (set.testBit (j - 1) && lab zs (j - 1))) || (decide (j < i) && (set.testBit (j + 1) && lab zs j)))
  | 0, j => by unfold nearTo; simp
  | i + 1, j => by
    unfold nearTo
    have ih := near_test zs set i j
    by_cases hl : lab zs i = true
    · rw [if_pos hl, Nat.testBit_or, Nat.testBit_or, bitN_test, bitN_test, ih]
      by_cases e1 : j = i + 1
      · subst e1
        have h1 : decide (0 < i + 1 ∧ i + 1 - 1 < i) = false := by simp
        have h2 : decide (0 < i + 1 ∧ i + 1 - 1 < i + 1) = true := by simp
        have h3 : decide (i + 1 < i) = false := by simp
        have h4 : decide (i + 1 < i + 1) = false := by simp
        have h5 : decide (i + 1 = i + 1) = true := by simp
        have h6 : decide (i + 1 = i) = false := by simp
        rw [h1, h2, h3, h4, h5, h6, Nat.add_sub_cancel, hl]
        cases set.testBit (i + 1) <;> cases set.testBit i <;> rfl
      · by_cases e2 : j = i
        · subst e2
          have h1 : decide (0 < j ∧ j - 1 < j) = decide (0 < j ∧ j - 1 < j + 1) := by apply decide_eq_decide.2; omega
          have h3 : decide (j < j) = false := by simp
          have h4 : decide (j < j + 1) = true := by simp
          have h5 : decide (j = j + 1) = false := by simp
          have h6 : decide (j = j) = true := by simp
          rw [h1, h3, h4, h5, h6, hl]
          cases set.testBit j <;> cases set.testBit (j + 1) <;> cases (decide (0 < j ∧ j - 1 < j + 1) && (set.testBit (j - 1) && lab zs (j - 1))) <;> rfl
        · have h1 : decide (0 < j ∧ j - 1 < i) = decide (0 < j ∧ j - 1 < i + 1) := by apply decide_eq_decide.2; omega
          have h3 : decide (j < i) = decide (j < i + 1) := by apply decide_eq_decide.2; omega
          have h5 : decide (j = i + 1) = false := by simpa using e1
          have h6 : decide (j = i) = false := by simpa using e2
          rw [h1, h3, h5, h6]
          simp
    · rw [if_neg hl, ih]
      have hl : lab zs i = false := by simpa using hl
      congr 1
      · congr 1
        by_cases e1 : j = i + 1
        · subst e1; rw [Nat.add_sub_cancel, hl]; simp
        · have h1 : decide (0 < j ∧ j - 1 < i) = decide (0 < j ∧ j - 1 < i + 1) := by apply decide_eq_decide.2; omega
          rw [h1]
      · by_cases e2 : j = i
        · subst e2; rw [hl]; simp
        · have h3 : decide (j < i) = decide (j < i + 1) := by apply decide_eq_decide.2; omega
          rw [h3]
def fixB (zs : List Int) (r set i : Nat) : Bool := !mBit (set ||| r) i && !(nbL zs set i || nbR zs set i)
def fixTo (zs : List Int) (r set : Nat) : Nat → Nat
  | 0 => 0
  | i + 1 => if fixB zs r set i = true then fixTo zs r set i ||| 2 ^ i else fixTo zs r set i
theorem fix_test (zs : List Int) (r set : Nat) : ∀ i j, (fixTo zs r set i).testBit j = (decide (j < i) && fixB zs r set j)
  | 0, j => by unfold fixTo; simp
  | i + 1, j => by
    unfold fixTo
    have ih := fix_test zs r set i j
    by_cases hf : fixB zs r set i = true
    · rw [if_pos hf, Nat.testBit_or, Nat.testBit_two_pow, ih]
      by_cases e : i = j
      · subst e; rw [hf]; simp
      · have h : decide (j < i) = decide (j < i + 1) := by apply decide_eq_decide.2; omega
        rw [h, decide_eq_false e, Bool.or_false]
    · rw [if_neg hf, ih]
      by_cases e : i = j
      · subst e
        have hf : fixB zs r set i = false := by simpa using hf
        rw [hf]; simp
      · have h : decide (j < i) = decide (j < i + 1) := by apply decide_eq_decide.2; omega
        rw [h]
theorem fix_lt (zs : List Int) (r set : Nat) : ∀ i, fixTo zs r set i < 2 ^ i := fun i => by
  apply Nat.lt_pow_two_of_testBit
  intro j hj
  rw [fix_test, decide_eq_false (by omega)]; rfl
/-- the fixed nodes -/
def fixN (zs : List Int) (r set : Nat) : Nat := fixTo zs r set (zs.length + 1)
theorem fix_eq (zs : List Int) (r set : Nat) : notN (allN zs) (nearTo zs set zs.length ||| r) = fixN zs r set := by
  apply Nat.eq_of_testBit_eq
  intro j
  unfold fixN
  rw [notN_bit, Nat.testBit_or, near_test, fix_test]
  have ha : (allN zs).testBit j = decide (j < zs.length + 1) := by unfold allN; rw [Nat.testBit_two_pow_sub_one]
  rw [ha]
  by_cases hj : j < zs.length + 1
  · rw [decide_eq_true hj, Bool.true_and, Bool.true_and]
    unfold fixB nbL nbR
    rw [mBit_test, mBit_test, mBit_test, Nat.testBit_or]
    have h1 : decide (0 < j ∧ j - 1 < zs.length) = decide (0 < j) := by apply decide_eq_decide.2; omega
    have h2 : decide (j < zs.length) = decide (j + 1 < zs.length + 1) := by apply decide_eq_decide.2; omega
    rw [h1, h2]
    cases set.testBit j <;> cases r.testBit j <;> cases (decide (0 < j) && (set.testBit (j - 1) && lab zs (j - 1))) <;> cases (decide (j + 1 < zs.length + 1) && (set.testBit (j + 1) && lab zs j)) <;> rfl
  · rw [decide_eq_false hj]; rfl
theorem near_lt (zs : List Int) (set : Nat) (hs : set < 1000) : ∀ i, i ≤ 4 → nearTo zs set i < 1024
  | 0, _ => by show set < 1024; omega
  | i + 1, h => by
    have ih := near_lt zs set hs i (by omega)
    unfold nearTo
    split
    · have hp : ∀ g k, k ≤ 5 → bitN set g * 2 ^ k < 2 ^ 10 := fun g k hk => by
        have h1 := bitN_le set g
        have h2 : 2 ^ k ≤ 2 ^ 5 := Nat.pow_le_pow_right (by decide) hk
        have h3 : bitN set g * 2 ^ k ≤ 1 * 2 ^ 5 := Nat.mul_le_mul h1 h2
        omega
      exact Nat.or_lt_two_pow (n := 10) ih (Nat.or_lt_two_pow (hp _ _ (by omega)) (hp _ _ (by omega)))
    · exact ih
end Go.Proofs.Ytlpeghdbjfnenaa

/- FixedNodes, the program's. guards: -/
namespace Go.Proofs.Ytlpeghdbjfnenaa
open Go.RowKit

set_option maxRecDepth 100000 in
set_option maxHeartbeats 1000000 in
theorem fixI_fc (zs : List Int) (L r set : Nat) (hL : zs.length = L) (h4 : L ≤ 4) (hr : r < 1000) (hs : set < 1000) :
    FC Try.prog 94 [(1003, wRo zs)] [o1 (.sl 1003 0 L), vv (I6 r), vv (I6 set)] [] (vv (I6 (fixN zs r set : Nat))) [] := by
  have hA := allI_fc zs L hL h4
  have hil : L ≤ (ivals zs).length := by rw [ivals_len, hL]; exact Nat.le_refl _
  have hss : set < 1000000 := by omega
  rw [← fix_eq, hL]
  refine fc_enter (nt := 44) Try.func94 rfl rfl (by simp) fun w0 ω0 => ?_
  (refine goes_seq ?_; refine goes_region ?_; apply run_step rfl; (exact stp_assign rfl rfl); refine run_nil ?_; refine fin_seq ?_; refine goes_seq ?_; refine goes_region ?_; apply run_step rfl; (exact stp_move rfl rfl); apply run_step rfl; (exact stp_assign rfl rfl); refine run_nil ?_; refine fin_seq ?_; refine goes_seq ?_; refine goes_seq ?_; refine goes_region ?_; apply run_step rfl; (exact stp_move rfl rfl); apply run_step rfl; (exact stp_len rfl rfl rfl (by as_aux_lemma => kernel_rfl)); apply run_step rfl; (exact stp_move rfl rfl); refine run_nil ?_; refine fin_seq ?_; refine goes_block ?_)
  refine goes_loop (fun i : Nat => St.of [(0, o1 (.sl 1003 0 L)), (1, vv (I6 r)), (2, vv (I6 set)), (7, vv (I6 (nearTo zs set i : Nat))), (11, o1 (.sl 1003 0 L)), (12, vv (I6 L)), (13, vv (I6 i))] [(1003, wRo zs)]) (fun i => i ≤ L) (fun i => L - i) 0 (Nat.zero_le _) (Wk.of ⟨rfl, rfl, rfl, rfl, rfl, rfl, rfl, trivial⟩ ⟨rfl, trivial⟩ trivial) ?_
  rintro i hi
  (refine goes_seq ?_; refine goes_region ?_; apply run_step rfl; (exact stp_bin rfl rfl rfl rfl); refine run_nil ?_; refine fin_seq ?_; refine goes_seq ?_)
  refine goes_if rfl (fun hlt => ?_) (fun hlt => ?_)
  · have hiL : i < L := by omega
    have gz : (ivals zs)[i]? = some (I6 (iget zs i)) := ivals_get (by omega)
    have hn := near_lt zs set hs i (by omega)
    have hi64 : i ≤ 64 := by omega
    have hi641 : i + 1 ≤ 64 := by omega
    have hg0 : i ≤ 5 := by omega
    have hg1 : i + 1 ≤ 5 := by omega
    have hw1 : IntKind.i64.wrap ((i : Int) + 1) = ((i + 1 : Nat) : Int) := (IntWalk.i64_in _ (by omega)).trans (by omega)
    have hp : ∀ g k, k ≤ 5 → bitN set g * 2 ^ k < 2 ^ 10 := fun g k hk => by
      have h1 := bitN_le set g
      have h2 : 2 ^ k ≤ 2 ^ 5 := Nat.pow_le_pow_right (by decide) hk
      have h3 : bitN set g * 2 ^ k ≤ 1 * 2 ^ 5 := Nat.mul_le_mul h1 h2
      omega
    have hb1 : bitN set i * 2 ^ (i + 1) < 1000000 := by have := hp i (i + 1) hg1; omega
    have hb2 : bitN set (i + 1) * 2 ^ i < 1000000 := by have := hp (i + 1) i hg0; omega
    have hb3 : nearTo zs set i < 1000000 := by omega
    have hb4 : (bitN set i * 2 ^ (i + 1) ||| bitN set (i + 1) * 2 ^ i) < 1000000 := by
      have := Nat.or_lt_two_pow (n := 10) (hp i (i + 1) hg1) (hp (i + 1) i hg0); omega
    (refine goes_skip ?_; refine fin_seq ?_; refine goes_seq ?_; refine goes_block ?_; refine goes_seq ?_; refine goes_region ?_; apply run_step rfl; (exact stp_move rfl rfl); apply run_step rfl; (first | exact stp_ix (j := i) rfl rfl rfl rfl rfl (by as_aux_lemma => kernel_rfl) rfl hiL hil | exact stp_loadV rfl (by as_aux_lemma => kernel_rfl) rfl rfl rfl gz); apply run_step rfl; (first | exact stp_ix (j := i) rfl rfl rfl rfl rfl (by as_aux_lemma => kernel_rfl) rfl hiL hil | exact stp_loadV rfl (by as_aux_lemma => kernel_rfl) rfl rfl rfl gz); apply run_step rfl; (exact stp_assign rfl rfl); apply run_step rfl; (exact stp_assign rfl rfl); refine run_nil ?_; refine fin_seq ?_; refine goes_seq ?_; refine goes_region ?_; apply run_step rfl; (exact stp_move rfl rfl); apply run_step rfl; (exact stp_bin rfl rfl rfl rfl); refine run_nil ?_; refine fin_seq ?_)
    refine goes_cond rfl (fun h => ?_) (fun h => ?_)
    · have hv : nearTo zs set (i + 1) = nearTo zs set i ||| (bitN set i * 2 ^ (i + 1) ||| bitN set (i + 1) * 2 ^ i) := by rw [nearTo, if_pos (show lab zs i = true from h)]
      (skip)
      apply goes_draw 17 [] [[], [], [], [1, 2], [1, 2, 3], [], [5], [1, 2, 3, 4, 5, 6], [], [], [9], [8, 9, 10], [8, 9, 10, 11], [], [8, 9, 10, 11, 12, 13], [1, 2, 3, 4, 5, 6, 7, 8, 9, 10, 11, 12, 13, 14], [0, 1, 2, 3, 4, 5, 6, 7, 8, 9, 10, 11, 12, 13, 14, 15], [0, 1, 2, 3, 4, 5, 6, 7, 8, 9, 10, 11, 12, 13, 14, 15, 16]] [20, 21, 22, 23, 24, 25, 26, 27, 28, 29, 30, 31, 32, 33, 34, 35, 36] [] (by kernel_rfl) (by kernel_rfl)
      · (apply draw_put rfl; (focus (intro S1 hS; exact stp_move rfl (hS.op rfl))))
        (apply draw_put rfl; (focus (intro S1 hS; exact stp_move rfl (hS.op rfl))))
        (apply draw_put rfl; (focus (intro S1 hS; exact stp_move rfl (hS.op rfl))))
        (apply draw_put rfl; (focus (intro S1 hS; exact stp_shrN (g := i) rfl (hS.op rfl) (hS.op rfl) hi64)))
        (apply draw_put rfl; (focus (intro S1 hS; exact stp_bit rfl (hS.op rfl) hss)))
        (apply draw_put rfl; (focus (intro S1 hS; exact stp_move rfl (hS.op rfl))))
        (apply draw_put rfl; (focus (intro S1 hS; exact stp_add rfl (hS.op rfl) (hS.op rfl) hw1)))
        (apply draw_put rfl; (focus (intro S1 hS; exact stp_shlB (b := bitN set i) (g := i + 1) rfl (hS.op rfl) (hS.op rfl) (bitN_le _ _) hg1)))
        (apply draw_put rfl; (focus (intro S1 hS; exact stp_move rfl (hS.op rfl))))
        (apply draw_put rfl; (focus (intro S1 hS; exact stp_move rfl (hS.op rfl))))
        (apply draw_put rfl; (focus (intro S1 hS; exact stp_add rfl (hS.op rfl) (hS.op rfl) hw1)))
        (apply draw_put rfl; (focus (intro S1 hS; exact stp_shrN (g := i + 1) rfl (hS.op rfl) (hS.op rfl) hi641)))
        (apply draw_put rfl; (focus (intro S1 hS; exact stp_bit rfl (hS.op rfl) hss)))
        (apply draw_put rfl; (focus (intro S1 hS; exact stp_move rfl (hS.op rfl))))
        (apply draw_put rfl; (focus (intro S1 hS; exact stp_shlB (b := bitN set (i + 1)) (g := i) rfl (hS.op rfl) (hS.op rfl) (bitN_le _ _) hg0)))
        (apply draw_put rfl; (focus (intro S1 hS; exact stp_orN rfl (hS.op rfl) (hS.op rfl) hb1 hb2)))
        (apply draw_put rfl; (focus (intro S1 hS; exact stp_orN rfl (hS.op rfl) (hS.op rfl) hb3 hb4)))
        exact Draw.nil
      · rfl
      refine rest_join (St.of [(0, o1 (.sl 1003 0 L)), (1, vv (I6 r)), (2, vv (I6 set)), (7, vv (I6 (nearTo zs set (i + 1) : Nat))), (11, o1 (.sl 1003 0 L)), (12, vv (I6 L)), (13, vv (I6 i))] [(1003, wRo zs)]) ?_ ?_
      · ((apply rest_one 17 rfl (by as_aux_lemma => kernel_rfl) rfl rfl; (exact stp_assign rfl rfl)); (refine rest_done (by as_aux_lemma => kernel_rfl) ?_; exact fin_join (Wk.of ⟨rfl, rfl, rfl, congrArg (fun z : Nat => some (vv (I6 (z : Int)))) hv.symm, rfl, rfl, rfl, trivial⟩ ⟨rfl, trivial⟩ trivial)))
      (refine fin_block ?_; refine fin_seq ?_; refine goes_region ?_; apply run_step rfl; (exact stp_add rfl rfl rfl (by first | exact IntWalk.i64_in _ (by omega) | rfl)); apply run_step rfl; (exact stp_move rfl rfl); refine run_nil ?_)
      exact fin_round (i + 1) (by omega) (by omega) (Wk.of ⟨rfl, rfl, rfl, rfl, rfl, rfl, rfl, trivial⟩ ⟨rfl, trivial⟩ trivial)
    · have hv : nearTo zs set (i + 1) = nearTo zs set i := by
        have h : lab zs i = false := h
        rw [nearTo, if_neg (by rw [h]; simp)]
      (refine goes_skip ?_; refine fin_block ?_; refine fin_seq ?_; refine goes_region ?_; apply run_step rfl; (exact stp_add rfl rfl rfl (by first | exact IntWalk.i64_in _ (by omega) | rfl)); apply run_step rfl; (exact stp_move rfl rfl); refine run_nil ?_)
      exact fin_round (i + 1) (by omega) (by omega) (Wk.of ⟨rfl, rfl, rfl, congrArg (fun z : Nat => some (vv (I6 (z : Int)))) hv.symm, rfl, rfl, rfl, trivial⟩ ⟨rfl, trivial⟩ trivial)
  · obtain rfl : i = L := by omega
    have hn := near_lt zs set hs i h4
    have hb1 : nearTo zs set i < 1000000 := by omega
    have hb2 : r < 1000000 := by omega
    have hb3 : allN zs < 1000000 := by have := allN_lt (zs := zs) (by omega); omega
    have hb4 : (nearTo zs set i ||| r) < 1000000 := by
      have := Nat.or_lt_two_pow (n := 10) (x := nearTo zs set i) (y := r) (by omega) (by omega); omega
    (refine goes_exit ?_; refine fin_exit_then ?_; refine fin_exit_then ?_; refine fin_exit_eq ?_; refine fin_seq ?_; refine goes_seq ?_; refine goes_region ?_; apply run_step rfl; (exact stp_move rfl rfl); apply run_step rfl; (first | (apply call_gate 64; exact stp_callR hA (by as_aux_lemma => kernel_rfl) rfl rfl ⟨rfl, trivial⟩ ⟨⟨_, rfl, .inl rfl⟩, trivial⟩ rfl rfl) | exact stp_orN rfl rfl rfl hb1 hb2 | exact stp_notN rfl rfl rfl hb3 hb4); apply run_step rfl; (exact stp_move rfl rfl); apply run_step rfl; (exact stp_move rfl rfl); apply run_step rfl; (first | (apply call_gate 64; exact stp_callR hA (by as_aux_lemma => kernel_rfl) rfl rfl ⟨rfl, trivial⟩ ⟨⟨_, rfl, .inl rfl⟩, trivial⟩ rfl rfl) | exact stp_orN rfl rfl rfl hb1 hb2 | exact stp_notN rfl rfl rfl hb3 hb4); apply run_step rfl; (first | (apply call_gate 64; exact stp_callR hA (by as_aux_lemma => kernel_rfl) rfl rfl ⟨rfl, trivial⟩ ⟨⟨_, rfl, .inl rfl⟩, trivial⟩ rfl rfl) | exact stp_orN rfl rfl rfl hb1 hb2 | exact stp_notN rfl rfl rfl hb3 hb4); apply run_step rfl; (exact stp_assign rfl rfl); refine run_nil ?_; refine fin_seq ?_; refine goes_ret ?_)
    exact fin_ret1 (.inl rfl) rfl (.tmp rfl) trivial trivial
/-- the error of a ringed diagram and a mask -/
def setC (zs : List Int) (m s : Int) : Int := if (isDiag zs && (inB m 0 (allN zs) && !inB s 0 (allN zs))) = true then 2 else ringC zs m
set_option maxRecDepth 100000 in
set_option maxHeartbeats 1000000 in
theorem setI_fc (zs : List Int) (L : Nat) (m s : Int) (hL : zs.length = L) (hn : L ≤ 4398046511104) :
    FC Try.prog 93 [(1003, wRo zs)] [o1 (.sl 1003 0 L), vv (I6 m), vv (I6 s)] [] (vv (I6 (setC zs m s))) [] := by
  have hI := diagI_fc zs L hL hn
  unfold setC
  refine fc_enter (nt := 41) Try.func93 rfl rfl (by simp) fun w0 ω0 => ?_
  cases hd : isDiag zs with
  | false =>
    rw [hd] at hI
    rw [Bool.false_and, if_neg (by simp), ringC_no hd]
    (refine goes_seq ?_; refine goes_region ?_; apply run_step rfl; (exact stp_assign rfl rfl); refine run_nil ?_; refine fin_seq ?_; refine goes_seq ?_; refine goes_block ?_; refine goes_seq ?_; refine goes_region ?_; apply run_step rfl; (exact stp_move rfl rfl); apply run_step rfl; (apply call_gate 62; exact stp_callR hI (by as_aux_lemma => kernel_rfl) rfl rfl ⟨rfl, trivial⟩ ⟨⟨_, rfl, .inl rfl⟩, trivial⟩ rfl rfl); apply run_step rfl; (exact stp_not rfl rfl); apply run_step rfl; (exact stp_assign rfl rfl); refine run_nil ?_; refine fin_seq ?_)
    refine goes_cond rfl (fun _ => ?_) (fun e => by cases e)
    (refine goes_seq ?_; refine goes_region ?_; apply run_step rfl; (exact stp_assign rfl rfl); refine run_nil ?_; refine fin_seq ?_; refine goes_ret ?_; refine fin_ret_block ?_; refine fin_ret_then ?_)
    exact fin_ret1 (.inl rfl) rfl (.tmp rfl) trivial trivial
  | true =>
    rw [hd] at hI
    have h4 : L ≤ 4 := by have := isDiag_len hd; omega
    have hM := isMask_fc zs L m hL h4
    have hS := isMask_fc zs L s hL h4
    have hA := allI_fc zs L hL h4
    rw [Bool.true_and]
    cases hb : inB m 0 (allN zs) with
    | false =>
      rw [hb] at hM
      rw [Bool.false_and, if_neg (by simp), ringC_out hd hb]
      (refine goes_seq ?_; refine goes_region ?_; apply run_step rfl; (exact stp_assign rfl rfl); refine run_nil ?_; refine fin_seq ?_; refine goes_seq ?_; refine goes_block ?_; refine goes_seq ?_; refine goes_region ?_; apply run_step rfl; (exact stp_move rfl rfl); apply run_step rfl; (apply call_gate 62; exact stp_callR hI (by as_aux_lemma => kernel_rfl) rfl rfl ⟨rfl, trivial⟩ ⟨⟨_, rfl, .inl rfl⟩, trivial⟩ rfl rfl); apply run_step rfl; (exact stp_not rfl rfl); apply run_step rfl; (exact stp_assign rfl rfl); refine run_nil ?_; refine fin_seq ?_)
      refine goes_cond rfl (fun e => by cases e) (fun _ => ?_)
      (refine goes_seq ?_; refine goes_region ?_; apply run_step rfl; (exact stp_move rfl rfl); apply run_step rfl; (exact stp_move rfl rfl); apply run_step rfl; (apply call_gate 85; exact stp_callR hM (by as_aux_lemma => kernel_rfl) rfl rfl ⟨rfl, rfl, trivial⟩ ⟨⟨_, rfl, .inl rfl⟩, trivial⟩ rfl rfl); apply run_step rfl; (exact stp_not rfl rfl); apply run_step rfl; (exact stp_move rfl rfl); apply run_gNo rfl rfl rfl rfl rfl; apply run_gNo rfl rfl rfl rfl rfl; apply run_gNo rfl rfl rfl rfl rfl; apply run_gNo rfl rfl rfl rfl rfl; apply run_step rfl; (exact stp_pickT rfl rfl rfl); apply run_step rfl; (exact stp_assign rfl rfl); refine run_nil ?_; refine fin_seq ?_)
      refine goes_cond rfl (fun _ => ?_) (fun e => by cases e)
      (refine goes_seq ?_; refine goes_region ?_; apply run_step rfl; (exact stp_assign rfl rfl); refine run_nil ?_; refine fin_seq ?_; refine goes_ret ?_; refine fin_ret_block ?_; refine fin_ret_then ?_)
      exact fin_ret1 (.inl rfl) rfl (.tmp rfl) trivial trivial
    | true =>
      rw [hb] at hM
      rw [Bool.true_and]
      have hlt := allN_lt (zs := zs) (by omega)
      have hbb := inB_true.1 hb
      obtain ⟨k, rfl⟩ := Int.eq_ofNat_of_zero_le hbb.1
      cases hs : inB s 0 (allN zs) with
      | false =>
        rw [hs] at hS
        rw [if_pos (by rfl)]
        (refine goes_seq ?_; refine goes_region ?_; apply run_step rfl; (exact stp_assign rfl rfl); refine run_nil ?_; refine fin_seq ?_; refine goes_seq ?_; refine goes_block ?_; refine goes_seq ?_; refine goes_region ?_; apply run_step rfl; (exact stp_move rfl rfl); apply run_step rfl; (apply call_gate 62; exact stp_callR hI (by as_aux_lemma => kernel_rfl) rfl rfl ⟨rfl, trivial⟩ ⟨⟨_, rfl, .inl rfl⟩, trivial⟩ rfl rfl); apply run_step rfl; (exact stp_not rfl rfl); apply run_step rfl; (exact stp_assign rfl rfl); refine run_nil ?_; refine fin_seq ?_)
        refine goes_cond rfl (fun e => by cases e) (fun _ => ?_)
        (refine goes_seq ?_; refine goes_region ?_; apply run_step rfl; (exact stp_move rfl rfl); apply run_step rfl; (exact stp_move rfl rfl); apply run_step rfl; (first | (apply call_gate 85; exact stp_callR hM (by as_aux_lemma => kernel_rfl) rfl rfl ⟨rfl, rfl, trivial⟩ ⟨⟨_, rfl, .inl rfl⟩, trivial⟩ rfl rfl) | (apply call_gate 85; exact stp_callR hS (by as_aux_lemma => kernel_rfl) rfl rfl ⟨rfl, rfl, trivial⟩ ⟨⟨_, rfl, .inl rfl⟩, trivial⟩ rfl rfl)); apply run_step rfl; (exact stp_not rfl rfl); apply run_step rfl; (exact stp_move rfl rfl); apply run_gYes rfl rfl rfl; (exact stp_move rfl rfl); apply run_gYes rfl rfl rfl; (exact stp_move rfl rfl); apply run_gYes rfl rfl rfl; (first | (apply call_gate 85; exact stp_callR hM (by as_aux_lemma => kernel_rfl) rfl rfl ⟨rfl, rfl, trivial⟩ ⟨⟨_, rfl, .inl rfl⟩, trivial⟩ rfl rfl) | (apply call_gate 85; exact stp_callR hS (by as_aux_lemma => kernel_rfl) rfl rfl ⟨rfl, rfl, trivial⟩ ⟨⟨_, rfl, .inl rfl⟩, trivial⟩ rfl rfl)); apply run_gYes rfl rfl rfl; (exact stp_not rfl rfl); apply run_step rfl; (exact stp_pickF rfl rfl rfl); apply run_step rfl; (exact stp_assign rfl rfl); refine run_nil ?_; refine fin_seq ?_)
        refine goes_cond rfl (fun _ => ?_) (fun e => by cases e)
        (refine goes_seq ?_; refine goes_region ?_; apply run_step rfl; (exact stp_assign rfl rfl); refine run_nil ?_; refine fin_seq ?_; refine goes_ret ?_; refine fin_ret_block ?_; refine fin_ret_then ?_)
        exact fin_ret1 (.inl rfl) rfl (.tmp rfl) trivial trivial
      | true =>
        rw [hs] at hS
        rw [if_neg (by simp)]
        (refine goes_seq ?_; refine goes_region ?_; apply run_step rfl; (exact stp_assign rfl rfl); refine run_nil ?_; refine fin_seq ?_; refine goes_seq ?_; refine goes_block ?_; refine goes_seq ?_; refine goes_region ?_; apply run_step rfl; (exact stp_move rfl rfl); apply run_step rfl; (apply call_gate 62; exact stp_callR hI (by as_aux_lemma => kernel_rfl) rfl rfl ⟨rfl, trivial⟩ ⟨⟨_, rfl, .inl rfl⟩, trivial⟩ rfl rfl); apply run_step rfl; (exact stp_not rfl rfl); apply run_step rfl; (exact stp_assign rfl rfl); refine run_nil ?_; refine fin_seq ?_)
        refine goes_cond rfl (fun e => by cases e) (fun _ => ?_)
        (refine goes_seq ?_; refine goes_region ?_; apply run_step rfl; (exact stp_move rfl rfl); apply run_step rfl; (exact stp_move rfl rfl); apply run_step rfl; (first | (apply call_gate 85; exact stp_callR hM (by as_aux_lemma => kernel_rfl) rfl rfl ⟨rfl, rfl, trivial⟩ ⟨⟨_, rfl, .inl rfl⟩, trivial⟩ rfl rfl) | (apply call_gate 85; exact stp_callR hS (by as_aux_lemma => kernel_rfl) rfl rfl ⟨rfl, rfl, trivial⟩ ⟨⟨_, rfl, .inl rfl⟩, trivial⟩ rfl rfl)); apply run_step rfl; (exact stp_not rfl rfl); apply run_step rfl; (exact stp_move rfl rfl); apply run_gYes rfl rfl rfl; (exact stp_move rfl rfl); apply run_gYes rfl rfl rfl; (exact stp_move rfl rfl); apply run_gYes rfl rfl rfl; (first | (apply call_gate 85; exact stp_callR hM (by as_aux_lemma => kernel_rfl) rfl rfl ⟨rfl, rfl, trivial⟩ ⟨⟨_, rfl, .inl rfl⟩, trivial⟩ rfl rfl) | (apply call_gate 85; exact stp_callR hS (by as_aux_lemma => kernel_rfl) rfl rfl ⟨rfl, rfl, trivial⟩ ⟨⟨_, rfl, .inl rfl⟩, trivial⟩ rfl rfl)); apply run_gYes rfl rfl rfl; (exact stp_not rfl rfl); apply run_step rfl; (exact stp_pickF rfl rfl rfl); apply run_step rfl; (exact stp_assign rfl rfl); refine run_nil ?_; refine fin_seq ?_)
        refine goes_cond rfl (fun e => by cases e) (fun _ => ?_)
        cases hf : finB zs (allN zs) with
        | false =>
          have hO := ordNo_fc zs L (allN zs) hL hd (by omega) hf
          rw [ringC_inf hd hb hf]
          (refine goes_skip ?_; refine fin_block ?_; refine fin_seq ?_; refine goes_seq ?_; refine goes_seq ?_; refine goes_region ?_; apply run_step rfl; (exact stp_move rfl rfl); apply run_step rfl; (exact stp_move rfl rfl); apply run_step rfl; (first | (apply call_gate 64; exact stp_callR hA (by as_aux_lemma => kernel_rfl) rfl rfl ⟨rfl, trivial⟩ ⟨⟨_, rfl, .inl rfl⟩, trivial⟩ rfl rfl) | (apply call_gate 86; exact stp_callR hO (by as_aux_lemma => kernel_rfl) rfl rfl ⟨rfl, rfl, trivial⟩ ⟨⟨_, rfl, .inl rfl⟩, trivial⟩ rfl rfl)); apply run_step rfl; (first | (apply call_gate 64; exact stp_callR hA (by as_aux_lemma => kernel_rfl) rfl rfl ⟨rfl, trivial⟩ ⟨⟨_, rfl, .inl rfl⟩, trivial⟩ rfl rfl) | (apply call_gate 86; exact stp_callR hO (by as_aux_lemma => kernel_rfl) rfl rfl ⟨rfl, rfl, trivial⟩ ⟨⟨_, rfl, .inl rfl⟩, trivial⟩ rfl rfl)); apply run_step rfl; (exact stp_move rfl rfl); apply run_step rfl; (exact stp_extract rfl rfl rfl); apply run_step rfl; (exact stp_extract rfl rfl rfl); apply run_step rfl; (exact stp_assign rfl rfl); apply run_step rfl; (exact stp_assign rfl rfl); refine run_nil ?_; refine fin_seq ?_; refine goes_seq ?_; refine goes_region ?_; apply run_step rfl; (exact stp_move rfl rfl); apply run_step rfl; (exact stp_not rfl rfl); apply run_step rfl; (exact stp_move rfl rfl); apply run_gNo rfl rfl rfl rfl rfl; apply run_gNo rfl rfl rfl rfl rfl; apply run_gNo rfl rfl rfl rfl rfl; apply run_gNo rfl rfl rfl rfl rfl; apply run_gNo rfl rfl rfl rfl rfl; apply run_gNo rfl rfl rfl rfl rfl; apply run_step rfl; (exact stp_pickT rfl rfl rfl); refine run_nil ?_; refine fin_seq ?_)
          refine goes_cond rfl (fun _ => ?_) (fun e => by cases e)
          (refine goes_seq ?_; refine goes_region ?_; apply run_step rfl; (exact stp_assign rfl rfl); refine run_nil ?_; refine fin_seq ?_; refine goes_ret ?_; refine fin_ret_then ?_)
          exact fin_ret1 (.inl rfl) rfl (.tmp rfl) trivial trivial
        | true =>
          have hO := ordYes_fc zs L (allN zs) hL hd (by omega) hf
          have hG := adm_fc zs L k (allN zs) hL h4 (by omega) (by omega)
          rw [ringC_in hd hb hf]
          (refine goes_skip ?_; refine fin_block ?_; refine fin_seq ?_; refine goes_seq ?_; refine goes_seq ?_; refine goes_region ?_; apply run_step rfl; (exact stp_move rfl rfl); apply run_step rfl; (exact stp_move rfl rfl); apply run_step rfl; (first | (apply call_gate 64; exact stp_callR hA (by as_aux_lemma => kernel_rfl) rfl rfl ⟨rfl, trivial⟩ ⟨⟨_, rfl, .inl rfl⟩, trivial⟩ rfl rfl) | (apply call_gate 86; exact stp_callR hO (by as_aux_lemma => kernel_rfl) rfl rfl ⟨rfl, rfl, trivial⟩ ⟨⟨_, rfl, .inl rfl⟩, trivial⟩ rfl rfl) | (apply call_gate 90; exact stp_callR hG (by as_aux_lemma => kernel_rfl) rfl rfl ⟨rfl, rfl, rfl, trivial⟩ ⟨⟨_, rfl, .inl rfl⟩, trivial⟩ rfl rfl)); apply run_step rfl; (first | (apply call_gate 64; exact stp_callR hA (by as_aux_lemma => kernel_rfl) rfl rfl ⟨rfl, trivial⟩ ⟨⟨_, rfl, .inl rfl⟩, trivial⟩ rfl rfl) | (apply call_gate 86; exact stp_callR hO (by as_aux_lemma => kernel_rfl) rfl rfl ⟨rfl, rfl, trivial⟩ ⟨⟨_, rfl, .inl rfl⟩, trivial⟩ rfl rfl) | (apply call_gate 90; exact stp_callR hG (by as_aux_lemma => kernel_rfl) rfl rfl ⟨rfl, rfl, rfl, trivial⟩ ⟨⟨_, rfl, .inl rfl⟩, trivial⟩ rfl rfl)); apply run_step rfl; (exact stp_move rfl rfl); apply run_step rfl; (exact stp_extract rfl rfl rfl); apply run_step rfl; (exact stp_extract rfl rfl rfl); apply run_step rfl; (exact stp_assign rfl rfl); apply run_step rfl; (exact stp_assign rfl rfl); refine run_nil ?_; refine fin_seq ?_; refine goes_seq ?_; refine goes_region ?_; apply run_step rfl; (exact stp_move rfl rfl); apply run_step rfl; (exact stp_not rfl rfl); apply run_step rfl; (exact stp_move rfl rfl); apply run_gYes rfl rfl rfl; (exact stp_move rfl rfl); apply run_gYes rfl rfl rfl; (exact stp_move rfl rfl); apply run_gYes rfl rfl rfl; (exact stp_move rfl rfl); apply run_gYes rfl rfl rfl; (first | (apply call_gate 64; exact stp_callR hA (by as_aux_lemma => kernel_rfl) rfl rfl ⟨rfl, trivial⟩ ⟨⟨_, rfl, .inl rfl⟩, trivial⟩ rfl rfl) | (apply call_gate 86; exact stp_callR hO (by as_aux_lemma => kernel_rfl) rfl rfl ⟨rfl, rfl, trivial⟩ ⟨⟨_, rfl, .inl rfl⟩, trivial⟩ rfl rfl) | (apply call_gate 90; exact stp_callR hG (by as_aux_lemma => kernel_rfl) rfl rfl ⟨rfl, rfl, rfl, trivial⟩ ⟨⟨_, rfl, .inl rfl⟩, trivial⟩ rfl rfl)); apply run_gYes rfl rfl rfl; (first | (apply call_gate 64; exact stp_callR hA (by as_aux_lemma => kernel_rfl) rfl rfl ⟨rfl, trivial⟩ ⟨⟨_, rfl, .inl rfl⟩, trivial⟩ rfl rfl) | (apply call_gate 86; exact stp_callR hO (by as_aux_lemma => kernel_rfl) rfl rfl ⟨rfl, rfl, trivial⟩ ⟨⟨_, rfl, .inl rfl⟩, trivial⟩ rfl rfl) | (apply call_gate 90; exact stp_callR hG (by as_aux_lemma => kernel_rfl) rfl rfl ⟨rfl, rfl, rfl, trivial⟩ ⟨⟨_, rfl, .inl rfl⟩, trivial⟩ rfl rfl)); apply run_gYes rfl rfl rfl; (exact stp_not rfl rfl); apply run_step rfl; (exact stp_pickF rfl rfl rfl); refine run_nil ?_; refine fin_seq ?_)
          refine goes_cond rfl (fun h => ?_) (fun h => ?_)
          · have ha : admB zs (allN zs) k = false := by simpa using h
            rw [ha, if_neg (by simp)]
            (refine goes_seq ?_; refine goes_region ?_; apply run_step rfl; (exact stp_assign rfl rfl); refine run_nil ?_; refine fin_seq ?_; refine goes_ret ?_; refine fin_ret_then ?_)
            exact fin_ret1 (.inl rfl) rfl (.tmp rfl) trivial trivial
          · have ha : admB zs (allN zs) k = true := by simpa using h
            rw [ha, if_pos rfl]
            (refine goes_skip ?_; refine fin_seq ?_; refine goes_seq ?_; refine goes_region ?_; apply run_step rfl; (exact stp_assign rfl rfl); refine run_nil ?_; refine fin_seq ?_; refine goes_ret ?_)
            exact fin_ret1 (.inl rfl) rfl (.tmp rfl) trivial trivial
def fxR (zs : List Int) (m s : Int) : Int := if setC zs m s = 0 then (fixN zs m.toNat s.toNat : Int) else 0
theorem setC_zero {zs : List Int} {m s : Int} (h : setC zs m s = 0) : isDiag zs = true ∧ finB zs (allN zs) = true ∧ ∃ k l : Nat, m = k ∧ s = l ∧ k ≤ allN zs ∧ l ≤ allN zs := by
  unfold setC at h
  split at h
  · cases h
  · rename_i hc
    cases hd : isDiag zs with
    | false => rw [ringC_no hd] at h; cases h
    | true =>
      cases hb : inB m 0 (allN zs) with
      | false => rw [ringC_out hd hb] at h; cases h
      | true =>
        have hbb := inB_true.1 hb
        obtain ⟨k, rfl⟩ := Int.eq_ofNat_of_zero_le hbb.1
        cases hf : finB zs (allN zs) with
        | false => rw [ringC_inf hd hb hf] at h; cases h
        | true =>
          have hs : inB s 0 (allN zs) = true := by
            cases hs : inB s 0 (allN zs) with
            | true => rfl
            | false => rw [hd, hb, hs] at hc; exact absurd rfl hc
          have hss := inB_true.1 hs
          obtain ⟨l, rfl⟩ := Int.eq_ofNat_of_zero_le hss.1
          exact ⟨rfl, rfl, k, l, rfl, rfl, by omega, by omega⟩
set_option maxRecDepth 100000 in
theorem fxI_fc (zs : List Int) (m s : Int) (hn : zs.length ≤ 4398046511104) :
    FC Try.prog 52 [(1003, wRo zs)] [o1 (.sl 1003 0 zs.length), vv (I6 m), vv (I6 s)] [] (.tup [.one (.val (I6 (fxR zs m s))), .one (.val (I6 (setC zs m s)))]) [] := by
  have hS := setI_fc zs zs.length m s rfl hn
  unfold fxR
  refine fc_enter (nt := 20) Try.func52 rfl rfl (by simp) fun w0 ω0 => ?_
  (refine goes_seq ?_; refine goes_region ?_; apply run_step rfl; (exact stp_assign rfl rfl); apply run_step rfl; (exact stp_assign rfl rfl); refine run_nil ?_; refine fin_seq ?_; refine goes_seq ?_; refine goes_seq ?_; refine goes_region ?_; apply run_step rfl; (exact stp_move rfl rfl); apply run_step rfl; (exact stp_move rfl rfl); apply run_step rfl; (exact stp_move rfl rfl); apply run_step rfl; (apply call_gate 93; exact stp_callR hS (by as_aux_lemma => kernel_rfl) rfl rfl ⟨rfl, rfl, rfl, trivial⟩ ⟨⟨_, rfl, .inl rfl⟩, trivial⟩ rfl rfl); apply run_step rfl; (exact stp_assign rfl rfl); refine run_nil ?_; refine fin_seq ?_; refine goes_seq ?_; refine goes_region ?_; apply run_step rfl; (exact stp_move rfl rfl); apply run_step rfl; (exact stp_bin rfl rfl rfl rfl); refine run_nil ?_; refine fin_seq ?_)
  refine goes_cond rfl (fun h => ?_) (fun h => ?_)
  · have h0 : setC zs m s ≠ 0 := by simpa using h
    rw [if_neg h0]
    (refine goes_seq ?_; refine goes_region ?_; apply run_step rfl; (exact stp_move rfl rfl); apply run_step rfl; (exact stp_assign rfl rfl); apply run_step rfl; (exact stp_assign rfl rfl); refine run_nil ?_; refine fin_seq ?_; refine goes_ret ?_; refine fin_ret_then ?_)
    exact fin_ret2 (.inl rfl) rfl (.tmp rfl) (.tmp rfl) trivial trivial
  have h0 : setC zs m s = 0 := by simpa using h
  rw [if_pos h0, h0]
  obtain ⟨hd, hf, k, l, rfl, rfl, hk, hl⟩ := setC_zero h0
  have h4 := isDiag_len hd
  have hlt := allN_lt h4
  have hF := fixI_fc zs zs.length k l rfl h4 (by omega) (by omega)
  rw [Int.toNat_natCast, Int.toNat_natCast]
  (refine goes_skip ?_; refine fin_seq ?_; refine goes_seq ?_; refine goes_region ?_; apply run_step rfl; (exact stp_move rfl rfl); apply run_step rfl; (exact stp_move rfl rfl); apply run_step rfl; (exact stp_move rfl rfl); apply run_step rfl; (apply call_gate 94; exact stp_callR hF (by as_aux_lemma => kernel_rfl) rfl rfl ⟨rfl, rfl, rfl, trivial⟩ ⟨⟨_, rfl, .inl rfl⟩, trivial⟩ rfl rfl); apply run_step rfl; (exact stp_assign rfl rfl); apply run_step rfl; (exact stp_assign rfl rfl); refine run_nil ?_; refine fin_seq ?_; refine goes_ret ?_)
  exact fin_ret2 (.inl rfl) rfl (.tmp rfl) (.tmp rfl) trivial trivial
end Go.Proofs.Ytlpeghdbjfnenaa

/- FixedNodes, the reference's. guards: -/
namespace Go.Proofs.Ytlpeghdbjfnenaa
open Go.RowKit

section
variable {P : Program} {nt : Nat} {S : St} {w0 : World} {ω0 : Beg} {Q : Exit → Act → World → Prop} {ops : Array Oper} {rest : List Oper} {o : Oper}
theorem run_gNoU {j d t : Nat} {want : Bool} (hg : o.guard = some (j, want)) (hj : (ops[j]?).bind (·.dst) = some d) (hb : S.sl d = some (vv undef)) (ht : o.dst = some t) (hn : Nat.blt t nt = true) (k : Run P w0 ω0 nt ops Q (S.put t (vv undef)) rest) : Run P w0 ω0 nt ops Q S (o :: rest) := by
  refine ⟨fun a w hs => ?_⟩
  have hy : yielded ops a.tmps j = none := by
    obtain ⟨η, ω, hs⟩ := hs
    obtain ⟨u, k1, k2⟩ := hs.slots d _ hb
    have k2 : u = undef := k2
    subst k2
    unfold yielded
    cases hoj : ops[j]? with
    | none => rw [hoj] at hj; cases hj
    | some oj =>
      rw [hoj] at hj
      simp only [Option.bind_some] at hj
      simp [hj, k1, undef]
  refine wpList_step fun K hK => ?_
  rw [if_neg (by simp [Region.wanted, hg, hy])]
  obtain ⟨η, ω, hs⟩ := hs
  exact hK _ _ (k.go _ _ ⟨η, ω, by rw [ht]; exact hs.putV (by simpa using hn) rfl⟩)
end
set_option maxRecDepth 100000 in
set_option maxHeartbeats 2000000 in
theorem fixS_fc (zs : List Int) (L r set : Nat) (hL : zs.length = L) (h4 : L ≤ 4) (hr : r < 1000) (hs : set < 1000) :
    FC Try.prog 92 [(1003, wRo zs)] [o1 (.sl 1003 0 L), vv (I6 r), vv (I6 set)] [] (vv (I6 (fixN zs r set : Nat))) [] := by
  have hR := rankS_fc zs L h4
  have hil : L ≤ (ivals zs).length := by rw [ivals_len, hL]; exact Nat.le_refl _
  have hss : set < 1000000 := by omega
  have hrr : r < 1000000 := by omega
  have hor : (set ||| r) < 1000000 := by have := Nat.or_lt_two_pow (n := 10) (x := set) (y := r) (by omega) (by omega); omega
  unfold fixN
  rw [hL]
  refine fc_enter (nt := 77) Try.func92 rfl rfl (by simp) fun w0 ω0 => ?_
  (refine goes_seq ?_; refine goes_region ?_; apply run_step rfl; (exact stp_assign rfl rfl); refine run_nil ?_; refine fin_seq ?_; refine goes_seq ?_; refine goes_region ?_; apply run_step rfl; (exact stp_assign rfl rfl); refine run_nil ?_; refine fin_seq ?_; refine goes_seq ?_; refine goes_seq ?_; refine goes_region ?_; apply run_step rfl; (exact stp_assign rfl rfl); refine run_nil ?_; refine fin_seq ?_; refine goes_block ?_)
  refine goes_loop (fun i : Nat => St.of [(0, o1 (.sl 1003 0 L)), (1, vv (I6 r)), (2, vv (I6 set)), (7, vv (I6 (fixTo zs r set i : Nat))), (8, vv (I6 i))] [(1003, wRo zs)]) (fun i => i ≤ L + 1) (fun i => L + 1 - i) 0 (Nat.zero_le _) (Wk.of ⟨rfl, rfl, rfl, rfl, rfl, trivial⟩ ⟨rfl, trivial⟩ trivial) ?_
  rintro i hi
  (refine goes_seq ?_; refine goes_seq ?_; refine goes_region ?_; apply run_step rfl; (exact stp_move rfl rfl); apply run_step rfl; (exact stp_move rfl rfl); apply run_step rfl; (apply call_gate 103; exact stp_callR hR (by as_aux_lemma => kernel_rfl) rfl rfl ⟨rfl, trivial⟩ ⟨⟨_, rfl, .inl rfl⟩, trivial⟩ rfl rfl); apply run_step rfl; (exact stp_bin rfl rfl rfl rfl); refine run_nil ?_; refine fin_seq ?_)
  refine goes_if rfl (fun hlt => ?_) (fun hlt => ?_)
  · have hiL : i ≤ L := by omega
    have hi64 : i ≤ 64 := by omega
    have hi5 : i ≤ 5 := by omega
    have hfl := fix_lt zs r set i
    have h2i : 2 ^ i ≤ 2 ^ 5 := Nat.pow_le_pow_right (by decide) hi5
    have hb1 : fixTo zs r set i < 1000000 := by omega
    have hb2 : 2 ^ i < 1000000 := by omega
    have hcv : IntKind.u64.wrap (i : Int) = (i : Int) := by rw [IntKind.wrap_u64]; omega
    (repeat (first | refine goes_seq ?_ | refine fin_seq ?_ | refine goes_skip ?_ | refine goes_block ?_ | refine fin_block ?_ | refine goes_exit ?_ | refine fin_exit_eq ?_ | refine fin_exit_ne rfl ?_ | refine fin_exit_then ?_))
    refine goes_cut (St.of [(0, o1 (.sl 1003 0 L)), (1, vv (I6 r)), (2, vv (I6 set)), (7, vv (I6 (fixTo zs r set i : Nat))), (8, vv (I6 i)), (9, vv (.bool (nbL zs set i)))] [(1003, wRo zs)]) ?_ ?_
    · refine goes_region ?_
      (apply run_step rfl; (exact stp_move rfl rfl); apply run_step rfl; (exact stp_bin rfl rfl rfl rfl); apply run_step rfl; (exact stp_move rfl rfl))
      refine run_bool 18 rfl (fun h1 => ?_) (fun h1 => ?_)
      · have hi0 : 0 < i := by have := of_decide_eq_true h1; omega
        have hsb : IntKind.i64.wrap ((i : Int) - 1) = ((i - 1 : Nat) : Int) := (IntWalk.i64_in _ (by omega)).trans (by omega)
        have hcv1 : IntKind.u64.wrap ((i - 1 : Nat) : Int) = ((i - 1 : Nat) : Int) := by rw [IntKind.wrap_u64]; omega
        have hi64' : i - 1 ≤ 64 := by omega
        (apply run_gYes rfl rfl rfl; (exact stp_move rfl rfl); apply run_gYes rfl rfl rfl; (exact stp_move rfl rfl); apply run_gYes rfl rfl rfl; (first | exact stp_sub rfl rfl rfl hsb | exact stp_convN rfl rfl (by as_aux_lemma => kernel_rfl) (by as_aux_lemma => kernel_rfl) hcv1 | exact stp_shrN (g := i - 1) rfl rfl rfl hi64' | exact stp_bit rfl rfl hss | exact stp_eqBit rfl rfl); apply run_gYes rfl rfl rfl; (first | exact stp_sub rfl rfl rfl hsb | exact stp_convN rfl rfl (by as_aux_lemma => kernel_rfl) (by as_aux_lemma => kernel_rfl) hcv1 | exact stp_shrN (g := i - 1) rfl rfl rfl hi64' | exact stp_bit rfl rfl hss | exact stp_eqBit rfl rfl); apply run_gYes rfl rfl rfl; (first | exact stp_sub rfl rfl rfl hsb | exact stp_convN rfl rfl (by as_aux_lemma => kernel_rfl) (by as_aux_lemma => kernel_rfl) hcv1 | exact stp_shrN (g := i - 1) rfl rfl rfl hi64' | exact stp_bit rfl rfl hss | exact stp_eqBit rfl rfl); apply run_gYes rfl rfl rfl; (first | exact stp_sub rfl rfl rfl hsb | exact stp_convN rfl rfl (by as_aux_lemma => kernel_rfl) (by as_aux_lemma => kernel_rfl) hcv1 | exact stp_shrN (g := i - 1) rfl rfl rfl hi64' | exact stp_bit rfl rfl hss | exact stp_eqBit rfl rfl); apply run_gYes rfl rfl rfl; (first | exact stp_sub rfl rfl rfl hsb | exact stp_convN rfl rfl (by as_aux_lemma => kernel_rfl) (by as_aux_lemma => kernel_rfl) hcv1 | exact stp_shrN (g := i - 1) rfl rfl rfl hi64' | exact stp_bit rfl rfl hss | exact stp_eqBit rfl rfl); apply run_step rfl; (exact stp_pickT rfl rfl rfl); apply run_step rfl; (exact stp_move rfl rfl))
        refine run_bool 27 rfl (fun h2 => ?_) (fun h2 => ?_)
        · have gz : (ivals zs)[i - 1]? = some (I6 (iget zs (i - 1))) := ivals_get (by omega)
          have hv : nbL zs set i = (iget zs (i - 1) != 2) := by unfold nbL; rw [decide_eq_true hi0, h2]; rfl
          rw [hv]
          (apply run_gYes rfl rfl rfl; (exact stp_move rfl rfl); apply run_gYes rfl rfl rfl; (exact stp_move rfl rfl); apply run_gYes rfl rfl rfl; (first | exact stp_sub rfl rfl rfl hsb | exact stp_ix (j := i - 1) rfl rfl rfl rfl rfl (by as_aux_lemma => kernel_rfl) rfl (by omega) hil | exact stp_loadV rfl (by as_aux_lemma => kernel_rfl) rfl rfl rfl gz); apply run_gYes rfl rfl rfl; (first | exact stp_sub rfl rfl rfl hsb | exact stp_ix (j := i - 1) rfl rfl rfl rfl rfl (by as_aux_lemma => kernel_rfl) rfl (by omega) hil | exact stp_loadV rfl (by as_aux_lemma => kernel_rfl) rfl rfl rfl gz); apply run_gYes rfl rfl rfl; (first | exact stp_sub rfl rfl rfl hsb | exact stp_ix (j := i - 1) rfl rfl rfl rfl rfl (by as_aux_lemma => kernel_rfl) rfl (by omega) hil | exact stp_loadV rfl (by as_aux_lemma => kernel_rfl) rfl rfl rfl gz); apply run_gYes rfl rfl rfl; (exact stp_bin rfl rfl rfl rfl); apply run_step rfl; (exact stp_pickT rfl rfl rfl); apply run_step rfl; (exact stp_assign rfl rfl); refine run_nil ?_)
          exact fin_join (Wk.of ⟨rfl, rfl, rfl, rfl, rfl, rfl, trivial⟩ ⟨rfl, trivial⟩ trivial)
        · have hv : nbL zs set i = false := by unfold nbL; rw [h2]; simp
          rw [hv]
          (apply run_gNo rfl rfl rfl rfl rfl; apply run_gNo rfl rfl rfl rfl rfl; apply run_gNo rfl rfl rfl rfl rfl; apply run_gNo rfl rfl rfl rfl rfl; apply run_gNo rfl rfl rfl rfl rfl; apply run_gNo rfl rfl rfl rfl rfl; apply run_step rfl; (exact stp_pickF rfl rfl rfl); apply run_step rfl; (exact stp_assign rfl rfl); refine run_nil ?_)
          exact fin_join (Wk.of ⟨rfl, rfl, rfl, rfl, rfl, rfl, trivial⟩ ⟨rfl, trivial⟩ trivial)
      · have hv : nbL zs set i = false := by
          have : ¬ 0 < i := by have := of_decide_eq_false h1; omega
          unfold nbL; rw [decide_eq_false this]; rfl
        rw [hv]
        (apply run_gNo rfl rfl rfl rfl rfl; apply run_gNo rfl rfl rfl rfl rfl; apply run_gNo rfl rfl rfl rfl rfl; apply run_gNo rfl rfl rfl rfl rfl; apply run_gNo rfl rfl rfl rfl rfl; apply run_gNo rfl rfl rfl rfl rfl; apply run_gNo rfl rfl rfl rfl rfl; apply run_step rfl; (exact stp_pickF rfl rfl rfl); apply run_step rfl; (exact stp_move rfl rfl); apply run_gNo rfl rfl rfl rfl rfl; apply run_gNo rfl rfl rfl rfl rfl; apply run_gNo rfl rfl rfl rfl rfl; apply run_gNo rfl rfl rfl rfl rfl; apply run_gNo rfl rfl rfl rfl rfl; apply run_gNo rfl rfl rfl rfl rfl; apply run_step rfl; (exact stp_pickF rfl rfl rfl); apply run_step rfl; (exact stp_assign rfl rfl); refine run_nil ?_)
        exact fin_join (Wk.of ⟨rfl, rfl, rfl, rfl, rfl, rfl, trivial⟩ ⟨rfl, trivial⟩ trivial)
    (repeat (first | refine goes_seq ?_ | refine fin_seq ?_ | refine goes_skip ?_ | refine goes_block ?_ | refine fin_block ?_ | refine goes_exit ?_ | refine fin_exit_eq ?_ | refine fin_exit_ne rfl ?_ | refine fin_exit_then ?_))
    refine goes_cut (St.of [(0, o1 (.sl 1003 0 L)), (1, vv (I6 r)), (2, vv (I6 set)), (7, vv (I6 (fixTo zs r set i : Nat))), (8, vv (I6 i)), (9, vv (.bool (nbL zs set i || nbR zs set i)))] [(1003, wRo zs)]) ?_ ?_
    · refine goes_region ?_
      have hw1 : IntKind.i64.wrap ((i : Int) + 1) = ((i + 1 : Nat) : Int) := (IntWalk.i64_in _ (by omega)).trans (by omega)
      have hcv1 : IntKind.u64.wrap ((i + 1 : Nat) : Int) = ((i + 1 : Nat) : Int) := by rw [IntKind.wrap_u64]; omega
      have hi64' : i + 1 ≤ 64 := by omega
      cases hnl : nbL zs set i with
      | true =>
        rw [Bool.true_or]
        (apply run_step rfl; (exact stp_move rfl rfl); apply run_step rfl; (exact stp_move rfl rfl); apply run_gNo rfl rfl rfl rfl rfl; apply run_gNo rfl rfl rfl rfl rfl; apply run_gNo rfl rfl rfl rfl rfl; apply run_gNo rfl rfl rfl rfl rfl; apply run_gNo rfl rfl rfl rfl rfl; apply run_gNo rfl rfl rfl rfl rfl)
        (apply run_gNoU rfl rfl rfl rfl rfl)
        (apply run_gNoU rfl rfl rfl rfl rfl)
        (apply run_gNoU rfl rfl rfl rfl rfl)
        (apply run_gNoU rfl rfl rfl rfl rfl)
        (apply run_gNoU rfl rfl rfl rfl rfl)
        (apply run_gNoU rfl rfl rfl rfl rfl)
        (apply run_gNoU rfl rfl rfl rfl rfl)
        (apply run_gNo rfl rfl rfl rfl rfl; apply run_gNo rfl rfl rfl rfl rfl)
        (apply run_gNoU rfl rfl rfl rfl rfl)
        (apply run_gNoU rfl rfl rfl rfl rfl)
        (apply run_gNoU rfl rfl rfl rfl rfl)
        (apply run_gNoU rfl rfl rfl rfl rfl)
        (apply run_gNoU rfl rfl rfl rfl rfl)
        (apply run_gNo rfl rfl rfl rfl rfl; apply run_step rfl; (exact stp_pickT rfl rfl rfl); apply run_step rfl; (exact stp_assign rfl rfl); refine run_nil ?_)
        exact fin_join (Wk.of ⟨rfl, rfl, rfl, rfl, rfl, rfl, trivial⟩ ⟨rfl, trivial⟩ trivial)
      | false =>
        rw [Bool.false_or]
        (apply run_step rfl; (exact stp_move rfl rfl); apply run_step rfl; (exact stp_move rfl rfl); apply run_gYes rfl rfl rfl; (exact stp_move rfl rfl); apply run_gYes rfl rfl rfl; (first | exact stp_add rfl rfl rfl hw1 | (apply call_gate 103; exact stp_callR hR (by as_aux_lemma => kernel_rfl) rfl rfl ⟨rfl, trivial⟩ ⟨⟨_, rfl, .inl rfl⟩, trivial⟩ rfl rfl)); apply run_gYes rfl rfl rfl; (exact stp_move rfl rfl); apply run_gYes rfl rfl rfl; (first | exact stp_add rfl rfl rfl hw1 | (apply call_gate 103; exact stp_callR hR (by as_aux_lemma => kernel_rfl) rfl rfl ⟨rfl, trivial⟩ ⟨⟨_, rfl, .inl rfl⟩, trivial⟩ rfl rfl)); apply run_gYes rfl rfl rfl; (exact stp_bin rfl rfl rfl rfl); apply run_gYes rfl rfl rfl; (exact stp_move rfl rfl))
        refine run_bool 42 rfl (fun h1 => ?_) (fun h1 => ?_)
        · have hi0 : i + 1 < L + 1 := by have := of_decide_eq_true h1; omega
          (apply run_gYes rfl rfl rfl; (exact stp_move rfl rfl); apply run_gYes rfl rfl rfl; (exact stp_move rfl rfl); apply run_gYes rfl rfl rfl; (first | exact stp_add rfl rfl rfl hw1 | exact stp_convN rfl rfl (by as_aux_lemma => kernel_rfl) (by as_aux_lemma => kernel_rfl) hcv1 | exact stp_shrN (g := i + 1) rfl rfl rfl hi64' | exact stp_bit rfl rfl hss | exact stp_eqBit rfl rfl); apply run_gYes rfl rfl rfl; (first | exact stp_add rfl rfl rfl hw1 | exact stp_convN rfl rfl (by as_aux_lemma => kernel_rfl) (by as_aux_lemma => kernel_rfl) hcv1 | exact stp_shrN (g := i + 1) rfl rfl rfl hi64' | exact stp_bit rfl rfl hss | exact stp_eqBit rfl rfl); apply run_gYes rfl rfl rfl; (first | exact stp_add rfl rfl rfl hw1 | exact stp_convN rfl rfl (by as_aux_lemma => kernel_rfl) (by as_aux_lemma => kernel_rfl) hcv1 | exact stp_shrN (g := i + 1) rfl rfl rfl hi64' | exact stp_bit rfl rfl hss | exact stp_eqBit rfl rfl); apply run_gYes rfl rfl rfl; (first | exact stp_add rfl rfl rfl hw1 | exact stp_convN rfl rfl (by as_aux_lemma => kernel_rfl) (by as_aux_lemma => kernel_rfl) hcv1 | exact stp_shrN (g := i + 1) rfl rfl rfl hi64' | exact stp_bit rfl rfl hss | exact stp_eqBit rfl rfl); apply run_gYes rfl rfl rfl; (first | exact stp_add rfl rfl rfl hw1 | exact stp_convN rfl rfl (by as_aux_lemma => kernel_rfl) (by as_aux_lemma => kernel_rfl) hcv1 | exact stp_shrN (g := i + 1) rfl rfl rfl hi64' | exact stp_bit rfl rfl hss | exact stp_eqBit rfl rfl); apply run_gYes rfl rfl rfl; (exact stp_pickT rfl rfl rfl); apply run_gYes rfl rfl rfl; (exact stp_move rfl rfl))
          refine run_bool 51 rfl (fun h2 => ?_) (fun h2 => ?_)
          · have gz : (ivals zs)[i]? = some (I6 (iget zs i)) := ivals_get (by omega)
            have hv : nbR zs set i = (iget zs i != 2) := by unfold nbR; rw [hL, decide_eq_true hi0, h2]; rfl
            rw [hv]
            (apply run_gYes rfl rfl rfl; (exact stp_move rfl rfl); apply run_gYes rfl rfl rfl; (exact stp_move rfl rfl); apply run_gYes rfl rfl rfl; (first | exact stp_ix (j := i) rfl rfl rfl rfl rfl (by as_aux_lemma => kernel_rfl) rfl (by omega) hil | exact stp_loadV rfl (by as_aux_lemma => kernel_rfl) rfl rfl rfl gz); apply run_gYes rfl rfl rfl; (first | exact stp_ix (j := i) rfl rfl rfl rfl rfl (by as_aux_lemma => kernel_rfl) rfl (by omega) hil | exact stp_loadV rfl (by as_aux_lemma => kernel_rfl) rfl rfl rfl gz); apply run_gYes rfl rfl rfl; (exact stp_bin rfl rfl rfl rfl); apply run_gYes rfl rfl rfl; (exact stp_pickT rfl rfl rfl); apply run_step rfl; (exact stp_pickF rfl rfl rfl); apply run_step rfl; (exact stp_assign rfl rfl); refine run_nil ?_)
            exact fin_join (Wk.of ⟨rfl, rfl, rfl, rfl, rfl, rfl, trivial⟩ ⟨rfl, trivial⟩ trivial)
          · have hv : nbR zs set i = false := by unfold nbR; rw [h2]; simp
            rw [hv]
            (apply run_gNo rfl rfl rfl rfl rfl; apply run_gNo rfl rfl rfl rfl rfl; apply run_gNo rfl rfl rfl rfl rfl; apply run_gNo rfl rfl rfl rfl rfl; apply run_gNo rfl rfl rfl rfl rfl; apply run_gYes rfl rfl rfl; (exact stp_pickF rfl rfl rfl); apply run_step rfl; (exact stp_pickF rfl rfl rfl); apply run_step rfl; (exact stp_assign rfl rfl); refine run_nil ?_)
            exact fin_join (Wk.of ⟨rfl, rfl, rfl, rfl, rfl, rfl, trivial⟩ ⟨rfl, trivial⟩ trivial)
        · have hv : nbR zs set i = false := by
            have : ¬ i + 1 < L + 1 := by have := of_decide_eq_false h1; omega
            unfold nbR; rw [hL, decide_eq_false this]; rfl
          rw [hv]
          (apply run_gNo rfl rfl rfl rfl rfl; apply run_gNo rfl rfl rfl rfl rfl; apply run_gNo rfl rfl rfl rfl rfl; apply run_gNo rfl rfl rfl rfl rfl; apply run_gNo rfl rfl rfl rfl rfl; apply run_gNo rfl rfl rfl rfl rfl; apply run_gNo rfl rfl rfl rfl rfl; apply run_gYes rfl rfl rfl; (exact stp_pickF rfl rfl rfl); apply run_gYes rfl rfl rfl; (exact stp_move rfl rfl); apply run_gNo rfl rfl rfl rfl rfl; apply run_gNo rfl rfl rfl rfl rfl; apply run_gNo rfl rfl rfl rfl rfl; apply run_gNo rfl rfl rfl rfl rfl; apply run_gNo rfl rfl rfl rfl rfl; apply run_gYes rfl rfl rfl; (exact stp_pickF rfl rfl rfl); apply run_step rfl; (exact stp_pickF rfl rfl rfl); apply run_step rfl; (exact stp_assign rfl rfl); refine run_nil ?_)
          exact fin_join (Wk.of ⟨rfl, rfl, rfl, rfl, rfl, rfl, trivial⟩ ⟨rfl, trivial⟩ trivial)
    cases hm : mBit (set ||| r) i with
    | true =>
      have hfx : fixB zs r set i = false := by unfold fixB; rw [hm]; rfl
      have hv : fixTo zs r set (i + 1) = fixTo zs r set i := by rw [fixTo, if_neg (by rw [hfx]; simp)]
      have hq : ((((set ||| r) / 2 ^ i &&& 1 : Nat) : Int) == 0) = false := by
        have := mBit_of (set ||| r) i
        rw [hm] at this
        have h1 : (((set ||| r) / 2 ^ i &&& 1 : Nat) : Int) = 1 := by simpa using this
        rw [h1]; rfl
      have hbe : binI .i64 .eql (((set ||| r) / 2 ^ i &&& 1 : Nat) : Int) 0 = some (.bool false) := by
        show some (Value.bool _) = _
        rw [hq]
      (refine fin_seq ?_; refine goes_seq ?_; refine goes_region ?_; apply run_step rfl; (exact stp_move rfl rfl); apply run_step rfl; (exact stp_move rfl rfl); apply run_step rfl; (first | exact stp_orN rfl rfl rfl hss hrr | exact stp_convN rfl rfl (by as_aux_lemma => kernel_rfl) (by as_aux_lemma => kernel_rfl) hcv | exact stp_shrN (g := i) rfl rfl rfl hi64 | exact stp_bit rfl rfl hor | exact stp_bin rfl rfl rfl hbe); apply run_step rfl; (exact stp_move rfl rfl); apply run_step rfl; (first | exact stp_orN rfl rfl rfl hss hrr | exact stp_convN rfl rfl (by as_aux_lemma => kernel_rfl) (by as_aux_lemma => kernel_rfl) hcv | exact stp_shrN (g := i) rfl rfl rfl hi64 | exact stp_bit rfl rfl hor | exact stp_bin rfl rfl rfl hbe); apply run_step rfl; (first | exact stp_orN rfl rfl rfl hss hrr | exact stp_convN rfl rfl (by as_aux_lemma => kernel_rfl) (by as_aux_lemma => kernel_rfl) hcv | exact stp_shrN (g := i) rfl rfl rfl hi64 | exact stp_bit rfl rfl hor | exact stp_bin rfl rfl rfl hbe); apply run_step rfl; (first | exact stp_orN rfl rfl rfl hss hrr | exact stp_convN rfl rfl (by as_aux_lemma => kernel_rfl) (by as_aux_lemma => kernel_rfl) hcv | exact stp_shrN (g := i) rfl rfl rfl hi64 | exact stp_bit rfl rfl hor | exact stp_bin rfl rfl rfl hbe); apply run_step rfl; (first | exact stp_orN rfl rfl rfl hss hrr | exact stp_convN rfl rfl (by as_aux_lemma => kernel_rfl) (by as_aux_lemma => kernel_rfl) hcv | exact stp_shrN (g := i) rfl rfl rfl hi64 | exact stp_bit rfl rfl hor | exact stp_bin rfl rfl rfl hbe); apply run_step rfl; (exact stp_move rfl rfl); apply run_gNo rfl rfl rfl rfl rfl; apply run_gNo rfl rfl rfl rfl rfl; apply run_step rfl; (exact stp_pickF rfl rfl rfl); refine run_nil ?_; refine fin_seq ?_)
      refine goes_cond rfl (fun e => by cases e) (fun _ => ?_)
      (refine goes_skip ?_; refine fin_block ?_; refine fin_seq ?_; refine goes_region ?_; apply run_step rfl; (exact stp_move rfl rfl); apply run_step rfl; (exact stp_add rfl rfl rfl (by first | exact IntWalk.i64_in _ (by omega) | rfl)); apply run_step rfl; (exact stp_assign rfl rfl); refine run_nil ?_)
      exact fin_round (i + 1) (by omega) (by omega) (Wk.of ⟨rfl, rfl, rfl, congrArg (fun z : Nat => some (vv (I6 (z : Int)))) hv.symm, rfl, trivial⟩ ⟨rfl, trivial⟩ trivial)
    | false =>
      have hq : ((((set ||| r) / 2 ^ i &&& 1 : Nat) : Int) == 0) = true := by
        have h1 := bitN_le (set ||| r) i
        unfold bitN at h1
        have := mBit_of (set ||| r) i
        rw [hm] at this
        have h2 : (((set ||| r) / 2 ^ i &&& 1 : Nat) : Int) ≠ 1 := by simpa using this
        have h3 : (set ||| r) / 2 ^ i &&& 1 = 0 := by omega
        rw [h3]; rfl
      have hbe : binI .i64 .eql (((set ||| r) / 2 ^ i &&& 1 : Nat) : Int) 0 = some (.bool true) := by
        show some (Value.bool _) = _
        rw [hq]
      (refine fin_seq ?_; refine goes_seq ?_; refine goes_region ?_; apply run_step rfl; (exact stp_move rfl rfl); apply run_step rfl; (exact stp_move rfl rfl); apply run_step rfl; (first | exact stp_orN rfl rfl rfl hss hrr | exact stp_convN rfl rfl (by as_aux_lemma => kernel_rfl) (by as_aux_lemma => kernel_rfl) hcv | exact stp_shrN (g := i) rfl rfl rfl hi64 | exact stp_bit rfl rfl hor | exact stp_bin rfl rfl rfl hbe); apply run_step rfl; (exact stp_move rfl rfl); apply run_step rfl; (first | exact stp_orN rfl rfl rfl hss hrr | exact stp_convN rfl rfl (by as_aux_lemma => kernel_rfl) (by as_aux_lemma => kernel_rfl) hcv | exact stp_shrN (g := i) rfl rfl rfl hi64 | exact stp_bit rfl rfl hor | exact stp_bin rfl rfl rfl hbe); apply run_step rfl; (first | exact stp_orN rfl rfl rfl hss hrr | exact stp_convN rfl rfl (by as_aux_lemma => kernel_rfl) (by as_aux_lemma => kernel_rfl) hcv | exact stp_shrN (g := i) rfl rfl rfl hi64 | exact stp_bit rfl rfl hor | exact stp_bin rfl rfl rfl hbe); apply run_step rfl; (first | exact stp_orN rfl rfl rfl hss hrr | exact stp_convN rfl rfl (by as_aux_lemma => kernel_rfl) (by as_aux_lemma => kernel_rfl) hcv | exact stp_shrN (g := i) rfl rfl rfl hi64 | exact stp_bit rfl rfl hor | exact stp_bin rfl rfl rfl hbe); apply run_step rfl; (first | exact stp_orN rfl rfl rfl hss hrr | exact stp_convN rfl rfl (by as_aux_lemma => kernel_rfl) (by as_aux_lemma => kernel_rfl) hcv | exact stp_shrN (g := i) rfl rfl rfl hi64 | exact stp_bit rfl rfl hor | exact stp_bin rfl rfl rfl hbe); apply run_step rfl; (exact stp_move rfl rfl); apply run_gYes rfl rfl rfl; (exact stp_move rfl rfl); apply run_gYes rfl rfl rfl; (exact stp_not rfl rfl); apply run_step rfl; (exact stp_pickT rfl rfl rfl); refine run_nil ?_; refine fin_seq ?_)
      refine goes_cond rfl (fun h => ?_) (fun h => ?_)
      · have hfx : fixB zs r set i = true := by unfold fixB; rw [hm]; exact h
        have hv : fixTo zs r set (i + 1) = fixTo zs r set i ||| 2 ^ i := by rw [fixTo, if_pos hfx]
        (refine goes_region ?_; apply run_step rfl; (exact stp_move rfl rfl); apply run_step rfl; (exact stp_move rfl rfl); apply run_step rfl; (first | exact stp_convN rfl rfl (by as_aux_lemma => kernel_rfl) (by as_aux_lemma => kernel_rfl) hcv | exact stp_shl1 (g := i) rfl rfl rfl hi5 | exact stp_orN rfl rfl rfl hb1 hb2); apply run_step rfl; (first | exact stp_convN rfl rfl (by as_aux_lemma => kernel_rfl) (by as_aux_lemma => kernel_rfl) hcv | exact stp_shl1 (g := i) rfl rfl rfl hi5 | exact stp_orN rfl rfl rfl hb1 hb2); apply run_step rfl; (first | exact stp_convN rfl rfl (by as_aux_lemma => kernel_rfl) (by as_aux_lemma => kernel_rfl) hcv | exact stp_shl1 (g := i) rfl rfl rfl hi5 | exact stp_orN rfl rfl rfl hb1 hb2); apply run_step rfl; (exact stp_assign rfl rfl); refine run_nil ?_; refine fin_block ?_; refine fin_seq ?_; refine goes_region ?_; apply run_step rfl; (exact stp_move rfl rfl); apply run_step rfl; (exact stp_add rfl rfl rfl (by first | exact IntWalk.i64_in _ (by omega) | rfl)); apply run_step rfl; (exact stp_assign rfl rfl); refine run_nil ?_)
        exact fin_round (i + 1) (by omega) (by omega) (Wk.of ⟨rfl, rfl, rfl, congrArg (fun z : Nat => some (vv (I6 (z : Int)))) hv.symm, rfl, trivial⟩ ⟨rfl, trivial⟩ trivial)
      · have hfx : fixB zs r set i = false := by unfold fixB; rw [hm]; exact h
        have hv : fixTo zs r set (i + 1) = fixTo zs r set i := by rw [fixTo, if_neg (by rw [hfx]; simp)]
        (refine goes_skip ?_; refine fin_block ?_; refine fin_seq ?_; refine goes_region ?_; apply run_step rfl; (exact stp_move rfl rfl); apply run_step rfl; (exact stp_add rfl rfl rfl (by first | exact IntWalk.i64_in _ (by omega) | rfl)); apply run_step rfl; (exact stp_assign rfl rfl); refine run_nil ?_)
        exact fin_round (i + 1) (by omega) (by omega) (Wk.of ⟨rfl, rfl, rfl, congrArg (fun z : Nat => some (vv (I6 (z : Int)))) hv.symm, rfl, trivial⟩ ⟨rfl, trivial⟩ trivial)
  · obtain rfl : i = L + 1 := by omega
    (refine goes_exit ?_; refine fin_exit_then ?_; refine fin_exit_then ?_; refine fin_exit_eq ?_; refine fin_seq ?_; refine goes_seq ?_; refine goes_region ?_; apply run_step rfl; (exact stp_move rfl rfl); apply run_step rfl; (exact stp_assign rfl rfl); refine run_nil ?_; refine fin_seq ?_; refine goes_ret ?_)
    exact fin_ret1 (.inl rfl) rfl (.tmp rfl) trivial trivial
end Go.Proofs.Ytlpeghdbjfnenaa

/- FixedNodes, in words. guards: -/
namespace Go.Proofs.Ytlpeghdbjfnenaa
open Go.RowKit

set_option maxRecDepth 100000 in
set_option maxHeartbeats 1000000 in
theorem setS_fc (zs : List Int) (L : Nat) (m s : Int) (hL : zs.length = L) (hn : L ≤ 4398046511104) :
    FC Try.prog 91 [(1003, wRo zs)] [o1 (.sl 1003 0 L), vv (I6 m), vv (I6 s)] [] (vv (I6 (setC zs m s))) [] := by
  have hI := diagS_fc zs L hL hn
  have hC := codeS_fc zs L m hL hn
  unfold setC
  refine fc_enter (nt := 25) Try.func91 rfl rfl (by simp) fun w0 ω0 => ?_
  cases hd : isDiag zs with
  | false =>
    rw [hd] at hI
    rw [Bool.false_and, if_neg (by simp)]
    (refine goes_seq ?_; refine goes_region ?_; apply run_step rfl; (exact stp_assign rfl rfl); refine run_nil ?_; refine fin_seq ?_; refine goes_seq ?_; refine goes_seq ?_; refine goes_region ?_; apply run_step rfl; (exact stp_move rfl rfl); apply run_step rfl; (apply call_gate 59; exact stp_callR hI (by as_aux_lemma => kernel_rfl) rfl rfl ⟨rfl, trivial⟩ ⟨⟨_, rfl, .inl rfl⟩, trivial⟩ rfl rfl); apply run_step rfl; (exact stp_move rfl rfl); apply run_gNo rfl rfl rfl rfl rfl; apply run_gNo rfl rfl rfl rfl rfl; apply run_gNo rfl rfl rfl rfl rfl; apply run_gNo rfl rfl rfl rfl rfl; apply run_step rfl; (exact stp_pickF rfl rfl rfl); apply run_step rfl; (exact stp_move rfl rfl); apply run_gNo rfl rfl rfl rfl rfl; apply run_gNo rfl rfl rfl rfl rfl; apply run_gNo rfl rfl rfl rfl rfl; apply run_gNo rfl rfl rfl rfl rfl; apply run_gNo rfl rfl rfl rfl rfl; apply run_step rfl; (exact stp_pickF rfl rfl rfl); refine run_nil ?_; refine fin_seq ?_)
    refine goes_cond rfl (fun e => by cases e) (fun _ => ?_)
    (refine goes_skip ?_; refine fin_seq ?_; refine goes_seq ?_; refine goes_region ?_; apply run_step rfl; (exact stp_move rfl rfl); apply run_step rfl; (exact stp_move rfl rfl); apply run_step rfl; (apply call_gate 89; exact stp_callR hC (by as_aux_lemma => kernel_rfl) rfl rfl ⟨rfl, rfl, trivial⟩ ⟨⟨_, rfl, .inl rfl⟩, trivial⟩ rfl rfl); apply run_step rfl; (exact stp_assign rfl rfl); refine run_nil ?_; refine fin_seq ?_; refine goes_ret ?_)
    exact fin_ret1 (.inl rfl) rfl (.tmp rfl) trivial trivial
  | true =>
    rw [hd] at hI
    have h4 : L ≤ 4 := by have := isDiag_len hd; omega
    have hW := wholeS_fc zs L hL h4
    have hM := in_fc m 0 (allN zs)
    have hS := in_fc s 0 (allN zs)
    rw [Bool.true_and]
    cases hb : inB m 0 (allN zs) with
    | false =>
      rw [hb] at hM
      rw [Bool.false_and, if_neg (by simp)]
      (refine goes_seq ?_; refine goes_region ?_; apply run_step rfl; (exact stp_assign rfl rfl); refine run_nil ?_; refine fin_seq ?_; refine goes_seq ?_; refine goes_seq ?_; refine goes_region ?_; apply run_step rfl; (exact stp_move rfl rfl); apply run_step rfl; (first | (apply call_gate 59; exact stp_callR hI (by as_aux_lemma => kernel_rfl) rfl rfl ⟨rfl, trivial⟩ ⟨⟨_, rfl, .inl rfl⟩, trivial⟩ rfl rfl) | (apply call_gate 61; exact stp_callR hW (by as_aux_lemma => kernel_rfl) rfl rfl ⟨rfl, trivial⟩ ⟨⟨_, rfl, .inl rfl⟩, trivial⟩ rfl rfl) | (apply call_gate 101; exact stp_callR hM (by as_aux_lemma => kernel_rfl) rfl rfl ⟨rfl, rfl, rfl, trivial⟩ trivial rfl rfl)); apply run_step rfl; (exact stp_move rfl rfl); apply run_gYes rfl rfl rfl; (exact stp_move rfl rfl); apply run_gYes rfl rfl rfl; (exact stp_move rfl rfl); apply run_gYes rfl rfl rfl; (first | (apply call_gate 59; exact stp_callR hI (by as_aux_lemma => kernel_rfl) rfl rfl ⟨rfl, trivial⟩ ⟨⟨_, rfl, .inl rfl⟩, trivial⟩ rfl rfl) | (apply call_gate 61; exact stp_callR hW (by as_aux_lemma => kernel_rfl) rfl rfl ⟨rfl, trivial⟩ ⟨⟨_, rfl, .inl rfl⟩, trivial⟩ rfl rfl) | (apply call_gate 101; exact stp_callR hM (by as_aux_lemma => kernel_rfl) rfl rfl ⟨rfl, rfl, rfl, trivial⟩ trivial rfl rfl)); apply run_gYes rfl rfl rfl; (first | (apply call_gate 59; exact stp_callR hI (by as_aux_lemma => kernel_rfl) rfl rfl ⟨rfl, trivial⟩ ⟨⟨_, rfl, .inl rfl⟩, trivial⟩ rfl rfl) | (apply call_gate 61; exact stp_callR hW (by as_aux_lemma => kernel_rfl) rfl rfl ⟨rfl, trivial⟩ ⟨⟨_, rfl, .inl rfl⟩, trivial⟩ rfl rfl) | (apply call_gate 101; exact stp_callR hM (by as_aux_lemma => kernel_rfl) rfl rfl ⟨rfl, rfl, rfl, trivial⟩ trivial rfl rfl)); apply run_step rfl; (exact stp_pickT rfl rfl rfl); apply run_step rfl; (exact stp_move rfl rfl); apply run_gNo rfl rfl rfl rfl rfl; apply run_gNo rfl rfl rfl rfl rfl; apply run_gNo rfl rfl rfl rfl rfl; apply run_gNo rfl rfl rfl rfl rfl; apply run_gNo rfl rfl rfl rfl rfl; apply run_step rfl; (exact stp_pickF rfl rfl rfl); refine run_nil ?_; refine fin_seq ?_)
      refine goes_cond rfl (fun e => by cases e) (fun _ => ?_)
      (refine goes_skip ?_; refine fin_seq ?_; refine goes_seq ?_; refine goes_region ?_; apply run_step rfl; (exact stp_move rfl rfl); apply run_step rfl; (exact stp_move rfl rfl); apply run_step rfl; (apply call_gate 89; exact stp_callR hC (by as_aux_lemma => kernel_rfl) rfl rfl ⟨rfl, rfl, trivial⟩ ⟨⟨_, rfl, .inl rfl⟩, trivial⟩ rfl rfl); apply run_step rfl; (exact stp_assign rfl rfl); refine run_nil ?_; refine fin_seq ?_; refine goes_ret ?_)
      exact fin_ret1 (.inl rfl) rfl (.tmp rfl) trivial trivial
    | true =>
      rw [hb] at hM
      rw [Bool.true_and]
      cases hs : inB s 0 (allN zs) with
      | false =>
        rw [hs] at hS
        rw [if_pos (by rfl)]
        (refine goes_seq ?_; refine goes_region ?_; apply run_step rfl; (exact stp_assign rfl rfl); refine run_nil ?_; refine fin_seq ?_; refine goes_seq ?_; refine goes_seq ?_; refine goes_region ?_; apply run_step rfl; (exact stp_move rfl rfl); apply run_step rfl; (first | (apply call_gate 59; exact stp_callR hI (by as_aux_lemma => kernel_rfl) rfl rfl ⟨rfl, trivial⟩ ⟨⟨_, rfl, .inl rfl⟩, trivial⟩ rfl rfl) | (apply call_gate 61; exact stp_callR hW (by as_aux_lemma => kernel_rfl) rfl rfl ⟨rfl, trivial⟩ ⟨⟨_, rfl, .inl rfl⟩, trivial⟩ rfl rfl) | (apply call_gate 101; exact stp_callR hM (by as_aux_lemma => kernel_rfl) rfl rfl ⟨rfl, rfl, rfl, trivial⟩ trivial rfl rfl) | (apply call_gate 101; exact stp_callR hS (by as_aux_lemma => kernel_rfl) rfl rfl ⟨rfl, rfl, rfl, trivial⟩ trivial rfl rfl)); apply run_step rfl; (exact stp_move rfl rfl); apply run_gYes rfl rfl rfl; (exact stp_move rfl rfl); apply run_gYes rfl rfl rfl; (exact stp_move rfl rfl); apply run_gYes rfl rfl rfl; (first | (apply call_gate 59; exact stp_callR hI (by as_aux_lemma => kernel_rfl) rfl rfl ⟨rfl, trivial⟩ ⟨⟨_, rfl, .inl rfl⟩, trivial⟩ rfl rfl) | (apply call_gate 61; exact stp_callR hW (by as_aux_lemma => kernel_rfl) rfl rfl ⟨rfl, trivial⟩ ⟨⟨_, rfl, .inl rfl⟩, trivial⟩ rfl rfl) | (apply call_gate 101; exact stp_callR hM (by as_aux_lemma => kernel_rfl) rfl rfl ⟨rfl, rfl, rfl, trivial⟩ trivial rfl rfl) | (apply call_gate 101; exact stp_callR hS (by as_aux_lemma => kernel_rfl) rfl rfl ⟨rfl, rfl, rfl, trivial⟩ trivial rfl rfl)); apply run_gYes rfl rfl rfl; (first | (apply call_gate 59; exact stp_callR hI (by as_aux_lemma => kernel_rfl) rfl rfl ⟨rfl, trivial⟩ ⟨⟨_, rfl, .inl rfl⟩, trivial⟩ rfl rfl) | (apply call_gate 61; exact stp_callR hW (by as_aux_lemma => kernel_rfl) rfl rfl ⟨rfl, trivial⟩ ⟨⟨_, rfl, .inl rfl⟩, trivial⟩ rfl rfl) | (apply call_gate 101; exact stp_callR hM (by as_aux_lemma => kernel_rfl) rfl rfl ⟨rfl, rfl, rfl, trivial⟩ trivial rfl rfl) | (apply call_gate 101; exact stp_callR hS (by as_aux_lemma => kernel_rfl) rfl rfl ⟨rfl, rfl, rfl, trivial⟩ trivial rfl rfl)); apply run_step rfl; (exact stp_pickT rfl rfl rfl); apply run_step rfl; (exact stp_move rfl rfl); apply run_gYes rfl rfl rfl; (exact stp_move rfl rfl); apply run_gYes rfl rfl rfl; (exact stp_move rfl rfl); apply run_gYes rfl rfl rfl; (first | (apply call_gate 59; exact stp_callR hI (by as_aux_lemma => kernel_rfl) rfl rfl ⟨rfl, trivial⟩ ⟨⟨_, rfl, .inl rfl⟩, trivial⟩ rfl rfl) | (apply call_gate 61; exact stp_callR hW (by as_aux_lemma => kernel_rfl) rfl rfl ⟨rfl, trivial⟩ ⟨⟨_, rfl, .inl rfl⟩, trivial⟩ rfl rfl) | (apply call_gate 101; exact stp_callR hM (by as_aux_lemma => kernel_rfl) rfl rfl ⟨rfl, rfl, rfl, trivial⟩ trivial rfl rfl) | (apply call_gate 101; exact stp_callR hS (by as_aux_lemma => kernel_rfl) rfl rfl ⟨rfl, rfl, rfl, trivial⟩ trivial rfl rfl)); apply run_gYes rfl rfl rfl; (first | (apply call_gate 59; exact stp_callR hI (by as_aux_lemma => kernel_rfl) rfl rfl ⟨rfl, trivial⟩ ⟨⟨_, rfl, .inl rfl⟩, trivial⟩ rfl rfl) | (apply call_gate 61; exact stp_callR hW (by as_aux_lemma => kernel_rfl) rfl rfl ⟨rfl, trivial⟩ ⟨⟨_, rfl, .inl rfl⟩, trivial⟩ rfl rfl) | (apply call_gate 101; exact stp_callR hM (by as_aux_lemma => kernel_rfl) rfl rfl ⟨rfl, rfl, rfl, trivial⟩ trivial rfl rfl) | (apply call_gate 101; exact stp_callR hS (by as_aux_lemma => kernel_rfl) rfl rfl ⟨rfl, rfl, rfl, trivial⟩ trivial rfl rfl)); apply run_gYes rfl rfl rfl; (exact stp_not rfl rfl); apply run_step rfl; (exact stp_pickT rfl rfl rfl); refine run_nil ?_; refine fin_seq ?_)
        refine goes_cond rfl (fun _ => ?_) (fun e => by cases e)
        (refine goes_seq ?_; refine goes_region ?_; apply run_step rfl; (exact stp_assign rfl rfl); refine run_nil ?_; refine fin_seq ?_; refine goes_ret ?_; refine fin_ret_then ?_)
        exact fin_ret1 (.inl rfl) rfl (.tmp rfl) trivial trivial
      | true =>
        rw [hs] at hS
        rw [if_neg (by simp)]
        (refine goes_seq ?_; refine goes_region ?_; apply run_step rfl; (exact stp_assign rfl rfl); refine run_nil ?_; refine fin_seq ?_; refine goes_seq ?_; refine goes_seq ?_; refine goes_region ?_; apply run_step rfl; (exact stp_move rfl rfl); apply run_step rfl; (first | (apply call_gate 59; exact stp_callR hI (by as_aux_lemma => kernel_rfl) rfl rfl ⟨rfl, trivial⟩ ⟨⟨_, rfl, .inl rfl⟩, trivial⟩ rfl rfl) | (apply call_gate 61; exact stp_callR hW (by as_aux_lemma => kernel_rfl) rfl rfl ⟨rfl, trivial⟩ ⟨⟨_, rfl, .inl rfl⟩, trivial⟩ rfl rfl) | (apply call_gate 101; exact stp_callR hM (by as_aux_lemma => kernel_rfl) rfl rfl ⟨rfl, rfl, rfl, trivial⟩ trivial rfl rfl) | (apply call_gate 101; exact stp_callR hS (by as_aux_lemma => kernel_rfl) rfl rfl ⟨rfl, rfl, rfl, trivial⟩ trivial rfl rfl)); apply run_step rfl; (exact stp_move rfl rfl); apply run_gYes rfl rfl rfl; (exact stp_move rfl rfl); apply run_gYes rfl rfl rfl; (exact stp_move rfl rfl); apply run_gYes rfl rfl rfl; (first | (apply call_gate 59; exact stp_callR hI (by as_aux_lemma => kernel_rfl) rfl rfl ⟨rfl, trivial⟩ ⟨⟨_, rfl, .inl rfl⟩, trivial⟩ rfl rfl) | (apply call_gate 61; exact stp_callR hW (by as_aux_lemma => kernel_rfl) rfl rfl ⟨rfl, trivial⟩ ⟨⟨_, rfl, .inl rfl⟩, trivial⟩ rfl rfl) | (apply call_gate 101; exact stp_callR hM (by as_aux_lemma => kernel_rfl) rfl rfl ⟨rfl, rfl, rfl, trivial⟩ trivial rfl rfl) | (apply call_gate 101; exact stp_callR hS (by as_aux_lemma => kernel_rfl) rfl rfl ⟨rfl, rfl, rfl, trivial⟩ trivial rfl rfl)); apply run_gYes rfl rfl rfl; (first | (apply call_gate 59; exact stp_callR hI (by as_aux_lemma => kernel_rfl) rfl rfl ⟨rfl, trivial⟩ ⟨⟨_, rfl, .inl rfl⟩, trivial⟩ rfl rfl) | (apply call_gate 61; exact stp_callR hW (by as_aux_lemma => kernel_rfl) rfl rfl ⟨rfl, trivial⟩ ⟨⟨_, rfl, .inl rfl⟩, trivial⟩ rfl rfl) | (apply call_gate 101; exact stp_callR hM (by as_aux_lemma => kernel_rfl) rfl rfl ⟨rfl, rfl, rfl, trivial⟩ trivial rfl rfl) | (apply call_gate 101; exact stp_callR hS (by as_aux_lemma => kernel_rfl) rfl rfl ⟨rfl, rfl, rfl, trivial⟩ trivial rfl rfl)); apply run_step rfl; (exact stp_pickT rfl rfl rfl); apply run_step rfl; (exact stp_move rfl rfl); apply run_gYes rfl rfl rfl; (exact stp_move rfl rfl); apply run_gYes rfl rfl rfl; (exact stp_move rfl rfl); apply run_gYes rfl rfl rfl; (first | (apply call_gate 59; exact stp_callR hI (by as_aux_lemma => kernel_rfl) rfl rfl ⟨rfl, trivial⟩ ⟨⟨_, rfl, .inl rfl⟩, trivial⟩ rfl rfl) | (apply call_gate 61; exact stp_callR hW (by as_aux_lemma => kernel_rfl) rfl rfl ⟨rfl, trivial⟩ ⟨⟨_, rfl, .inl rfl⟩, trivial⟩ rfl rfl) | (apply call_gate 101; exact stp_callR hM (by as_aux_lemma => kernel_rfl) rfl rfl ⟨rfl, rfl, rfl, trivial⟩ trivial rfl rfl) | (apply call_gate 101; exact stp_callR hS (by as_aux_lemma => kernel_rfl) rfl rfl ⟨rfl, rfl, rfl, trivial⟩ trivial rfl rfl)); apply run_gYes rfl rfl rfl; (first | (apply call_gate 59; exact stp_callR hI (by as_aux_lemma => kernel_rfl) rfl rfl ⟨rfl, trivial⟩ ⟨⟨_, rfl, .inl rfl⟩, trivial⟩ rfl rfl) | (apply call_gate 61; exact stp_callR hW (by as_aux_lemma => kernel_rfl) rfl rfl ⟨rfl, trivial⟩ ⟨⟨_, rfl, .inl rfl⟩, trivial⟩ rfl rfl) | (apply call_gate 101; exact stp_callR hM (by as_aux_lemma => kernel_rfl) rfl rfl ⟨rfl, rfl, rfl, trivial⟩ trivial rfl rfl) | (apply call_gate 101; exact stp_callR hS (by as_aux_lemma => kernel_rfl) rfl rfl ⟨rfl, rfl, rfl, trivial⟩ trivial rfl rfl)); apply run_gYes rfl rfl rfl; (exact stp_not rfl rfl); apply run_step rfl; (exact stp_pickT rfl rfl rfl); refine run_nil ?_; refine fin_seq ?_)
        refine goes_cond rfl (fun e => by cases e) (fun _ => ?_)
        (refine goes_skip ?_; refine fin_seq ?_; refine goes_seq ?_; refine goes_region ?_; apply run_step rfl; (exact stp_move rfl rfl); apply run_step rfl; (exact stp_move rfl rfl); apply run_step rfl; (apply call_gate 89; exact stp_callR hC (by as_aux_lemma => kernel_rfl) rfl rfl ⟨rfl, rfl, trivial⟩ ⟨⟨_, rfl, .inl rfl⟩, trivial⟩ rfl rfl); apply run_step rfl; (exact stp_assign rfl rfl); refine run_nil ?_; refine fin_seq ?_; refine goes_ret ?_)
        exact fin_ret1 (.inl rfl) rfl (.tmp rfl) trivial trivial
set_option maxRecDepth 100000 in
theorem fxS_fc (zs : List Int) (m s : Int) (hn : zs.length ≤ 4398046511104) :
    FC Try.prog 51 [(1003, wRo zs)] [o1 (.sl 1003 0 zs.length), vv (I6 m), vv (I6 s)] [] (.tup [.one (.val (I6 (fxR zs m s))), .one (.val (I6 (setC zs m s)))]) [] := by
  have hS := setS_fc zs zs.length m s rfl hn
  unfold fxR
  refine fc_enter (nt := 20) Try.func51 rfl rfl (by simp) fun w0 ω0 => ?_
  (refine goes_seq ?_; refine goes_region ?_; apply run_step rfl; (exact stp_assign rfl rfl); apply run_step rfl; (exact stp_assign rfl rfl); refine run_nil ?_; refine fin_seq ?_; refine goes_seq ?_; refine goes_seq ?_; refine goes_region ?_; apply run_step rfl; (exact stp_move rfl rfl); apply run_step rfl; (exact stp_move rfl rfl); apply run_step rfl; (exact stp_move rfl rfl); apply run_step rfl; (apply call_gate 91; exact stp_callR hS (by as_aux_lemma => kernel_rfl) rfl rfl ⟨rfl, rfl, rfl, trivial⟩ ⟨⟨_, rfl, .inl rfl⟩, trivial⟩ rfl rfl); apply run_step rfl; (exact stp_assign rfl rfl); refine run_nil ?_; refine fin_seq ?_; refine goes_seq ?_; refine goes_region ?_; apply run_step rfl; (exact stp_move rfl rfl); apply run_step rfl; (exact stp_bin rfl rfl rfl rfl); refine run_nil ?_; refine fin_seq ?_)
  refine goes_cond rfl (fun h => ?_) (fun h => ?_)
  · have h0 : setC zs m s ≠ 0 := by simpa using h
    rw [if_neg h0]
    (refine goes_seq ?_; refine goes_region ?_; apply run_step rfl; (exact stp_move rfl rfl); apply run_step rfl; (exact stp_assign rfl rfl); apply run_step rfl; (exact stp_assign rfl rfl); refine run_nil ?_; refine fin_seq ?_; refine goes_ret ?_; refine fin_ret_then ?_)
    exact fin_ret2 (.inl rfl) rfl (.tmp rfl) (.tmp rfl) trivial trivial
  have h0 : setC zs m s = 0 := by simpa using h
  rw [if_pos h0, h0]
  obtain ⟨hd, hf, k, l, rfl, rfl, hk, hl⟩ := setC_zero h0
  have h4 := isDiag_len hd
  have hlt := allN_lt h4
  have hF := fixS_fc zs zs.length k l rfl h4 (by omega) (by omega)
  rw [Int.toNat_natCast, Int.toNat_natCast]
  (refine goes_skip ?_; refine fin_seq ?_; refine goes_seq ?_; refine goes_region ?_; apply run_step rfl; (exact stp_move rfl rfl); apply run_step rfl; (exact stp_move rfl rfl); apply run_step rfl; (exact stp_move rfl rfl); apply run_step rfl; (apply call_gate 92; exact stp_callR hF (by as_aux_lemma => kernel_rfl) rfl rfl ⟨rfl, rfl, rfl, trivial⟩ ⟨⟨_, rfl, .inl rfl⟩, trivial⟩ rfl rfl); apply run_step rfl; (exact stp_assign rfl rfl); apply run_step rfl; (exact stp_assign rfl rfl); refine run_nil ?_; refine fin_seq ?_; refine goes_ret ?_)
  exact fin_ret2 (.inl rfl) rfl (.tmp rfl) (.tmp rfl) trivial trivial
theorem denL3 {η : Env} {a b c : AV} {u v x : Value} (h : Den η a u) (h' : Den η b v) (h'' : Den η c x) : DenL η [a, b, c] [u, v, x] := ⟨rfl, fun j av hj => by
  match j, hj with
  | 0, hj => simp at hj; subst hj; exact ⟨u, rfl, h⟩
  | 1, hj => simp at hj; subst hj; exact ⟨v, rfl, h'⟩
  | 2, hj => simp at hj; subst hj; exact ⟨x, rfl, h''⟩⟩
theorem callSII {f : FuncId} {outs : List (Nm × Ch)} {res : AV} {zs : List Int} (m s : Int) (hf : zs.length ≤ 4398046511104 → FC Try.prog f [(1003, wRo zs)] [o1 (.sl 1003 0 zs.length), vv (I6 m), vv (I6 s)] outs res []) {E : Nat} {w : World} {lo hi : Nat} {v : Value} (h : OwnS E w lo hi v zs) :
    Calls Try.prog f #[v, .int .i64 m, .int .i64 s] w fun e w' => ∃ v η ω, e = .returned v ∧ Den η res v ∧ Mem η ω w' (fun x => lk x outs) ∧ Below w.heap.size w w' ∧ ∀ b, b < w.heap.size → ω b = none := by
  obtain ⟨hd, r, rfl, hv⟩ := ofS 1003 2 h.1
  exact (hf (fitS h.1)).call (l := [(1003, (wRo zs, hd, r))]) (us := [_, _, _]) (fun p hp => by simp at hp; subst hp; exact hv) rfl (denL3 (den_sl (q := (wRo zs, hd, r)) rfl) rfl rfl)
theorem api_specFx {E : Nat} {lo hi : Nat} {v : Value} {zs : List Int} (m s : Int) (w : World) (h : OwnS E w lo hi v zs) :
    Calls Try.prog 51 #[v, .int .i64 m, .int .i64 s] w fun e w' => e = .returned (.tuple #[.int .i64 (fxR zs m s), .int .i64 (setC zs m s)]) ∧ Below w.heap.size w w' := two_vals (callSII m s (fun k => fxS_fc zs m s k) h)
theorem api_implFx {E : Nat} {lo hi : Nat} {v : Value} {zs : List Int} (m s : Int) (w : World) (h : OwnS E w lo hi v zs) :
    Calls Try.prog 52 #[v, .int .i64 m, .int .i64 s] w fun e w' => e = .returned (.tuple #[.int .i64 (fxR zs m s), .int .i64 (setC zs m s)]) ∧ Below w.heap.size w w' := two_vals (callSII m s (fun k => fxI_fc zs m s k) h)
end Go.Proofs.Ytlpeghdbjfnenaa

/- A part of a finite set of nodes is finite. No program in sight. -/
namespace Go.Proofs.Ytlpeghdbjfnenaa

def FinL (labs : List Int) : Prop := (degs labs).length ≠ 0
theorem fin_cases {labs : List Int} (h : FinL labs) (h4 : labs.length ≤ 4) : labs.length ≤ 1 ∨ labs ∈ ([[3, 5], [5, 3], [3, 3, 5], [5, 3, 3], [3, 4, 3], [3, 3], [3, 3, 3], [3, 3, 3, 3], [4, 3], [4, 3, 3], [4, 3, 3, 3], [3, 4], [3, 3, 4], [3, 3, 3, 4]] : List (List Int)) := by
  by_cases h1 : labs.length ≤ 1
  · exact .inl h1
  right
  unfold FinL degs at h
  rw [if_neg (by omega), if_neg (by omega)] at h
  split at h
  · rename_i e; rcases eith_iff.1 e with rfl | rfl <;> decide
  split at h
  · rename_i e; rcases eith_iff.1 e with rfl | rfl <;> decide
  split at h
  · rename_i e; rcases eith_iff.1 e with rfl | rfl <;> decide
  split at h
  · rename_i e
    rcases (by omega : labs.length = 2 ∨ labs.length = 3 ∨ labs.length = 4) with e2 | e2 | e2 <;> (rw [e, e2]; decide)
  split at h
  · rename_i e
    rcases eith_iff.1 e with e | e <;> rcases (by omega : labs.length = 2 ∨ labs.length = 3 ∨ labs.length = 4) with e2 | e2 | e2 <;> (rw [e, e2]; decide)
  · exact absurd rfl h
theorem fin_small {labs : List Int} (h : labs.length = 0) : FinL labs := by
  rw [List.length_eq_zero_iff.1 h]; unfold FinL; decide
theorem fin_cut {labs : List Int} (h : FinL labs) (h4 : labs.length ≤ 4) : FinL labs.tail ∧ FinL labs.dropLast := by
  rcases fin_cases h h4 with h1 | h1
  · exact ⟨fin_small (by rw [List.length_tail]; omega), fin_small (by rw [List.length_dropLast]; omega)⟩
  · simp only [List.mem_cons, List.not_mem_nil, or_false] at h1
    unfold FinL
    rcases h1 with rfl | rfl | rfl | rfl | rfl | rfl | rfl | rfl | rfl | rfl | rfl | rfl | rfl | rfl <;> decide
theorem fin_front : ∀ (t a : List Int), (a ++ t).length ≤ 4 → FinL (a ++ t) → FinL a
  | [], a, _, h => by rwa [List.append_nil] at h
  | x :: t, a, h4, h => by
    have e : a ++ x :: t = (a ++ [x]) ++ t := by simp
    rw [e] at h h4
    have h1 := fin_front t (a ++ [x]) h4 h
    have h2 := (fin_cut h1 (by rw [List.length_append] at h4; omega)).2
    rwa [List.dropLast_concat] at h2
theorem fin_back : ∀ (s a : List Int), (s ++ a).length ≤ 4 → FinL (s ++ a) → FinL a
  | [], a, _, h => h
  | x :: s, a, h4, h => fin_back s a (by simp at h4 ⊢; omega) (fin_cut h h4).1
theorem fin_infix {a b : List Int} (hi : a <:+: b) (h4 : b.length ≤ 4) (h : FinL b) : FinL a := by
  obtain ⟨s, t, rfl⟩ := hi
  have h1 := fin_front t (s ++ a) h4 h
  exact fin_back s a (by rw [List.length_append] at h4; omega) h1
theorem all_bit {zs : List Int} {i : Nat} (hi : i ≤ zs.length) : mBit (allN zs) i = true := by
  rw [mBit_test]; unfold allN; rw [Nat.testBit_two_pow_sub_one]; simp; omega
structure Pieces (ps qs : Cmps) (last : Bool) : Prop where
  inf : ∀ p ∈ ps, ∃ q ∈ qs, p.2 <:+: q.2
  suf : last = true → ∃ ps' p qs' q, ps = ps' ++ [p] ∧ qs = qs' ++ [q] ∧ p.2 <:+ q.2
theorem set_last (qs : Cmps) (p x : Nat × List Int) : (qs ++ [p]).set ((qs ++ [p]).length - 1) x = qs ++ [x] := by
  rw [show (qs ++ [p]).length - 1 = qs.length by simp, List.set_append_right _ _ (Nat.le_refl _)]; simp
theorem cget_last (qs : Cmps) (p : Nat × List Int) : cget (qs ++ [p]) ((qs ++ [p]).length - 1) = p := by
  rw [show (qs ++ [p]).length - 1 = qs.length by simp, cget_lt (by simp)]; simp
theorem pieces {zs : List Int} (set : Nat) : ∀ i, i ≤ zs.length + 1 → Pieces (pTo zs set i) (pTo zs (allN zs) i) (decide (0 < i) && mBit set (i - 1))
  | 0, _ => ⟨fun p hp => (nomatch hp), fun h => by simp at h⟩
  | i + 1, hi => by
    have ih := pieces (zs := zs) set i (by omega)
    have hb := all_bit (zs := zs) (i := i) (by omega)
    have hok := pTo_ok zs (allN zs) i (by omega)
    -- the greater set's step
    have hq : (jn zs (allN zs) i = true ∧ ∃ qs' q, pTo zs (allN zs) i = qs' ++ [q] ∧ pTo zs (allN zs) (i + 1) = qs' ++ [(q.1 ||| 2 ^ i, q.2 ++ [iget zs (i - 1)])]) ∨ (jn zs (allN zs) i = false ∧ pTo zs (allN zs) (i + 1) = pTo zs (allN zs) i ++ [(2 ^ i, [])]) := by
      rw [pTo_succ]; unfold pStep; rw [if_pos hb]
      cases hj : jn zs (allN zs) i with
      | true =>
        left
        refine ⟨rfl, ?_⟩
        have hs := jn_spec hj
        have hne := hok.ne hs.1 hs.2.1
        rcases cmps_cases (pTo zs (allN zs) i) with e | ⟨qs', q, e⟩
        · rw [e] at hne; exact absurd hne (by simp)
        · refine ⟨qs', q, e, ?_⟩
          rw [if_pos rfl, e]; unfold pLast; rw [set_last, cget_last]
      | false => right; exact ⟨rfl, by rw [if_neg (by simp)]⟩
    have keep : ∀ p : Nat × List Int, (∃ q ∈ pTo zs (allN zs) i, p.2 <:+: q.2) → ∃ q ∈ pTo zs (allN zs) (i + 1), p.2 <:+: q.2 := fun p ⟨q, hq1, hq2⟩ => by
      rcases hq with ⟨_, qs', q0, e1, e2⟩ | ⟨_, e2⟩
      · rw [e2]; rw [e1] at hq1
        rcases List.mem_append.1 hq1 with h | h
        · exact ⟨q, List.mem_append_left _ h, hq2⟩
        · obtain rfl : q = q0 := by simpa using h
          exact ⟨_, List.mem_append_right _ (List.mem_singleton.2 rfl), hq2.trans (List.prefix_append _ _).isInfix⟩
      · rw [e2]; exact ⟨q, List.mem_append_left _ hq1, hq2⟩
    have hlastq : ∃ qs' q, pTo zs (allN zs) (i + 1) = qs' ++ [q] := by
      rcases hq with ⟨_, qs', q0, _, e2⟩ | ⟨_, e2⟩
      · exact ⟨_, _, e2⟩
      · exact ⟨_, _, e2⟩
    rw [Nat.add_sub_cancel]
    cases hbs : mBit set i with
    | false =>
      rw [gr_none hbs]
      exact ⟨fun p hp => keep p (ih.inf p hp), fun h => by simp at h⟩
    | true =>
      cases hj : jn zs set i with
      | true =>
        have hs := jn_spec hj
        obtain ⟨ps', p, qs', q, e1, e2, hsf⟩ := ih.suf (by rw [decide_eq_true hs.1, hs.2.1]; rfl)
        have hja : jn zs (allN zs) i = true := by
          unfold jn; rw [decide_eq_true hs.1, all_bit (zs := zs) (i := i - 1) (by omega)]
          simpa using hs.2.2
        have hp : pTo zs set (i + 1) = ps' ++ [(p.1 ||| 2 ^ i, p.2 ++ [iget zs (i - 1)])] := by
          rw [pTo_succ]; unfold pStep; rw [if_pos hbs, if_pos hj, e1]; unfold pLast; rw [set_last, cget_last]
        have hqq : pTo zs (allN zs) (i + 1) = qs' ++ [(q.1 ||| 2 ^ i, q.2 ++ [iget zs (i - 1)])] := by
          rw [pTo_succ]; unfold pStep; rw [if_pos hb, if_pos hja, e2]; unfold pLast; rw [set_last, cget_last]
        have hsf2 : p.2 ++ [iget zs (i - 1)] <:+ q.2 ++ [iget zs (i - 1)] := by
          obtain ⟨t, ht⟩ := hsf
          exact ⟨t, by rw [← List.append_assoc, ht]⟩
        refine ⟨fun x hx => ?_, fun _ => ⟨_, _, _, _, hp, hqq, hsf2⟩⟩
        rw [hp] at hx
        rcases List.mem_append.1 hx with h | h
        · exact keep x (ih.inf x (by rw [e1]; exact List.mem_append_left _ h))
        · obtain rfl : x = (p.1 ||| 2 ^ i, p.2 ++ [iget zs (i - 1)]) := by simpa using h
          exact ⟨_, by rw [hqq]; exact List.mem_append_right _ (List.mem_singleton.2 rfl), hsf2.isInfix⟩
      | false =>
        have hp : pTo zs set (i + 1) = pTo zs set i ++ [(2 ^ i, [])] := by
          rw [pTo_succ]; unfold pStep; rw [if_pos hbs, if_neg (by rw [hj]; simp)]
        obtain ⟨qs', q, hqq⟩ := hlastq
        refine ⟨fun x hx => ?_, fun _ => ⟨_, _, _, _, hp, hqq, List.nil_suffix⟩⟩
        rw [hp] at hx
        rcases List.mem_append.1 hx with h | h
        · exact keep x (ih.inf x h)
        · obtain rfl : x = (2 ^ i, []) := by simpa using h
          exact ⟨q, by rw [hqq]; exact List.mem_append_right _ (List.mem_singleton.2 rfl), List.nil_infix⟩
theorem fin_sub {zs : List Int} (hd : isDiag zs = true) (hf : finB zs (allN zs) = true) (set : Nat) : finB zs set = true := by
  have h1 := (fin_all (ps := comps zs (allN zs)) (comps zs (allN zs)).length (Nat.le_refl _)).1 (by simpa [finB] using hf)
  have hp := pieces (zs := zs) set (zs.length + 1) (Nat.le_refl _)
  unfold finB
  rw [decide_eq_true_iff, fin_all _ (Nat.le_refl _)]
  intro k hk
  obtain ⟨q, hq, hi⟩ := hp.inf _ (cget_mem hk)
  obtain ⟨j, hj, rfl⟩ := List.getElem_of_mem hq
  have hj' : j < (comps zs (allN zs)).length := hj
  have hL := labs_of hd hj'
  have h2 := h1 j hj'
  rw [cget_lt hj'] at h2 hL
  exact fin_infix hi hL.1 h2
end Go.Proofs.Ytlpeghdbjfnenaa

/- Kinds of faces; VerticesOfKind. guards: -/
namespace Go.Proofs.Ytlpeghdbjfnenaa
open Go.RowKit

/-- the error of a kind of faces -/
def kdC (zs : List Int) (m s : Int) : Int := if setC zs m s = 0 then (if s = (allN zs : Int) ∨ admB zs s.toNat m.toNat = false then 5 else 0) else setC zs m s
theorem binEq (a b : Int) (c : Bool) (h : decide (a = b) = c) : binI .i64 .eql a b = some (.bool c) := by
  show some (Value.bool (a == b)) = _
  rw [← h]
  by_cases e : a = b
  · rw [e]; simp
  · rw [decide_eq_false e, beq_eq_false_iff_ne.2 e]
theorem binNe (a b : Int) (c : Bool) (h : decide (a ≠ b) = c) : binI .i64 .neq a b = some (.bool c) := by
  show some (Value.bool (a != b)) = _
  rw [← h]
  by_cases e : a = b
  · rw [e]; simp
  · rw [decide_eq_true e]; simp [bne, e]
set_option maxRecDepth 100000 in
set_option maxHeartbeats 1000000 in
theorem kdI_fc (zs : List Int) (L : Nat) (m s : Int) (hL : zs.length = L) (hn : L ≤ 4398046511104) :
    FC Try.prog 96 [(1003, wRo zs)] [o1 (.sl 1003 0 L), vv (I6 m), vv (I6 s)] [] (vv (I6 (kdC zs m s))) [] := by
  have hS := setI_fc zs L m s hL hn
  unfold kdC
  refine fc_enter (nt := 28) Try.func96 rfl rfl (by simp) fun w0 ω0 => ?_
  by_cases h0 : setC zs m s = 0
  · rw [if_pos h0]
    rw [h0] at hS
    obtain ⟨hd, hf, k, l, rfl, rfl, hk, hl⟩ := setC_zero h0
    have h4 : L ≤ 4 := by have := isDiag_len hd; omega
    have hlt := allN_lt (zs := zs) (by omega)
    have hA := allI_fc zs L hL h4
    have hG := adm_fc zs L k l hL h4 (by omega) (by omega)
    rw [Int.toNat_natCast, Int.toNat_natCast]
    by_cases hw : l = allN zs
    · have hbe := binEq (l : Int) (allN zs : Int) true (by rw [hw]; simp)
      rw [if_pos (.inl (by rw [hw]))]
      (refine goes_seq ?_; refine goes_region ?_; apply run_step rfl; (exact stp_assign rfl rfl); refine run_nil ?_; refine fin_seq ?_; refine goes_seq ?_; refine goes_region ?_; apply run_step rfl; (exact stp_move rfl rfl); apply run_step rfl; (exact stp_move rfl rfl); apply run_step rfl; (exact stp_move rfl rfl); apply run_step rfl; (first | (apply call_gate 93; exact stp_callR hS (by as_aux_lemma => kernel_rfl) rfl rfl ⟨rfl, rfl, rfl, trivial⟩ ⟨⟨_, rfl, .inl rfl⟩, trivial⟩ rfl rfl) | (apply call_gate 64; exact stp_callR hA (by as_aux_lemma => kernel_rfl) rfl rfl ⟨rfl, trivial⟩ ⟨⟨_, rfl, .inl rfl⟩, trivial⟩ rfl rfl) | exact stp_bin rfl rfl rfl hbe); apply run_step rfl; (exact stp_assign rfl rfl); refine run_nil ?_; refine fin_seq ?_; refine goes_seq ?_; refine goes_seq ?_; refine goes_region ?_; apply run_step rfl; (exact stp_move rfl rfl); apply run_step rfl; (exact stp_bin rfl rfl rfl rfl); apply run_step rfl; (exact stp_move rfl rfl); apply run_gYes rfl rfl rfl; (exact stp_move rfl rfl); apply run_gYes rfl rfl rfl; (exact stp_move rfl rfl); apply run_gYes rfl rfl rfl; (first | (apply call_gate 93; exact stp_callR hS (by as_aux_lemma => kernel_rfl) rfl rfl ⟨rfl, rfl, rfl, trivial⟩ ⟨⟨_, rfl, .inl rfl⟩, trivial⟩ rfl rfl) | (apply call_gate 64; exact stp_callR hA (by as_aux_lemma => kernel_rfl) rfl rfl ⟨rfl, trivial⟩ ⟨⟨_, rfl, .inl rfl⟩, trivial⟩ rfl rfl) | exact stp_bin rfl rfl rfl hbe); apply run_gYes rfl rfl rfl; (first | (apply call_gate 93; exact stp_callR hS (by as_aux_lemma => kernel_rfl) rfl rfl ⟨rfl, rfl, rfl, trivial⟩ ⟨⟨_, rfl, .inl rfl⟩, trivial⟩ rfl rfl) | (apply call_gate 64; exact stp_callR hA (by as_aux_lemma => kernel_rfl) rfl rfl ⟨rfl, trivial⟩ ⟨⟨_, rfl, .inl rfl⟩, trivial⟩ rfl rfl) | exact stp_bin rfl rfl rfl hbe); apply run_gYes rfl rfl rfl; (exact stp_move rfl rfl); apply run_gNo rfl rfl rfl rfl rfl; apply run_gNo rfl rfl rfl rfl rfl; apply run_gNo rfl rfl rfl rfl rfl; apply run_gNo rfl rfl rfl rfl rfl; apply run_gNo rfl rfl rfl rfl rfl; apply run_gYes rfl rfl rfl; (exact stp_pickT rfl rfl rfl); apply run_step rfl; (exact stp_pickT rfl rfl rfl); refine run_nil ?_; refine fin_seq ?_)
      refine goes_cond rfl (fun _ => ?_) (fun e => by cases e)
      (refine goes_seq ?_; refine goes_region ?_; apply run_step rfl; (exact stp_assign rfl rfl); refine run_nil ?_; refine fin_seq ?_; refine goes_ret ?_; refine fin_ret_then ?_)
      exact fin_ret1 (.inl rfl) rfl (.tmp rfl) trivial trivial
    · have hbe := binEq (l : Int) (allN zs : Int) false (by rw [decide_eq_false_iff_not]; omega)
      (refine goes_seq ?_; refine goes_region ?_; apply run_step rfl; (exact stp_assign rfl rfl); refine run_nil ?_; refine fin_seq ?_; refine goes_seq ?_; refine goes_region ?_; apply run_step rfl; (exact stp_move rfl rfl); apply run_step rfl; (exact stp_move rfl rfl); apply run_step rfl; (exact stp_move rfl rfl); apply run_step rfl; (first | (apply call_gate 93; exact stp_callR hS (by as_aux_lemma => kernel_rfl) rfl rfl ⟨rfl, rfl, rfl, trivial⟩ ⟨⟨_, rfl, .inl rfl⟩, trivial⟩ rfl rfl) | (apply call_gate 64; exact stp_callR hA (by as_aux_lemma => kernel_rfl) rfl rfl ⟨rfl, trivial⟩ ⟨⟨_, rfl, .inl rfl⟩, trivial⟩ rfl rfl) | exact stp_bin rfl rfl rfl hbe | (apply call_gate 90; exact stp_callR hG (by as_aux_lemma => kernel_rfl) rfl rfl ⟨rfl, rfl, rfl, trivial⟩ ⟨⟨_, rfl, .inl rfl⟩, trivial⟩ rfl rfl)); apply run_step rfl; (exact stp_assign rfl rfl); refine run_nil ?_; refine fin_seq ?_; refine goes_seq ?_; refine goes_seq ?_; refine goes_region ?_; apply run_step rfl; (exact stp_move rfl rfl); apply run_step rfl; (exact stp_bin rfl rfl rfl rfl); apply run_step rfl; (exact stp_move rfl rfl); apply run_gYes rfl rfl rfl; (exact stp_move rfl rfl); apply run_gYes rfl rfl rfl; (exact stp_move rfl rfl); apply run_gYes rfl rfl rfl; (first | (apply call_gate 93; exact stp_callR hS (by as_aux_lemma => kernel_rfl) rfl rfl ⟨rfl, rfl, rfl, trivial⟩ ⟨⟨_, rfl, .inl rfl⟩, trivial⟩ rfl rfl) | (apply call_gate 64; exact stp_callR hA (by as_aux_lemma => kernel_rfl) rfl rfl ⟨rfl, trivial⟩ ⟨⟨_, rfl, .inl rfl⟩, trivial⟩ rfl rfl) | exact stp_bin rfl rfl rfl hbe | (apply call_gate 90; exact stp_callR hG (by as_aux_lemma => kernel_rfl) rfl rfl ⟨rfl, rfl, rfl, trivial⟩ ⟨⟨_, rfl, .inl rfl⟩, trivial⟩ rfl rfl)); apply run_gYes rfl rfl rfl; (first | (apply call_gate 93; exact stp_callR hS (by as_aux_lemma => kernel_rfl) rfl rfl ⟨rfl, rfl, rfl, trivial⟩ ⟨⟨_, rfl, .inl rfl⟩, trivial⟩ rfl rfl) | (apply call_gate 64; exact stp_callR hA (by as_aux_lemma => kernel_rfl) rfl rfl ⟨rfl, trivial⟩ ⟨⟨_, rfl, .inl rfl⟩, trivial⟩ rfl rfl) | exact stp_bin rfl rfl rfl hbe | (apply call_gate 90; exact stp_callR hG (by as_aux_lemma => kernel_rfl) rfl rfl ⟨rfl, rfl, rfl, trivial⟩ ⟨⟨_, rfl, .inl rfl⟩, trivial⟩ rfl rfl)); apply run_gYes rfl rfl rfl; (exact stp_move rfl rfl); apply run_gYes rfl rfl rfl; (exact stp_move rfl rfl); apply run_gYes rfl rfl rfl; (exact stp_move rfl rfl); apply run_gYes rfl rfl rfl; (exact stp_move rfl rfl); apply run_gYes rfl rfl rfl; (first | (apply call_gate 93; exact stp_callR hS (by as_aux_lemma => kernel_rfl) rfl rfl ⟨rfl, rfl, rfl, trivial⟩ ⟨⟨_, rfl, .inl rfl⟩, trivial⟩ rfl rfl) | (apply call_gate 64; exact stp_callR hA (by as_aux_lemma => kernel_rfl) rfl rfl ⟨rfl, trivial⟩ ⟨⟨_, rfl, .inl rfl⟩, trivial⟩ rfl rfl) | exact stp_bin rfl rfl rfl hbe | (apply call_gate 90; exact stp_callR hG (by as_aux_lemma => kernel_rfl) rfl rfl ⟨rfl, rfl, rfl, trivial⟩ ⟨⟨_, rfl, .inl rfl⟩, trivial⟩ rfl rfl)); apply run_gYes rfl rfl rfl; (exact stp_not rfl rfl); apply run_gYes rfl rfl rfl; (exact stp_pickF rfl rfl rfl); apply run_step rfl; (exact stp_pickT rfl rfl rfl); refine run_nil ?_; refine fin_seq ?_)
      refine goes_cond rfl (fun h => ?_) (fun h => ?_)
      · have ha : admB zs l k = false := by simpa using h
        rw [if_pos (.inr ha)]
        (refine goes_seq ?_; refine goes_region ?_; apply run_step rfl; (exact stp_assign rfl rfl); refine run_nil ?_; refine fin_seq ?_; refine goes_ret ?_; refine fin_ret_then ?_)
        exact fin_ret1 (.inl rfl) rfl (.tmp rfl) trivial trivial
      · have ha : admB zs l k = true := by simpa using h
        rw [if_neg (fun h => by rcases h with h | h; omega; rw [ha] at h; cases h)]
        (refine goes_skip ?_; refine fin_seq ?_; refine goes_seq ?_; refine goes_region ?_; apply run_step rfl; (exact stp_move rfl rfl); apply run_step rfl; (exact stp_assign rfl rfl); refine run_nil ?_; refine fin_seq ?_; refine goes_ret ?_)
        exact fin_ret1 (.inl rfl) rfl (.tmp rfl) trivial trivial
  · rw [if_neg h0]
    have hbe := binEq (setC zs m s) 0 false (by rw [decide_eq_false_iff_not]; exact h0)
    (refine goes_seq ?_; refine goes_region ?_; apply run_step rfl; (exact stp_assign rfl rfl); refine run_nil ?_; refine fin_seq ?_; refine goes_seq ?_; refine goes_region ?_; apply run_step rfl; (exact stp_move rfl rfl); apply run_step rfl; (exact stp_move rfl rfl); apply run_step rfl; (exact stp_move rfl rfl); apply run_step rfl; (first | (apply call_gate 93; exact stp_callR hS (by as_aux_lemma => kernel_rfl) rfl rfl ⟨rfl, rfl, rfl, trivial⟩ ⟨⟨_, rfl, .inl rfl⟩, trivial⟩ rfl rfl) | exact stp_bin rfl rfl rfl hbe); apply run_step rfl; (exact stp_assign rfl rfl); refine run_nil ?_; refine fin_seq ?_; refine goes_seq ?_; refine goes_seq ?_; refine goes_region ?_; apply run_step rfl; (exact stp_move rfl rfl); apply run_step rfl; (first | (apply call_gate 93; exact stp_callR hS (by as_aux_lemma => kernel_rfl) rfl rfl ⟨rfl, rfl, rfl, trivial⟩ ⟨⟨_, rfl, .inl rfl⟩, trivial⟩ rfl rfl) | exact stp_bin rfl rfl rfl hbe); apply run_step rfl; (exact stp_move rfl rfl); apply run_gNo rfl rfl rfl rfl rfl; apply run_gNo rfl rfl rfl rfl rfl; apply run_gNo rfl rfl rfl rfl rfl; apply run_gNo rfl rfl rfl rfl rfl; apply run_gNo rfl rfl rfl rfl rfl)
    (apply run_gNoU rfl rfl rfl rfl rfl)
    (apply run_gNoU rfl rfl rfl rfl rfl)
    (apply run_gNoU rfl rfl rfl rfl rfl)
    (apply run_gNoU rfl rfl rfl rfl rfl)
    (apply run_gNoU rfl rfl rfl rfl rfl)
    (apply run_gNo rfl rfl rfl rfl rfl; apply run_step rfl; (exact stp_pickF rfl rfl rfl); refine run_nil ?_; refine fin_seq ?_)
    refine goes_cond rfl (fun e => by cases e) (fun _ => ?_)
    (refine goes_skip ?_; refine fin_seq ?_; refine goes_seq ?_; refine goes_region ?_; apply run_step rfl; (exact stp_move rfl rfl); apply run_step rfl; (exact stp_assign rfl rfl); refine run_nil ?_; refine fin_seq ?_; refine goes_ret ?_)
    exact fin_ret1 (.inl rfl) rfl (.tmp rfl) trivial trivial
set_option maxRecDepth 100000 in
set_option maxHeartbeats 1000000 in
theorem kdS_fc (zs : List Int) (L : Nat) (m s : Int) (hL : zs.length = L) (hn : L ≤ 4398046511104) :
    FC Try.prog 95 [(1003, wRo zs)] [o1 (.sl 1003 0 L), vv (I6 m), vv (I6 s)] [] (vv (I6 (kdC zs m s))) [] := by
  have hS := setS_fc zs L m s hL hn
  unfold kdC
  refine fc_enter (nt := 28) Try.func95 rfl rfl (by simp) fun w0 ω0 => ?_
  by_cases h0 : setC zs m s = 0
  · rw [if_pos h0]
    rw [h0] at hS
    obtain ⟨hd, hf, k, l, rfl, rfl, hk, hl⟩ := setC_zero h0
    have h4 : L ≤ 4 := by have := isDiag_len hd; omega
    have hlt := allN_lt (zs := zs) (by omega)
    have hA := wholeS_fc zs L hL h4
    have hG := rng_fc zs L l k hL h4 (by omega) (by omega)
    rw [Int.toNat_natCast, Int.toNat_natCast]
    by_cases hw : l = allN zs
    · have hbe := binEq (l : Int) (allN zs : Int) true (by rw [hw]; simp)
      rw [if_pos (.inl (by rw [hw]))]
      (refine goes_seq ?_; refine goes_region ?_; apply run_step rfl; (exact stp_assign rfl rfl); refine run_nil ?_; refine fin_seq ?_; refine goes_seq ?_; refine goes_region ?_; apply run_step rfl; (exact stp_move rfl rfl); apply run_step rfl; (exact stp_move rfl rfl); apply run_step rfl; (exact stp_move rfl rfl); apply run_step rfl; (apply call_gate 91; exact stp_callR hS (by as_aux_lemma => kernel_rfl) rfl rfl ⟨rfl, rfl, rfl, trivial⟩ ⟨⟨_, rfl, .inl rfl⟩, trivial⟩ rfl rfl); apply run_step rfl; (exact stp_assign rfl rfl); refine run_nil ?_; refine fin_seq ?_; refine goes_seq ?_; refine goes_block ?_; refine goes_seq ?_; refine goes_region ?_; apply run_step rfl; (exact stp_move rfl rfl); apply run_step rfl; (exact stp_bin rfl rfl rfl rfl); apply run_step rfl; (exact stp_assign rfl rfl); refine run_nil ?_; refine fin_seq ?_)
      refine goes_cond rfl (fun e => by cases e) (fun _ => ?_)
      (refine goes_seq ?_; refine goes_region ?_; apply run_step rfl; (exact stp_move rfl rfl); apply run_step rfl; (exact stp_move rfl rfl); apply run_step rfl; (first | (apply call_gate 61; exact stp_callR hA (by as_aux_lemma => kernel_rfl) rfl rfl ⟨rfl, trivial⟩ ⟨⟨_, rfl, .inl rfl⟩, trivial⟩ rfl rfl) | exact stp_bin rfl rfl rfl hbe); apply run_step rfl; (first | (apply call_gate 61; exact stp_callR hA (by as_aux_lemma => kernel_rfl) rfl rfl ⟨rfl, trivial⟩ ⟨⟨_, rfl, .inl rfl⟩, trivial⟩ rfl rfl) | exact stp_bin rfl rfl rfl hbe); apply run_step rfl; (exact stp_move rfl rfl); apply run_gNo rfl rfl rfl rfl rfl; apply run_gNo rfl rfl rfl rfl rfl; apply run_gNo rfl rfl rfl rfl rfl; apply run_gNo rfl rfl rfl rfl rfl; apply run_gNo rfl rfl rfl rfl rfl; apply run_step rfl; (exact stp_pickT rfl rfl rfl); apply run_step rfl; (exact stp_assign rfl rfl); refine run_nil ?_; refine fin_seq ?_)
      refine goes_cond rfl (fun _ => ?_) (fun e => by cases e)
      (refine goes_seq ?_; refine goes_region ?_; apply run_step rfl; (exact stp_assign rfl rfl); refine run_nil ?_; refine fin_seq ?_; refine goes_ret ?_; refine fin_ret_block ?_; refine fin_ret_then ?_)
      exact fin_ret1 (.inl rfl) rfl (.tmp rfl) trivial trivial
    · have hbe := binEq (l : Int) (allN zs : Int) false (by rw [decide_eq_false_iff_not]; omega)
      (refine goes_seq ?_; refine goes_region ?_; apply run_step rfl; (exact stp_assign rfl rfl); refine run_nil ?_; refine fin_seq ?_; refine goes_seq ?_; refine goes_region ?_; apply run_step rfl; (exact stp_move rfl rfl); apply run_step rfl; (exact stp_move rfl rfl); apply run_step rfl; (exact stp_move rfl rfl); apply run_step rfl; (apply call_gate 91; exact stp_callR hS (by as_aux_lemma => kernel_rfl) rfl rfl ⟨rfl, rfl, rfl, trivial⟩ ⟨⟨_, rfl, .inl rfl⟩, trivial⟩ rfl rfl); apply run_step rfl; (exact stp_assign rfl rfl); refine run_nil ?_; refine fin_seq ?_; refine goes_seq ?_; refine goes_block ?_; refine goes_seq ?_; refine goes_region ?_; apply run_step rfl; (exact stp_move rfl rfl); apply run_step rfl; (exact stp_bin rfl rfl rfl rfl); apply run_step rfl; (exact stp_assign rfl rfl); refine run_nil ?_; refine fin_seq ?_)
      refine goes_cond rfl (fun e => by cases e) (fun _ => ?_)
      (refine goes_seq ?_; refine goes_region ?_; apply run_step rfl; (exact stp_move rfl rfl); apply run_step rfl; (exact stp_move rfl rfl); apply run_step rfl; (first | (apply call_gate 61; exact stp_callR hA (by as_aux_lemma => kernel_rfl) rfl rfl ⟨rfl, trivial⟩ ⟨⟨_, rfl, .inl rfl⟩, trivial⟩ rfl rfl) | exact stp_bin rfl rfl rfl hbe | (apply call_gate 129; exact stp_callR hG (by as_aux_lemma => kernel_rfl) rfl rfl ⟨rfl, rfl, rfl, trivial⟩ ⟨⟨_, rfl, .inl rfl⟩, trivial⟩ rfl rfl)); apply run_step rfl; (first | (apply call_gate 61; exact stp_callR hA (by as_aux_lemma => kernel_rfl) rfl rfl ⟨rfl, trivial⟩ ⟨⟨_, rfl, .inl rfl⟩, trivial⟩ rfl rfl) | exact stp_bin rfl rfl rfl hbe | (apply call_gate 129; exact stp_callR hG (by as_aux_lemma => kernel_rfl) rfl rfl ⟨rfl, rfl, rfl, trivial⟩ ⟨⟨_, rfl, .inl rfl⟩, trivial⟩ rfl rfl)); apply run_step rfl; (exact stp_move rfl rfl); apply run_gYes rfl rfl rfl; (exact stp_move rfl rfl); apply run_gYes rfl rfl rfl; (exact stp_move rfl rfl); apply run_gYes rfl rfl rfl; (exact stp_move rfl rfl); apply run_gYes rfl rfl rfl; (first | (apply call_gate 61; exact stp_callR hA (by as_aux_lemma => kernel_rfl) rfl rfl ⟨rfl, trivial⟩ ⟨⟨_, rfl, .inl rfl⟩, trivial⟩ rfl rfl) | exact stp_bin rfl rfl rfl hbe | (apply call_gate 129; exact stp_callR hG (by as_aux_lemma => kernel_rfl) rfl rfl ⟨rfl, rfl, rfl, trivial⟩ ⟨⟨_, rfl, .inl rfl⟩, trivial⟩ rfl rfl)); apply run_gYes rfl rfl rfl; (exact stp_not rfl rfl); apply run_step rfl; (exact stp_pickF rfl rfl rfl); apply run_step rfl; (exact stp_assign rfl rfl); refine run_nil ?_; refine fin_seq ?_)
      refine goes_cond rfl (fun h => ?_) (fun h => ?_)
      · have ha : admB zs l k = false := by simpa using h
        rw [if_pos (.inr ha)]
        (refine goes_seq ?_; refine goes_region ?_; apply run_step rfl; (exact stp_assign rfl rfl); refine run_nil ?_; refine fin_seq ?_; refine goes_ret ?_; refine fin_ret_block ?_; refine fin_ret_then ?_)
        exact fin_ret1 (.inl rfl) rfl (.tmp rfl) trivial trivial
      · have ha : admB zs l k = true := by simpa using h
        rw [if_neg (fun h => by rcases h with h | h; omega; rw [ha] at h; cases h)]
        (refine goes_skip ?_; refine fin_block ?_; refine fin_seq ?_; refine goes_seq ?_; refine goes_region ?_; apply run_step rfl; (exact stp_assign rfl rfl); refine run_nil ?_; refine fin_seq ?_; refine goes_ret ?_)
        exact fin_ret1 (.inl rfl) rfl (.tmp rfl) trivial trivial
  · rw [if_neg h0]
    have hbe := binNe (setC zs m s) 0 true (by rw [decide_eq_true_iff]; exact h0)
    (refine goes_seq ?_; refine goes_region ?_; apply run_step rfl; (exact stp_assign rfl rfl); refine run_nil ?_; refine fin_seq ?_; refine goes_seq ?_; refine goes_region ?_; apply run_step rfl; (exact stp_move rfl rfl); apply run_step rfl; (exact stp_move rfl rfl); apply run_step rfl; (exact stp_move rfl rfl); apply run_step rfl; (first | (apply call_gate 91; exact stp_callR hS (by as_aux_lemma => kernel_rfl) rfl rfl ⟨rfl, rfl, rfl, trivial⟩ ⟨⟨_, rfl, .inl rfl⟩, trivial⟩ rfl rfl) | exact stp_bin rfl rfl rfl hbe); apply run_step rfl; (exact stp_assign rfl rfl); refine run_nil ?_; refine fin_seq ?_; refine goes_seq ?_; refine goes_block ?_; refine goes_seq ?_; refine goes_region ?_; apply run_step rfl; (exact stp_move rfl rfl); apply run_step rfl; (first | (apply call_gate 91; exact stp_callR hS (by as_aux_lemma => kernel_rfl) rfl rfl ⟨rfl, rfl, rfl, trivial⟩ ⟨⟨_, rfl, .inl rfl⟩, trivial⟩ rfl rfl) | exact stp_bin rfl rfl rfl hbe); apply run_step rfl; (exact stp_assign rfl rfl); refine run_nil ?_; refine fin_seq ?_)
    refine goes_cond rfl (fun _ => ?_) (fun e => by cases e)
    (refine goes_seq ?_; refine goes_region ?_; apply run_step rfl; (exact stp_move rfl rfl); apply run_step rfl; (exact stp_assign rfl rfl); refine run_nil ?_; refine fin_seq ?_; refine goes_ret ?_; refine fin_ret_block ?_; refine fin_ret_then ?_)
    exact fin_ret1 (.inl rfl) rfl (.tmp rfl) trivial trivial
theorem kdC_zero {zs : List Int} {m s : Int} (h : kdC zs m s = 0) : isDiag zs = true ∧ finB zs (allN zs) = true ∧ ∃ k l : Nat, m = k ∧ s = l ∧ k ≤ allN zs ∧ l ≤ allN zs := by
  unfold kdC at h
  by_cases h0 : setC zs m s = 0
  · exact setC_zero h0
  · rw [if_neg h0] at h; exact absurd h h0
def ordN (zs : List Int) (mask : Nat) : Nat := (ordL zs mask).toNat
theorem ordN_eq {zs : List Int} (hd : isDiag zs = true) (mask : Nat) : ordL zs mask = (ordN zs mask : Int) ∧ 0 < ordN zs mask ∧ ordN zs mask ≤ 33554432 := by
  have := prodTo_lt (allD_in (mask := mask) hd) (allD_le (mask := mask) hd) (Nat.le_refl _)
  unfold ordN ordL
  omega
/-- the number of vertices of a face of a kind -/
def verN (zs : List Int) (k l : Nat) : Nat := ordN zs l / ordN zs (notN l k)
def verR (zs : List Int) (m s : Int) : Int := if kdC zs m s = 0 then (verN zs m.toNat s.toNat : Int) else 0
set_option maxRecDepth 100000 in
theorem verI_fc (zs : List Int) (L k l : Nat) (hL : zs.length = L) (hd : isDiag zs = true) (hf : finB zs (allN zs) = true) (hk : k < 1000) (hl : l < 1000) :
    FC Try.prog 97 [(1003, wRo zs)] [o1 (.sl 1003 0 L), vv (I6 k), vv (I6 l)] [] (vv (I6 (verN zs k l : Nat))) [] := by
  have hnl := notN_le l k
  have hO := ordYes_fc zs L l hL hd hl (fin_sub hd hf l)
  have hP := ordYes_fc zs L (notN l k) hL hd (by omega) (fin_sub hd hf _)
  obtain ⟨e1, p1, q1⟩ := ordN_eq hd l
  obtain ⟨e2, p2, q2⟩ := ordN_eq hd (notN l k)
  rw [e1] at hO
  rw [e2] at hP
  have hk6 : k < 1000000 := by omega
  have hl6 : l < 1000000 := by omega
  have hq : ordN zs l < 1000000000000 := by omega
  unfold verN
  refine fc_enter (nt := 28) Try.func97 rfl rfl (by simp) fun w0 ω0 => ?_
  (refine goes_seq ?_; refine goes_region ?_; apply run_step rfl; (exact stp_assign rfl rfl); refine run_nil ?_; refine fin_seq ?_; refine goes_seq ?_; refine goes_region ?_; apply run_step rfl; (exact stp_move rfl rfl); apply run_step rfl; (exact stp_move rfl rfl); apply run_step rfl; (first | exact stp_notN rfl rfl rfl hl6 hk6 | (apply call_gate 86; exact stp_callR hO (by as_aux_lemma => kernel_rfl) rfl rfl ⟨rfl, rfl, trivial⟩ ⟨⟨_, rfl, .inl rfl⟩, trivial⟩ rfl rfl) | (apply call_gate 86; exact stp_callR hP (by as_aux_lemma => kernel_rfl) rfl rfl ⟨rfl, rfl, trivial⟩ ⟨⟨_, rfl, .inl rfl⟩, trivial⟩ rfl rfl) | exact stp_quoN rfl rfl rfl p2 hq); apply run_step rfl; (exact stp_move rfl rfl); apply run_step rfl; (exact stp_extract rfl rfl rfl); apply run_step rfl; (exact stp_extract rfl rfl rfl); apply run_step rfl; (exact stp_assign rfl rfl); apply run_step rfl; (exact stp_assign rfl rfl); refine run_nil ?_; refine fin_seq ?_; refine goes_seq ?_; refine goes_region ?_; apply run_step rfl; (exact stp_move rfl rfl); apply run_step rfl; (exact stp_move rfl rfl); apply run_step rfl; (exact stp_move rfl rfl); apply run_step rfl; (first | exact stp_notN rfl rfl rfl hl6 hk6 | (apply call_gate 86; exact stp_callR hO (by as_aux_lemma => kernel_rfl) rfl rfl ⟨rfl, rfl, trivial⟩ ⟨⟨_, rfl, .inl rfl⟩, trivial⟩ rfl rfl) | (apply call_gate 86; exact stp_callR hP (by as_aux_lemma => kernel_rfl) rfl rfl ⟨rfl, rfl, trivial⟩ ⟨⟨_, rfl, .inl rfl⟩, trivial⟩ rfl rfl) | exact stp_quoN rfl rfl rfl p2 hq); apply run_step rfl; (first | exact stp_notN rfl rfl rfl hl6 hk6 | (apply call_gate 86; exact stp_callR hO (by as_aux_lemma => kernel_rfl) rfl rfl ⟨rfl, rfl, trivial⟩ ⟨⟨_, rfl, .inl rfl⟩, trivial⟩ rfl rfl) | (apply call_gate 86; exact stp_callR hP (by as_aux_lemma => kernel_rfl) rfl rfl ⟨rfl, rfl, trivial⟩ ⟨⟨_, rfl, .inl rfl⟩, trivial⟩ rfl rfl) | exact stp_quoN rfl rfl rfl p2 hq); apply run_step rfl; (exact stp_move rfl rfl); apply run_step rfl; (exact stp_extract rfl rfl rfl); apply run_step rfl; (exact stp_extract rfl rfl rfl); apply run_step rfl; (exact stp_assign rfl rfl); apply run_step rfl; (exact stp_assign rfl rfl); refine run_nil ?_; refine fin_seq ?_; refine goes_seq ?_; refine goes_region ?_; apply run_step rfl; (exact stp_move rfl rfl); apply run_step rfl; (exact stp_move rfl rfl); apply run_step rfl; (first | exact stp_notN rfl rfl rfl hl6 hk6 | (apply call_gate 86; exact stp_callR hO (by as_aux_lemma => kernel_rfl) rfl rfl ⟨rfl, rfl, trivial⟩ ⟨⟨_, rfl, .inl rfl⟩, trivial⟩ rfl rfl) | (apply call_gate 86; exact stp_callR hP (by as_aux_lemma => kernel_rfl) rfl rfl ⟨rfl, rfl, trivial⟩ ⟨⟨_, rfl, .inl rfl⟩, trivial⟩ rfl rfl) | exact stp_quoN rfl rfl rfl p2 hq); apply run_step rfl; (exact stp_assign rfl rfl); refine run_nil ?_; refine fin_seq ?_; refine goes_ret ?_)
  exact fin_ret1 (.inl rfl) rfl (.tmp rfl) trivial trivial
set_option maxRecDepth 100000 in
theorem vkI_fc (zs : List Int) (m s : Int) (hn : zs.length ≤ 4398046511104) :
    FC Try.prog 54 [(1003, wRo zs)] [o1 (.sl 1003 0 zs.length), vv (I6 m), vv (I6 s)] [] (.tup [.one (.val (I6 (verR zs m s))), .one (.val (I6 (kdC zs m s)))]) [] := by
  have hS := kdI_fc zs zs.length m s rfl hn
  unfold verR
  refine fc_enter (nt := 20) Try.func54 rfl rfl (by simp) fun w0 ω0 => ?_
  (refine goes_seq ?_; refine goes_region ?_; apply run_step rfl; (exact stp_assign rfl rfl); apply run_step rfl; (exact stp_assign rfl rfl); refine run_nil ?_; refine fin_seq ?_; refine goes_seq ?_; refine goes_seq ?_; refine goes_region ?_; apply run_step rfl; (exact stp_move rfl rfl); apply run_step rfl; (exact stp_move rfl rfl); apply run_step rfl; (exact stp_move rfl rfl); apply run_step rfl; (apply call_gate 96; exact stp_callR hS (by as_aux_lemma => kernel_rfl) rfl rfl ⟨rfl, rfl, rfl, trivial⟩ ⟨⟨_, rfl, .inl rfl⟩, trivial⟩ rfl rfl); apply run_step rfl; (exact stp_assign rfl rfl); refine run_nil ?_; refine fin_seq ?_; refine goes_seq ?_; refine goes_region ?_; apply run_step rfl; (exact stp_move rfl rfl); apply run_step rfl; (exact stp_bin rfl rfl rfl rfl); refine run_nil ?_; refine fin_seq ?_)
  refine goes_cond rfl (fun h => ?_) (fun h => ?_)
  · have h0 : kdC zs m s ≠ 0 := by simpa using h
    rw [if_neg h0]
    (refine goes_seq ?_; refine goes_region ?_; apply run_step rfl; (exact stp_move rfl rfl); apply run_step rfl; (exact stp_assign rfl rfl); apply run_step rfl; (exact stp_assign rfl rfl); refine run_nil ?_; refine fin_seq ?_; refine goes_ret ?_; refine fin_ret_then ?_)
    exact fin_ret2 (.inl rfl) rfl (.tmp rfl) (.tmp rfl) trivial trivial
  have h0 : kdC zs m s = 0 := by simpa using h
  rw [if_pos h0, h0]
  obtain ⟨hd, hf, k, l, rfl, rfl, hk, hl⟩ := kdC_zero h0
  have hlt := allN_lt (isDiag_len hd)
  have hF := verI_fc zs zs.length k l rfl hd hf (by omega) (by omega)
  rw [Int.toNat_natCast, Int.toNat_natCast]
  (refine goes_skip ?_; refine fin_seq ?_; refine goes_seq ?_; refine goes_region ?_; apply run_step rfl; (exact stp_move rfl rfl); apply run_step rfl; (exact stp_move rfl rfl); apply run_step rfl; (exact stp_move rfl rfl); apply run_step rfl; (apply call_gate 97; exact stp_callR hF (by as_aux_lemma => kernel_rfl) rfl rfl ⟨rfl, rfl, rfl, trivial⟩ ⟨⟨_, rfl, .inl rfl⟩, trivial⟩ rfl rfl); apply run_step rfl; (exact stp_assign rfl rfl); apply run_step rfl; (exact stp_assign rfl rfl); refine run_nil ?_; refine fin_seq ?_; refine goes_ret ?_)
  exact fin_ret2 (.inl rfl) rfl (.tmp rfl) (.tmp rfl) trivial trivial
set_option maxRecDepth 100000 in
theorem vkS_fc (zs : List Int) (m s : Int) (hn : zs.length ≤ 4398046511104) :
    FC Try.prog 53 [(1003, wRo zs)] [o1 (.sl 1003 0 zs.length), vv (I6 m), vv (I6 s)] [] (.tup [.one (.val (I6 (verR zs m s))), .one (.val (I6 (kdC zs m s)))]) [] := by
  have hS := kdS_fc zs zs.length m s rfl hn
  unfold verR
  refine fc_enter (nt := 25) Try.func53 rfl rfl (by simp) fun w0 ω0 => ?_
  (refine goes_seq ?_; refine goes_region ?_; apply run_step rfl; (exact stp_assign rfl rfl); apply run_step rfl; (exact stp_assign rfl rfl); refine run_nil ?_; refine fin_seq ?_; refine goes_seq ?_; refine goes_seq ?_; refine goes_region ?_; apply run_step rfl; (exact stp_move rfl rfl); apply run_step rfl; (exact stp_move rfl rfl); apply run_step rfl; (exact stp_move rfl rfl); apply run_step rfl; (apply call_gate 95; exact stp_callR hS (by as_aux_lemma => kernel_rfl) rfl rfl ⟨rfl, rfl, rfl, trivial⟩ ⟨⟨_, rfl, .inl rfl⟩, trivial⟩ rfl rfl); apply run_step rfl; (exact stp_assign rfl rfl); refine run_nil ?_; refine fin_seq ?_; refine goes_seq ?_; refine goes_region ?_; apply run_step rfl; (exact stp_move rfl rfl); apply run_step rfl; (exact stp_bin rfl rfl rfl rfl); refine run_nil ?_; refine fin_seq ?_)
  refine goes_cond rfl (fun h => ?_) (fun h => ?_)
  · have h0 : kdC zs m s ≠ 0 := by simpa using h
    rw [if_neg h0]
    (refine goes_seq ?_; refine goes_region ?_; apply run_step rfl; (exact stp_move rfl rfl); apply run_step rfl; (exact stp_assign rfl rfl); apply run_step rfl; (exact stp_assign rfl rfl); refine run_nil ?_; refine fin_seq ?_; refine goes_ret ?_; refine fin_ret_then ?_)
    exact fin_ret2 (.inl rfl) rfl (.tmp rfl) (.tmp rfl) trivial trivial
  have h0 : kdC zs m s = 0 := by simpa using h
  rw [if_pos h0, h0]
  obtain ⟨hd, hf, k, l, rfl, rfl, hk, hl⟩ := kdC_zero h0
  have hlt := allN_lt (isDiag_len hd)
  have hnl := notN_le l k
  have hO := ordS_fc zs zs.length l rfl hd (by omega) (fin_sub hd hf l)
  have hP := ordS_fc zs zs.length (notN l k) rfl hd (by omega) (fin_sub hd hf _)
  obtain ⟨e1, p1, q1⟩ := ordN_eq hd l
  obtain ⟨e2, p2, q2⟩ := ordN_eq hd (notN l k)
  rw [e1] at hO
  rw [e2] at hP
  have hk6 : k < 1000000 := by omega
  have hl6 : l < 1000000 := by omega
  have hq : ordN zs l < 1000000000000 := by omega
  rw [Int.toNat_natCast, Int.toNat_natCast]
  unfold verN
  (refine goes_skip ?_; refine fin_seq ?_; refine goes_seq ?_; refine goes_region ?_; apply run_step rfl; (exact stp_move rfl rfl); apply run_step rfl; (exact stp_move rfl rfl); apply run_step rfl; (first | exact stp_notN rfl rfl rfl hl6 hk6 | (apply call_gate 84; exact stp_callR hO (by as_aux_lemma => kernel_rfl) rfl rfl ⟨rfl, rfl, trivial⟩ ⟨⟨_, rfl, .inl rfl⟩, trivial⟩ rfl rfl) | (apply call_gate 84; exact stp_callR hP (by as_aux_lemma => kernel_rfl) rfl rfl ⟨rfl, rfl, trivial⟩ ⟨⟨_, rfl, .inl rfl⟩, trivial⟩ rfl rfl) | exact stp_quoN rfl rfl rfl p2 hq); apply run_step rfl; (exact stp_move rfl rfl); apply run_step rfl; (exact stp_move rfl rfl); apply run_step rfl; (exact stp_move rfl rfl); apply run_step rfl; (first | exact stp_notN rfl rfl rfl hl6 hk6 | (apply call_gate 84; exact stp_callR hO (by as_aux_lemma => kernel_rfl) rfl rfl ⟨rfl, rfl, trivial⟩ ⟨⟨_, rfl, .inl rfl⟩, trivial⟩ rfl rfl) | (apply call_gate 84; exact stp_callR hP (by as_aux_lemma => kernel_rfl) rfl rfl ⟨rfl, rfl, trivial⟩ ⟨⟨_, rfl, .inl rfl⟩, trivial⟩ rfl rfl) | exact stp_quoN rfl rfl rfl p2 hq); apply run_step rfl; (first | exact stp_notN rfl rfl rfl hl6 hk6 | (apply call_gate 84; exact stp_callR hO (by as_aux_lemma => kernel_rfl) rfl rfl ⟨rfl, rfl, trivial⟩ ⟨⟨_, rfl, .inl rfl⟩, trivial⟩ rfl rfl) | (apply call_gate 84; exact stp_callR hP (by as_aux_lemma => kernel_rfl) rfl rfl ⟨rfl, rfl, trivial⟩ ⟨⟨_, rfl, .inl rfl⟩, trivial⟩ rfl rfl) | exact stp_quoN rfl rfl rfl p2 hq); apply run_step rfl; (first | exact stp_notN rfl rfl rfl hl6 hk6 | (apply call_gate 84; exact stp_callR hO (by as_aux_lemma => kernel_rfl) rfl rfl ⟨rfl, rfl, trivial⟩ ⟨⟨_, rfl, .inl rfl⟩, trivial⟩ rfl rfl) | (apply call_gate 84; exact stp_callR hP (by as_aux_lemma => kernel_rfl) rfl rfl ⟨rfl, rfl, trivial⟩ ⟨⟨_, rfl, .inl rfl⟩, trivial⟩ rfl rfl) | exact stp_quoN rfl rfl rfl p2 hq); apply run_step rfl; (exact stp_assign rfl rfl); apply run_step rfl; (exact stp_assign rfl rfl); refine run_nil ?_; refine fin_seq ?_; refine goes_ret ?_)
  exact fin_ret2 (.inl rfl) rfl (.tmp rfl) (.tmp rfl) trivial trivial
theorem api_specVk {E : Nat} {lo hi : Nat} {v : Value} {zs : List Int} (m s : Int) (w : World) (h : OwnS E w lo hi v zs) :
    Calls Try.prog 53 #[v, .int .i64 m, .int .i64 s] w fun e w' => e = .returned (.tuple #[.int .i64 (verR zs m s), .int .i64 (kdC zs m s)]) ∧ Below w.heap.size w w' := two_vals (callSII m s (fun k => vkS_fc zs m s k) h)
theorem api_implVk {E : Nat} {lo hi : Nat} {v : Value} {zs : List Int} (m s : Int) (w : World) (h : OwnS E w lo hi v zs) :
    Calls Try.prog 54 #[v, .int .i64 m, .int .i64 s] w fun e w' => e = .returned (.tuple #[.int .i64 (verR zs m s), .int .i64 (kdC zs m s)]) ∧ Below w.heap.size w w' := two_vals (callSII m s (fun k => vkI_fc zs m s k) h)
end Go.Proofs.Ytlpeghdbjfnenaa
