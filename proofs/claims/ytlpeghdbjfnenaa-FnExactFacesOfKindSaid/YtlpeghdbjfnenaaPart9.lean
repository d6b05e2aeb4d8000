/- FacesOfKind. guards: -/
import Derived.Test.YtlpeghdbjfnenaaPart8
import Derived.Test.YtlpeghdbjfnenaaPart1
namespace Go.Proofs.Ytlpeghdbjfnenaa
open Go.RowKit

/-- the number of faces of a kind -/
def cntN (zs : List Int) (k l : Nat) : Nat := ordN zs (allN zs) / ordN zs l / ordN zs (fixN zs k l)
def cntR (zs : List Int) (m s : Int) : Int := if kdC zs m s = 0 then (cntN zs m.toNat s.toNat : Int) else 0
theorem fixN_lt {zs : List Int} (h4 : zs.length ≤ 4) (r set : Nat) : fixN zs r set < 1000 := by
  have h1 := fix_lt zs r set (zs.length + 1)
  have h2 : 2 ^ (zs.length + 1) ≤ 2 ^ 5 := Nat.pow_le_pow_right (by decide) (by omega)
  unfold fixN; omega
set_option maxRecDepth 100000 in
theorem cntI_fc (zs : List Int) (L k l : Nat) (hL : zs.length = L) (hd : isDiag zs = true) (hf : finB zs (allN zs) = true) (hk : k < 1000) (hl : l < 1000) :
    FC Try.prog 99 [(1003, wRo zs)] [o1 (.sl 1003 0 L), vv (I6 k), vv (I6 l)] [] (vv (I6 (cntN zs k l : Nat))) [] := by
  have h4 : L ≤ 4 := by have := isDiag_len hd; omega
  have hlt := allN_lt (zs := zs) (by omega)
  have hfl := fixN_lt (zs := zs) (by omega) k l
  have hN := allI_fc zs L hL h4
  have hA := ordYes_fc zs L (allN zs) hL hd (by omega) hf
  have hO := ordYes_fc zs L l hL hd hl (fin_sub hd hf l)
  have hX := fixI_fc zs L k l hL h4 hk hl
  have hP := ordYes_fc zs L (fixN zs k l) hL hd hfl (fin_sub hd hf _)
  obtain ⟨e1, p1, q1⟩ := ordN_eq hd (allN zs)
  obtain ⟨e2, p2, q2⟩ := ordN_eq hd l
  obtain ⟨e3, p3, q3⟩ := ordN_eq hd (fixN zs k l)
  rw [e1] at hA
  rw [e2] at hO
  rw [e3] at hP
  have hq1 : ordN zs (allN zs) < 1000000000000 := by omega
  have hq2 : ordN zs (allN zs) / ordN zs l < 1000000000000 := Nat.lt_of_le_of_lt (Nat.div_le_self _ _) hq1
  unfold cntN
  refine fc_enter (nt := 40) Try.func99 rfl rfl (by simp) fun w0 ω0 => ?_
  (refine goes_seq ?_; refine goes_region ?_; apply run_step rfl; (exact stp_assign rfl rfl); refine run_nil ?_; refine fin_seq ?_; refine goes_seq ?_; refine goes_region ?_; apply run_step rfl; (exact stp_move rfl rfl); apply run_step rfl; (exact stp_move rfl rfl); apply run_step rfl; (first | (apply call_gate 64; exact stp_callR hN (by as_aux_lemma => kernel_rfl) rfl rfl ⟨rfl, trivial⟩ ⟨⟨_, rfl, .inl rfl⟩, trivial⟩ rfl rfl) | (apply call_gate 94; exact stp_callR hX (by as_aux_lemma => kernel_rfl) rfl rfl ⟨rfl, rfl, rfl, trivial⟩ ⟨⟨_, rfl, .inl rfl⟩, trivial⟩ rfl rfl) | (apply call_gate 86; exact stp_callR hA (by as_aux_lemma => kernel_rfl) rfl rfl ⟨rfl, rfl, trivial⟩ ⟨⟨_, rfl, .inl rfl⟩, trivial⟩ rfl rfl) | (apply call_gate 86; exact stp_callR hO (by as_aux_lemma => kernel_rfl) rfl rfl ⟨rfl, rfl, trivial⟩ ⟨⟨_, rfl, .inl rfl⟩, trivial⟩ rfl rfl) | (apply call_gate 86; exact stp_callR hP (by as_aux_lemma => kernel_rfl) rfl rfl ⟨rfl, rfl, trivial⟩ ⟨⟨_, rfl, .inl rfl⟩, trivial⟩ rfl rfl) | exact stp_quoN rfl rfl rfl p2 hq1 | exact stp_quoN rfl rfl rfl p3 hq2); apply run_step rfl; (first | (apply call_gate 64; exact stp_callR hN (by as_aux_lemma => kernel_rfl) rfl rfl ⟨rfl, trivial⟩ ⟨⟨_, rfl, .inl rfl⟩, trivial⟩ rfl rfl) | (apply call_gate 94; exact stp_callR hX (by as_aux_lemma => kernel_rfl) rfl rfl ⟨rfl, rfl, rfl, trivial⟩ ⟨⟨_, rfl, .inl rfl⟩, trivial⟩ rfl rfl) | (apply call_gate 86; exact stp_callR hA (by as_aux_lemma => kernel_rfl) rfl rfl ⟨rfl, rfl, trivial⟩ ⟨⟨_, rfl, .inl rfl⟩, trivial⟩ rfl rfl) | (apply call_gate 86; exact stp_callR hO (by as_aux_lemma => kernel_rfl) rfl rfl ⟨rfl, rfl, trivial⟩ ⟨⟨_, rfl, .inl rfl⟩, trivial⟩ rfl rfl) | (apply call_gate 86; exact stp_callR hP (by as_aux_lemma => kernel_rfl) rfl rfl ⟨rfl, rfl, trivial⟩ ⟨⟨_, rfl, .inl rfl⟩, trivial⟩ rfl rfl) | exact stp_quoN rfl rfl rfl p2 hq1 | exact stp_quoN rfl rfl rfl p3 hq2); apply run_step rfl; (exact stp_move rfl rfl); apply run_step rfl; (exact stp_extract rfl rfl rfl); apply run_step rfl; (exact stp_extract rfl rfl rfl); apply run_step rfl; (exact stp_assign rfl rfl); apply run_step rfl; (exact stp_assign rfl rfl); refine run_nil ?_; refine fin_seq ?_; refine goes_seq ?_; refine goes_region ?_; apply run_step rfl; (exact stp_move rfl rfl); apply run_step rfl; (exact stp_move rfl rfl); apply run_step rfl; (first | (apply call_gate 64; exact stp_callR hN (by as_aux_lemma => kernel_rfl) rfl rfl ⟨rfl, trivial⟩ ⟨⟨_, rfl, .inl rfl⟩, trivial⟩ rfl rfl) | (apply call_gate 94; exact stp_callR hX (by as_aux_lemma => kernel_rfl) rfl rfl ⟨rfl, rfl, rfl, trivial⟩ ⟨⟨_, rfl, .inl rfl⟩, trivial⟩ rfl rfl) | (apply call_gate 86; exact stp_callR hA (by as_aux_lemma => kernel_rfl) rfl rfl ⟨rfl, rfl, trivial⟩ ⟨⟨_, rfl, .inl rfl⟩, trivial⟩ rfl rfl) | (apply call_gate 86; exact stp_callR hO (by as_aux_lemma => kernel_rfl) rfl rfl ⟨rfl, rfl, trivial⟩ ⟨⟨_, rfl, .inl rfl⟩, trivial⟩ rfl rfl) | (apply call_gate 86; exact stp_callR hP (by as_aux_lemma => kernel_rfl) rfl rfl ⟨rfl, rfl, trivial⟩ ⟨⟨_, rfl, .inl rfl⟩, trivial⟩ rfl rfl) | exact stp_quoN rfl rfl rfl p2 hq1 | exact stp_quoN rfl rfl rfl p3 hq2); apply run_step rfl; (exact stp_move rfl rfl); apply run_step rfl; (exact stp_extract rfl rfl rfl); apply run_step rfl; (exact stp_extract rfl rfl rfl); apply run_step rfl; (exact stp_assign rfl rfl); apply run_step rfl; (exact stp_assign rfl rfl); refine run_nil ?_; refine fin_seq ?_; refine goes_seq ?_; refine goes_region ?_; apply run_step rfl; (exact stp_move rfl rfl); apply run_step rfl; (exact stp_move rfl rfl); apply run_step rfl; (exact stp_move rfl rfl); apply run_step rfl; (exact stp_move rfl rfl); apply run_step rfl; (first | (apply call_gate 64; exact stp_callR hN (by as_aux_lemma => kernel_rfl) rfl rfl ⟨rfl, trivial⟩ ⟨⟨_, rfl, .inl rfl⟩, trivial⟩ rfl rfl) | (apply call_gate 94; exact stp_callR hX (by as_aux_lemma => kernel_rfl) rfl rfl ⟨rfl, rfl, rfl, trivial⟩ ⟨⟨_, rfl, .inl rfl⟩, trivial⟩ rfl rfl) | (apply call_gate 86; exact stp_callR hA (by as_aux_lemma => kernel_rfl) rfl rfl ⟨rfl, rfl, trivial⟩ ⟨⟨_, rfl, .inl rfl⟩, trivial⟩ rfl rfl) | (apply call_gate 86; exact stp_callR hO (by as_aux_lemma => kernel_rfl) rfl rfl ⟨rfl, rfl, trivial⟩ ⟨⟨_, rfl, .inl rfl⟩, trivial⟩ rfl rfl) | (apply call_gate 86; exact stp_callR hP (by as_aux_lemma => kernel_rfl) rfl rfl ⟨rfl, rfl, trivial⟩ ⟨⟨_, rfl, .inl rfl⟩, trivial⟩ rfl rfl) | exact stp_quoN rfl rfl rfl p2 hq1 | exact stp_quoN rfl rfl rfl p3 hq2); apply run_step rfl; (first | (apply call_gate 64; exact stp_callR hN (by as_aux_lemma => kernel_rfl) rfl rfl ⟨rfl, trivial⟩ ⟨⟨_, rfl, .inl rfl⟩, trivial⟩ rfl rfl) | (apply call_gate 94; exact stp_callR hX (by as_aux_lemma => kernel_rfl) rfl rfl ⟨rfl, rfl, rfl, trivial⟩ ⟨⟨_, rfl, .inl rfl⟩, trivial⟩ rfl rfl) | (apply call_gate 86; exact stp_callR hA (by as_aux_lemma => kernel_rfl) rfl rfl ⟨rfl, rfl, trivial⟩ ⟨⟨_, rfl, .inl rfl⟩, trivial⟩ rfl rfl) | (apply call_gate 86; exact stp_callR hO (by as_aux_lemma => kernel_rfl) rfl rfl ⟨rfl, rfl, trivial⟩ ⟨⟨_, rfl, .inl rfl⟩, trivial⟩ rfl rfl) | (apply call_gate 86; exact stp_callR hP (by as_aux_lemma => kernel_rfl) rfl rfl ⟨rfl, rfl, trivial⟩ ⟨⟨_, rfl, .inl rfl⟩, trivial⟩ rfl rfl) | exact stp_quoN rfl rfl rfl p2 hq1 | exact stp_quoN rfl rfl rfl p3 hq2); apply run_step rfl; (exact stp_move rfl rfl); apply run_step rfl; (exact stp_extract rfl rfl rfl); apply run_step rfl; (exact stp_extract rfl rfl rfl); apply run_step rfl; (exact stp_assign rfl rfl); apply run_step rfl; (exact stp_assign rfl rfl); refine run_nil ?_; refine fin_seq ?_; refine goes_seq ?_; refine goes_region ?_; apply run_step rfl; (exact stp_move rfl rfl); apply run_step rfl; (exact stp_move rfl rfl); apply run_step rfl; (first | (apply call_gate 64; exact stp_callR hN (by as_aux_lemma => kernel_rfl) rfl rfl ⟨rfl, trivial⟩ ⟨⟨_, rfl, .inl rfl⟩, trivial⟩ rfl rfl) | (apply call_gate 94; exact stp_callR hX (by as_aux_lemma => kernel_rfl) rfl rfl ⟨rfl, rfl, rfl, trivial⟩ ⟨⟨_, rfl, .inl rfl⟩, trivial⟩ rfl rfl) | (apply call_gate 86; exact stp_callR hA (by as_aux_lemma => kernel_rfl) rfl rfl ⟨rfl, rfl, trivial⟩ ⟨⟨_, rfl, .inl rfl⟩, trivial⟩ rfl rfl) | (apply call_gate 86; exact stp_callR hO (by as_aux_lemma => kernel_rfl) rfl rfl ⟨rfl, rfl, trivial⟩ ⟨⟨_, rfl, .inl rfl⟩, trivial⟩ rfl rfl) | (apply call_gate 86; exact stp_callR hP (by as_aux_lemma => kernel_rfl) rfl rfl ⟨rfl, rfl, trivial⟩ ⟨⟨_, rfl, .inl rfl⟩, trivial⟩ rfl rfl) | exact stp_quoN rfl rfl rfl p2 hq1 | exact stp_quoN rfl rfl rfl p3 hq2); apply run_step rfl; (exact stp_move rfl rfl); apply run_step rfl; (first | (apply call_gate 64; exact stp_callR hN (by as_aux_lemma => kernel_rfl) rfl rfl ⟨rfl, trivial⟩ ⟨⟨_, rfl, .inl rfl⟩, trivial⟩ rfl rfl) | (apply call_gate 94; exact stp_callR hX (by as_aux_lemma => kernel_rfl) rfl rfl ⟨rfl, rfl, rfl, trivial⟩ ⟨⟨_, rfl, .inl rfl⟩, trivial⟩ rfl rfl) | (apply call_gate 86; exact stp_callR hA (by as_aux_lemma => kernel_rfl) rfl rfl ⟨rfl, rfl, trivial⟩ ⟨⟨_, rfl, .inl rfl⟩, trivial⟩ rfl rfl) | (apply call_gate 86; exact stp_callR hO (by as_aux_lemma => kernel_rfl) rfl rfl ⟨rfl, rfl, trivial⟩ ⟨⟨_, rfl, .inl rfl⟩, trivial⟩ rfl rfl) | (apply call_gate 86; exact stp_callR hP (by as_aux_lemma => kernel_rfl) rfl rfl ⟨rfl, rfl, trivial⟩ ⟨⟨_, rfl, .inl rfl⟩, trivial⟩ rfl rfl) | exact stp_quoN rfl rfl rfl p2 hq1 | exact stp_quoN rfl rfl rfl p3 hq2); apply run_step rfl; (exact stp_assign rfl rfl); refine run_nil ?_; refine fin_seq ?_; refine goes_ret ?_)
  exact fin_ret1 (.inl rfl) rfl (.tmp rfl) trivial trivial
set_option maxRecDepth 100000 in
theorem cntS_fc (zs : List Int) (L k l : Nat) (hL : zs.length = L) (hd : isDiag zs = true) (hf : finB zs (allN zs) = true) (hk : k < 1000) (hl : l < 1000) :
    FC Try.prog 98 [(1003, wRo zs)] [o1 (.sl 1003 0 L), vv (I6 k), vv (I6 l)] [] (vv (I6 (cntN zs k l : Nat))) [] := by
  have h4 : L ≤ 4 := by have := isDiag_len hd; omega
  have hlt := allN_lt (zs := zs) (by omega)
  have hfl := fixN_lt (zs := zs) (by omega) k l
  have hW := wholeS_fc zs L hL h4
  have hA := ordS_fc zs L (allN zs) hL hd (by omega) hf
  have hO := ordS_fc zs L l hL hd hl (fin_sub hd hf l)
  have hX := fixS_fc zs L k l hL h4 hk hl
  have hP := ordS_fc zs L (fixN zs k l) hL hd hfl (fin_sub hd hf _)
  obtain ⟨e1, p1, q1⟩ := ordN_eq hd (allN zs)
  obtain ⟨e2, p2, q2⟩ := ordN_eq hd l
  obtain ⟨e3, p3, q3⟩ := ordN_eq hd (fixN zs k l)
  rw [e1] at hA
  rw [e2] at hO
  rw [e3] at hP
  have hq1 : ordN zs (allN zs) < 1000000000000 := by omega
  have hq2 : ordN zs (allN zs) / ordN zs l < 1000000000000 := Nat.lt_of_le_of_lt (Nat.div_le_self _ _) hq1
  unfold cntN
  refine fc_enter (nt := 22) Try.func98 rfl rfl (by simp) fun w0 ω0 => ?_
  (refine goes_seq ?_; refine goes_region ?_; apply run_step rfl; (exact stp_assign rfl rfl); refine run_nil ?_; refine fin_seq ?_; refine goes_seq ?_)
  apply goes_draw 15 [] [[], [], [1], [0, 1, 2], [], [], [0, 1, 2, 3, 4, 5], [0, 1, 2, 3, 4, 5, 6], [], [], [], [], [0, 1, 2, 3, 4, 5, 6, 9, 10, 11], [0, 1, 2, 3, 4, 5, 6, 8, 9, 10, 11, 12], [0, 1, 2, 3, 4, 5, 6, 7, 8, 9, 10, 11, 12, 13], [0, 1, 2, 3, 4, 5, 6, 7, 8, 9, 10, 11, 12, 13, 14]] [7, 8, 9, 10, 11, 12, 13, 14, 15, 16, 17, 18, 19, 20, 21] [] (by kernel_rfl) (by kernel_rfl)
  · (apply draw_put rfl; (intro S1 hS; exact stp_move rfl (hS.op rfl)))
    (apply draw_put rfl; (intro S1 hS; exact stp_move rfl (hS.op rfl)))
    (apply draw_put rfl; (intro S1 hS; exact stp_callR hW (by as_aux_lemma => kernel_rfl) rfl (opL_le hS rfl) ⟨rfl, trivial⟩ (allIn_le hS ⟨⟨_, rfl, .inl rfl⟩, trivial⟩) rfl rfl))
    (apply draw_put rfl; (intro S1 hS; exact stp_callR hA (by as_aux_lemma => kernel_rfl) rfl (opL_le hS rfl) ⟨rfl, rfl, trivial⟩ (allIn_le hS ⟨⟨_, rfl, .inl rfl⟩, trivial⟩) rfl rfl))
    (apply draw_put rfl; (intro S1 hS; exact stp_move rfl (hS.op rfl)))
    (apply draw_put rfl; (intro S1 hS; exact stp_move rfl (hS.op rfl)))
    (apply draw_put rfl; (intro S1 hS; exact stp_callR hO (by as_aux_lemma => kernel_rfl) rfl (opL_le hS rfl) ⟨rfl, rfl, trivial⟩ (allIn_le hS ⟨⟨_, rfl, .inl rfl⟩, trivial⟩) rfl rfl))
    (apply draw_put rfl; (intro S1 hS; exact stp_quoN rfl (hS.op rfl) (hS.op rfl) p2 hq1))
    (apply draw_put rfl; (intro S1 hS; exact stp_move rfl (hS.op rfl)))
    (apply draw_put rfl; (intro S1 hS; exact stp_move rfl (hS.op rfl)))
    (apply draw_put rfl; (intro S1 hS; exact stp_move rfl (hS.op rfl)))
    (apply draw_put rfl; (intro S1 hS; exact stp_move rfl (hS.op rfl)))
    (apply draw_put rfl; (intro S1 hS; exact stp_callR hX (by as_aux_lemma => kernel_rfl) rfl (opL_le hS rfl) ⟨rfl, rfl, rfl, trivial⟩ (allIn_le hS ⟨⟨_, rfl, .inl rfl⟩, trivial⟩) rfl rfl))
    (apply draw_put rfl; (intro S1 hS; exact stp_callR hP (by as_aux_lemma => kernel_rfl) rfl (opL_le hS rfl) ⟨rfl, rfl, trivial⟩ (allIn_le hS ⟨⟨_, rfl, .inl rfl⟩, trivial⟩) rfl rfl))
    (apply draw_put rfl; (intro S1 hS; exact stp_quoN rfl (hS.op rfl) (hS.op rfl) p3 hq2))
    exact Draw.nil
  · rfl
  refine rest_join (St.of [(6, vv (I6 (ordN zs (allN zs) / ordN zs l / ordN zs (fixN zs k l) : Nat)))] []) ?_ ?_
  · ((apply rest_one 15 rfl (by as_aux_lemma => kernel_rfl) rfl rfl; (exact stp_assign rfl rfl)); (refine rest_done (by as_aux_lemma => kernel_rfl) ?_; exact fin_join (Wk.of ⟨rfl, trivial⟩ trivial trivial)))
  (refine fin_seq ?_; refine goes_ret ?_)
  exact fin_ret1 (.inl rfl) rfl (.tmp rfl) trivial trivial
set_option maxRecDepth 100000 in
theorem fkI_fc (zs : List Int) (m s : Int) (hn : zs.length ≤ 4398046511104) :
    FC Try.prog 56 [(1003, wRo zs)] [o1 (.sl 1003 0 zs.length), vv (I6 m), vv (I6 s)] [] (.tup [.one (.val (I6 (cntR zs m s))), .one (.val (I6 (kdC zs m s)))]) [] := by
  have hS := kdI_fc zs zs.length m s rfl hn
  unfold cntR
  refine fc_enter (nt := 20) Try.func56 rfl rfl (by simp) fun w0 ω0 => ?_
  (refine goes_seq ?_; refine goes_region ?_; apply run_step rfl; (exact stp_assign rfl rfl); apply run_step rfl; (exact stp_assign rfl rfl); refine run_nil ?_; refine fin_seq ?_; refine goes_seq ?_; refine goes_seq ?_; refine goes_region ?_; apply run_step rfl; (exact stp_move rfl rfl); apply run_step rfl; (exact stp_move rfl rfl); apply run_step rfl; (exact stp_move rfl rfl); apply run_step rfl; (apply call_gate 96; exact stp_callR hS (by as_aux_lemma => kernel_rfl) rfl rfl ⟨rfl, rfl, rfl, trivial⟩ ⟨⟨_, rfl, .inl rfl⟩, trivial⟩ rfl rfl); apply run_step rfl; (exact stp_assign rfl rfl); refine run_nil ?_; refine fin_seq ?_; refine goes_seq ?_; refine goes_region ?_; apply run_step rfl; (exact stp_move rfl rfl); apply run_step rfl; (exact stp_bin rfl rfl rfl rfl); refine run_nil ?_; refine fin_seq ?_)
  refine goes_cond rfl (fun h => ?_) (fun h => ?_)
  · have h0 : kdC zs m s ≠ 0 := by simpa using h
    rw [if_neg h0]
    (refine goes_seq ?_; refine goes_region ?_; apply run_step rfl; (exact stp_move rfl rfl); apply run_step rfl; (exact stp_assign rfl rfl); apply run_step rfl; (exact stp_assign rfl rfl); refine run_nil ?_; refine fin_seq ?_; refine goes_ret ?_; refine fin_ret_then ?_)
    exact fin_ret2 (.inl rfl) rfl (.tmp rfl) (.tmp rfl) trivial trivial
  have h0 : kdC zs m s = 0 := by simpa using h
  rw [if_pos h0, h0]
  obtain ⟨hd, hf, k, l, rfl, rfl, hk, hl⟩ := kdC_zero h0
  have hlt := allN_lt (isDiag_len hd)
  have hF := cntI_fc zs zs.length k l rfl hd hf (by omega) (by omega)
  rw [Int.toNat_natCast, Int.toNat_natCast]
  (refine goes_skip ?_; refine fin_seq ?_; refine goes_seq ?_; refine goes_region ?_; apply run_step rfl; (exact stp_move rfl rfl); apply run_step rfl; (exact stp_move rfl rfl); apply run_step rfl; (exact stp_move rfl rfl); apply run_step rfl; (apply call_gate 99; exact stp_callR hF (by as_aux_lemma => kernel_rfl) rfl rfl ⟨rfl, rfl, rfl, trivial⟩ ⟨⟨_, rfl, .inl rfl⟩, trivial⟩ rfl rfl); apply run_step rfl; (exact stp_assign rfl rfl); apply run_step rfl; (exact stp_assign rfl rfl); refine run_nil ?_; refine fin_seq ?_; refine goes_ret ?_)
  exact fin_ret2 (.inl rfl) rfl (.tmp rfl) (.tmp rfl) trivial trivial
set_option maxRecDepth 100000 in
theorem fkS_fc (zs : List Int) (m s : Int) (hn : zs.length ≤ 4398046511104) :
    FC Try.prog 55 [(1003, wRo zs)] [o1 (.sl 1003 0 zs.length), vv (I6 m), vv (I6 s)] [] (.tup [.one (.val (I6 (cntR zs m s))), .one (.val (I6 (kdC zs m s)))]) [] := by
  have hS := kdS_fc zs zs.length m s rfl hn
  unfold cntR
  refine fc_enter (nt := 20) Try.func55 rfl rfl (by simp) fun w0 ω0 => ?_
  (refine goes_seq ?_; refine goes_region ?_; apply run_step rfl; (exact stp_assign rfl rfl); apply run_step rfl; (exact stp_assign rfl rfl); refine run_nil ?_; refine fin_seq ?_; refine goes_seq ?_; refine goes_seq ?_; refine goes_region ?_; apply run_step rfl; (exact stp_move rfl rfl); apply run_step rfl; (exact stp_move rfl rfl); apply run_step rfl; (exact stp_move rfl rfl); apply run_step rfl; (apply call_gate 95; exact stp_callR hS (by as_aux_lemma => kernel_rfl) rfl rfl ⟨rfl, rfl, rfl, trivial⟩ ⟨⟨_, rfl, .inl rfl⟩, trivial⟩ rfl rfl); apply run_step rfl; (exact stp_assign rfl rfl); refine run_nil ?_; refine fin_seq ?_; refine goes_seq ?_; refine goes_region ?_; apply run_step rfl; (exact stp_move rfl rfl); apply run_step rfl; (exact stp_bin rfl rfl rfl rfl); refine run_nil ?_; refine fin_seq ?_)
  refine goes_cond rfl (fun h => ?_) (fun h => ?_)
  · have h0 : kdC zs m s ≠ 0 := by simpa using h
    rw [if_neg h0]
    (refine goes_seq ?_; refine goes_region ?_; apply run_step rfl; (exact stp_move rfl rfl); apply run_step rfl; (exact stp_assign rfl rfl); apply run_step rfl; (exact stp_assign rfl rfl); refine run_nil ?_; refine fin_seq ?_; refine goes_ret ?_; refine fin_ret_then ?_)
    exact fin_ret2 (.inl rfl) rfl (.tmp rfl) (.tmp rfl) trivial trivial
  have h0 : kdC zs m s = 0 := by simpa using h
  rw [if_pos h0, h0]
  obtain ⟨hd, hf, k, l, rfl, rfl, hk, hl⟩ := kdC_zero h0
  have hlt := allN_lt (isDiag_len hd)
  have hF := cntS_fc zs zs.length k l rfl hd hf (by omega) (by omega)
  rw [Int.toNat_natCast, Int.toNat_natCast]
  (refine goes_skip ?_; refine fin_seq ?_; refine goes_seq ?_; refine goes_region ?_; apply run_step rfl; (exact stp_move rfl rfl); apply run_step rfl; (exact stp_move rfl rfl); apply run_step rfl; (exact stp_move rfl rfl); apply run_step rfl; (apply call_gate 98; exact stp_callR hF (by as_aux_lemma => kernel_rfl) rfl rfl ⟨rfl, rfl, rfl, trivial⟩ ⟨⟨_, rfl, .inl rfl⟩, trivial⟩ rfl rfl); apply run_step rfl; (exact stp_assign rfl rfl); apply run_step rfl; (exact stp_assign rfl rfl); refine run_nil ?_; refine fin_seq ?_; refine goes_ret ?_)
  exact fin_ret2 (.inl rfl) rfl (.tmp rfl) (.tmp rfl) trivial trivial
theorem api_specFk {E : Nat} {lo hi : Nat} {v : Value} {zs : List Int} (m s : Int) (w : World) (h : OwnS E w lo hi v zs) :
    Calls Try.prog 55 #[v, .int .i64 m, .int .i64 s] w fun e w' => e = .returned (.tuple #[.int .i64 (cntR zs m s), .int .i64 (kdC zs m s)]) ∧ Below w.heap.size w w' := two_vals (callSII m s (fun k => fkS_fc zs m s k) h)
theorem api_implFk {E : Nat} {lo hi : Nat} {v : Value} {zs : List Int} (m s : Int) (w : World) (h : OwnS E w lo hi v zs) :
    Calls Try.prog 56 #[v, .int .i64 m, .int .i64 s] w fun e w' => e = .returned (.tuple #[.int .i64 (cntR zs m s), .int .i64 (kdC zs m s)]) ∧ Below w.heap.size w w' := two_vals (callSII m s (fun k => fkI_fc zs m s k) h)
end Go.Proofs.Ytlpeghdbjfnenaa

/- The walk of FnExactFacesOfKind: true, whatever the arguments. Written by genwalk.py. -/
namespace Go.Proofs.Ytlpeghdbjfnenaa
open Go.RowKit

set_option maxHeartbeats 3200000 in
theorem walkFacesOfKind {a0 : Option Addr} {n0 c0 : Nat} {zs : List Int} (m : Int) (s : Int) (w : World) (h0 : Ints w a0 n0 zs) (_hw : (Lit.int .i64 m).wf = true) (_hw2 : (Lit.int .i64 s).wf = true) :
    Calls Try.prog 14 #[.slice a0 n0 c0, .int .i64 m, .int .i64 s] w fun e w' => e = .returned (.bool true) ∧ Below w.heap.size w w' := by
  have B0 : Below w.heap.size w w := Below.refl _ _
  have hb0 := h0.2.1
  by_cases hs0 : n0 ≤ 1048576
  · have g0 : decide ((1048576 : Int) < n0) = false := by simp; omega
    have hl0 : zs.length = n0 := h0.1
    have HL0 := Lib.hid hl0
    clear hl0
    go_enter Try.func14, Try.ntmps14
    go_wp2_with fail
    refine (law_toS _ (show RdS _ _ _ from ⟨_, _, _, rfl, (h0.below B0)⟩) (by rw [HL0.out]; omega)).mono ?_
    rintro e w1 ⟨u1, rfl, o1, b1⟩
    have s1 := b1.size
    have B1 : Below w.heap.size w w1 := B0.trans (b1.mono B0.size)
    go_wp2_with fail
    refine (api_specFk m s _ o1 ).mono ?_
    rintro e w2 ⟨rfl, b2⟩
    have s2 := b2.size
    have B2 : Below w.heap.size w w2 := B1.trans (b2.mono B1.size)
    go_wp2_with fail
    refine (law_toS _ (show RdS _ _ _ from ⟨_, _, _, rfl, (h0.below B2)⟩) (by rw [HL0.out]; omega)).mono ?_
    rintro e w3 ⟨u3, rfl, o3, b3⟩
    have s3 := b3.size
    have B3 : Below w.heap.size w w3 := B2.trans (b3.mono B2.size)
    go_wp2_with fail
    refine (api_implFk m s _ o3 ).mono ?_
    rintro e w4 ⟨rfl, b4⟩
    have s4 := b4.size
    have B4 : Below w.heap.size w w4 := B3.trans (b4.mono B3.size)
    go_wp2_with fail
    refine (law_toS _ (show RdS _ _ _ from ⟨_, _, _, rfl, (h0.below B4)⟩) (by rw [HL0.out]; omega)).mono ?_
    rintro e w5 ⟨u5, rfl, o5, b5⟩
    have s5 := b5.size
    have B5 : Below w.heap.size w w5 := B4.trans (b5.mono B4.size)
    go_wp2_with fail
    refine (law_eqS _ ((o3.below b4).below b5).rd o5.rd).mono ?_
    rintro e w6 ⟨rfl, b6⟩
    have s6 := b6.size
    have B6 : Below w.heap.size w w6 := B5.trans (b6.mono B5.size)
    go_wp2
    go_ret
    exact ⟨rfl, B6⟩
  · have g0 : decide ((1048576 : Int) < n0) = true := by simp; omega
    go_enter Try.func14, Try.ntmps14
    go_wp2
    go_ret
    exact ⟨rfl, B0⟩
end Go.Proofs.Ytlpeghdbjfnenaa
