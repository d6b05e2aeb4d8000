/- What a maniplex is, the program's: isManiplex. guards: -/
import Derived.Test.YtmdhljleaijkbaaPart3
import Derived.Test.YtmdhljleaijkbaaPart1
import Derived.BigQuiet
import Derived.Test.YtmdhljleaijkbaaPart2
import Derived.Deep.QuietTactic
import Derived.Deep.DeepCutAuto
import Derived.Test.YtmdhljleaijkbaaProg
namespace Go.Proofs.Ytmdhljleaijkbaa
open Go.RowKit

abbrev mxV (R : Nat) : Ch := ⟨false, 28, 1, .flat [.sl 1003 0 R]⟩
theorem rank_fc (R : Nat) : FC Try.prog 69 [(1, mxV R)] [o1 (.ptr 1 0)] [] (vv (I6 R)) [] := by
  have hS := sizeR_fc 1003 R
  refine fc_enter (nt := 8) Try.func69 rfl rfl (by simp) fun w0 ω0 => ?_
  (refine goes_seq ?_; refine goes_region ?_; apply run_step rfl; (exact stp_assign rfl rfl); refine run_nil ?_; refine fin_seq ?_; refine goes_seq ?_; refine goes_region ?_; apply run_step rfl; (exact stp_move rfl rfl); apply run_step rfl; (exact stp_nilCheck rfl rfl rfl); apply run_step rfl; (exact stp_fieldAddr (d := 0) rfl rfl rfl (by as_aux_lemma => kernel_rfl)); apply run_step rfl; (exact stp_loadF rfl (by as_aux_lemma => kernel_rfl) rfl rfl rfl rfl); apply run_step rfl; (apply call_gate 53; exact stp_callR hS (by as_aux_lemma => kernel_rfl) rfl rfl ⟨rfl, trivial⟩ trivial rfl rfl); apply run_step rfl; (exact stp_assign rfl rfl); refine run_nil ?_; refine fin_seq ?_; refine goes_ret ?_)
  exact fin_ret1 (.inl rfl) rfl (.tmp rfl) trivial trivial
set_option maxRecDepth 100000 in
theorem flags_fc1 (zss : List (List Int)) (n : Nat) (hpos : 0 < zss.length) (hn : (lget zss 0).length = n) : FC Try.prog 58 [(1, mxV zss.length), (1003, rowsRo zss)] [o1 (.ptr 1 0)] [] (vv (I6 n)) [] := by
  have hlen : (irows zss).length = zss.length := irows_len _
  have hrow0 : (irows zss)[0]? = some (ivals (lget zss 0)) := irows_get hpos
  have hil : (ivals (lget zss 0)).length = n := by rw [ivals_len]; exact hn
  have hSz := sizeE_fc 1003 0 n
  refine fc_enter (nt := 10) Try.func58 rfl rfl (by simp) fun w0 ω0 => ?_
  (refine goes_seq ?_; refine goes_region ?_; apply run_step rfl; (exact stp_assign rfl rfl); refine run_nil ?_; refine fin_seq ?_; refine goes_seq ?_; refine goes_region ?_; apply run_step rfl; (exact stp_move rfl rfl); apply run_step rfl; (exact stp_nilCheck rfl rfl rfl); apply run_step rfl; (exact stp_fieldAddr (d := 0) rfl rfl rfl (by as_aux_lemma => kernel_rfl)); apply run_step rfl; (exact stp_loadF rfl (by as_aux_lemma => kernel_rfl) rfl rfl rfl rfl); apply run_step rfl; (first | exact stp_ix (j := 0) rfl rfl rfl rfl rfl (by as_aux_lemma => kernel_rfl) rfl hpos (Nat.le_of_eq hlen.symm) | exact stp_loadR rfl (by as_aux_lemma => kernel_rfl) rfl rfl rfl hrow0 hil | (apply call_gate 71; exact stp_callR hSz (by as_aux_lemma => kernel_rfl) rfl rfl ⟨rfl, trivial⟩ trivial rfl rfl)); apply run_step rfl; (first | exact stp_ix (j := 0) rfl rfl rfl rfl rfl (by as_aux_lemma => kernel_rfl) rfl hpos (Nat.le_of_eq hlen.symm) | exact stp_loadR rfl (by as_aux_lemma => kernel_rfl) rfl rfl rfl hrow0 hil | (apply call_gate 71; exact stp_callR hSz (by as_aux_lemma => kernel_rfl) rfl rfl ⟨rfl, trivial⟩ trivial rfl rfl)); apply run_step rfl; (first | exact stp_ix (j := 0) rfl rfl rfl rfl rfl (by as_aux_lemma => kernel_rfl) rfl hpos (Nat.le_of_eq hlen.symm) | exact stp_loadR rfl (by as_aux_lemma => kernel_rfl) rfl rfl rfl hrow0 hil | (apply call_gate 71; exact stp_callR hSz (by as_aux_lemma => kernel_rfl) rfl rfl ⟨rfl, trivial⟩ trivial rfl rfl)); apply run_step rfl; (exact stp_assign rfl rfl); refine run_nil ?_; refine fin_seq ?_; refine goes_ret ?_)
  exact fin_ret1 (.inl rfl) rfl (.tmp rfl) trivial trivial

set_option maxRecDepth 100000 in
set_option maxHeartbeats 4000000 in
theorem manI_fc (zss : List (List Int)) (hR : zss.length ≤ 1048576) (hl : ∀ i, i < zss.length → (lget zss i).length ≤ 1048576) :
    FC Try.prog 39 [(1003, rowsRo zss)] [mA zss.length] [] (vv (.bool (manB zss))) [] := by
  have hRk := rank_fc zss.length
  have hW1 := within_fc (zss.length : Int) 1 5
  refine fc_enter (nt := 101) Try.func39 rfl rfl (by simp) fun w0 ω0 => ?_
  have hlen : (irows zss).length = zss.length := irows_len _
  cases c1 : inB (zss.length : Int) 1 5 with
  | false =>
    rw [manB_no (fun h => by have h1 := h.n1; have h2 := h.n5; rw [inB_true.2 ⟨by omega, by omega⟩] at c1; cases c1)]
    rw [c1] at hW1
    (refine goes_seq ?_; refine goes_region ?_; apply run_step rfl; (exact stp_box rfl rfl rfl rfl); apply run_step rfl; (exact stp_assign rfl rfl); refine run_nil ?_; refine fin_seq ?_; refine goes_seq ?_; refine goes_seq ?_; refine goes_region ?_; apply run_step rfl; (first | (apply call_gate 69; exact stp_callR hRk (by as_aux_lemma => kernel_rfl) rfl rfl ⟨rfl, trivial⟩ ⟨⟨_, rfl, .inr rfl⟩, trivial⟩ rfl rfl) | (apply call_gate 35; exact stp_callR hW1 (by as_aux_lemma => kernel_rfl) rfl rfl ⟨rfl, rfl, rfl, trivial⟩ trivial rfl rfl)); apply run_step rfl; (first | (apply call_gate 69; exact stp_callR hRk (by as_aux_lemma => kernel_rfl) rfl rfl ⟨rfl, trivial⟩ ⟨⟨_, rfl, .inr rfl⟩, trivial⟩ rfl rfl) | (apply call_gate 35; exact stp_callR hW1 (by as_aux_lemma => kernel_rfl) rfl rfl ⟨rfl, rfl, rfl, trivial⟩ trivial rfl rfl)); apply run_step rfl; (exact stp_not rfl rfl); apply run_step rfl; (exact stp_move rfl rfl); apply run_gNo rfl rfl rfl rfl rfl; apply run_gNo rfl rfl rfl rfl rfl; apply run_gNo rfl rfl rfl rfl rfl; apply run_step rfl; (exact stp_pickT rfl rfl rfl); refine run_nil ?_; refine fin_seq ?_)
    refine goes_cond rfl (fun _ => ?_) (fun e => by cases e)
    (refine goes_seq ?_; refine goes_region ?_; apply run_step rfl; (exact stp_assign rfl rfl); refine run_nil ?_; refine fin_seq ?_; refine goes_ret ?_; refine fin_ret_then ?_)
    exact fin_ret1 (.inl rfl) rfl (.tmp rfl) trivial trivial
  | true =>
  rw [c1] at hW1
  have c1 := inB_true.1 c1
  have hpos : 0 < zss.length := by omega
  have hrow0 : (irows zss)[0]? = some (ivals (lget zss 0)) := irows_get hpos
  obtain ⟨n, hn⟩ : ∃ n, (lget zss 0).length = n := ⟨_, rfl⟩
  have hil : (ivals (lget zss 0)).length = n := by rw [ivals_len]; exact hn
  have hG := flags_fc1 zss n hpos hn
  have hW2 := within_fc (n : Int) 2 400
  cases c2 : inB (n : Int) 2 400 with
  | false =>
    rw [manB_no (fun h => by have h1 := h.f2; have h2 := h.f4; rw [inB_true.2 ⟨by omega, by omega⟩] at c2; cases c2)]
    rw [c2] at hW2
    (refine goes_seq ?_; refine goes_region ?_; apply run_step rfl; (exact stp_box rfl rfl rfl rfl); apply run_step rfl; (exact stp_assign rfl rfl); refine run_nil ?_; refine fin_seq ?_; refine goes_seq ?_; refine goes_seq ?_; refine goes_region ?_; apply run_step rfl; (first | (apply call_gate 69; exact stp_callR hRk (by as_aux_lemma => kernel_rfl) rfl rfl ⟨rfl, trivial⟩ ⟨⟨_, rfl, .inr rfl⟩, trivial⟩ rfl rfl) | (apply call_gate 35; exact stp_callR hW1 (by as_aux_lemma => kernel_rfl) rfl rfl ⟨rfl, rfl, rfl, trivial⟩ trivial rfl rfl) | (apply call_gate 35; exact stp_callR hW2 (by as_aux_lemma => kernel_rfl) rfl rfl ⟨rfl, rfl, rfl, trivial⟩ trivial rfl rfl) | (apply call_gate 58; exact stp_callR hG (by as_aux_lemma => kernel_rfl) rfl rfl ⟨rfl, trivial⟩ ⟨⟨_, rfl, .inr rfl⟩, ⟨_, rfl, .inl rfl⟩, trivial⟩ rfl rfl)); apply run_step rfl; (first | (apply call_gate 69; exact stp_callR hRk (by as_aux_lemma => kernel_rfl) rfl rfl ⟨rfl, trivial⟩ ⟨⟨_, rfl, .inr rfl⟩, trivial⟩ rfl rfl) | (apply call_gate 35; exact stp_callR hW1 (by as_aux_lemma => kernel_rfl) rfl rfl ⟨rfl, rfl, rfl, trivial⟩ trivial rfl rfl) | (apply call_gate 35; exact stp_callR hW2 (by as_aux_lemma => kernel_rfl) rfl rfl ⟨rfl, rfl, rfl, trivial⟩ trivial rfl rfl) | (apply call_gate 58; exact stp_callR hG (by as_aux_lemma => kernel_rfl) rfl rfl ⟨rfl, trivial⟩ ⟨⟨_, rfl, .inr rfl⟩, ⟨_, rfl, .inl rfl⟩, trivial⟩ rfl rfl)); apply run_step rfl; (exact stp_not rfl rfl); apply run_step rfl; (exact stp_move rfl rfl); apply run_gYes rfl rfl rfl; (first | (apply call_gate 69; exact stp_callR hRk (by as_aux_lemma => kernel_rfl) rfl rfl ⟨rfl, trivial⟩ ⟨⟨_, rfl, .inr rfl⟩, trivial⟩ rfl rfl) | (apply call_gate 35; exact stp_callR hW1 (by as_aux_lemma => kernel_rfl) rfl rfl ⟨rfl, rfl, rfl, trivial⟩ trivial rfl rfl) | (apply call_gate 35; exact stp_callR hW2 (by as_aux_lemma => kernel_rfl) rfl rfl ⟨rfl, rfl, rfl, trivial⟩ trivial rfl rfl) | (apply call_gate 58; exact stp_callR hG (by as_aux_lemma => kernel_rfl) rfl rfl ⟨rfl, trivial⟩ ⟨⟨_, rfl, .inr rfl⟩, ⟨_, rfl, .inl rfl⟩, trivial⟩ rfl rfl)); apply run_gYes rfl rfl rfl; (first | (apply call_gate 69; exact stp_callR hRk (by as_aux_lemma => kernel_rfl) rfl rfl ⟨rfl, trivial⟩ ⟨⟨_, rfl, .inr rfl⟩, trivial⟩ rfl rfl) | (apply call_gate 35; exact stp_callR hW1 (by as_aux_lemma => kernel_rfl) rfl rfl ⟨rfl, rfl, rfl, trivial⟩ trivial rfl rfl) | (apply call_gate 35; exact stp_callR hW2 (by as_aux_lemma => kernel_rfl) rfl rfl ⟨rfl, rfl, rfl, trivial⟩ trivial rfl rfl) | (apply call_gate 58; exact stp_callR hG (by as_aux_lemma => kernel_rfl) rfl rfl ⟨rfl, trivial⟩ ⟨⟨_, rfl, .inr rfl⟩, ⟨_, rfl, .inl rfl⟩, trivial⟩ rfl rfl)); apply run_gYes rfl rfl rfl; (exact stp_not rfl rfl); apply run_step rfl; (exact stp_pickF rfl rfl rfl); refine run_nil ?_; refine fin_seq ?_)
    refine goes_cond rfl (fun _ => ?_) (fun e => by cases e)
    (refine goes_seq ?_; refine goes_region ?_; apply run_step rfl; (exact stp_assign rfl rfl); refine run_nil ?_; refine fin_seq ?_; refine goes_ret ?_; refine fin_ret_then ?_)
    exact fin_ret1 (.inl rfl) rfl (.tmp rfl) trivial trivial
  | true =>
  rw [c2] at hW2
  have c2 := inB_true.1 c2
  (refine goes_seq ?_; refine goes_region ?_; apply run_step rfl; (exact stp_box rfl rfl rfl rfl); apply run_step rfl; (exact stp_assign rfl rfl); refine run_nil ?_; refine fin_seq ?_; refine goes_seq ?_; refine goes_seq ?_; refine goes_region ?_; apply run_step rfl; (first | (apply call_gate 69; exact stp_callR hRk (by as_aux_lemma => kernel_rfl) rfl rfl ⟨rfl, trivial⟩ ⟨⟨_, rfl, .inr rfl⟩, trivial⟩ rfl rfl) | (apply call_gate 35; exact stp_callR hW1 (by as_aux_lemma => kernel_rfl) rfl rfl ⟨rfl, rfl, rfl, trivial⟩ trivial rfl rfl) | (apply call_gate 35; exact stp_callR hW2 (by as_aux_lemma => kernel_rfl) rfl rfl ⟨rfl, rfl, rfl, trivial⟩ trivial rfl rfl) | (apply call_gate 58; exact stp_callR hG (by as_aux_lemma => kernel_rfl) rfl rfl ⟨rfl, trivial⟩ ⟨⟨_, rfl, .inr rfl⟩, ⟨_, rfl, .inl rfl⟩, trivial⟩ rfl rfl)); apply run_step rfl; (first | (apply call_gate 69; exact stp_callR hRk (by as_aux_lemma => kernel_rfl) rfl rfl ⟨rfl, trivial⟩ ⟨⟨_, rfl, .inr rfl⟩, trivial⟩ rfl rfl) | (apply call_gate 35; exact stp_callR hW1 (by as_aux_lemma => kernel_rfl) rfl rfl ⟨rfl, rfl, rfl, trivial⟩ trivial rfl rfl) | (apply call_gate 35; exact stp_callR hW2 (by as_aux_lemma => kernel_rfl) rfl rfl ⟨rfl, rfl, rfl, trivial⟩ trivial rfl rfl) | (apply call_gate 58; exact stp_callR hG (by as_aux_lemma => kernel_rfl) rfl rfl ⟨rfl, trivial⟩ ⟨⟨_, rfl, .inr rfl⟩, ⟨_, rfl, .inl rfl⟩, trivial⟩ rfl rfl)); apply run_step rfl; (exact stp_not rfl rfl); apply run_step rfl; (exact stp_move rfl rfl); apply run_gYes rfl rfl rfl; (first | (apply call_gate 69; exact stp_callR hRk (by as_aux_lemma => kernel_rfl) rfl rfl ⟨rfl, trivial⟩ ⟨⟨_, rfl, .inr rfl⟩, trivial⟩ rfl rfl) | (apply call_gate 35; exact stp_callR hW1 (by as_aux_lemma => kernel_rfl) rfl rfl ⟨rfl, rfl, rfl, trivial⟩ trivial rfl rfl) | (apply call_gate 35; exact stp_callR hW2 (by as_aux_lemma => kernel_rfl) rfl rfl ⟨rfl, rfl, rfl, trivial⟩ trivial rfl rfl) | (apply call_gate 58; exact stp_callR hG (by as_aux_lemma => kernel_rfl) rfl rfl ⟨rfl, trivial⟩ ⟨⟨_, rfl, .inr rfl⟩, ⟨_, rfl, .inl rfl⟩, trivial⟩ rfl rfl)); apply run_gYes rfl rfl rfl; (first | (apply call_gate 69; exact stp_callR hRk (by as_aux_lemma => kernel_rfl) rfl rfl ⟨rfl, trivial⟩ ⟨⟨_, rfl, .inr rfl⟩, trivial⟩ rfl rfl) | (apply call_gate 35; exact stp_callR hW1 (by as_aux_lemma => kernel_rfl) rfl rfl ⟨rfl, rfl, rfl, trivial⟩ trivial rfl rfl) | (apply call_gate 35; exact stp_callR hW2 (by as_aux_lemma => kernel_rfl) rfl rfl ⟨rfl, rfl, rfl, trivial⟩ trivial rfl rfl) | (apply call_gate 58; exact stp_callR hG (by as_aux_lemma => kernel_rfl) rfl rfl ⟨rfl, trivial⟩ ⟨⟨_, rfl, .inr rfl⟩, ⟨_, rfl, .inl rfl⟩, trivial⟩ rfl rfl)); apply run_gYes rfl rfl rfl; (exact stp_not rfl rfl); apply run_step rfl; (exact stp_pickF rfl rfl rfl); refine run_nil ?_; refine fin_seq ?_)
  refine goes_cond rfl (fun e => by cases e) (fun _ => ?_)
  (refine goes_skip ?_; refine fin_seq ?_; refine goes_seq ?_; refine goes_seq ?_; refine goes_region ?_; apply run_step rfl; (exact stp_fieldAddr (d := 0) rfl rfl rfl (by as_aux_lemma => kernel_rfl)); apply run_step rfl; (exact stp_loadF rfl (by as_aux_lemma => kernel_rfl) rfl rfl rfl rfl); apply run_step rfl; (exact stp_len rfl rfl rfl (by as_aux_lemma => kernel_rfl)); apply run_step rfl; (exact stp_move rfl rfl); refine run_nil ?_; refine fin_seq ?_; refine goes_block ?_)
  refine goes_loop (fun i : Nat => St.of [(1, o1 (.ptr 1 0)), (21, o1 (.sl 1003 0 zss.length)), (22, vv (I6 zss.length)), (23, vv (I6 i))] [(1003, rowsRo zss), (1, mxB zss.length)]) (fun i => i ≤ zss.length ∧ Rows zss n i) (fun i => zss.length - i) 0 ⟨Nat.zero_le _, fun j hj => absurd hj (by omega)⟩ (Wk.of ⟨rfl, rfl, rfl, rfl, trivial⟩ ⟨rfl, rfl, trivial⟩ trivial) ?_
  rintro i ⟨hi, hrows⟩
  (refine goes_seq ?_; refine goes_region ?_; apply run_step rfl; (exact stp_bin rfl rfl rfl rfl); refine run_nil ?_; refine fin_seq ?_; refine goes_seq ?_)
  refine goes_if rfl (fun hlt => ?_) (fun hlt => ?_)
  · have hiz : i < zss.length := by omega
    have hrowi : (irows zss)[i]? = some (ivals (lget zss i)) := irows_get hiz
    have hP := freeI_fc zss i hiz (hl i hiz)
    obtain ⟨m, hm⟩ : ∃ m, (lget zss i).length = m := ⟨_, rfl⟩
    have hilm : (ivals (lget zss i)).length = m := by rw [ivals_len]; exact hm
    rw [hm] at hP
    have hSz := sizeE_fc 1003 i m
    cases hf : freeInv (lget zss i) with
    | false =>
      rw [hf] at hP
      (refine goes_skip ?_; refine fin_seq ?_; refine goes_seq ?_; refine goes_block ?_; refine goes_seq ?_; refine goes_region ?_; apply run_step rfl; (first | exact stp_ix (j := i) rfl rfl rfl rfl rfl (by as_aux_lemma => kernel_rfl) rfl hiz (Nat.le_of_eq hlen.symm) | exact stp_loadR rfl (by as_aux_lemma => kernel_rfl) rfl rfl rfl hrowi hilm | (apply call_gate 70; exact stp_callR hP (by as_aux_lemma => kernel_rfl) rfl rfl ⟨rfl, trivial⟩ ⟨⟨_, rfl, .inl rfl⟩, trivial⟩ rfl rfl)); apply run_step rfl; (first | exact stp_ix (j := i) rfl rfl rfl rfl rfl (by as_aux_lemma => kernel_rfl) rfl hiz (Nat.le_of_eq hlen.symm) | exact stp_loadR rfl (by as_aux_lemma => kernel_rfl) rfl rfl rfl hrowi hilm | (apply call_gate 70; exact stp_callR hP (by as_aux_lemma => kernel_rfl) rfl rfl ⟨rfl, trivial⟩ ⟨⟨_, rfl, .inl rfl⟩, trivial⟩ rfl rfl)); apply run_step rfl; (exact stp_assign rfl rfl); refine run_nil ?_; refine fin_seq ?_; refine goes_seq ?_; refine goes_region ?_; apply run_step rfl; (exact stp_move rfl rfl); apply run_step rfl; (first | exact stp_ix (j := i) rfl rfl rfl rfl rfl (by as_aux_lemma => kernel_rfl) rfl hiz (Nat.le_of_eq hlen.symm) | exact stp_loadR rfl (by as_aux_lemma => kernel_rfl) rfl rfl rfl hrowi hilm | (apply call_gate 70; exact stp_callR hP (by as_aux_lemma => kernel_rfl) rfl rfl ⟨rfl, trivial⟩ ⟨⟨_, rfl, .inl rfl⟩, trivial⟩ rfl rfl)); apply run_step rfl; (exact stp_not rfl rfl); apply run_step rfl; (exact stp_move rfl rfl); apply run_gNo rfl rfl rfl rfl rfl; apply run_gNo rfl rfl rfl rfl rfl; apply run_gNo rfl rfl rfl rfl rfl; apply run_gNo rfl rfl rfl rfl rfl; apply run_step rfl; (exact stp_pickT rfl rfl rfl); refine run_nil ?_; refine fin_seq ?_)
      refine goes_cond rfl (fun _ => ?_) (fun e => by cases e)
      rw [manB_no (fun h => by have h1 := h.perm i hiz; have h2 := h.free i hiz; unfold freeInv at hf; rw [h1, h2] at hf; cases hf)]
      (refine goes_seq ?_; refine goes_region ?_; apply run_step rfl; (exact stp_assign rfl rfl); refine run_nil ?_; refine fin_seq ?_; refine goes_ret ?_; refine fin_ret_block ?_; refine fin_ret_then ?_; refine fin_ret_then ?_; refine fin_ret_block ?_; refine fin_ret_then ?_)
      exact fin_ret1 (.inl rfl) rfl (.tmp rfl) trivial trivial
    | true =>
      rw [hf] at hP
      unfold freeInv at hf
      rw [Bool.and_eq_true] at hf
      (refine goes_skip ?_; refine fin_seq ?_; refine goes_seq ?_; refine goes_block ?_; refine goes_seq ?_; refine goes_region ?_; apply run_step rfl; (first | exact stp_ix (j := i) rfl rfl rfl rfl rfl (by as_aux_lemma => kernel_rfl) rfl hiz (Nat.le_of_eq hlen.symm) | exact stp_loadR rfl (by as_aux_lemma => kernel_rfl) rfl rfl rfl hrowi hilm | (apply call_gate 70; exact stp_callR hP (by as_aux_lemma => kernel_rfl) rfl rfl ⟨rfl, trivial⟩ ⟨⟨_, rfl, .inl rfl⟩, trivial⟩ rfl rfl) | (apply call_gate 71; exact stp_callR hSz (by as_aux_lemma => kernel_rfl) rfl rfl ⟨rfl, trivial⟩ trivial rfl rfl) | (apply call_gate 58; exact stp_callR hG (by as_aux_lemma => kernel_rfl) rfl rfl ⟨rfl, trivial⟩ ⟨⟨_, rfl, .inr rfl⟩, ⟨_, rfl, .inl rfl⟩, trivial⟩ rfl rfl)); apply run_step rfl; (first | exact stp_ix (j := i) rfl rfl rfl rfl rfl (by as_aux_lemma => kernel_rfl) rfl hiz (Nat.le_of_eq hlen.symm) | exact stp_loadR rfl (by as_aux_lemma => kernel_rfl) rfl rfl rfl hrowi hilm | (apply call_gate 70; exact stp_callR hP (by as_aux_lemma => kernel_rfl) rfl rfl ⟨rfl, trivial⟩ ⟨⟨_, rfl, .inl rfl⟩, trivial⟩ rfl rfl) | (apply call_gate 71; exact stp_callR hSz (by as_aux_lemma => kernel_rfl) rfl rfl ⟨rfl, trivial⟩ trivial rfl rfl) | (apply call_gate 58; exact stp_callR hG (by as_aux_lemma => kernel_rfl) rfl rfl ⟨rfl, trivial⟩ ⟨⟨_, rfl, .inr rfl⟩, ⟨_, rfl, .inl rfl⟩, trivial⟩ rfl rfl)); apply run_step rfl; (exact stp_assign rfl rfl); refine run_nil ?_; refine fin_seq ?_; refine goes_seq ?_; refine goes_region ?_; apply run_step rfl; (exact stp_move rfl rfl); apply run_step rfl; (first | exact stp_ix (j := i) rfl rfl rfl rfl rfl (by as_aux_lemma => kernel_rfl) rfl hiz (Nat.le_of_eq hlen.symm) | exact stp_loadR rfl (by as_aux_lemma => kernel_rfl) rfl rfl rfl hrowi hilm | (apply call_gate 70; exact stp_callR hP (by as_aux_lemma => kernel_rfl) rfl rfl ⟨rfl, trivial⟩ ⟨⟨_, rfl, .inl rfl⟩, trivial⟩ rfl rfl) | (apply call_gate 71; exact stp_callR hSz (by as_aux_lemma => kernel_rfl) rfl rfl ⟨rfl, trivial⟩ trivial rfl rfl) | (apply call_gate 58; exact stp_callR hG (by as_aux_lemma => kernel_rfl) rfl rfl ⟨rfl, trivial⟩ ⟨⟨_, rfl, .inr rfl⟩, ⟨_, rfl, .inl rfl⟩, trivial⟩ rfl rfl)); apply run_step rfl; (exact stp_not rfl rfl); apply run_step rfl; (exact stp_move rfl rfl); apply run_gYes rfl rfl rfl; (exact stp_move rfl rfl); apply run_gYes rfl rfl rfl; (first | exact stp_ix (j := i) rfl rfl rfl rfl rfl (by as_aux_lemma => kernel_rfl) rfl hiz (Nat.le_of_eq hlen.symm) | exact stp_loadR rfl (by as_aux_lemma => kernel_rfl) rfl rfl rfl hrowi hilm | (apply call_gate 70; exact stp_callR hP (by as_aux_lemma => kernel_rfl) rfl rfl ⟨rfl, trivial⟩ ⟨⟨_, rfl, .inl rfl⟩, trivial⟩ rfl rfl) | (apply call_gate 71; exact stp_callR hSz (by as_aux_lemma => kernel_rfl) rfl rfl ⟨rfl, trivial⟩ trivial rfl rfl) | (apply call_gate 58; exact stp_callR hG (by as_aux_lemma => kernel_rfl) rfl rfl ⟨rfl, trivial⟩ ⟨⟨_, rfl, .inr rfl⟩, ⟨_, rfl, .inl rfl⟩, trivial⟩ rfl rfl)); apply run_gYes rfl rfl rfl; (first | exact stp_ix (j := i) rfl rfl rfl rfl rfl (by as_aux_lemma => kernel_rfl) rfl hiz (Nat.le_of_eq hlen.symm) | exact stp_loadR rfl (by as_aux_lemma => kernel_rfl) rfl rfl rfl hrowi hilm | (apply call_gate 70; exact stp_callR hP (by as_aux_lemma => kernel_rfl) rfl rfl ⟨rfl, trivial⟩ ⟨⟨_, rfl, .inl rfl⟩, trivial⟩ rfl rfl) | (apply call_gate 71; exact stp_callR hSz (by as_aux_lemma => kernel_rfl) rfl rfl ⟨rfl, trivial⟩ trivial rfl rfl) | (apply call_gate 58; exact stp_callR hG (by as_aux_lemma => kernel_rfl) rfl rfl ⟨rfl, trivial⟩ ⟨⟨_, rfl, .inr rfl⟩, ⟨_, rfl, .inl rfl⟩, trivial⟩ rfl rfl)); apply run_gYes rfl rfl rfl; (exact stp_bin rfl rfl rfl rfl); apply run_step rfl; (exact stp_pickF rfl rfl rfl); refine run_nil ?_; refine fin_seq ?_)
      refine goes_cond rfl (fun e1 => ?_) (fun e1 => ?_)
      · have e1 : (m : Int) ≠ n := by simpa using e1
        rw [manB_no (fun h => by have := h.len i hiz; omega)]
        (refine goes_seq ?_; refine goes_region ?_; apply run_step rfl; (exact stp_assign rfl rfl); refine run_nil ?_; refine fin_seq ?_; refine goes_ret ?_; refine fin_ret_block ?_; refine fin_ret_then ?_; refine fin_ret_then ?_; refine fin_ret_block ?_; refine fin_ret_then ?_)
        exact fin_ret1 (.inl rfl) rfl (.tmp rfl) trivial trivial
      · have e1 : (m : Int) = n := by simpa using e1
        (refine goes_skip ?_; refine fin_block ?_; refine fin_seq ?_; refine goes_region ?_; apply run_step rfl; (exact stp_add rfl rfl rfl (by first | exact IntWalk.i64_in _ (by omega) | rfl)); apply run_step rfl; (exact stp_move rfl rfl); refine run_nil ?_)
        exact fin_round (i + 1) ⟨hiz, fun j hj => by
          by_cases e : j = i
          · subst e; exact ⟨by omega, hf.1, hf.2⟩
          · exact hrows j (by omega)⟩ (by omega) (Wk.of ⟨rfl, rfl, rfl, rfl, trivial⟩ ⟨rfl, rfl, trivial⟩ trivial)
  obtain rfl : i = zss.length := by omega
  have hrn : Rows zss n zss.length := hrows
  have hT := rows_leads hrn
  have hB := rows_back hrn
  (refine goes_exit ?_; refine fin_exit_then ?_; refine fin_exit_then ?_; refine fin_exit_eq ?_; refine fin_seq ?_; refine goes_seq ?_; refine goes_seq ?_; refine goes_region ?_; apply run_step rfl; (exact stp_fieldAddr (d := 0) rfl rfl rfl (by as_aux_lemma => kernel_rfl)); apply run_step rfl; (exact stp_loadF rfl (by as_aux_lemma => kernel_rfl) rfl rfl rfl rfl); apply run_step rfl; (exact stp_len rfl rfl rfl (by as_aux_lemma => kernel_rfl)); apply run_step rfl; (exact stp_move rfl rfl); refine run_nil ?_; refine fin_seq ?_; refine goes_block ?_)
  refine goes_loop (fun i : Nat => St.of [(1, o1 (.ptr 1 0)), (38, o1 (.sl 1003 0 zss.length)), (39, vv (I6 zss.length)), (40, vv (I6 i))] [(1003, rowsRo zss), (1, mxB zss.length)]) (fun i => i ≤ zss.length ∧ ∀ i' k, i' < i → i' + 2 ≤ k → k < zss.length → ∀ f, f < n → commAt zss i' k f) (fun i => zss.length - i) 0 ⟨Nat.zero_le _, fun j k hj => absurd hj (by omega)⟩ (Wk.of ⟨rfl, rfl, rfl, rfl, trivial⟩ ⟨rfl, rfl, trivial⟩ trivial) ?_
  clear hi hrows hlt
  rintro i ⟨hi, hci⟩
  (refine goes_seq ?_; refine goes_region ?_; apply run_step rfl; (exact stp_bin rfl rfl rfl rfl); refine run_nil ?_; refine fin_seq ?_; refine goes_seq ?_)
  refine goes_if rfl (fun hlt => ?_) (fun hlt => ?_)
  · have hiz : i < zss.length := by omega
    have hrowi : (irows zss)[i]? = some (ivals (lget zss i)) := irows_get hiz
    have hilm : (ivals (lget zss i)).length = n := by rw [ivals_len]; exact (hrn i hiz).1
    obtain ⟨mm, hmm⟩ : ∃ mm, min (i + 2) zss.length = mm := ⟨_, rfl⟩
    have hmR : mm ≤ zss.length := by omega
    have hi2 : IntKind.i64.wrap ((i : Int) + 2) = ((i + 2 : Nat) : Int) := IntWalk.i64_in _ (by omega)
    (refine goes_skip ?_; refine fin_seq ?_; refine goes_seq ?_; refine goes_block ?_; refine goes_seq ?_; refine goes_region ?_; apply run_step rfl; (exact stp_move rfl rfl); apply run_step rfl; (first | exact stp_ix (j := i) rfl rfl rfl rfl rfl (by as_aux_lemma => kernel_rfl) rfl hiz (Nat.le_of_eq hlen.symm) | exact stp_loadR rfl (by as_aux_lemma => kernel_rfl) rfl rfl rfl hrowi hilm | exact stp_add rfl rfl rfl hi2 | exact stp_minN rfl rfl rfl | exact stp_slice (k := 1) (l := min (i + 2) zss.length) (h := zss.length) rfl rfl rfl rfl (by as_aux_lemma => kernel_rfl) (by omega) (bnd_some rfl rfl) bnd_none (by omega) (Nat.le_refl _) (by rw [Nat.mul_one, Nat.zero_add]; exact Nat.le_of_eq hlen.symm)); apply run_step rfl; (first | exact stp_ix (j := i) rfl rfl rfl rfl rfl (by as_aux_lemma => kernel_rfl) rfl hiz (Nat.le_of_eq hlen.symm) | exact stp_loadR rfl (by as_aux_lemma => kernel_rfl) rfl rfl rfl hrowi hilm | exact stp_add rfl rfl rfl hi2 | exact stp_minN rfl rfl rfl | exact stp_slice (k := 1) (l := min (i + 2) zss.length) (h := zss.length) rfl rfl rfl rfl (by as_aux_lemma => kernel_rfl) (by omega) (bnd_some rfl rfl) bnd_none (by omega) (Nat.le_refl _) (by rw [Nat.mul_one, Nat.zero_add]; exact Nat.le_of_eq hlen.symm)); apply run_step rfl; (exact stp_assign rfl rfl); apply run_step rfl; (exact stp_assign rfl rfl); refine run_nil ?_; refine fin_seq ?_; refine goes_seq ?_; refine goes_region ?_; apply run_step rfl; (exact stp_fieldAddr (d := 0) rfl rfl rfl (by as_aux_lemma => kernel_rfl)); apply run_step rfl; (exact stp_loadF rfl (by as_aux_lemma => kernel_rfl) rfl rfl rfl rfl); apply run_step rfl; (exact stp_move rfl rfl); apply run_step rfl; (first | exact stp_ix (j := i) rfl rfl rfl rfl rfl (by as_aux_lemma => kernel_rfl) rfl hiz (Nat.le_of_eq hlen.symm) | exact stp_loadR rfl (by as_aux_lemma => kernel_rfl) rfl rfl rfl hrowi hilm | exact stp_add rfl rfl rfl hi2 | exact stp_minN rfl rfl rfl | exact stp_slice (k := 1) (l := min (i + 2) zss.length) (h := zss.length) rfl rfl rfl rfl (by as_aux_lemma => kernel_rfl) (by omega) (bnd_some rfl rfl) bnd_none (by omega) (Nat.le_refl _) (by rw [Nat.mul_one, Nat.zero_add]; exact Nat.le_of_eq hlen.symm)); apply run_step rfl; (exact stp_fieldAddr (d := 0) rfl rfl rfl (by as_aux_lemma => kernel_rfl)); apply run_step rfl; (exact stp_loadF rfl (by as_aux_lemma => kernel_rfl) rfl rfl rfl rfl); apply run_step rfl; (exact stp_len rfl rfl rfl (by as_aux_lemma => kernel_rfl)); apply run_step rfl; (first | exact stp_ix (j := i) rfl rfl rfl rfl rfl (by as_aux_lemma => kernel_rfl) rfl hiz (Nat.le_of_eq hlen.symm) | exact stp_loadR rfl (by as_aux_lemma => kernel_rfl) rfl rfl rfl hrowi hilm | exact stp_add rfl rfl rfl hi2 | exact stp_minN rfl rfl rfl | exact stp_slice (k := 1) (l := min (i + 2) zss.length) (h := zss.length) rfl rfl rfl rfl (by as_aux_lemma => kernel_rfl) (by omega) (bnd_some rfl rfl) bnd_none (by omega) (Nat.le_refl _) (by rw [Nat.mul_one, Nat.zero_add]; exact Nat.le_of_eq hlen.symm)); apply run_step rfl; (first | exact stp_ix (j := i) rfl rfl rfl rfl rfl (by as_aux_lemma => kernel_rfl) rfl hiz (Nat.le_of_eq hlen.symm) | exact stp_loadR rfl (by as_aux_lemma => kernel_rfl) rfl rfl rfl hrowi hilm | exact stp_add rfl rfl rfl hi2 | exact stp_minN rfl rfl rfl | exact stp_slice (k := 1) (l := min (i + 2) zss.length) (h := zss.length) rfl rfl rfl rfl (by as_aux_lemma => kernel_rfl) (by omega) (bnd_some rfl rfl) bnd_none (by omega) (Nat.le_refl _) (by rw [Nat.mul_one, Nat.zero_add]; exact Nat.le_of_eq hlen.symm)); apply run_step rfl; (exact stp_len rfl rfl rfl (by as_aux_lemma => kernel_rfl)); apply run_step rfl; (exact stp_move rfl rfl); refine run_nil ?_; refine fin_seq ?_; refine goes_block ?_)
    rw [hmm]
    refine goes_loop (fun j : Nat => St.of [(1, o1 (.ptr 1 0)), (6, o1 (.esl 1003 i 0 n)), (38, o1 (.sl 1003 0 zss.length)), (39, vv (I6 zss.length)), (40, vv (I6 i)), (53, o1 (.sl 1003 mm (zss.length - mm))), (54, vv (I6 (zss.length - mm : Nat))), (55, vv (I6 j))] [(1003, rowsRo zss), (1, mxB zss.length)]) (fun j => j ≤ zss.length - mm ∧ ∀ k', i + 2 ≤ k' → k' < mm + j → ∀ f, f < n → commAt zss i k' f) (fun j => zss.length - mm - j) 0 ⟨Nat.zero_le _, fun k' h1 h2 => absurd h1 (by omega)⟩ (Wk.of ⟨rfl, rfl, rfl, rfl, rfl, congrArg (fun z => some (o1 (.sl 1003 z (zss.length - mm)))) (Nat.zero_add mm), rfl, rfl, trivial⟩ ⟨rfl, rfl, trivial⟩ trivial) ?_
    rintro j ⟨hj, hck⟩
    (refine goes_seq ?_; refine goes_region ?_; apply run_step rfl; (exact stp_bin rfl rfl rfl rfl); refine run_nil ?_; refine fin_seq ?_; refine goes_seq ?_)
    refine goes_if rfl (fun hlj => ?_) (fun hlj => ?_)
    · obtain ⟨k, hk⟩ : ∃ k, mm + j = k := ⟨_, rfl⟩
      have hkz : k < zss.length := by omega
      have hki : i + 2 ≤ k := by omega
      have hjl : j < zss.length - mm := by omega
      have hml : mm + (zss.length - mm) ≤ (irows zss).length := by rw [hlen]; omega
      have hrowk : (irows zss)[k]? = some (ivals (lget zss k)) := irows_get hkz
      have hilk : (ivals (lget zss k)).length = n := by rw [ivals_len]; exact (hrn k hkz).1
      (refine goes_skip ?_; refine fin_seq ?_; refine goes_seq ?_; refine goes_block ?_; refine goes_seq ?_; refine goes_region ?_; apply run_step rfl; (first | exact stp_ixK (j := j) rfl rfl rfl rfl rfl (by as_aux_lemma => kernel_rfl) rfl hjl hml hk | exact stp_loadR rfl (by as_aux_lemma => kernel_rfl) rfl rfl rfl hrowk hilk | (apply call_gate 58; exact stp_callR hG (by as_aux_lemma => kernel_rfl) rfl rfl ⟨rfl, trivial⟩ ⟨⟨_, rfl, .inr rfl⟩, ⟨_, rfl, .inl rfl⟩, trivial⟩ rfl rfl)); apply run_step rfl; (first | exact stp_ixK (j := j) rfl rfl rfl rfl rfl (by as_aux_lemma => kernel_rfl) rfl hjl hml hk | exact stp_loadR rfl (by as_aux_lemma => kernel_rfl) rfl rfl rfl hrowk hilk | (apply call_gate 58; exact stp_callR hG (by as_aux_lemma => kernel_rfl) rfl rfl ⟨rfl, trivial⟩ ⟨⟨_, rfl, .inr rfl⟩, ⟨_, rfl, .inl rfl⟩, trivial⟩ rfl rfl)); apply run_step rfl; (exact stp_assign rfl rfl); refine run_nil ?_; refine fin_seq ?_; refine goes_seq ?_; refine goes_region ?_; apply run_step rfl; (first | exact stp_ixK (j := j) rfl rfl rfl rfl rfl (by as_aux_lemma => kernel_rfl) rfl hjl hml hk | exact stp_loadR rfl (by as_aux_lemma => kernel_rfl) rfl rfl rfl hrowk hilk | (apply call_gate 58; exact stp_callR hG (by as_aux_lemma => kernel_rfl) rfl rfl ⟨rfl, trivial⟩ ⟨⟨_, rfl, .inr rfl⟩, ⟨_, rfl, .inl rfl⟩, trivial⟩ rfl rfl)); apply run_step rfl; (exact stp_move rfl rfl); refine run_nil ?_; refine fin_seq ?_; refine goes_block ?_)
      refine goes_loop (fun f : Nat => St.of [(1, o1 (.ptr 1 0)), (6, o1 (.esl 1003 i 0 n)), (8, o1 (.esl 1003 k 0 n)), (38, o1 (.sl 1003 0 zss.length)), (39, vv (I6 zss.length)), (40, vv (I6 i)), (53, o1 (.sl 1003 mm (zss.length - mm))), (54, vv (I6 (zss.length - mm : Nat))), (55, vv (I6 j)), (59, vv (I6 n)), (60, vv (I6 f))] [(1003, rowsRo zss), (1, mxB zss.length)]) (fun f => f ≤ n ∧ ∀ f', f' < f → commAt zss i k f') (fun f => n - f) 0 ⟨Nat.zero_le _, fun f' h1 => absurd h1 (by omega)⟩ (Wk.of ⟨rfl, rfl, rfl, rfl, rfl, rfl, rfl, rfl, rfl, rfl, rfl, trivial⟩ ⟨rfl, rfl, trivial⟩ trivial) ?_
      rintro f ⟨hf, hcf⟩
      (refine goes_seq ?_; refine goes_region ?_; apply run_step rfl; (exact stp_bin rfl rfl rfl rfl); refine run_nil ?_; refine fin_seq ?_; refine goes_seq ?_)
      refine goes_if rfl (fun hlf => ?_) (fun hlf => ?_)
      · have hfn : f < n := by omega
        have hd1 := bTo_lt hT hfn (g := i) hiz
        have hd2 := bTo_lt hT hfn (g := k) hkz
        have hx1 := bTo_lt hT hd1.1 (g := k) hkz
        have hx2 := bTo_lt hT hd2.1 (g := i) hiz
        have hcm : commAt zss i k f ↔ bTo zss (bTo zss f i) k = bTo zss (bTo zss f k) i ∧ bTo zss f i ≠ bTo zss f k := Iff.rfl
        generalize bTo zss (bTo zss f i) k = x1 at *
        generalize bTo zss (bTo zss f k) i = x2 at *
        generalize bTo zss f i = d1 at *
        generalize bTo zss f k = d2 at *
        have g1 : (ivals (lget zss i))[f]? = some (I6 (d1 : Int)) := by rw [ivals_get (by rw [(hrn i hiz).1]; exact hfn), hd1.2]
        have g2 : (ivals (lget zss k))[f]? = some (I6 (d2 : Int)) := by rw [ivals_get (by rw [(hrn k hkz).1]; exact hfn), hd2.2]
        have g3 : (ivals (lget zss k))[d1]? = some (I6 (x1 : Int)) := by rw [ivals_get (by rw [(hrn k hkz).1]; exact hd1.1), hx1.2]
        have g4 : (ivals (lget zss i))[d2]? = some (I6 (x2 : Int)) := by rw [ivals_get (by rw [(hrn i hiz).1]; exact hd2.1), hx2.2]
        have hni : n ≤ (ivals (lget zss i)).length := Nat.le_of_eq hilm.symm
        have hnk : n ≤ (ivals (lget zss k)).length := Nat.le_of_eq hilk.symm
        (refine goes_skip ?_; refine fin_seq ?_; refine goes_seq ?_; refine goes_block ?_; refine goes_seq ?_; refine goes_region ?_; apply run_step rfl; (exact stp_move rfl rfl); apply run_step rfl; (exact stp_assign rfl rfl); refine run_nil ?_; refine fin_seq ?_; refine goes_seq ?_)
        by_cases e1 : (d1 : Int) = d2
        · apply goes_drawG 26 [] [[], [], [0, 1], [0, 1, 2], [], [], [4, 5], [4, 5, 6], [0, 1, 2, 3, 4, 5, 6, 7], [0, 1, 2, 3, 4, 5, 6, 7, 8], [0, 1, 2, 3, 4, 5, 6, 7, 8, 9], [0, 1, 2, 3, 4, 5, 6, 7, 8, 9], [0, 1, 2, 3, 4, 5, 6, 7, 8, 9], [0, 1, 2, 3, 4, 5, 6, 7, 8, 9, 11, 12], [0, 1, 2, 3, 4, 5, 6, 7, 8, 9, 11, 12, 13], [0, 1, 2, 3, 4, 5, 6, 7, 8, 9, 10, 11, 12, 13, 14], [0, 1, 2, 3, 4, 5, 6, 7, 8, 9, 10, 11, 12, 13, 14, 15], [0, 1, 2, 3, 4, 5, 6, 7, 8, 9], [0, 1, 2, 3, 4, 5, 6, 7, 8, 9], [0, 1, 2, 3, 4, 5, 6, 7, 8, 9], [0, 1, 2, 3, 4, 5, 6, 7, 8, 9, 18, 19], [0, 1, 2, 3, 4, 5, 6, 7, 8, 9, 18, 19, 20], [0, 1, 2, 3, 4, 5, 6, 7, 8, 9, 17, 18, 19, 20, 21], [0, 1, 2, 3, 4, 5, 6, 7, 8, 9, 17, 18, 19, 20, 21, 22], [0, 1, 2, 3, 4, 5, 6, 7, 8, 9, 10, 11, 12, 13, 14, 15, 16, 17, 18, 19, 20, 21, 22, 23], [0, 1, 2, 3, 4, 5, 6, 7, 8, 9, 10, 11, 12, 13, 14, 15, 16, 17, 18, 19, 20, 21, 22, 23, 24]] [63, 64, 65, 66, 67, 68, 69, 70, 71, 72, 73, 74, 75, 76, 77, 78, 79, 80, 81, 82, 83, 84, 85, 86, 87, 88] [] (by kernel_rfl) (by kernel_rfl)
          · (apply drawG_put rfl; (intro S1 hS; exact stp_move rfl (hS.op rfl)))
            (apply drawG_put rfl; (intro S1 hS; exact stp_move rfl (hS.op rfl)))
            (apply drawG_put rfl; (intro S1 hS; exact stp_ixE (j := f) rfl (hS.op rfl) (hS.op rfl) (hS.ch _ _ rfl) rfl (by as_aux_lemma => kernel_rfl) hrowi rfl hfn hni))
            (apply drawG_put rfl; (intro S1 hS; exact stp_loadE' rfl (by as_aux_lemma => kernel_rfl) (hS.op rfl) (hS.ch _ _ rfl) rfl hrowi g1))
            (apply drawG_put rfl; (intro S1 hS; exact stp_move rfl (hS.op rfl)))
            (apply drawG_put rfl; (intro S1 hS; exact stp_move rfl (hS.op rfl)))
            (apply drawG_put rfl; (intro S1 hS; exact stp_ixE (j := f) rfl (hS.op rfl) (hS.op rfl) (hS.ch _ _ rfl) rfl (by as_aux_lemma => kernel_rfl) hrowk rfl hfn hnk))
            (apply drawG_put rfl; (intro S1 hS; exact stp_loadE' rfl (by as_aux_lemma => kernel_rfl) (hS.op rfl) (hS.ch _ _ rfl) rfl hrowk g2))
            (apply drawG_put rfl; (intro S1 hS; exact stp_bin rfl (hS.op rfl) (hS.op rfl) (binEql e1)))
            (apply drawG_put rfl; (intro S1 hS; exact stp_move rfl (hS.op rfl)))
            apply drawG_no rfl rfl rfl rfl rfl
            apply drawG_no rfl rfl rfl rfl rfl
            apply drawG_no rfl rfl rfl rfl rfl
            apply drawG_no rfl rfl rfl rfl rfl
            apply drawG_no rfl rfl rfl rfl rfl
            apply drawG_no rfl rfl rfl rfl rfl
            apply drawG_no rfl rfl rfl rfl rfl
            apply drawG_no rfl rfl rfl rfl rfl
            apply drawG_no rfl rfl rfl rfl rfl
            apply drawG_no rfl rfl rfl rfl rfl
            apply drawG_no rfl rfl rfl rfl rfl
            apply drawG_no rfl rfl rfl rfl rfl
            apply drawG_no rfl rfl rfl rfl rfl
            apply drawG_no rfl rfl rfl rfl rfl
            apply drawG_no rfl rfl rfl rfl rfl
            (apply drawG_put rfl; (intro S1 hS; exact stp_pickT rfl (hS.op rfl) (hS.op rfl)))
            exact DrawG.nil
          · rfl
          ((refine rest_done (by as_aux_lemma => kernel_rfl) ?_; skip))
          (refine fin_seq ?_)
          refine goes_cond rfl (fun _ => ?_) (fun e => by cases e)
          rw [manB_no (fun h => by have := (hcm.1 (h.comm i k hki hkz f (by omega))).2; omega)]
          (refine goes_seq ?_; refine goes_region ?_; apply run_step rfl; (exact stp_assign rfl rfl); refine run_nil ?_; refine fin_seq ?_; refine goes_ret ?_; refine fin_ret_block ?_; refine fin_ret_then ?_; refine fin_ret_then ?_; refine fin_ret_block ?_; refine fin_ret_block ?_; refine fin_ret_then ?_; refine fin_ret_then ?_; refine fin_ret_block ?_; refine fin_ret_block ?_; refine fin_ret_then ?_; refine fin_ret_then ?_; refine fin_ret_block ?_; refine fin_ret_then ?_)
          exact fin_ret1 (.inl rfl) rfl (.tmp rfl) trivial trivial
        · apply goes_drawG 26 [] [[], [], [0, 1], [0, 1, 2], [], [], [4, 5], [4, 5, 6], [0, 1, 2, 3, 4, 5, 6, 7], [0, 1, 2, 3, 4, 5, 6, 7, 8], [0, 1, 2, 3, 4, 5, 6, 7, 8, 9], [0, 1, 2, 3, 4, 5, 6, 7, 8, 9], [0, 1, 2, 3, 4, 5, 6, 7, 8, 9], [0, 1, 2, 3, 4, 5, 6, 7, 8, 9, 11, 12], [0, 1, 2, 3, 4, 5, 6, 7, 8, 9, 11, 12, 13], [0, 1, 2, 3, 4, 5, 6, 7, 8, 9, 10, 11, 12, 13, 14], [0, 1, 2, 3, 4, 5, 6, 7, 8, 9, 10, 11, 12, 13, 14, 15], [0, 1, 2, 3, 4, 5, 6, 7, 8, 9], [0, 1, 2, 3, 4, 5, 6, 7, 8, 9], [0, 1, 2, 3, 4, 5, 6, 7, 8, 9], [0, 1, 2, 3, 4, 5, 6, 7, 8, 9, 18, 19], [0, 1, 2, 3, 4, 5, 6, 7, 8, 9, 18, 19, 20], [0, 1, 2, 3, 4, 5, 6, 7, 8, 9, 17, 18, 19, 20, 21], [0, 1, 2, 3, 4, 5, 6, 7, 8, 9, 17, 18, 19, 20, 21, 22], [0, 1, 2, 3, 4, 5, 6, 7, 8, 9, 10, 11, 12, 13, 14, 15, 16, 17, 18, 19, 20, 21, 22, 23], [0, 1, 2, 3, 4, 5, 6, 7, 8, 9, 10, 11, 12, 13, 14, 15, 16, 17, 18, 19, 20, 21, 22, 23, 24]] [63, 64, 65, 66, 67, 68, 69, 70, 71, 72, 73, 74, 75, 76, 77, 78, 79, 80, 81, 82, 83, 84, 85, 86, 87, 88] [] (by kernel_rfl) (by kernel_rfl)
          · (apply drawG_put rfl; (intro S1 hS; exact stp_move rfl (hS.op rfl)))
            (apply drawG_put rfl; (intro S1 hS; exact stp_move rfl (hS.op rfl)))
            (apply drawG_put rfl; (intro S1 hS; exact stp_ixE (j := f) rfl (hS.op rfl) (hS.op rfl) (hS.ch _ _ rfl) rfl (by as_aux_lemma => kernel_rfl) hrowi rfl hfn hni))
            (apply drawG_put rfl; (intro S1 hS; exact stp_loadE' rfl (by as_aux_lemma => kernel_rfl) (hS.op rfl) (hS.ch _ _ rfl) rfl hrowi g1))
            (apply drawG_put rfl; (intro S1 hS; exact stp_move rfl (hS.op rfl)))
            (apply drawG_put rfl; (intro S1 hS; exact stp_move rfl (hS.op rfl)))
            (apply drawG_put rfl; (intro S1 hS; exact stp_ixE (j := f) rfl (hS.op rfl) (hS.op rfl) (hS.ch _ _ rfl) rfl (by as_aux_lemma => kernel_rfl) hrowk rfl hfn hnk))
            (apply drawG_put rfl; (intro S1 hS; exact stp_loadE' rfl (by as_aux_lemma => kernel_rfl) (hS.op rfl) (hS.ch _ _ rfl) rfl hrowk g2))
            (apply drawG_put rfl; (intro S1 hS; exact stp_bin rfl (hS.op rfl) (hS.op rfl) (binEql' e1)))
            (apply drawG_put rfl; (intro S1 hS; exact stp_move rfl (hS.op rfl)))
            (apply drawG_yes rfl rfl rfl; (intro S1 hS; exact stp_move rfl (hS.op rfl)))
            (apply drawG_yes rfl rfl rfl; (intro S1 hS; exact stp_move rfl (hS.op rfl)))
            (apply drawG_yes rfl rfl rfl; (intro S1 hS; exact stp_move rfl (hS.op rfl)))
            (apply drawG_yes rfl rfl rfl; (intro S1 hS; exact stp_ixE (j := f) rfl (hS.op rfl) (hS.op rfl) (hS.ch _ _ rfl) rfl (by as_aux_lemma => kernel_rfl) hrowi rfl hfn hni))
            (apply drawG_yes rfl rfl rfl; (intro S1 hS; exact stp_loadE' rfl (by as_aux_lemma => kernel_rfl) (hS.op rfl) (hS.ch _ _ rfl) rfl hrowi g1))
            (apply drawG_yes rfl rfl rfl; (intro S1 hS; exact stp_ixE (j := d1) rfl (hS.op rfl) (hS.op rfl) (hS.ch _ _ rfl) rfl (by as_aux_lemma => kernel_rfl) hrowk rfl hd1.1 hnk))
            (apply drawG_yes rfl rfl rfl; (intro S1 hS; exact stp_loadE' rfl (by as_aux_lemma => kernel_rfl) (hS.op rfl) (hS.ch _ _ rfl) rfl hrowk g3))
            (apply drawG_yes rfl rfl rfl; (intro S1 hS; exact stp_move rfl (hS.op rfl)))
            (apply drawG_yes rfl rfl rfl; (intro S1 hS; exact stp_move rfl (hS.op rfl)))
            (apply drawG_yes rfl rfl rfl; (intro S1 hS; exact stp_move rfl (hS.op rfl)))
            (apply drawG_yes rfl rfl rfl; (intro S1 hS; exact stp_ixE (j := f) rfl (hS.op rfl) (hS.op rfl) (hS.ch _ _ rfl) rfl (by as_aux_lemma => kernel_rfl) hrowk rfl hfn hnk))
            (apply drawG_yes rfl rfl rfl; (intro S1 hS; exact stp_loadE' rfl (by as_aux_lemma => kernel_rfl) (hS.op rfl) (hS.ch _ _ rfl) rfl hrowk g2))
            (apply drawG_yes rfl rfl rfl; (intro S1 hS; exact stp_ixE (j := d2) rfl (hS.op rfl) (hS.op rfl) (hS.ch _ _ rfl) rfl (by as_aux_lemma => kernel_rfl) hrowi rfl hd2.1 hni))
            (apply drawG_yes rfl rfl rfl; (intro S1 hS; exact stp_loadE' rfl (by as_aux_lemma => kernel_rfl) (hS.op rfl) (hS.ch _ _ rfl) rfl hrowi g4))
            (apply drawG_yes rfl rfl rfl; (intro S1 hS; exact stp_bin rfl (hS.op rfl) (hS.op rfl) rfl))
            (apply drawG_put rfl; (intro S1 hS; exact stp_pickF rfl (hS.op rfl) (hS.op rfl)))
            exact DrawG.nil
          · rfl
          ((refine rest_done (by as_aux_lemma => kernel_rfl) ?_; skip))
          (refine fin_seq ?_)
          refine goes_cond rfl (fun e2 => ?_) (fun e2 => ?_)
          · have e2 : (x1 : Int) ≠ x2 := by simpa using e2
            rw [manB_no (fun h => by have := (hcm.1 (h.comm i k hki hkz f (by omega))).1; omega)]
            (refine goes_seq ?_; refine goes_region ?_; apply run_step rfl; (exact stp_assign rfl rfl); refine run_nil ?_; refine fin_seq ?_; refine goes_ret ?_; refine fin_ret_block ?_; refine fin_ret_then ?_; refine fin_ret_then ?_; refine fin_ret_block ?_; refine fin_ret_block ?_; refine fin_ret_then ?_; refine fin_ret_then ?_; refine fin_ret_block ?_; refine fin_ret_block ?_; refine fin_ret_then ?_; refine fin_ret_then ?_; refine fin_ret_block ?_; refine fin_ret_then ?_)
            exact fin_ret1 (.inl rfl) rfl (.tmp rfl) trivial trivial
          · have e2 : (x1 : Int) = x2 := by simpa using e2
            (refine goes_skip ?_; refine fin_block ?_; refine fin_seq ?_; refine goes_region ?_; apply run_step rfl; (exact stp_add rfl rfl rfl (by first | exact IntWalk.i64_in _ (by omega) | rfl)); apply run_step rfl; (exact stp_move rfl rfl); refine run_nil ?_)
            exact fin_round (f + 1) ⟨hfn, fun f' hf' => by
              by_cases e : f' = f
              · subst e; exact hcm.2 ⟨by omega, by omega⟩
              · exact hcf f' (by omega)⟩ (by omega) (Wk.of ⟨rfl, rfl, rfl, rfl, rfl, rfl, rfl, rfl, rfl, rfl, rfl, trivial⟩ ⟨rfl, rfl, trivial⟩ trivial)
      · (refine goes_exit ?_; refine fin_exit_then ?_; refine fin_exit_then ?_; refine fin_exit_eq ?_; refine fin_block ?_; refine fin_seq ?_; refine goes_region ?_; apply run_step rfl; (exact stp_add rfl rfl rfl (by first | exact IntWalk.i64_in _ (by omega) | rfl)); apply run_step rfl; (exact stp_move rfl rfl); refine run_nil ?_)
        exact fin_round (j + 1) ⟨by omega, fun k' h1 h2 f' hf' => by
          by_cases e : k' = k
          · subst e; exact hcf f' (by omega)
          · exact hck k' h1 (by omega) f' hf'⟩ (by omega) (Wk.of ⟨rfl, rfl, rfl, rfl, rfl, rfl, rfl, rfl, trivial⟩ ⟨rfl, rfl, trivial⟩ trivial)
    · (refine goes_exit ?_; refine fin_exit_then ?_; refine fin_exit_then ?_; refine fin_exit_eq ?_; refine fin_block ?_; refine fin_seq ?_; refine goes_region ?_; apply run_step rfl; (exact stp_add rfl rfl rfl (by first | exact IntWalk.i64_in _ (by omega) | rfl)); apply run_step rfl; (exact stp_move rfl rfl); refine run_nil ?_)
      exact fin_round (i + 1) ⟨hiz, fun i' k' h1 h2 h3 => by
        by_cases e : i' = i
        · subst e; exact hck k' h2 (by omega)
        · exact hci i' k' (by omega) h2 h3⟩ (by omega) (Wk.of ⟨rfl, rfl, rfl, rfl, trivial⟩ ⟨rfl, rfl, trivial⟩ trivial)
  obtain rfl : i = zss.length := by omega
  have hM : Man0 zss := ⟨by omega, by omega, by omega, by omega, by rw [hn]; exact hrn, fun i k h1 h2 f hf => hci i k (by omega) h1 h2 f (by omega)⟩
  have hO := (orbI_fc zss n zss.length rfl hT hB (by omega) (by omega) (by omega)).nm [(1003, 1003), (16, 96)] (by kernel_rfl)
  have hO : FC Try.prog 72 [(1003, rowsRo zss)] [vv (I6 n), o1 (.sl 1003 0 zss.length)] [(96, leOw (labs zss n).1)] (.tup [.one (.sl 96 0 n), .one (.val (I6 (labs zss n).2))]) [] := hO
  have hv : manB zss = (((labs zss n).2 : Int) == 1) := by
    rw [hM.man, hn]
    have := labs_one hT hB (n := n) (by omega)
    by_cases hc : (orb zss n 0).2.length = n
    · rw [hc, this.2 hc]; simp
    · have h1 : (labs zss n).2 ≠ 1 := fun h => hc (this.1 h)
      have h2 : ((labs zss n).2 : Int) ≠ 1 := by omega
      have h3 : ((orb zss n 0).2.length : Int) ≠ n := by omega
      rw [beq_eq_false_iff_ne.2 h2, beq_eq_false_iff_ne.2 h3]
  rw [hv]
  (refine goes_exit ?_; refine fin_exit_then ?_; refine fin_exit_then ?_; refine fin_exit_eq ?_; refine fin_seq ?_; refine goes_seq ?_)
  apply goes_draw 5 [] [[], [], [1], [0, 1, 2], [0, 1, 2, 3], [0, 1, 2, 3, 4], [0, 1, 2, 3, 4], [0, 1, 2, 3, 4, 5], [0, 1, 2, 3, 4, 5, 6, 7]] [93, 94, 95, 96, 92] [96] (by kernel_rfl) (by kernel_rfl)
  · (apply draw_put rfl; (intro S1 hS; apply call_gate 58; exact stp_callR hG (by as_aux_lemma => kernel_rfl) rfl (opL_le hS rfl) ⟨rfl, trivial⟩ (allIn_le hS ⟨⟨_, rfl, .inr rfl⟩, ⟨_, rfl, .inl rfl⟩, trivial⟩) rfl rfl))
    (apply draw_put rfl; (intro S1 hS; exact stp_fieldAddr (d := 0) rfl (hS.op rfl) (hS.ch _ _ rfl) (by as_aux_lemma => kernel_rfl)))
    (apply draw_put rfl; (intro S1 hS; exact stp_loadF rfl (by as_aux_lemma => kernel_rfl) (hS.op rfl) (hS.ch _ _ rfl) rfl rfl))
    (apply draw_new rfl; (intro S1 hS; apply call_gate 72; exact stp_callN hO (by as_aux_lemma => kernel_rfl) rfl (opL_le hS rfl) ⟨rfl, rfl, trivial⟩ (allIn_le hS ⟨⟨_, rfl, .inl rfl⟩, trivial⟩) rfl rfl rfl))
    (apply draw_put rfl; (intro S1 hS; exact stp_move rfl (hS.op rfl)))
    exact Draw.nil
  · rfl
  refine rest_join (St.of [(11, vv (I6 (labs zss n).2))] []) ?_ ?_
  · ((apply rest_two 5 6 rfl (by as_aux_lemma => kernel_rfl) rfl rfl rfl rfl; (exact stp_extract rfl rfl rfl); (exact stp_extract rfl rfl rfl); (focus ((apply rest_two 6 7 rfl (by as_aux_lemma => kernel_rfl) rfl rfl rfl rfl; (exact stp_extract rfl rfl rfl); (exact stp_assign rfl rfl); (focus ((apply rest_one 7 rfl (by as_aux_lemma => kernel_rfl) rfl rfl; (exact stp_assign rfl rfl)); (apply rest_one 8 rfl (by as_aux_lemma => kernel_rfl) rfl rfl; (exact stp_assign rfl rfl)); (refine rest_done (by as_aux_lemma => kernel_rfl) ?_; exact fin_join (Wk.of ⟨rfl, trivial⟩ trivial trivial)))); (focus ((apply rest_one 6 rfl (by as_aux_lemma => kernel_rfl) rfl rfl; (exact stp_extract rfl rfl rfl)); (apply rest_one 8 rfl (by as_aux_lemma => kernel_rfl) rfl rfl; (exact stp_assign rfl rfl)); (refine rest_done (by as_aux_lemma => kernel_rfl) ?_; exact fin_join (Wk.of ⟨rfl, trivial⟩ trivial trivial))))))); (focus ((apply rest_one 5 rfl (by as_aux_lemma => kernel_rfl) rfl rfl; (exact stp_extract rfl rfl rfl)); (apply rest_one 7 rfl (by as_aux_lemma => kernel_rfl) rfl rfl; (exact stp_assign rfl rfl)); (apply rest_one 8 rfl (by as_aux_lemma => kernel_rfl) rfl rfl; (exact stp_assign rfl rfl)); (refine rest_done (by as_aux_lemma => kernel_rfl) ?_; exact fin_join (Wk.of ⟨rfl, trivial⟩ trivial trivial))))))
  (refine fin_seq ?_; refine goes_seq ?_; refine goes_region ?_; apply run_step rfl; (exact stp_move rfl rfl); apply run_step rfl; (exact stp_bin rfl rfl rfl rfl); apply run_step rfl; (exact stp_assign rfl rfl); refine run_nil ?_; refine fin_seq ?_; refine goes_ret ?_)
  exact fin_ret1 (.inl rfl) rfl (.tmp rfl) trivial trivial
end Go.Proofs.Ytmdhljleaijkbaa

/- Maniplexes: the test and the number of flags, in words. -/
namespace Go.Proofs.Ytmdhljleaijkbaa
open Go.RowKit

theorem size1_any (ao : Option Addr) (n c : Nat) (w : World) : Calls Try.prog 71 #[.slice ao n c] w fun e w' => e = .returned (.int .i64 n) ∧ w = w' := by
  go_enter Try.func71, Try.ntmps71
  go_wp2
  go_ret
  exact ⟨rfl, rfl⟩
theorem flagsI_any (mb : Nat) (ao : Option Addr) (n c m : Nat) (d : List (List Int)) (w : World) (hm : Blk w mb 28 #[.slice ao n c]) (h : RdSS w (.slice ao n c) d) (hn : 0 < n) (hl : (lget d 0).length = m) (hm4 : m ≤ 1000000) :
    Calls Try.prog 58 #[.pointer (some ⟨mb, 0, none⟩)] w fun e w' => e = .returned (.int .i64 m) ∧ w = w' := by
  obtain ⟨a1, n1, c1, e, hi⟩ := h
  injection e with e1 e2 e3
  subst e1 e2 e3
  obtain ⟨b, off, a', n', c', rfl, hc, hi'⟩ := hi.at_ hn
  have hnm : n' = m := by rw [← hi'.1]; exact hl
  subst hnm
  have x0 := hm.cell 0
  simp at x0 hc
  clear hi hi' hl hm
  go_enter Try.func58, Try.ntmps58
  go_wp2_with (go_at_call 71; refine (size1_any _ _ _ _).mono ?_; rintro e w' ⟨rfl, hw⟩; subst hw)
  go_ret
  exact ⟨rfl, rfl⟩
theorem sizeRM_any (ao : Option Addr) (n c : Nat) (w : World) : Calls Try.prog 53 #[.slice ao n c] w fun e w' => e = .returned (.int .i64 n) ∧ w = w' := by
  go_enter Try.func53, Try.ntmps53
  go_wp2
  go_ret
  exact ⟨rfl, rfl⟩
theorem rankM_any (mb n c : Nat) (ao : Option Addr) (w : World) (hm : Blk w mb 28 #[.slice ao n c]) :
    Calls Try.prog 69 #[.pointer (some ⟨mb, 0, none⟩)] w fun e w' => e = .returned (.int .i64 n) ∧ w = w' := by
  have x0 := hm.cell 0
  simp at x0
  go_enter Try.func69, Try.ntmps69
  go_wp2_with (go_at_call 53; refine (sizeRM_any _ _ _ _).mono ?_; rintro e w' ⟨rfl, hw⟩; subst hw)
  go_ret
  exact ⟨rfl, rfl⟩
end Go.Proofs.Ytmdhljleaijkbaa

/- IsPresentation: words, presentations, the program's and the reference's. -/
namespace Go.Proofs.Ytmdhljleaijkbaa
open Go.RowKit

end Go.Proofs.Ytmdhljleaijkbaa

/- isPresentation, the program's: areWithin, isLetters, slices.ContainsFunc at [][]int64. -/
namespace Go.Proofs.Ytmdhljleaijkbaa
open Go.RowKit

end Go.Proofs.Ytmdhljleaijkbaa

/- Words that lead points through a table: l11Lead, applied; what a presentation's words are. -/
namespace Go.Proofs.Ytmdhljleaijkbaa
open Go.RowKit

end Go.Proofs.Ytmdhljleaijkbaa

/- One list of numbers behind another. No program in sight. -/
namespace Go.Proofs.Ytmdhljleaijkbaa

end Go.Proofs.Ytmdhljleaijkbaa

/- Words that lead points through permutations: l11Lead, applied, then, isIdentity, arePermutations. -/
namespace Go.Proofs.Ytmdhljleaijkbaa
open Go.RowKit

end Go.Proofs.Ytmdhljleaijkbaa

/- holdIn: whether permutations hold a presentation. -/
namespace Go.Proofs.Ytmdhljleaijkbaa
open Go.RowKit

end Go.Proofs.Ytmdhljleaijkbaa

/- A region that draws its order, whose operations only read and whose callees make new memory alone: one walk, in the order of the text. (The steps are printed by fill.py out of the mark CALM.) -/
namespace Go.Proofs.Ytmdhljleaijkbaa
open Go.RowKit

section
variable {P : Program} {ops : Array Oper} {C : World → Prop} {o : Oper} {a : Act} {K : Act → Prop}
end

end Go.Proofs.Ytmdhljleaijkbaa

/- HoldIn, the reference's. -/
namespace Go.Proofs.Ytmdhljleaijkbaa
open Go.RowKit

end Go.Proofs.Ytmdhljleaijkbaa

/- HoldIn, the program's, and both doors. -/
namespace Go.Proofs.Ytmdhljleaijkbaa
open Go.RowKit

end Go.Proofs.Ytmdhljleaijkbaa

/- What the reference leaves out of a maniplex: l02Others; numbers of flags. -/
namespace Go.Proofs.Ytmdhljleaijkbaa
open Go.RowKit

end Go.Proofs.Ytmdhljleaijkbaa

/- Coset enumeration: what it computes, on lists. No program in sight. -/
namespace Go.Proofs.Ytmdhljleaijkbaa

/-- where a coset is after all identifications -/
def toRoot (less : List Int) : Nat → Nat → Nat
  | 0, c => c
  | f + 1, c => if iget less c = c then c else toRoot less f (iget less c).toNat
/-- each coset points to itself or to a lesser one -/
def Down (less : List Int) : Prop := ∀ c, c < less.length → 0 ≤ iget less c ∧ iget less c ≤ c
def root (less : List Int) (c : Nat) : Nat := toRoot less (c + 1) c
theorem toRoot_more {less : List Int} (hd : Down less) : ∀ (f f' c : Nat), c < less.length → c < f → c < f' → toRoot less f c = toRoot less f' c := by
  intro f
  induction f with
  | zero => intro f' c _ h; omega
  | succ f ih =>
    intro f' c hc h h'
    cases f' with
    | zero => omega
    | succ f' =>
      unfold toRoot
      by_cases e : iget less c = c
      · rw [if_pos e, if_pos e]
      · rw [if_neg e, if_neg e]
        have h1 := hd c hc
        exact ih f' _ (by omega) (by omega) (by omega)
theorem root_of {less : List Int} {c : Nat} (h : iget less c = c) : root less c = c := by unfold root toRoot; rw [if_pos h]
theorem root_step {less : List Int} (hd : Down less) {c : Nat} (hc : c < less.length) (h : iget less c ≠ c) : root less c = root less (iget less c).toNat := by
  have h1 := hd c hc
  unfold root
  rw [show toRoot less (c + 1) c = toRoot less c (iget less c).toNat by rw [toRoot, if_neg h]]
  exact toRoot_more hd _ _ _ (by omega) (by omega) (by omega)
theorem root_fix {less : List Int} (hd : Down less) : ∀ c, c < less.length → iget less (root less c) = root less c ∧ root less c ≤ c := by
  intro c
  induction c using Nat.strongRecOn with
  | _ c ih =>
    intro hc
    by_cases e : iget less c = c
    · rw [root_of e]; exact ⟨e, Nat.le_refl _⟩
    · have h1 := hd c hc
      rw [root_step hd hc e]
      have := ih (iget less c).toNat (by omega) (by omega)
      exact ⟨this.1, by omega⟩
theorem root_lt {less : List Int} (hd : Down less) {c : Nat} (hc : c < less.length) : root less c < less.length := Nat.lt_of_le_of_lt (root_fix hd c hc).2 hc

def ent (im : List (List Int)) (c g : Nat) : Int := iget (lget im c) g
def image (im : List (List Int)) (less : List Int) (c g : Nat) : Int := if ent im c g < 0 then -1 else root less (ent im c g).toNat

theorem iget_set {zs : List Int} {i j : Nat} {z : Int} : iget (zs.set i z) j = if i = j ∧ i < zs.length then z else iget zs j := by
  simp only [iget, List.getD_eq_getElem?_getD, List.getElem?_set]
  by_cases h : i = j
  · subst h
    by_cases h2 : i < zs.length
    · simp [h2]
    · simp [h2]
  · simp [h]
theorem lget_set {zss : List (List Int)} {i j : Nat} {z : List Int} : lget (zss.set i z) j = if i = j ∧ i < zss.length then z else lget zss j := by
  simp only [lget, List.getD_eq_getElem?_getD, List.getElem?_set]
  by_cases h : i = j
  · subst h
    by_cases h2 : i < zss.length
    · simp [h2]
    · simp [h2]
  · simp [h]
theorem rset_len (im : List (List Int)) (c g : Nat) (z : Int) : (rset im c g z).length = im.length := by simp [rset]
theorem rset_row (im : List (List Int)) (c g : Nat) (z : Int) (k : Nat) : (lget (rset im c g z) k).length = (lget im k).length := by
  unfold rset
  rw [lget_set]
  split
  · rename_i h; rw [← h.1]; simp
  · rfl
theorem ent_rset {im : List (List Int)} {c g k j : Nat} {z : Int} (hc : c < im.length) (hg : g < (lget im c).length) : ent (rset im c g z) k j = if c = k ∧ g = j then z else ent im k j := by
  unfold ent rset
  rw [lget_set]
  by_cases h : c = k
  · subst h
    rw [if_pos ⟨rfl, hc⟩, iget_set]
    by_cases h2 : g = j
    · subst h2; rw [if_pos ⟨rfl, hg⟩, if_pos ⟨rfl, rfl⟩]
    · rw [if_neg (fun e => h2 e.1), if_neg (fun e => h2 e.2)]
  · rw [if_neg (fun e => h e.1), if_neg (fun e => h e.1)]

structure WF (ng : Nat) (im : List (List Int)) (less : List Int) : Prop where
  len : im.length = less.length
  row : ∀ c, c < im.length → (lget im c).length = ng
  down : Down less
  ent : ∀ c g, c < im.length → g < ng → ent im c g < less.length
theorem WF.set_im {ng : Nat} {im : List (List Int)} {less : List Int} (h : WF ng im less) {c g : Nat} {z : Int} (hc : c < im.length) (hg : g < ng) (hz : z < less.length) : WF ng (rset im c g z) less :=
  { len := by rw [rset_len]; exact h.len
    row := fun k hk => by rw [rset_row]; exact h.row k (by rwa [rset_len] at hk)
    down := h.down
    ent := fun k j hk hj => by
      rw [ent_rset hc (by rw [h.row c hc]; exact hg)]
      split
      · exact hz
      · exact h.ent k j (by rwa [rset_len] at hk) hj }
def alive (less : List Int) : Nat := ((List.range less.length).filter fun c => iget less c == (c : Int)).length
def fuel (ng : Nat) (less : List Int) (q : List (Int × Int)) : Nat := alive less * (ng + 1) + q.length
end Go.Proofs.Ytmdhljleaijkbaa

/- Coset enumeration: new cosets and words that are closed, on lists. No program in sight. -/
namespace Go.Proofs.Ytmdhljleaijkbaa

/-- a new coset, the image of c under g -/
def addC (ng : Nat) (im : List (List Int)) (n c g : Nat) : List (List Int) := rset (rset (im ++ [List.replicate ng (-1)]) c g n) n g c
/-- the image of c under g, which is defined if there is none; whether it fails -/
def nextC (ng : Nat) (im : List (List Int)) (less : List Int) (c g : Nat) : List (List Int) × List Int × Bool × Nat :=
  if 0 ≤ ent im c g then (im, less, false, root less (ent im c g).toNat)
  else if less.length = 2000 then (im, less, true, 0)
  else (addC ng im less.length c g, less ++ [(less.length : Int)], false, less.length)

theorem WF.app {ng : Nat} {im : List (List Int)} {less : List Int} (h : WF ng im less) : WF ng (im ++ [List.replicate ng (-1)]) (less ++ [(less.length : Int)]) :=
  { len := by simp [h.len]
    row := fun c hc => by
      by_cases e : c < im.length
      · rw [lget_app_lt e]; exact h.row c e
      · obtain rfl : c = im.length := by simp at hc; omega
        rw [lget_app_eq]; simp
    down := fun c hc => by
      by_cases e : c < less.length
      · rw [iget_app_lt e]; exact h.down c e
      · obtain rfl : c = less.length := by simp at hc; omega
        rw [iget_app_eq]; omega
    ent := fun c g hc hg => by
      unfold Proofs.Ytmdhljleaijkbaa.ent
      by_cases e : c < im.length
      · rw [lget_app_lt e]
        have := h.ent c g e hg
        unfold Proofs.Ytmdhljleaijkbaa.ent at this
        simp; omega
      · obtain rfl : c = im.length := by simp at hc; omega
        rw [lget_app_eq, iget_rep hg]; omega }
theorem WF.addC {ng : Nat} {im : List (List Int)} {less : List Int} {c g : Nat} (h : WF ng im less) (hc : c < less.length) (hg : g < ng) : WF ng (addC ng im less.length c g) (less ++ [(less.length : Int)]) := by
  have h1 := h.app
  have hl := h.len
  unfold Proofs.Ytmdhljleaijkbaa.addC
  refine (h1.set_im (c := c) (g := g) (z := (less.length : Int)) (by simp; omega) hg (by simp; omega)).set_im (c := less.length) (g := g) (z := (c : Int)) ?_ hg ?_
  · rw [rset_len]; simp; omega
  · simp; omega
structure GoOK (ng n0 : Nat) (s : List (List Int) × List Int × Bool × Nat) : Prop where
  wf : WF ng s.1 s.2.1
  lo : n0 ≤ s.2.1.length
  hi : s.2.1.length ≤ 2000
  d : s.2.2.2 < s.2.1.length
structure CloseOK (ng n0 : Nat) (s : List (List Int) × List Int × Bool) : Prop where
  wf : WF ng s.1 s.2.1
  lo : n0 ≤ s.2.1.length
  hi : s.2.1.length ≤ 2000
end Go.Proofs.Ytmdhljleaijkbaa

/- Coset enumeration: the whole procedure, on lists. No program in sight. -/
namespace Go.Proofs.Ytmdhljleaijkbaa

/-- images, the smaller cosets, whether it has failed -/
abbrev CSt := List (List Int) × List Int × Bool
theorem CloseOK.refl {ng : Nat} {s : CSt} (h : WF ng s.1 s.2.1) (hi : s.2.1.length ≤ 2000) : CloseOK ng s.2.1.length s := ⟨h, Nat.le_refl _, hi⟩
theorem CloseOK.le {ng n m : Nat} {s : CSt} (h : CloseOK ng n s) (hm : m ≤ n) : CloseOK ng m s := ⟨h.wf, Nat.le_trans hm h.lo, h.hi⟩
end Go.Proofs.Ytmdhljleaijkbaa

/- Coset enumeration: images are never lost; the table is complete at the end. No program in sight. -/
namespace Go.Proofs.Ytmdhljleaijkbaa

structure Grow (ng : Nat) (im : List (List Int)) (less : List Int) (im' : List (List Int)) (less' : List Int) : Prop where
  len : less.length ≤ less'.length
  ent : ∀ c g, c < less.length → g < ng → 0 ≤ ent im c g → 0 ≤ ent im' c g
  dead : ∀ c, c < less.length → iget less c ≠ c → iget less' c ≠ c
theorem Grow.refl (ng : Nat) (im : List (List Int)) (less : List Int) : Grow ng im less im less := ⟨Nat.le_refl _, fun _ _ _ _ h => h, fun _ _ h => h⟩
theorem Grow.trans {ng : Nat} {a b c : List (List Int)} {x y z : List Int} (h : Grow ng a x b y) (k : Grow ng b y c z) : Grow ng a x c z :=
  ⟨Nat.le_trans h.len k.len, fun i g hi hg h1 => k.ent i g (Nat.lt_of_lt_of_le hi h.len) hg (h.ent i g hi hg h1), fun i hi h1 => k.dead i (Nat.lt_of_lt_of_le hi h.len) (h.dead i hi h1)⟩
end Go.Proofs.Ytmdhljleaijkbaa

/- Coset enumeration: cosets numbered anew, and the table. No program in sight. -/
namespace Go.Proofs.Ytmdhljleaijkbaa

/-- the order in which cosets are met, and the number of each (-1: not met) -/
abbrev NSt := List Int × List Int
def visit (s : NSt) (d : Nat) : NSt := if iget s.2 d < 0 then (s.1 ++ [(d : Int)], s.2.set d (s.1.length : Int)) else s
def visitG (im : List (List Int)) (less : List Int) (i : Nat) (s : NSt) (g : Nat) : NSt := visit s (image im less (iget s.1 i).toNat g).toNat
def tabRow (ng : Nat) (im : List (List Int)) (less : List Int) (i : Nat) (s : NSt) : NSt := (List.range ng).foldl (visitG im less i) s
def tabLoop (ng : Nat) (im : List (List Int)) (less : List Int) : Nat → Nat → NSt → NSt
  | 0, _, s => s
  | f + 1, i, s => if i < s.1.length then tabLoop ng im less f (i + 1) (tabRow ng im less i s) else s
def tabStart (n : Nat) : NSt := ([0], (List.replicate n (-1)).set 0 0)
def numbered (ng : Nat) (im : List (List Int)) (less : List Int) : NSt := tabLoop ng im less (less.length + 1) 0 (tabStart less.length)
/-- how many have a number -/
def cnt (l : List Int) : Nat := (l.filter fun z => decide (0 ≤ z)).length
theorem cnt_le (l : List Int) : cnt l ≤ l.length := List.length_filter_le _ _
theorem cnt_set : ∀ (l : List Int) (d : Nat) (z : Int), d < l.length → iget l d < 0 → 0 ≤ z → cnt (l.set d z) = cnt l + 1
  | [], d, z, h, _, _ => by simp at h
  | x :: r, 0, z, _, h, hz => by
    have h : x < 0 := by simpa [iget] using h
    simp [cnt, show ¬ 0 ≤ x by omega, hz]
  | x :: r, d + 1, z, hd, h, hz => by
    have ih := cnt_set r d z (by simpa using hd) (by simpa [iget] using h) hz
    unfold cnt at ih ⊢
    simp only [List.set_cons_succ, List.filter_cons]
    split
    · simp only [List.length_cons]; omega
    · exact ih

/-- complete: live cosets have all images -/
structure Full (ng : Nat) (im : List (List Int)) (less : List Int) : Prop where
  wf : WF ng im less
  pos : 0 < less.length
  full : ∀ c, c < less.length → iget less c = (c : Int) → ∀ g, g < ng → 0 ≤ ent im c g
theorem Full.zero {ng : Nat} {im : List (List Int)} {less : List Int} (h : Full ng im less) : iget less 0 = ((0 : Nat) : Int) := by
  have := h.wf.down 0 h.pos; omega
theorem Full.image {ng : Nat} {im : List (List Int)} {less : List Int} (h : Full ng im less) {c g : Nat} (hc : c < less.length) (hl : iget less c = (c : Int)) (hg : g < ng) :
    ∃ d : Nat, image im less c g = (d : Int) ∧ d < less.length ∧ iget less d = (d : Int) := by
  have h1 := h.full c hc hl g hg
  have h2 := h.wf.ent c g (by rw [h.wf.len]; exact hc) hg
  refine ⟨root less (ent im c g).toNat, by unfold Proofs.Ytmdhljleaijkbaa.image; rw [if_neg (by omega)], root_lt h.wf.down (by omega), ?_⟩
  exact (root_fix h.wf.down _ (by omega)).1

structure TOK (n : Nat) (less : List Int) (s : NSt) : Prop where
  len : s.2.length = n
  cnt : cnt s.2 = s.1.length
  live : ∀ k, k < s.1.length → ∃ d : Nat, iget s.1 k = (d : Int) ∧ d < n ∧ iget less d = (d : Int) ∧ iget s.2 d = (k : Int)
  num : ∀ d, d < n → 0 ≤ iget s.2 d → iget s.2 d < s.1.length
theorem TOK.le {n : Nat} {less : List Int} {s : NSt} (h : TOK n less s) : s.1.length ≤ n := by
  have := cnt_le s.2; rw [h.cnt, h.len] at this; exact this
theorem visit_ok {n : Nat} {less : List Int} {s : NSt} {d : Nat} (h : TOK n less s) (hd : d < n) (hl : iget less d = (d : Int)) : TOK n less (visit s d) := by
  unfold visit
  split
  · rename_i hn
    refine ⟨by rw [List.length_set]; exact h.len, ?_, fun k hk => ?_, fun e he h0 => ?_⟩
    · dsimp only; rw [cnt_set _ _ _ (by rw [h.len]; exact hd) hn (by omega), h.cnt]; simp
    · dsimp only at hk ⊢
      by_cases e : k < s.1.length
      · obtain ⟨d', h1, h2, h3, h4⟩ := h.live k e
        refine ⟨d', by rw [iget_app_lt e]; exact h1, h2, h3, ?_⟩
        rw [iget_set]
        split
        · rename_i e2; rw [e2.1] at hn; omega
        · exact h4
      · obtain rfl : k = s.1.length := by simp at hk; omega
        exact ⟨d, iget_app_eq, hd, hl, by rw [iget_set, if_pos ⟨rfl, by rw [h.len]; exact hd⟩]⟩
    · dsimp only at h0 ⊢
      rw [iget_set] at h0 ⊢
      rw [List.length_append]
      split
      · simp; omega
      · rename_i hne
        rw [if_neg hne] at h0
        have := h.num e he h0
        simp; omega
  · exact h
/-- numbers are kept -/
structure NGrow (s s' : NSt) : Prop where
  pre : ∀ k, k < s.1.length → iget s'.1 k = iget s.1 k
  len : s.1.length ≤ s'.1.length
  num : ∀ d, 0 ≤ iget s.2 d → iget s'.2 d = iget s.2 d
theorem NGrow.refl (s : NSt) : NGrow s s := ⟨fun _ _ => rfl, Nat.le_refl _, fun _ _ => rfl⟩
theorem NGrow.trans {a b c : NSt} (h : NGrow a b) (k : NGrow b c) : NGrow a c :=
  ⟨fun i hi => (k.pre i (Nat.lt_of_lt_of_le hi h.len)).trans (h.pre i hi), Nat.le_trans h.len k.len, fun d hd => (k.num d (by rw [h.num d hd]; exact hd)).trans (h.num d hd)⟩
theorem visit_grow (s : NSt) (d : Nat) : NGrow s (visit s d) := by
  unfold visit
  split
  · rename_i hn
    refine ⟨fun k hk => iget_app_lt hk, by simp, fun e he => ?_⟩
    dsimp only
    rw [iget_set, if_neg]
    rintro ⟨rfl, _⟩
    omega
  · exact NGrow.refl s
theorem visit_num {n : Nat} {less : List Int} {s : NSt} {d : Nat} (h : TOK n less s) (hd : d < n) : 0 ≤ iget (visit s d).2 d := by
  unfold visit
  split
  · dsimp only; rw [iget_set, if_pos ⟨rfl, by rw [h.len]; exact hd⟩]; omega
  · rename_i hn; omega
theorem visitG_ok {ng : Nat} {im : List (List Int)} {less : List Int} (hF : Full ng im less) {i g : Nat} {s : NSt} (h : TOK less.length less s) (hi : i < s.1.length) (hg : g < ng) :
    TOK less.length less (visitG im less i s g) ∧ NGrow s (visitG im less i s g) ∧ 0 ≤ iget (visitG im less i s g).2 (image im less (iget s.1 i).toNat g).toNat := by
  obtain ⟨d, h1, h2, h3, _⟩ := h.live i hi
  obtain ⟨e, e1, e2, e3⟩ := hF.image h2 h3 hg
  unfold visitG
  rw [h1, Int.toNat_natCast, e1, Int.toNat_natCast]
  exact ⟨visit_ok h e2 e3, visit_grow s e, visit_num h e2⟩
theorem tabRow_ok {ng : Nat} {im : List (List Int)} {less : List Int} (hF : Full ng im less) {i : Nat} {s : NSt} (h : TOK less.length less s) (hi : i < s.1.length) : ∀ m, m ≤ ng →
    TOK less.length less ((List.range m).foldl (visitG im less i) s) ∧ NGrow s ((List.range m).foldl (visitG im less i) s) ∧ ∀ g, g < m → 0 ≤ iget ((List.range m).foldl (visitG im less i) s).2 (image im less (iget s.1 i).toNat g).toNat
  | 0, _ => ⟨h, NGrow.refl s, fun g hg => by omega⟩
  | m + 1, hm => by
    obtain ⟨h1, h2, h3⟩ := tabRow_ok hF h hi m (by omega)
    rw [List.range_succ, List.foldl_append]
    generalize (List.range m).foldl (visitG im less i) s = t at *
    obtain ⟨k1, k2, k3⟩ := visitG_ok hF (i := i) (g := m) h1 (Nat.lt_of_lt_of_le hi h2.len) (by omega)
    rw [h2.pre i hi] at k3
    refine ⟨k1, h2.trans k2, fun g hg => ?_⟩
    by_cases e : g = m
    · subst e; exact k3
    · have := h3 g (by omega)
      show 0 ≤ iget (visitG im less i t m).2 _
      rw [k2.num _ this]; exact this
/-- all images of the first i cosets have numbers -/
def Seen (ng : Nat) (im : List (List Int)) (less : List Int) (i : Nat) (s : NSt) : Prop := ∀ k, k < i → ∀ g, g < ng → 0 ≤ iget s.2 (image im less (iget s.1 k).toNat g).toNat
theorem Seen.row {ng : Nat} {im : List (List Int)} {less : List Int} (hF : Full ng im less) {i : Nat} {s : NSt} (h : TOK less.length less s) (hi : i < s.1.length) (hs : Seen ng im less i s) : Seen ng im less (i + 1) (tabRow ng im less i s) := by
  obtain ⟨_, h2, h3⟩ := tabRow_ok hF h hi ng (Nat.le_refl _)
  intro k hk g hg
  show 0 ≤ iget (tabRow ng im less i s).2 _
  have e : iget (tabRow ng im less i s).1 k = iget s.1 k := h2.pre k (by omega)
  rw [e]
  by_cases e2 : k = i
  · subst e2; exact h3 g hg
  · have := hs k (by omega) g hg
    have e3 := h2.num _ this
    unfold tabRow
    rw [e3]; exact this
end Go.Proofs.Ytmdhljleaijkbaa

/- Coset enumeration: each generator leads back; words lead back after some times. No program in sight. -/
namespace Go.Proofs.Ytmdhljleaijkbaa

theorem root_root {less : List Int} (h : Down less) {c : Nat} (hc : c < less.length) : root less (root less c) = root less c := root_of (root_fix h c hc).1
theorem root_app {less : List Int} (h : Down less) : ∀ c, c < less.length → root (less ++ [(less.length : Int)]) c = root less c := by
  have hd : Down (less ++ [(less.length : Int)]) := fun c hc => by
    by_cases e : c < less.length
    · rw [iget_app_lt e]; exact h c e
    · obtain rfl : c = less.length := by simp at hc; omega
      rw [iget_app_eq]; omega
  intro c
  induction c using Nat.strongRecOn with
  | _ c ih =>
    intro hc
    have h1 : iget (less ++ [(less.length : Int)]) c = iget less c := iget_app_lt hc
    by_cases e : iget less c = (c : Int)
    · rw [root_of e, root_of (h1.trans e)]
    · have hb := h c hc
      rw [root_step hd (by simp; omega) (by rw [h1]; exact e), h1, root_step h hc e]
      exact ih _ (by omega) (by omega)

/-- equal, as far as the identifications and the queue say -/
inductive Eqv (less : List Int) (q : List (Int × Int)) : Nat → Nat → Prop where
  | refl (a : Nat) : Eqv less q a a
  | symm {a b : Nat} (h : Eqv less q a b) : Eqv less q b a
  | trans {a b c : Nat} (h : Eqv less q a b) (k : Eqv less q b c) : Eqv less q a c
  | root (a : Nat) (h : a < less.length) : Eqv less q a (root less a)
  | pair (p : Int × Int) (h : p ∈ q) : Eqv less q p.1.toNat p.2.toNat
theorem Eqv.mono {less less' : List Int} {q q' : List (Int × Int)} (h1 : ∀ a, a < less.length → Eqv less' q' a (Proofs.Ytmdhljleaijkbaa.root less a)) (h2 : ∀ p ∈ q, Eqv less' q' p.1.toNat p.2.toNat) {a b : Nat} (h : Eqv less q a b) : Eqv less' q' a b := by
  induction h with
  | refl a => exact .refl a
  | symm _ ih => exact .symm ih
  | trans _ _ ih1 ih2 => exact .trans ih1 ih2
  | root a h => exact h1 a h
  | pair p h => exact h2 p h
theorem Eqv.root_eq {less : List Int} (hd : Down less) {a b : Nat} (h : Eqv less [] a b) : Proofs.Ytmdhljleaijkbaa.root less a = Proofs.Ytmdhljleaijkbaa.root less b := by
  induction h with
  | refl a => rfl
  | symm _ ih => exact ih.symm
  | trans _ _ ih1 ih2 => exact ih1.trans ih2
  | root a h => exact (root_root hd h).symm
  | pair p h => simp at h
/-- where a live coset leads, there its generator leads back -/
def Back (ng : Nat) (im : List (List Int)) (less : List Int) (q : List (Int × Int)) : Prop :=
  ∀ c g, c < less.length → iget less c = (c : Int) → g < ng → 0 ≤ ent im c g → 0 ≤ ent im (root less (ent im c g).toNat) g ∧ Eqv less q (ent im (root less (ent im c g).toNat) g).toNat c
section
variable {ng : Nat} {im : List (List Int)} {less : List Int}
theorem Back.fix (hB : Back ng im less []) (h : WF ng im less) {c g : Nat} (hc : c < less.length) (hl : iget less c = (c : Int)) (hg : g < ng) (h0 : 0 ≤ ent im c g) : 0 ≤ ent im (root less (ent im c g).toNat) g ∧ root less (ent im (root less (ent im c g).toNat) g).toNat = c := by
  obtain ⟨k1, k2⟩ := hB c g hc hl hg h0
  exact ⟨k1, (k2.root_eq h.down).trans (root_of hl)⟩
theorem Back.of (h : ∀ c g, c < less.length → iget less c = (c : Int) → g < ng → 0 ≤ ent im c g → 0 ≤ ent im (root less (ent im c g).toNat) g ∧ root less (ent im (root less (ent im c g).toNat) g).toNat = c) (hw : WF ng im less) : Back ng im less [] := fun c g hc hl hg h0 => by
  obtain ⟨k1, k2⟩ := h c g hc hl hg h0
  refine ⟨k1, ?_⟩
  have he := hw.ent c g (by rw [hw.len]; exact hc) hg
  have hrl := root_lt hw.down (c := (ent im c g).toNat) (by omega)
  have he2 := hw.ent (root less (ent im c g).toNat) g (by rw [hw.len]; exact hrl) hg
  have := Eqv.root (less := less) (q := []) (ent im (root less (ent im c g).toNat) g).toNat (by omega)
  rwa [k2] at this
/-- two cosets become images of each other -/
theorem Back.link (hB : Back ng im less []) (hw : WF ng im less) {c d g : Nat} (hc : c < less.length) (hd : d < less.length) (hlc : iget less c = (c : Int)) (hld : iget less d = (d : Int)) (hg : g < ng) (h1 : ent im c g < 0) (h2 : ent im d g < 0) : Back ng (rset (rset im d g (c : Int)) c g (d : Int)) less [] := by
  have hl := hw.len
  have w1 := hw.set_im (c := d) (g := g) (z := (c : Int)) (by omega) hg (by omega)
  have w2 := w1.set_im (c := c) (g := g) (z := (d : Int)) (by rw [rset_len]; omega) hg (by omega)
  have ee : ∀ a k, ent (rset (rset im d g (c : Int)) c g (d : Int)) a k = if c = a ∧ g = k then (d : Int) else if d = a ∧ g = k then (c : Int) else ent im a k := fun a k => by
    rw [ent_rset (by rw [rset_len]; omega) (by rw [rset_row, hw.row c (by omega)]; exact hg), ent_rset (by omega) (by rw [hw.row d (by omega)]; exact hg)]
  refine Back.of (fun a k ha hla hk h0 => ?_) w2
  have e0 := ee a k
  by_cases e1 : c = a ∧ g = k
  · obtain ⟨rfl, rfl⟩ := e1
    rw [if_pos ⟨rfl, rfl⟩] at e0
    rw [e0, Int.toNat_natCast, root_of hld]
    have e3 := ee d g
    by_cases e2 : c = d
    · subst e2; rw [if_pos ⟨rfl, rfl⟩] at e3; rw [e3, Int.toNat_natCast]; exact ⟨by omega, root_of hlc⟩
    · rw [if_neg (fun h => e2 h.1), if_pos ⟨rfl, rfl⟩] at e3; rw [e3, Int.toNat_natCast]; exact ⟨by omega, root_of hlc⟩
  · rw [if_neg e1] at e0
    by_cases e2 : d = a ∧ g = k
    · obtain ⟨rfl, rfl⟩ := e2
      rw [if_pos ⟨rfl, rfl⟩] at e0
      rw [e0, Int.toNat_natCast, root_of hlc]
      have e3 := ee c g
      rw [if_pos ⟨rfl, rfl⟩] at e3
      rw [e3, Int.toNat_natCast]; exact ⟨by omega, root_of hld⟩
    · rw [if_neg e2] at e0
      rw [e0] at h0 ⊢
      obtain ⟨k1, k2⟩ := hB.fix hw ha hla hk h0
      have n1 : ¬ (c = root less (ent im a k).toNat ∧ g = k) := fun h => by rw [← h.1, ← h.2] at k1; omega
      have n2 : ¬ (d = root less (ent im a k).toNat ∧ g = k) := fun h => by rw [← h.1, ← h.2] at k1; omega
      have e3 := ee (root less (ent im a k).toNat) k
      rw [if_neg n1, if_neg n2] at e3
      rw [e3]
      exact ⟨k1, k2⟩
theorem Back.app (hB : Back ng im less []) (hw : WF ng im less) : Back ng (im ++ [List.replicate ng (-1)]) (less ++ [(less.length : Int)]) [] := by
  have hl := hw.len
  have hra := root_app hw.down
  refine Back.of (fun a k ha hla hk h0 => ?_) hw.app
  by_cases e : a < less.length
  · have e1 : ∀ b, b < less.length → ent (im ++ [List.replicate ng (-1)]) b k = ent im b k := fun b hb => by unfold ent; rw [lget_app_lt (by omega)]
    rw [e1 a e] at h0 ⊢
    rw [iget_app_lt e] at hla
    obtain ⟨k1, k2⟩ := hB.fix hw e hla hk h0
    have he := hw.ent a k (by omega) hk
    have hrl := root_lt hw.down (c := (ent im a k).toNat) (by omega)
    have he2 := hw.ent (root less (ent im a k).toNat) k (by omega) hk
    rw [hra _ (by omega), e1 _ hrl, hra _ (by omega)]
    exact ⟨k1, k2⟩
  · obtain rfl : a = less.length := by simp at ha; omega
    exfalso
    unfold ent at h0
    rw [← hl, lget_app_eq, iget_rep hk] at h0
    omega
theorem Back.next (hB : Back ng im less []) (hw : WF ng im less) {c g : Nat} (hc : c < less.length) (hlc : iget less c = (c : Int)) (hg : g < ng) (hn : less.length ≤ 2000) :
    Back ng (nextC ng im less c g).1 (nextC ng im less c g).2.1 [] ∧ ((nextC ng im less c g).2.2.1 = false → iget (nextC ng im less c g).2.1 (nextC ng im less c g).2.2.2 = ((nextC ng im less c g).2.2.2 : Int)) ∧ (∀ a, a < less.length → iget (nextC ng im less c g).2.1 a = iget less a) := by
  unfold nextC
  split
  · rename_i h0
    have he := hw.ent c g (by rw [hw.len]; exact hc) hg
    exact ⟨hB, fun _ => (root_fix hw.down _ (by omega)).1, fun _ _ => rfl⟩
  · rename_i h0
    split
    · exact ⟨hB, (fun h => nomatch h), fun _ _ => rfl⟩
    · have hl := hw.len
      have b1 := hB.app hw
      have w1 := hw.app
      refine ⟨?_, fun _ => iget_app_eq, fun a ha => iget_app_lt ha⟩
      have hcc : c < (less ++ [(less.length : Int)]).length := by simp; omega
      have := b1.link w1 (c := less.length) (d := c) (g := g) (by simp) hcc iget_app_eq (by rw [iget_app_lt hc]; exact hlc) hg (by unfold ent; rw [← hl, lget_app_eq, iget_rep hg]; omega) (by unfold ent at h0 ⊢; rw [lget_app_lt (by omega)]; omega)
      exact this
end
end Go.Proofs.Ytmdhljleaijkbaa

/- The numbers of orbits, the reference's: l01Orbits; sizes of orbits, the program's: orbitSizes; the greatest number. -/
namespace Go.Proofs.Ytmdhljleaijkbaa
open Go.RowKit

section
variable {T : List (List Int)} {n : Nat}
theorem ints_ext {a b : List Int} (hl : a.length = b.length) (h : ∀ k, k < a.length → iget a k = iget b k) : a = b := by
  refine List.ext_getElem hl fun k h1 h2 => ?_
  have := h k h1
  simpa [iget, h1, h2] using this
end
end Go.Proofs.Ytmdhljleaijkbaa

/- Sizes of orbits, the program's: orbitSizes; the greatest number, the reference's: l02Greatest. -/
namespace Go.Proofs.Ytmdhljleaijkbaa
open Go.RowKit

/-- how often each number below c stands among the first p -/
def szL (L : List Int) (c p : Nat) : List Int := (List.range c).map fun j : Nat => ((L.take p).count (j : Int) : Int)
theorem szL_len (L : List Int) (c p : Nat) : (szL L c p).length = c := by simp [szL]
theorem szL_get {L : List Int} {c p j : Nat} (h : j < c) : iget (szL L c p) j = ((L.take p).count (j : Int) : Int) := by simp [szL, iget, h]
theorem szL_zero (L : List Int) (c : Nat) : szL L c 0 = List.replicate c 0 := ints_ext (by simp [szL]) fun k hk => by
  rw [szL_len] at hk
  rw [szL_get hk]; simp [iget, hk]
theorem szL_succ {L : List Int} {c p d : Nat} (hp : p < L.length) (hd : iget L p = (d : Int)) (hdc : d < c) : szL L c (p + 1) = (szL L c p).set d (iget (szL L c p) d + 1) := ints_ext (by simp [szL]) fun k hk => by
  rw [szL_len] at hk
  rw [iget_setD, szL_len, szL_get hk, take_iget hp, List.count_append, hd]
  by_cases e : d = k
  · subst e
    rw [if_pos ⟨rfl, hdc⟩, szL_get hdc]
    simp
  · rw [if_neg (fun h => e h.1), szL_get hk]
    simp only [List.count_cons, List.count_nil]
    rw [if_neg (by simp; omega)]; simp
theorem szL_le {L : List Int} {c p d : Nat} (hd : d < c) : 0 ≤ iget (szL L c p) d ∧ iget (szL L c p) d ≤ p := by
  rw [szL_get hd]
  have h1 := List.count_le_length (a := (d : Int)) (l := L.take p)
  rw [List.length_take] at h1
  omega
set_option maxRecDepth 100000 in
set_option maxHeartbeats 2000000 in
theorem orbitSizes_fc (zss : List (List Int)) (n ng : Nat) (hng : zss.length = ng) (hT : Leads zss n) (hB : Back2 zss n) (hpos : 0 < n) (hn : n ≤ 1000000) (hg : ng ≤ 1000000) (hLn : (labs zss n).1.length = n) (hLc : (labs zss n).2 ≤ n) (hLl : ∀ p, p < n → ∃ d : Nat, iget (labs zss n).1 p = (d : Int) ∧ d < (labs zss n).2) :
    FC Try.prog 82 [(1003, rowsRo zss)] [vv (I6 n), o1 (.sl 1003 0 ng)] [(17, leOw (szL (labs zss n).1 (labs zss n).2 n))] (o1 (.sl 17 0 (labs zss n).2)) [] := by
  have hO := (orbI_fc zss n ng hng hT hB hpos hn hg).nm [(1003, 1003), (16, 13)] (by kernel_rfl)
  have hO : FC Try.prog 72 [(1003, rowsRo zss)] [vv (I6 n), o1 (.sl 1003 0 ng)] [(13, leOw (labs zss n).1)] (.tup [.one (.sl 13 0 n), .one (.val (I6 (labs zss n).2))]) [] := hO
  refine fc_enter (nt := 32) Try.func82 rfl rfl (by simp) fun w0 ω0 => ?_
  generalize (labs zss n).1 = L at *
  generalize (labs zss n).2 = c at *
  (refine goes_seq ?_; refine goes_region ?_; apply run_step rfl; (exact stp_assign rfl rfl); refine run_nil ?_; refine fin_seq ?_; refine goes_seq ?_; refine goes_region ?_; apply run_step rfl; (exact stp_move rfl rfl); apply run_step rfl; (exact stp_move rfl rfl); apply run_step rfl; (apply call_gate 72; exact stp_callN hO (by as_aux_lemma => kernel_rfl) rfl rfl ⟨rfl, rfl, trivial⟩ ⟨⟨_, rfl, .inl rfl⟩, trivial⟩ rfl rfl rfl); apply run_step rfl; (exact stp_move rfl rfl); apply run_step rfl; (exact stp_extract rfl rfl rfl); apply run_step rfl; (exact stp_extract rfl rfl rfl); apply run_step rfl; (exact stp_assign rfl rfl); apply run_step rfl; (exact stp_assign rfl rfl); refine run_nil ?_; refine fin_seq ?_; refine goes_seq ?_; refine goes_region ?_; apply run_step rfl; (exact stp_move rfl rfl); apply run_step rfl; (exact stp_makeI (E := 2) rfl (by as_aux_lemma => kernel_rfl) (by as_aux_lemma => kernel_rfl) rfl rfl rfl rfl (by omega)); apply run_step rfl; (exact stp_assign rfl rfl); refine run_nil ?_; refine fin_seq ?_; refine goes_seq ?_; refine goes_seq ?_; refine goes_region ?_; apply run_step rfl; (exact stp_move rfl rfl); apply run_step rfl; (exact stp_len rfl rfl rfl (by as_aux_lemma => kernel_rfl)); apply run_step rfl; (exact stp_move rfl rfl); refine run_nil ?_; refine fin_seq ?_; refine goes_block ?_)
  refine goes_loop (fun p : Nat => St.of [(7, o1 (.sl 17 0 c)), (18, o1 (.sl 13 0 n)), (19, vv (I6 n)), (20, vv (I6 p))] [(1003, rowsRo zss), (13, leOw L), (17, leOw (szL L c p))]) (fun p => p ≤ n) (fun p => n - p) 0 (Nat.zero_le _) (Wk.of ⟨rfl, rfl, rfl, rfl, trivial⟩ ⟨rfl, rfl, congrArg (fun l => some (leOw l)) (szL_zero L c).symm, trivial⟩ trivial) ?_
  intro p hp
  have hLi : n ≤ (ivals L).length := by rw [ivals_len, hLn]; exact Nat.le_refl _
  have hSi : c ≤ (ivals (szL L c p)).length := by rw [ivals_len, szL_len]; exact Nat.le_refl _
  (refine goes_seq ?_; refine goes_region ?_; apply run_step rfl; (exact stp_bin rfl rfl rfl rfl); refine run_nil ?_; refine fin_seq ?_; refine goes_seq ?_)
  refine goes_if rfl (fun h => ?_) (fun h => ?_)
  · have hpn : p < n := by omega
    obtain ⟨d, hd1, hd2⟩ := hLl p hpn
    have gp : (ivals L)[p]? = some (I6 (d : Int)) := by rw [ivals_get (by omega), hd1]
    have hz := szL_le (L := L) (p := p) hd2
    have hnx := szL_succ (p := p) (by omega) hd1 hd2
    have hsl := szL_len L c p
    have gd : (ivals (szL L c p))[d]? = some (I6 (iget (szL L c p) d)) := ivals_get (by omega)
    have HN : Hid ((some (leOw ((szL L c p).set d (iget (szL L c p) d + 1))) : Option Ch) = some (leOw (szL L c (p + 1)))) := Lib.hid (by rw [hnx])
    clear hnx
    generalize szL L c p = S at *
    generalize iget S d = z at *
    (refine goes_skip ?_; refine fin_seq ?_; refine goes_seq ?_; refine goes_block ?_; refine goes_seq ?_; refine goes_region ?_; apply run_step rfl; (first | exact stp_ix (j := p) rfl rfl rfl rfl rfl (by as_aux_lemma => kernel_rfl) rfl hpn hLi | exact stp_ix (j := d) rfl rfl rfl rfl rfl (by as_aux_lemma => kernel_rfl) rfl hd2 hSi | exact stp_stI rfl rfl rfl rfl rfl (by omega) (by as_aux_lemma => kernel_rfl)); apply run_step rfl; (exact stp_loadV rfl (by as_aux_lemma => kernel_rfl) rfl rfl rfl (by first | assumption | exact ivals_get (by assumption) | exact irows_get (by assumption) | exact ivals_get (by omega) | exact irows_get (by omega) | rfl)); apply run_step rfl; (exact stp_assign rfl rfl); refine run_nil ?_; refine fin_seq ?_; refine goes_region ?_; apply run_step rfl; (exact stp_move rfl rfl); apply run_step rfl; (exact stp_move rfl rfl); apply run_step rfl; (first | exact stp_ix (j := p) rfl rfl rfl rfl rfl (by as_aux_lemma => kernel_rfl) rfl hpn hLi | exact stp_ix (j := d) rfl rfl rfl rfl rfl (by as_aux_lemma => kernel_rfl) rfl hd2 hSi | exact stp_stI rfl rfl rfl rfl rfl (by omega) (by as_aux_lemma => kernel_rfl)); apply run_step rfl; (exact stp_loadV rfl (by as_aux_lemma => kernel_rfl) rfl rfl rfl (by first | assumption | exact ivals_get (by assumption) | exact irows_get (by assumption) | exact ivals_get (by omega) | exact irows_get (by omega) | rfl)); apply run_step rfl; (exact stp_add rfl rfl rfl (by first | exact IntWalk.i64_in _ (by omega) | rfl)); apply run_step rfl; (first | exact stp_ix (j := p) rfl rfl rfl rfl rfl (by as_aux_lemma => kernel_rfl) rfl hpn hLi | exact stp_ix (j := d) rfl rfl rfl rfl rfl (by as_aux_lemma => kernel_rfl) rfl hd2 hSi | exact stp_stI rfl rfl rfl rfl rfl (by omega) (by as_aux_lemma => kernel_rfl)); apply run_step rfl; (first | exact stp_ix (j := p) rfl rfl rfl rfl rfl (by as_aux_lemma => kernel_rfl) rfl hpn hLi | exact stp_ix (j := d) rfl rfl rfl rfl rfl (by as_aux_lemma => kernel_rfl) rfl hd2 hSi | exact stp_stI rfl rfl rfl rfl rfl (by omega) (by as_aux_lemma => kernel_rfl)); refine run_nil ?_; refine fin_block ?_; refine fin_seq ?_; refine goes_region ?_; apply run_step rfl; (exact stp_add rfl rfl rfl (by first | exact IntWalk.i64_in _ (by omega) | rfl)); apply run_step rfl; (exact stp_move rfl rfl); refine run_nil ?_)
    exact fin_round (p + 1) hpn (by show n - (p + 1) < n - p; omega) (Wk.of ⟨rfl, rfl, rfl, rfl, trivial⟩ ⟨rfl, rfl, HN.out, trivial⟩ trivial)
  · obtain rfl : p = n := by omega
    (refine goes_exit ?_; refine fin_exit_then ?_; refine fin_exit_then ?_; refine fin_exit_eq ?_; refine fin_seq ?_; refine goes_seq ?_; refine goes_region ?_; apply run_step rfl; (exact stp_move rfl rfl); apply run_step rfl; (exact stp_assign rfl rfl); refine run_nil ?_; refine fin_seq ?_; refine goes_ret ?_)
    exact fin_ret1 (.inl rfl) rfl (.tmp rfl) ⟨rfl, trivial⟩ trivial
end Go.Proofs.Ytmdhljleaijkbaa

/- IsMap. guards: -/
namespace Go.Proofs.Ytmdhljleaijkbaa
open Go.RowKit

end Go.Proofs.Ytmdhljleaijkbaa

/- Sizes of faces of a map: sizesOf, l14Sizes, FaceSizes. -/
namespace Go.Proofs.Ytmdhljleaijkbaa
open Go.RowKit

section
variable {T : List (List Int)} {n : Nat}
/-- all points have labels below the number of labels; the last one stands somewhere -/
theorem labs_allS (hT : Leads T n) (hB : SymR T n) : (labs T n).1.length = n ∧ (labs T n).2 ≤ n ∧ (∀ p, p < n → ∃ d : Nat, iget (labs T n).1 p = (d : Int) ∧ d < (labs T n).2) := by
  have h := labTo_okS hT hB n (Nat.le_refl _)
  have hk : ∀ j, (labTo T n j).2 ≤ j := fun j => by
    induction j with
    | zero => exact Nat.le_refl _
    | succ j ih => rw [labTo_succ]; unfold labStep; split; omega; show (labTo T n j).2 + 1 ≤ j + 1; omega
  refine ⟨h.len, hk n, fun p hp => ?_⟩
  have h0 := (h.met p hp).2 ⟨p, hp, rch_refl hT hp⟩
  have h1 := h.low p hp
  exact ⟨(iget (labTo T n n).1 p).toNat, by unfold labs; omega, by unfold labs; omega⟩
theorem labs_all (hT : Leads T n) (hB : Back2 T n) : (labs T n).1.length = n ∧ (labs T n).2 ≤ n ∧ (∀ p, p < n → ∃ d : Nat, iget (labs T n).1 p = (d : Int) ∧ d < (labs T n).2) := labs_allS hT (hB.sym hT)
end
/-- halves -/
def halfL (zs : List Int) : List Int := zs.map fun z => z / 2
theorem erase_ok {d : List (List Int)} (h : Man d) {r : Nat} (hr : r < d.length) : Leads (d.eraseIdx r) (lget d 0).length ∧ Back2 (d.eraseIdx r) (lget d 0).length := by
  have hl : (d.eraseIdx r).length = d.length - 1 := by rw [List.length_eraseIdx, if_pos hr]
  have hT := rows_leads h.rows
  have hB := rows_back h.rows
  have key : ∀ k, k < (d.eraseIdx r).length → ∃ k', k' < d.length ∧ lget (d.eraseIdx r) k = lget d k' := fun k hk => by
    rw [lget_erase]
    split
    · exact ⟨k, by omega, rfl⟩
    · exact ⟨k + 1, by omega, rfl⟩
  refine ⟨⟨fun k hk => ?_, fun k hk x hx => ?_⟩, fun g hg c hc => ?_⟩
  · obtain ⟨k', h1, h2⟩ := key k hk
    rw [h2]; exact hT.len k' h1
  · obtain ⟨k', h1, h2⟩ := key k hk
    rw [h2]; exact hT.within k' h1 x hx
  · obtain ⟨k', h1, h2⟩ := key g hg
    have := hB k' h1 c hc
    unfold bTo at this ⊢
    rw [h2]; exact this
theorem toS_call {f : FuncId} {args : Array Value} {w : World} {x m : Nat} {zs : List Int} (hm : zs.length = m) (hm4 : m ≤ 1000000)
    (h : Calls Try.prog f args w fun e w' => ∃ v η ω, e = .returned v ∧ Den η (o1 (.sl x 0 m)) v ∧ Mem η ω w' (fun y => lk y [(x, leOw zs)]) ∧ Below w.heap.size w w' ∧ ∀ b, b < w.heap.size → ω b = none) :
    Calls Try.prog f args w fun e w' => ∃ v, e = .returned v ∧ OwnS 2 w' w.heap.size w'.heap.size v zs ∧ Below w.heap.size w w' := by
  refine h.mono ?_
  rintro e w' ⟨v, η, ω, rfl, hd, hmem, hb, hlo⟩
  subst hm
  exact ⟨v, rfl, toS hmem hlo (by simp [lk]) hd (by omega), hb⟩
theorem orbitSizes_any {d : List (List Int)} {n : Nat} {v : Value} (w : World) (h : RdSSc w v d) (hT : Leads d n) (hB : Back2 d n) (hn0 : 0 < n) (hn : n ≤ 1000) (hd : d.length ≤ 1000) :
    Calls Try.prog 82 #[.int .i64 n, v] w fun e w' => ∃ v', e = .returned v' ∧ OwnS 2 w' w.heap.size w'.heap.size v' (szL (labs d n).1 (labs d n).2 n) ∧ Below w.heap.size w w' := by
  obtain ⟨h1, h2, h3⟩ := labs_all hT hB
  exact toS_call (szL_len _ _ _) (by omega) (callNR (orbitSizes_fc d n d.length rfl hT hB hn0 (by omega) (by omega) h1 h2 h3) h)
end Go.Proofs.Ytmdhljleaijkbaa

/- Labels of orbits: alike in an orbit; orbits of one size; the edges of a map. No program in sight. -/
namespace Go.Proofs.Ytmdhljleaijkbaa
open Go.RowKit

theorem filter_none_ {p : Nat → Bool} : ∀ n, (∀ h, h < n → p h = false) → (List.range n).filter p = []
  | 0, _ => rfl
  | n + 1, H => by
    rw [List.range_succ, List.filter_append, filter_none_ n fun h hh => H h (by omega)]
    simp [H n (by omega)]
theorem filter_one_ {p : Nat → Bool} {g : Nat} (hp : p g = true) : ∀ n, g < n → (∀ h, h < n → p h = true → h = g) → (List.range n).filter p = [g]
  | 0, h, _ => by omega
  | n + 1, hg, H => by
    rw [List.range_succ, List.filter_append]
    by_cases e : g = n
    · subst e
      rw [filter_none_ g fun h hh => by
        cases hc : p h with
        | false => rfl
        | true => have := H h (by omega) hc; omega]
      simp [hp]
    · rw [filter_one_ hp n (by omega) fun h hh => H h (by omega)]
      have : p n = false := by
        cases hc : p n with
        | false => rfl
        | true => have := H n (by omega) hc; omega
      simp [this]
section
variable {T : List (List Int)} {n : Nat}
/-- labels are alike exactly where one leads to the other -/
theorem labTo_alikeS (hT : Leads T n) (hb : SymR T n) : ∀ i, i ≤ n → ∀ c d, c < n → d < n → 0 ≤ iget (labTo T n i).1 c → iget (labTo T n i).1 c = iget (labTo T n i).1 d → rch T n c d = true
  | 0, _, c, d, hc, hd, h, _ => by simp [labTo, labStart, iget, hc] at h
  | i + 1, hi, c, d, hc, hd, h, e => by
    have ih := labTo_alikeS hT hb i (by omega) c d hc hd
    have ok := labTo_okS hT hb i (by omega)
    rw [labTo_succ] at h e
    generalize labTo T n i = s at *
    unfold labStep at h e
    split at h
    · rename_i hl; rw [if_pos hl] at e; exact ih h e
    · rename_i hl
      rw [if_neg hl, labSet_get hc, labSet_get hd] at e
      rw [labSet_get hc] at h
      have h1 := ok.low c hc
      have h2 := ok.low d hd
      split at e
      · rename_i r1
        split at e
        · rename_i r2
          exact rch_trans hT hc hi hd (hb i c hi hc r1) r2
        · omega
      · rename_i r1
        rw [if_neg r1] at h
        split at e
        · omega
        · exact ih h e
theorem labs_alikeS (hT : Leads T n) (hb : SymR T n) {c d : Nat} (hc : c < n) (hd : d < n) (e : iget (labs T n).1 c = iget (labs T n).1 d) : rch T n c d = true := by
  obtain ⟨-, -, h⟩ := labs_allS hT hb
  obtain ⟨x, hx, _⟩ := h c hc
  exact labTo_alikeS hT hb n (Nat.le_refl _) c d hc hd (by show 0 ≤ iget (labs T n).1 c; omega) e
theorem filter_or_len {p q r : Nat → Bool} : ∀ l : List Nat, (∀ x, x ∈ l → r x = (p x || q x)) → (∀ x, x ∈ l → p x = true → q x = false) → (l.filter r).length = (l.filter p).length + (l.filter q).length
  | [], _, _ => rfl
  | a :: l, h1, h2 => by
    have ih := filter_or_len l (fun x hx => h1 x (by simp [hx])) (fun x hx => h2 x (by simp [hx]))
    have ha := h1 a (by simp)
    have hb := h2 a (by simp)
    rw [List.filter_cons, List.filter_cons, List.filter_cons]
    cases hp : p a with
    | true =>
      rw [hb hp] 
      rw [hp] at ha
      simp at ha
      simp [ha, ih]; omega
    | false =>
      rw [hp] at ha
      simp at ha
      rw [ha]
      cases hq : q a with
      | true => simp [ih]; omega
      | false => simp [ih]
theorem filter_alike {p q : Nat → Bool} : ∀ l : List Nat, (∀ x, x ∈ l → p x = q x) → l.filter p = l.filter q
  | [], _ => rfl
  | a :: l, h => by
    rw [List.filter_cons, List.filter_cons, filter_alike l (fun x hx => h x (by simp [hx])), h a (by simp)]
/-- orbits that all have k points: k times their number is that of the points -/
theorem labs_evenS (hT : Leads T n) (hb : SymR T n) (k : Nat) (hk : ∀ i, i < n → ((List.range n).filter fun d => rch T n i d).length = k) : k * (labs T n).2 = n := by
  have key : ∀ i, i ≤ n → ((List.range n).filter fun d => decide (0 ≤ iget (labTo T n i).1 d)).length = k * (labTo T n i).2 := by
    intro i
    induction i with
    | zero =>
      intro _
      rw [filter_none_ n fun d hd => by simp [labTo, labStart, iget, hd]]
      simp [labTo, labStart]
    | succ i ih =>
      intro hi
      have ih := ih (by omega)
      have ok := labTo_okS hT hb i (by omega)
      rw [labTo_succ]
      generalize labTo T n i = s at *
      unfold labStep
      split
      · exact ih
      · rename_i hl
        rw [filter_or_len (p := fun d => rch T n i d) (q := fun d => decide (0 ≤ iget s.1 d)) (List.range n) (fun d hd => by
            rw [labSet_get (List.mem_range.1 hd)]
            cases hr : rch T n i d with
            | true => simp
            | false => simp) (fun d hd hr => by
            have := lab_newS hT hb (i := i) hi ok (by omega) (List.mem_range.1 hd) hr
            rw [this]; rfl), hk i (by omega), ih]
        show k + k * s.2 = k * (s.2 + 1)
        rw [Nat.mul_succ]; omega
  have := key n (Nat.le_refl _)
  obtain ⟨-, -, h3⟩ := labs_allS hT hb
  rw [filter_alike (q := fun _ => true) _ (fun d hd => by
    obtain ⟨x, hx, _⟩ := h3 d (List.mem_range.1 hd)
    have hx : iget (labTo T n n).1 d = (x : Int) := hx
    rw [hx]; simp), List.filter_eq_self.2 (fun _ _ => rfl), List.length_range] at this
  exact this.symm
theorem labs_even (hT : Leads T n) (hb : Back2 T n) (k : Nat) (hk : ∀ i, i < n → ((List.range n).filter fun d => rch T n i d).length = k) : k * (labs T n).2 = n := labs_evenS hT (hb.sym hT) k hk
end
/-- the edges of a map have four flags each -/
theorem edges4 {zss : List (List Int)} (h : Man zss) (h3 : zss.length = 3) : 4 * (labs (zss.eraseIdx 1) (lget zss 0).length).2 = (lget zss 0).length := by
  obtain ⟨hT, hB⟩ := erase_ok h (r := 1) (by omega)
  have hL := rows_leads h.rows
  have hB0 := rows_back h.rows
  have e0 : ∀ d, bTo (zss.eraseIdx 1) d 0 = bTo zss d 0 := fun d => by unfold bTo; rw [lget_erase]; rfl
  have e1 : ∀ d, bTo (zss.eraseIdx 1) d 1 = bTo zss d 2 := fun d => by unfold bTo; rw [lget_erase]; rfl
  have hl : (zss.eraseIdx 1).length = 2 := by rw [List.length_eraseIdx, if_pos (by omega)]; omega
  generalize hn : (lget zss 0).length = n at *
  have a2 := hB0 0 (by omega)
  have b2 := hB0 2 (by omega)
  have alt : ∀ d, d < n → bTo zss d 0 < n := fun d hd => (bTo_lt hL hd (by omega)).1
  have blt : ∀ d, d < n → bTo zss d 2 < n := fun d hd => (bTo_lt hL hd (by omega)).1
  have fr : ∀ r, r < 3 → ∀ d, d < n → bTo zss d r ≠ d := fun r hr d hd e => by
    have := (isFreeL_at (h.free r (by omega)) (i := d) (by rw [h.len r (by omega), hn]; exact hd)).1
    have h1 := (bTo_lt hL hd (g := r) (by omega)).2
    rw [e] at h1; exact this h1
  have cm : ∀ d, d < n → bTo zss (bTo zss d 0) 2 = bTo zss (bTo zss d 2) 0 ∧ bTo zss d 0 ≠ bTo zss d 2 := fun d hd => h.comm 0 2 (by omega) (by omega) d (by rw [hn]; exact hd)
  refine labs_even hT hB 4 fun i hi => ?_
  have ha := alt i hi
  have hb := blt i hi
  have hab := alt _ hb
  have c1 := cm i hi
  have n1 := fr 0 (by omega) i hi
  have n2 := fr 2 (by omega) i hi
  have n3 := fr 0 (by omega) _ hb
  have n4 : bTo zss (bTo zss i 2) 0 ≠ i := fun e => by
    have := congrArg (fun x => bTo zss x 0) e
    have this : bTo zss (bTo zss (bTo zss i 2) 0) 0 = bTo zss i 0 := this
    rw [a2 _ hb] at this
    exact c1.2 this.symm
  have n5 : bTo zss (bTo zss i 2) 0 ≠ bTo zss i 0 := fun e => by
    have := congrArg (fun x => bTo zss x 0) e
    have this : bTo zss (bTo zss (bTo zss i 2) 0) 0 = bTo zss (bTo zss i 0) 0 := this
    rw [a2 _ hb, a2 _ hi] at this
    exact n2 this
  have hiff : ∀ d, d < n → (rch (zss.eraseIdx 1) n i d = true ↔ d = i ∨ d = bTo zss i 0 ∨ d = bTo zss i 2 ∨ d = bTo zss (bTo zss i 2) 0) := fun d hd => by
    constructor
    · refine rch_in (p := fun d => d = i ∨ d = bTo zss i 0 ∨ d = bTo zss i 2 ∨ d = bTo zss (bTo zss i 2) 0) hT hi (.inl rfl) (fun d hd hp g hg => ?_) d hd
      rw [hl] at hg
      match g, hg with
      | 0, _ =>
        rw [e0]
        rcases hp with rfl | rfl | rfl | rfl
        · exact .inr (.inl rfl)
        · exact .inl (a2 _ hi)
        · exact .inr (.inr (.inr rfl))
        · exact .inr (.inr (.inl (a2 _ hb)))
      | 1, _ =>
        rw [e1]
        rcases hp with rfl | rfl | rfl | rfl
        · exact .inr (.inr (.inl rfl))
        · exact .inr (.inr (.inr c1.1))
        · exact .inl (b2 _ hi)
        · refine .inr (.inl ?_)
          rw [← c1.1, b2 _ ha]
    · have r0 := rch_refl hT hi
      have ra := rch_on hT hi hi r0 (g := 0) (by omega)
      have rb := rch_on hT hi hi r0 (g := 1) (by omega)
      rw [e0] at ra; rw [e1] at rb
      have rab := rch_on hT hi hb rb (g := 0) (by omega)
      rw [e0] at rab
      rintro (rfl | rfl | rfl | rfl)
      · exact r0
      · exact ra
      · exact rb
      · exact rab
  generalize bTo zss (bTo zss i 2) 0 = ab at *
  generalize bTo zss i 2 = b at *
  generalize bTo zss i 0 = a at *
  rw [filter_or_len (p := fun d => decide (d = i)) (q := fun d => decide (d = a) || (decide (d = b) || decide (d = ab))) (List.range n) (fun d hd => by
      have := hiff d (List.mem_range.1 hd)
      rw [Bool.eq_iff_iff, this]; simp) (fun d hd e => by simp at e; subst e; simp; omega),
    filter_or_len (p := fun d => decide (d = a)) (q := fun d => decide (d = b) || decide (d = ab)) (List.range n) (fun d hd => rfl) (fun d hd e => by simp at e; subst e; simp; omega),
    filter_or_len (p := fun d => decide (d = b)) (q := fun d => decide (d = ab)) (List.range n) (fun d hd => rfl) (fun d hd e => by simp at e; subst e; simp; omega),
    filter_one_ (p := fun d => decide (d = i)) (g := i) (by simp) n hi (fun x _ e => by simpa using e), filter_one_ (p := fun d => decide (d = a)) (g := a) (by simp) n ha (fun x _ e => by simpa using e),
    filter_one_ (p := fun d => decide (d = b)) (g := b) (by simp) n hb (fun x _ e => by simpa using e), filter_one_ (p := fun d => decide (d = ab)) (g := ab) (by simp) n hab (fun x _ e => by simpa using e)]
  rfl
end Go.Proofs.Ytmdhljleaijkbaa

/- Orbits of one size: labels occur, as often as the orbits have points; orbits of two moves that run round in eight steps. No program in sight. -/
namespace Go.Proofs.Ytmdhljleaijkbaa
open Go.RowKit

theorem filt_in {n : Nat} : ∀ {Q : List Nat}, Q.Nodup → (∀ d ∈ Q, d < n) → ((List.range n).filter fun d => decide (d ∈ Q)).length = Q.length
  | [], _, _ => by rw [filter_none_ n fun d hd => by simp]
  | a :: Q, hn, hQ => by
    obtain ⟨h1, h2⟩ := List.nodup_cons.1 hn
    rw [filter_or_len (p := fun d => decide (d = a)) (q := fun d => decide (d ∈ Q)) (List.range n) (fun d hd => by simp) (fun d hd e => by
        have e : d = a := by simpa using e
        subst e; simp [h1]), filter_one_ (p := fun d => decide (d = a)) (g := a) (by simp) n (hQ a (by simp)) (fun x _ e => by simpa using e), filt_in h2 fun d hd => hQ d (by simp [hd])]
    simp [Nat.add_comm]
section
variable {T : List (List Int)} {n : Nat}
/-- each label occurs -/
theorem labTo_att (hT : Leads T n) (hb : SymR T n) : ∀ i, i ≤ n → ∀ j : Nat, j < (labTo T n i).2 → ∃ p, p < n ∧ iget (labTo T n i).1 p = (j : Int)
  | 0, _, j, h => by simp [labTo, labStart] at h
  | i + 1, hi, j, h => by
    have ih := labTo_att hT hb i (by omega)
    have ok := labTo_okS hT hb i (by omega)
    rw [labTo_succ] at h ⊢
    generalize labTo T n i = s at *
    unfold labStep at h ⊢
    split
    · rename_i hl
      rw [if_pos hl] at h
      exact ih j h
    · rename_i hl
      rw [if_neg hl] at h
      have h : j < s.2 + 1 := h
      by_cases e : j = s.2
      · subst e
        exact ⟨i, hi, by rw [labSet_get hi, if_pos (rch_refl hT hi)]⟩
      · obtain ⟨p, h1, h2⟩ := ih j (by omega)
        refine ⟨p, h1, ?_⟩
        rw [labSet_get h1, if_neg, h2]
        intro hr
        have := lab_newS hT hb (i := i) hi ok (by omega) h1 hr
        omega
/-- whom lists lead to has the same label -/
theorem labTo_rch (hT : Leads T n) (hb : SymR T n) {c d : Nat} (hc : c < n) (hd : d < n) (h : rch T n c d = true) : ∀ i, i ≤ n → iget (labTo T n i).1 c = iget (labTo T n i).1 d
  | 0, _ => by simp [labTo, labStart, iget, hc, hd]
  | i + 1, hi => by
    have ih := labTo_rch hT hb hc hd h i (by omega)
    rw [labTo_succ]
    generalize labTo T n i = s at *
    unfold labStep
    split
    · exact ih
    · rw [labSet_get hc, labSet_get hd]
      by_cases e : rch T n i c = true
      · rw [if_pos e, if_pos (rch_trans hT (by omega) hc hd e h)]
      · rw [if_neg e, if_neg fun q => e (rch_trans hT (by omega) hd hc q (hb c d hc hd h)), ih]
theorem labs_rch (hT : Leads T n) (hb : SymR T n) {c d : Nat} (hc : c < n) (hd : d < n) : rch T n c d = true ↔ iget (labs T n).1 c = iget (labs T n).1 d :=
  ⟨fun h => labTo_rch hT hb hc hd h n (Nat.le_refl _), labs_alikeS hT hb hc hd⟩
theorem count_filter : ∀ (L : List Int) (j : Int), L.count j = ((List.range L.length).filter fun d => decide (iget L d = j)).length
  | L, j => by
    have e : L = (List.range L.length).map fun d => iget L d := List.ext_getElem (by simp) fun i h1 h2 => by rw [← iget_lt h1]; simp
    conv => lhs; rw [e]
    rw [List.count, List.countP_map, List.countP_eq_length_filter]
    congr 1
/-- orbits of k points each: each label occurs k times -/
theorem lab_cnt (hT : Leads T n) (hb : SymR T n) {k : Nat} (hk : ∀ i, i < n → ((List.range n).filter fun d => rch T n i d).length = k) {j : Nat} (hj : j < (labs T n).2) : (((labs T n).1.take n).count (j : Int) : Nat) = k := by
  obtain ⟨hl, -, -⟩ := labs_allS hT hb
  obtain ⟨p, hp, e⟩ := labTo_att hT hb n (Nat.le_refl _) j hj
  have e : iget (labs T n).1 p = (j : Int) := e
  rw [List.take_of_length_le (by omega), count_filter, hl, ← hk p hp]
  congr 1
  refine filter_alike _ fun d hd => ?_
  have hd := List.mem_range.1 hd
  rw [Bool.eq_iff_iff, labs_rch hT hb hp hd, e]
  simp only [decide_eq_true_eq]
  exact ⟨fun h => h.symm, fun h => h.symm⟩
end
/-- the points of a walk by turns -/
def wlk (r s : Nat → Nat) : Nat → Nat → List Nat
  | 0, _ => []
  | k + 1, x => x :: wlk s r k (r x)
/-- eight steps round: the points are the orbit -/
theorem orbit8 {T : List (List Int)} {n : Nat} (hT : Leads T n) (hB : Back2 T n) (hl : T.length = 2) {x : Nat} (hx : x < n)
    (hw : (wlk (bTo T · 0) (bTo T · 1) 8 x).Nodup) (he : bTo T (bTo T (bTo T (bTo T (bTo T (bTo T (bTo T (bTo T x 0) 1) 0) 1) 0) 1) 0) 1 = x) :
    ((List.range n).filter fun d => rch T n x d).length = 8 := by
  have lt0 : ∀ d, d < n → bTo T d 0 < n := fun d hd => (bTo_lt hT hd (by omega)).1
  have lt1 : ∀ d, d < n → bTo T d 1 < n := fun d hd => (bTo_lt hT hd (by omega)).1
  have b0 : ∀ d, d < n → bTo T (bTo T d 0) 0 = d := fun d hd => hB 0 (by omega) d hd
  have b1 : ∀ d, d < n → bTo T (bTo T d 1) 1 = d := fun d hd => hB 1 (by omega) d hd
  have o0 : ∀ d, d < n → rch T n x d = true → rch T n x (bTo T d 0) = true := fun d hd h => rch_on hT hx hd h (by omega)
  have o1 : ∀ d, d < n → rch T n x d = true → rch T n x (bTo T d 1) = true := fun d hd h => rch_on hT hx hd h (by omega)
  obtain ⟨p1, e1⟩ : ∃ p, p = bTo T x 0 := ⟨_, rfl⟩
  obtain ⟨p2, e2⟩ : ∃ p, p = bTo T p1 1 := ⟨_, rfl⟩
  obtain ⟨p3, e3⟩ : ∃ p, p = bTo T p2 0 := ⟨_, rfl⟩
  obtain ⟨p4, e4⟩ : ∃ p, p = bTo T p3 1 := ⟨_, rfl⟩
  obtain ⟨p5, e5⟩ : ∃ p, p = bTo T p4 0 := ⟨_, rfl⟩
  obtain ⟨p6, e6⟩ : ∃ p, p = bTo T p5 1 := ⟨_, rfl⟩
  obtain ⟨p7, e7⟩ : ∃ p, p = bTo T p6 0 := ⟨_, rfl⟩
  have hq : wlk (bTo T · 0) (bTo T · 1) 8 x = [x, p1, p2, p3, p4, p5, p6, p7] := by
    rw [e7, e6, e5, e4, e3, e2, e1]; rfl
  rw [← e1, ← e2, ← e3, ← e4, ← e5, ← e6, ← e7] at he
  have l1 : p1 < n := by rw [e1]; exact lt0 _ hx
  have l2 : p2 < n := by rw [e2]; exact lt1 _ l1
  have l3 : p3 < n := by rw [e3]; exact lt0 _ l2
  have l4 : p4 < n := by rw [e4]; exact lt1 _ l3
  have l5 : p5 < n := by rw [e5]; exact lt0 _ l4
  have l6 : p6 < n := by rw [e6]; exact lt1 _ l5
  have l7 : p7 < n := by rw [e7]; exact lt0 _ l6
  have f1 : bTo T p1 0 = x := by rw [e1]; exact b0 _ hx
  have f2 : bTo T p2 1 = p1 := by rw [e2]; exact b1 _ l1
  have f3 : bTo T p3 0 = p2 := by rw [e3]; exact b0 _ l2
  have f4 : bTo T p4 1 = p3 := by rw [e4]; exact b1 _ l3
  have f5 : bTo T p5 0 = p4 := by rw [e5]; exact b0 _ l4
  have f6 : bTo T p6 1 = p5 := by rw [e6]; exact b1 _ l5
  have f7 : bTo T p7 0 = p6 := by rw [e7]; exact b0 _ l6
  have f0 : bTo T x 1 = p7 := by rw [← he]; exact b1 _ l7
  rw [hq] at hw
  refine Eq.trans ?_ (filt_in (n := n) hw (fun d hd => by
    simp only [List.mem_cons, List.not_mem_nil, or_false] at hd
    rcases hd with rfl | rfl | rfl | rfl | rfl | rfl | rfl | rfl <;> assumption))
  congr 1
  refine filter_alike _ fun d hd => ?_
  have hd := List.mem_range.1 hd
  rw [Bool.eq_iff_iff, decide_eq_true_eq]
  constructor
  · refine rch_in (p := fun d => d ∈ [x, p1, p2, p3, p4, p5, p6, p7]) hT hx (by simp) (fun d hd hp g hg => ?_) d hd
    rw [hl] at hg
    simp only [List.mem_cons, List.not_mem_nil, or_false] at hp ⊢
    match g, hg with
    | 0, _ => rcases hp with rfl | rfl | rfl | rfl | rfl | rfl | rfl | rfl <;> simp [← e1, ← e3, ← e5, ← e7, f1, f3, f5, f7]
    | 1, _ => rcases hp with rfl | rfl | rfl | rfl | rfl | rfl | rfl | rfl <;> simp [← e2, ← e4, ← e6, he, f0, f2, f4, f6]
  · have r0 := rch_refl hT hx
    have r1 := o0 _ hx r0; rw [← e1] at r1
    have r2 := o1 _ l1 r1; rw [← e2] at r2
    have r3 := o0 _ l2 r2; rw [← e3] at r3
    have r4 := o1 _ l3 r3; rw [← e4] at r4
    have r5 := o0 _ l4 r4; rw [← e5] at r5
    have r6 := o1 _ l5 r5; rw [← e6] at r6
    have r7 := o0 _ l6 r6; rw [← e7] at r7
    intro h
    simp only [List.mem_cons, List.not_mem_nil, or_false] at h
    rcases h with rfl | rfl | rfl | rfl | rfl | rfl | rfl | rfl <;> assumption
end Go.Proofs.Ytmdhljleaijkbaa

/- Coverings of maniplexes, plain. No program in sight. -/
namespace Go.Proofs.Ytmdhljleaijkbaa

/-- how many flags -/
def flg (d : List (List Int)) : Nat := (lget d 0).length
/-- p gives flags of d flags of e and agrees with the moves -/
structure Cov (d e : List (List Int)) (p : List Int) : Prop where
  len : p.length = flg d
  val : ∀ i, i < flg d → ∃ x : Nat, iget p i = (x : Int) ∧ x < flg e
  mov : ∀ g i, g < d.length → i < flg d → iget p (bTo d i g) = iget (lget e g) (iget p i).toNat
open Classical in
/-- the covering that gives the flag 0 the flag f -/
noncomputable def covO (d e : List (List Int)) (f : Nat) : Option (List Int) := if h : d.length = e.length ∧ ∃ p, Cov d e p ∧ iget p 0 = (f : Int) then some (Classical.choose h.2) else none
theorem man_leads {d : List (List Int)} (h : Man d) : Leads d (flg d) := rows_leads h.rows
theorem man_back {d : List (List Int)} (h : Man d) : Back2 d (flg d) := rows_back h.rows
theorem man_rch {d : List (List Int)} (h : Man d) : ∀ i, i < flg d → rch d (flg d) 0 i = true := (orb_full (man_leads h) (by have := h.f2; unfold flg; omega)).1 h.conn
/-- what holds at the flag 0 and along the moves holds everywhere -/
theorem man_ind {d : List (List Int)} (h : Man d) {p : Nat → Prop} (h0 : p 0) (hp : ∀ i, i < flg d → p i → ∀ g, g < d.length → p (bTo d i g)) : ∀ i, i < flg d → p i := fun i hi =>
  rch_in (man_leads h) (by omega) h0 hp i hi (man_rch h i hi)
theorem cov_uniq {d e : List (List Int)} (hd : Man d) {p q : List Int} (hp : Cov d e p) (hq : Cov d e q) (h0 : iget p 0 = iget q 0) : p = q :=
  iget_ext (by rw [hp.len, hq.len]) fun k hk => man_ind hd (p := fun i => iget p i = iget q i) h0 (fun i hi h g hg => by rw [hp.mov g i hg hi, hq.mov g i hg hi, h]) k (by rw [← hp.len]; exact hk)
theorem covO_some {d e : List (List Int)} {f : Nat} {p : List Int} (h : covO d e f = some p) : d.length = e.length ∧ Cov d e p ∧ iget p 0 = (f : Int) := by
  unfold covO at h
  split at h
  · rename_i hh
    injection h with h
    subst h
    exact ⟨hh.1, Classical.choose_spec hh.2⟩
  · cases h
theorem covO_eq {d e : List (List Int)} (hd : Man d) (hl : d.length = e.length) {f : Nat} {p : List Int} (hp : Cov d e p) (h0 : iget p 0 = (f : Int)) : covO d e f = some p := by
  have h : d.length = e.length ∧ ∃ p, Cov d e p ∧ iget p 0 = (f : Int) := ⟨hl, p, hp, h0⟩
  unfold covO
  rw [dif_pos h]
  have hs := Classical.choose_spec h.2
  rw [cov_uniq hd hs.1 hp (hs.2.trans h0.symm)]
theorem covO_none {d e : List (List Int)} {f : Nat} (h : ∀ p, Cov d e p → iget p 0 = (f : Int) → False) : covO d e f = none := by
  unfold covO
  rw [dif_neg]
  rintro ⟨_, p, hp, h0⟩
  exact h p hp h0
theorem covO_rank {d e : List (List Int)} {f : Nat} (h : d.length ≠ e.length) : covO d e f = none := by
  unfold covO; rw [dif_neg (fun q => h q.1)]
/-- not labelled -/
def unl (L : List Int) : Nat := (L.filter fun z => decide (z < 0)).length
theorem unl_set : ∀ {L : List Int} {y : Nat} {x : Int}, y < L.length → iget L y < 0 → 0 ≤ x → unl (L.set y x) + 1 = unl L
  | [], y, x, h, _, _ => by simp at h
  | z :: r, 0, x, _, h1, h2 => by
    have h1 : z < 0 := by simpa [iget] using h1
    simp [unl, h1, show ¬ x < 0 by omega]
  | z :: r, y + 1, x, h, h1, h2 => by
    have ih := unl_set (L := r) (y := y) (x := x) (by simpa using h) (by simpa [iget] using h1) h2
    unfold unl at ih ⊢
    simp only [List.set_cons_succ, List.filter_cons]
    split
    · simp only [List.length_cons]; omega
    · exact ih
theorem iget_setN {p : List Int} {i k : Nat} {x : Int} (hi : i < p.length) : iget (p.set i x) k = if k = i then x else iget p k := by
  unfold iget
  rw [List.getD_eq_getElem?_getD, List.getD_eq_getElem?_getD, List.getElem?_set]
  by_cases h : i = k
  · subst h; simp [hi]
  · rw [if_neg h, if_neg (fun e => h e.symm)]
/-- the search: labels L, open flags O -/
structure CvS (d e : List (List Int)) (f : Nat) (L O : List Int) : Prop where
  len : L.length = flg d
  val : ∀ i, i < flg d → iget L i = -1 ∨ ∃ x : Nat, iget L i = (x : Int) ∧ x < flg e
  zero : iget L 0 = (f : Int)
  que : ∀ z, z ∈ O → ∃ i : Nat, z = (i : Int) ∧ i < flg d ∧ iget L i ≠ -1
  done : ∀ i, i < flg d → iget L i ≠ -1 → (i : Int) ∉ O → ∀ g, g < d.length → iget L (bTo d i g) = iget (lget e g) (iget L i).toNat
  just : ∀ p, Cov d e p → iget p 0 = (f : Int) → ∀ i, i < flg d → iget L i ≠ -1 → iget p i = iget L i
section
variable {d e : List (List Int)} {f : Nat} {L O : List Int}
theorem CvS.lab (h : CvS d e f L O) {i : Nat} (hi : i < flg d) (hl : iget L i ≠ -1) : ∃ x : Nat, iget L i = (x : Int) ∧ x < flg e := (h.val i hi).resolve_left hl
theorem CvS.start (hd : Man d) (hf : f < flg e) : CvS d e f ((List.replicate (flg d) (-1)).set 0 (f : Int)) [0] := by
  have h2 : 2 ≤ flg d := hd.f2
  have hg : ∀ i, i < flg d → iget ((List.replicate (flg d) (-1)).set 0 (f : Int)) i = if i = 0 then (f : Int) else -1 := fun i hi => by
    rw [iget_setN (by simp; omega)]
    split
    · rfl
    · exact iget_rep hi
  refine ⟨by simp, fun i hi => ?_, by rw [hg 0 (by omega)]; rfl, fun z hz => ?_, fun i hi hl hn => ?_, fun p hp h0 i hi hl => ?_⟩
  · rw [hg i hi]
    split
    · exact .inr ⟨f, rfl, hf⟩
    · exact .inl rfl
  · simp at hz; subst hz
    exact ⟨0, rfl, by omega, by rw [hg 0 (by omega), if_pos rfl]; omega⟩
  · rw [hg i hi] at hl
    split at hl
    · rename_i h; subst h; exact absurd (by simp) hn
    · exact absurd rfl hl
  · rw [hg i hi] at hl ⊢
    split at hl
    · rename_i h; subst h; rw [if_pos rfl]; exact h0
    · exact absurd rfl hl
/-- the flag in front, its moves below k seen -/
structure CvF (d e : List (List Int)) (f : Nat) (L O : List Int) (x k : Nat) : Prop where
  st : CvS d e f L O
  xs : x < flg d
  lab : iget L x ≠ -1
  seen : ∀ g, g < k → iget L (bTo d x g) = iget (lget e g) (iget L x).toNat
variable {x k : Nat}
theorem CvS.front (h : CvS d e f L O) (hx : (x : Int) ∈ O) : CvF d e f L O x 0 := by
  obtain ⟨i, e1, e2, e3⟩ := h.que _ hx
  obtain rfl : x = i := by omega
  exact ⟨h, e2, e3, fun g hg => absurd hg (by omega)⟩
theorem CvF.vals (h : CvF d e f L O x k) (hd : Man d) (he : Man e) (hl : d.length = e.length) (hk : k < d.length) : ∃ y t : Nat, iget (lget d k) x = (y : Int) ∧ y < flg d ∧ bTo d x k = y ∧ (∃ u : Nat, iget L x = (u : Int) ∧ u < flg e ∧ iget (lget e k) u = (t : Int)) ∧ t < flg e := by
  obtain ⟨u, e1, e2⟩ := h.st.lab h.xs h.lab
  have h1 := bTo_lt (man_leads hd) h.xs hk
  have h2 := bTo_lt (man_leads he) e2 (by omega : k < e.length)
  exact ⟨bTo d x k, bTo e u k, h1.2, h1.1, rfl, ⟨u, e1, e2, h2.2⟩, h2.1⟩
/-- the move leads to a flag with the right label -/
theorem CvF.same (h : CvF d e f L O x k) {y t u : Nat} (hy : bTo d x k = y) (hu : iget L x = (u : Int)) (ht : iget (lget e k) u = (t : Int)) (hl : iget L y = (t : Int)) : CvF d e f L O x (k + 1) :=
  ⟨h.st, h.xs, h.lab, fun g hg => by
    by_cases e1 : g = k
    · subst e1; rw [hy, hl, hu, Int.toNat_natCast, ht]
    · exact h.seen g (by omega)⟩
/-- .. to a flag without one -/
theorem CvF.new (h : CvF d e f L O x k) (hd : Man d) (he : Man e) (hl : d.length = e.length) (hk : k < d.length) {y t u : Nat} (hy : bTo d x k = y) (hu : iget L x = (u : Int)) (hue : u < flg e) (ht : iget (lget e k) u = (t : Int)) (hte : t < flg e) (hn : iget L y < 0) : CvF d e f (L.set y (t : Int)) (O ++ [(y : Int)]) x (k + 1) := by
  have hyl : y < flg d := by rw [← hy]; exact (bTo_lt (man_leads hd) h.xs hk).1
  have hg : ∀ i, iget (L.set y (t : Int)) i = if i = y then (t : Int) else iget L i := fun i => iget_setN (by rw [h.st.len]; exact hyl)
  have hny : iget L y = -1 := by
    rcases h.st.val y hyl with e1 | ⟨z, e1, _⟩
    · exact e1
    · omega
  have hxy : x ≠ y := fun e1 => h.lab (e1 ▸ hny)
  have old : ∀ i, i < flg d → iget L i ≠ -1 → ∀ g, g < d.length → iget L (bTo d i g) = iget (lget e g) (iget L i).toNat → iget (L.set y (t : Int)) (bTo d i g) = iget (lget e g) (iget (L.set y (t : Int)) i).toNat := fun i hi hli g hgl hq => by
    have h1 : i ≠ y := fun e1 => hli (e1 ▸ hny)
    obtain ⟨z, e1, e2⟩ := h.st.lab hi hli
    have h2 := bTo_lt (man_leads he) e2 (by omega : g < e.length)
    have h3 : bTo d i g ≠ y := fun e3 => by rw [e3, hny, e1, Int.toNat_natCast, h2.2] at hq; omega
    rw [hg, if_neg h3, hg, if_neg h1, hq]
  refine ⟨⟨by rw [List.length_set]; exact h.st.len, fun i hi => ?_, ?_, fun z hz => ?_, fun i hi hli hn g hgl => ?_, fun p hp h0 i hi hli => ?_⟩, h.xs, ?_, fun g hgk => ?_⟩
  · rw [hg]
    split
    · exact .inr ⟨t, rfl, hte⟩
    · exact h.st.val i hi
  · rw [hg, if_neg]
    · exact h.st.zero
    · intro e1; have := h.st.zero; rw [e1, hny] at this; omega
  · rcases List.mem_append.1 hz with h1 | h1
    · obtain ⟨i, e1, e2, e3⟩ := h.st.que z h1
      refine ⟨i, e1, e2, ?_⟩
      rw [hg]; split
      · omega
      · exact e3
    · simp at h1; subst h1
      exact ⟨y, rfl, hyl, by rw [hg, if_pos rfl]; omega⟩
  · have hiy : i ≠ y := fun e1 => by subst e1; exact hn (by simp)
    have hli' : iget L i ≠ -1 := by rw [hg, if_neg hiy] at hli; exact hli
    exact old i hi hli' g hgl (h.st.done i hi hli' (fun q => hn (List.mem_append_left _ q)) g hgl)
  · rw [hg] at hli ⊢
    by_cases e1 : i = y
    · subst e1
      rw [if_pos rfl]
      have h1 := hp.mov k x hk h.xs
      rw [hy, h.st.just p hp h0 x h.xs h.lab, hu, Int.toNat_natCast, ht] at h1
      exact h1
    · rw [if_neg e1] at hli ⊢
      exact h.st.just p hp h0 i hi hli
  · rw [hg, if_neg hxy]; exact h.lab
  · by_cases e1 : g = k
    · subst e1
      rw [hy, hg, if_pos rfl, hg, if_neg hxy, hu, Int.toNat_natCast, ht]
    · exact old x h.xs h.lab g (by omega) (h.seen g (by omega))
/-- .. to a flag with another one -/
theorem CvF.clash (h : CvF d e f L O x k) (hd : Man d) (hk : k < d.length) {y t u : Nat} (hy : bTo d x k = y) (hu : iget L x = (u : Int)) (ht : iget (lget e k) u = (t : Int)) (hl : iget L y ≠ -1) (hne : iget L y ≠ (t : Int)) : covO d e f = none := covO_none fun p hp h0 => by
  have h1 := hp.mov k x hk h.xs
  have hyl : y < flg d := by rw [← hy]; exact (bTo_lt (man_leads hd) h.xs hk).1
  rw [hy, h.st.just p hp h0 x h.xs h.lab, hu, Int.toNat_natCast, ht, h.st.just p hp h0 y hyl hl] at h1
  exact hne h1
/-- all moves of the flag in front are seen -/
theorem CvF.next (h : CvF d e f L O x d.length) (hO : O[0]? = some (x : Int)) : CvS d e f L (O.drop 1) := by
  refine ⟨h.st.len, h.st.val, h.st.zero, fun z hz => h.st.que z (List.mem_of_mem_drop hz), fun i hi hli hn g hgl => ?_, h.st.just⟩
  by_cases e1 : i = x
  · subst e1; exact h.seen g hgl
  · refine h.st.done i hi hli (fun q => ?_) g hgl
    cases O with
    | nil => simp at q
    | cons a r =>
      simp at hO hn
      subst hO
      rcases List.mem_cons.1 q with q | q
      · exact e1 (by omega)
      · exact hn q
/-- nothing is open any more -/
theorem CvS.fin (h : CvS d e f L []) (hd : Man d) (he : Man e) (hl : d.length = e.length) : covO d e f = some L := by
  have hall : ∀ i, i < flg d → iget L i ≠ -1 := man_ind hd (p := fun i => iget L i ≠ -1) (by rw [h.zero]; omega) fun i hi hli g hg => by
    rw [h.done i hi hli (by simp) g hg]
    obtain ⟨z, e1, e2⟩ := h.lab hi hli
    rw [e1, Int.toNat_natCast, (bTo_lt (man_leads he) e2 (by omega : g < e.length)).2]
    omega
  exact covO_eq hd hl ⟨h.len, fun i hi => h.lab hi (hall i hi), fun g i hg hi => h.done i hi (hall i hi) (by simp) g hg⟩ h.zero
end
end Go.Proofs.Ytmdhljleaijkbaa

/- A queue: a slice whose front may have been cut off; append behind it. No program in sight. -/
namespace Go.Proofs.Ytmdhljleaijkbaa
open Go.RowKit

/-- the slice reads as xs, in a block of the call's own, with room up to c -/
def Que (w : World) (lo E : Nat) (ao : Option Addr) (n c : Nat) (xs : List Value) : Prop :=
  xs.length = n ∧ n ≤ c ∧ c ≤ maxLen ∧ (0 < c → ∃ g off cs, ao = some ⟨g, off, none⟩ ∧ lo ≤ g ∧ w.heap[g]? = some (.cells cs E (0, 0)) ∧ off + c ≤ cs.size ∧ ∀ j, j < n → cs[off + j]? = xs[j]?)
section
variable {w w' : World} {lo E n c : Nat} {ao : Option Addr} {xs : List Value}
theorem Own.que (h : Own w lo E ao n c xs) (hn : 0 < n) : Que w lo E ao n c xs := by
  have hl := h.len
  rcases h.1.2 with ⟨_, h0⟩ | ⟨g, cap, cur, hv, hb, hh, hnc, hcm, hs, ht⟩
  · omega
  · injection hv with h1 h2 h3
    subst h1 h3
    refine ⟨hl, hnc, hcm, fun _ => ⟨g, 0, cur, rfl, hb, hh, by omega, fun j hj => ?_⟩⟩
    rw [Nat.mul_one] at ht
    rw [Nat.zero_add, ← ht, List.getElem?_take_of_lt hj]; simp
theorem Que.same (h : Que w lo E ao n c xs) (hs : ∀ g, bk ao = some g → w'.heap[g]? = w.heap[g]?) : Que w' lo E ao n c xs := by
  obtain ⟨h1, h2, h3, h4⟩ := h
  refine ⟨h1, h2, h3, fun hc => ?_⟩
  obtain ⟨g, off, cs, rfl, hg, hh, hfit, hcell⟩ := h4 hc
  exact ⟨g, off, cs, rfl, hg, (hs g rfl).trans hh, hfit, hcell⟩
theorem Que.lt (h : Que w lo E ao n c xs) (hc : 0 < c) : ∀ g, bk ao = some g → lo ≤ g ∧ g < w.heap.size := fun g hg => by
  obtain ⟨g', off, cs, rfl, h1, hh, _⟩ := h.2.2.2 hc
  obtain rfl := Option.some.inj hg
  exact ⟨h1, (Array.getElem?_eq_some_iff.1 hh).1⟩
theorem Que.below (h : Que w lo E ao n c xs) (hb : Below w.heap.size w w') : Que w' lo E ao n c xs := by
  obtain ⟨h1, h2, h3, h4⟩ := h
  refine ⟨h1, h2, h3, fun hc => ?_⟩
  obtain ⟨g, off, cs, rfl, hg, hh, hfit, hcell⟩ := h4 hc
  exact ⟨g, off, cs, rfl, hg, (hb.block g (Array.getElem?_eq_some_iff.1 hh).1).trans hh, hfit, hcell⟩
theorem Que.head (h : Que w lo E ao n c xs) (hn : 0 < n) : ∃ g off u, ao = some ⟨g, off, none⟩ ∧ xs[0]? = some u ∧ w.cell? ⟨g, off, none⟩ = some u ∧ lo ≤ g ∧ g < w.heap.size := by
  obtain ⟨h1, h2, h3, h4⟩ := h
  obtain ⟨g, off, cs, rfl, hg, hh, hfit, hcell⟩ := h4 (by omega)
  have h0 : xs[0]? = some xs[0] := List.getElem?_eq_getElem (by omega)
  refine ⟨g, off, xs[0], rfl, h0, ?_, hg, (Array.getElem?_eq_some_iff.1 hh).1⟩
  rw [cell_of_row w g off cs E (0, 0) hh]
  have := hcell 0 hn
  rw [Nat.add_zero] at this
  rw [this, h0]
/-- the front is cut off -/
theorem Que.tail {g off : Nat} (h : Que w lo E (some ⟨g, off, none⟩) (n + 1) c xs) : Que w lo E (some ⟨g, off + 1, none⟩) n (c - 1) (xs.drop 1) := by
  obtain ⟨h1, h2, h3, h4⟩ := h
  refine ⟨by simp; omega, by omega, by omega, fun hc => ?_⟩
  obtain ⟨g', off', cs, e, hg, hh, hfit, hcell⟩ := h4 (by omega)
  injection e with e; injection e with e1 e2; subst e1 e2
  refine ⟨g, off + 1, cs, rfl, hg, hh, by omega, fun j hj => ?_⟩
  have := hcell (j + 1) (by omega)
  rw [show off + 1 + j = off + (j + 1) by omega, this, List.getElem?_drop, Nat.add_comm]
theorem Que.tail0 {g off : Nat} {bo : Option Addr} (h : Que w lo E (some ⟨g, off, none⟩) (n + 1) c xs) (hc : c = 1) : Que w lo E bo n 0 (xs.drop 1) ∧ n = 0 := by
  obtain ⟨h1, h2, h3, h4⟩ := h
  exact ⟨⟨by simp; omega, by omega, by omega, fun hc => absurd hc (by omega)⟩, by omega⟩
theorem Que.typ (h : Que w lo E ao n c xs) (hc : 0 < c) {g : Nat} (hg : bk ao = some g) : ∃ cs, w.heap[g]? = some (.cells cs E (0, 0)) := by
  obtain ⟨g', off, cs, rfl, h1, hh, _⟩ := h.2.2.2 hc
  obtain rfl := Option.some.inj hg
  exact ⟨cs, hh⟩
end
section
variable {P : Program} {ops : Array Oper} {rest : List Oper} {o : Oper} {a : Act} {Q : Exit → Act → World → Prop}
/-- append(s, x) of one element behind a queue's front; x lies in a block of its own, just laid -/
theorem wpList_apQ {S E : TypeId} {z : Value} {bytes : Nat} (et : ET P S E z bytes) (w : World) (hg : o.guard = none) (s x : Operand) (ho : o.op = .call { callee := .builtin .append, args := #[s, x], argTypes := #[S, S] })
    (lo : Nat) (ao : Option Addr) (n c : Nat) (xs : List Value) (hs : a.eval s = .slice ao n c) (hq : Que w lo E ao n c xs) (hn0 : 0 < n) (u : Value)
    (hx : a.eval x = .slice (some ⟨w.heap.size, 0, none⟩) 1 1) (hu : u.oneCell' = true) (hn : n + 1 ≤ 4398046511104) (hlo : lo ≤ w.heap.size)
    (hK : ∀ ao' c' w', Que w' lo E ao' (n + 1) c' (xs ++ [u]) → w.grownBy w' (bk ao) → (bk ao' = bk ao ∨ bk ao' = some (w.heap.size + 1)) → wpList P ops Q rest (a.put o.dst (.slice ao' (n + 1) c')) w') :
    wpList P ops Q (o :: rest) a (w.alloc (.cells #[u] E)) := by
  obtain ⟨i, hi, hz, hsz, hby⟩ := info_parts et.info
  obtain ⟨h1, h2, h3, h4⟩ := hq
  obtain ⟨g, off, cs, rfl, hgl, hh, hfit, hcell⟩ := h4 (by omega)
  have hlt : g < w.heap.size := (Array.getElem?_eq_some_iff.1 hh).1
  have hh' : (w.alloc (.cells #[u] E)).heap[g]? = some (.cells cs E (0, 0)) := (Below.heap_alloc w _ g hlt).trans hh
  have hsz' : (w.alloc (.cells #[u] E)).heap.size = w.heap.size + 1 := by simp
  have hnew : ∀ j v, [u][j]? = some v → (w.alloc (.cells #[u] E)).cell? ((⟨w.heap.size, 0, none⟩ : Addr).add j) = some v := fun j v hv => by
    match j, hv with
    | 0, hv => simp at hv; subst hv; simp [Addr.add]
  have h1c : ∀ v ∈ [u], v.oneCell' = true := fun v hv => by simp at hv; subst hv; exact hu
  have hsmall : (n + 1) * i.bytes ≤ 140737488355328 := by
    have := et.small
    have h5 : (n + 1) * i.bytes ≤ (n + 1) * 32 := Nat.mul_le_mul_left _ (by omega)
    omega
  refine wpList_plain hg fun K' hK' => ?_
  unfold Oper.wp execOp
  simp only [ho, resolve, invoke, builtin, Sem.run_bind, Sem.run_pure, Result.andThen_ok, List.map_toArray, List.map_cons, List.map_nil, hs, hx]
  by_cases hroom : n + 1 ≤ c
  · have hr := run_append_at (P := P) (ty := o.type) (w.alloc (.cells #[u] E)) S E i et.und hi g off n c cs hh' ⟨w.heap.size, 0, none⟩ 1 1 [u] (by simp [hsz]) hnew h1c hroom (by rw [hsz]; simp; omega)
    rw [hr]
    refine hK' _ _ (hK _ _ _ ?_ ?_ (.inl rfl))
    · refine ⟨by simp; omega, hroom, h3, fun _ => ⟨g, off, _, rfl, hgl, setRow_heap _ g cs _ E _ hh', ?_, fun j hj => ?_⟩⟩
      · simp [hsz]; omega
      · have htl : (cs.toList.take (off + n)).length = off + n := by simp; omega
        rw [hsz, Nat.mul_one]
        simp only [List.getElem?_toArray]
        by_cases hjn : j < n
        · rw [List.append_assoc, List.getElem?_append_left (by rw [htl]; omega), List.getElem?_take, if_pos (by omega), List.getElem?_append_left (by omega)]
          have := hcell j hjn
          simpa using this
        · obtain rfl : j = n := by omega
          rw [List.getElem?_append_left (by simp; omega), List.getElem?_append_right (by rw [htl]; omega), htl, List.getElem?_append_right (by omega), h1]
          simp
    · refine ⟨rfl, rfl, rfl, by simp, fun k hk hne => ?_⟩
      rw [setRow_other _ g k _ (fun e => hne (by rw [e]; rfl))]
      exact Below.heap_alloc w _ k hk
  · have holds : ∀ j v, xs[j]? = some v → (w.alloc (.cells #[u] E)).cell? ((⟨g, off, none⟩ : Addr).add j) = some v := fun j v hv => by
      have hj : j < n := by have := (List.getElem?_eq_some_iff.1 hv).1; omega
      rw [Addr.add_lit, cell_of_row _ g _ cs E (0, 0) hh', hcell j hj, hv]
    have hr := run_append_grow (P := P) (ty := o.type) (w.alloc (.cells #[u] E)) S E i z et.und hi hz ⟨g, off, none⟩ n c xs (by rw [hsz]; omega) holds ⟨w.heap.size, 0, none⟩ 1 1 [u] (by simp [hsz]) hnew (by omega) (by omega) (growslice_fits (by omega) hsmall)
    rw [hr]
    have hcap := grownCap_ge (w.alloc (.cells #[u] E)) (n + 1) c E
    have hcm := grownCap_le_maxLen (w.alloc (.cells #[u] E)) (n + 1) c E (by simp [maxLen]; omega)
    refine hK' _ _ (hK _ _ _ ?_ ?_ (.inr (by simp [bk])))
    · refine ⟨by simp; omega, hcap, hcm, fun _ => ⟨(w.alloc (.cells #[u] E)).heap.size, 0, xs.toArray ++ [u].toArray ++ Builtin.zeroCells z.cells (grownCap (w.alloc (.cells #[u] E)) (n + 1) c E - (n + 1)), rfl, by rw [hsz']; omega, ?_, ?_, fun j hj => ?_⟩⟩
      · exact heap_alloc_new _ _
      · have h5 : (Builtin.zeroCells z.cells (grownCap (w.alloc (.cells #[u] E)) (n + 1) c E - (n + 1))).size = grownCap (w.alloc (.cells #[u] E)) (n + 1) c E - (n + 1) := by
          rw [size_zeroCells, et.one]; simp
        simp [h5]; omega
      · rw [Nat.zero_add, Array.getElem?_append_left (by simp; omega)]
        simp [← List.getElem?_toArray]
    · refine ⟨rfl, rfl, rfl, by simp; omega, fun k hk _ => ?_⟩
      rw [Below.heap_alloc _ _ k (by show k < (w.alloc (.cells #[u] E)).heap.size; omega)]
      exact Below.heap_alloc w _ k hk
end
end Go.Proofs.Ytmdhljleaijkbaa

/- Coverings of maniplexes, the program's coveringTo. -/
namespace Go.Proofs.Ytmdhljleaijkbaa
open Go.RowKit

def isNg : Value → Bool
  | .int _ z => decide (z < 0)
  | _ => false
/-- how many of the first N cells of a block are negative -/
def negs (W : World) (g N : Nat) : Nat := match W.heap[g]? with
  | some (.cells cs _ _) => ((cs.toList.take N).filter isNg).length
  | _ => 0
def slN : Value → Nat
  | .slice _ n _ => n
  | _ => 0
theorem unl_map (L : List Int) : ((L.map (Value.int .i64)).filter isNg).length = unl L := by
  unfold unl
  rw [List.filter_map, List.length_map]
  rfl
theorem negs_own {w : World} {lo E g n c : Nat} {L : List Int} (h : Own w lo E (some ⟨g, 0, none⟩) n c (L.map (Value.int .i64))) : negs w g n = unl L := by
  rcases h.1.2 with ⟨h2, _⟩ | ⟨g', cap, cur, hv, _, hh, _, _, _, ht⟩
  · cases h2
  · injection hv with h1
    injection h1 with h1
    injection h1 with h1
    subst h1
    unfold negs
    rw [hh]
    rw [Nat.mul_one] at ht
    show ((cur.toList.take n).filter isNg).length = _
    rw [ht, unl_map]
theorem repL_rep (n : Nat) (z : Int) : repL [z] n = List.replicate n z := by
  induction n with
  | zero => rfl
  | succ n ih => rw [repL_add, ih, repL_one, List.replicate_succ']
theorem unl_start {N : Nat} (f : Nat) (h : 0 < N) : unl ((List.replicate N (-1)).set 0 (f : Int)) + 1 = N := by
  rw [unl_set (by simpa using h) (by rw [iget_rep h]; omega) (by omega)]
  unfold unl
  rw [List.filter_eq_self.2 (fun z hz => by have := List.eq_of_mem_replicate hz; subst this; rfl), List.length_replicate]
/-- what coveringTo answers -/
def CvAns (w : World) (N : Nat) (R : Option (List Int)) (e : Ending) (w' : World) : Prop :=
  ∃ (a : Option Addr) (n c : Nat), e = .returned (.slice a n c) ∧ (R = none → a = none ∧ n = 0 ∧ c = 0) ∧ (∀ p, R = some p → n = N ∧ (∃ g, a = some ⟨g, 0, none⟩) ∧ Own w' w.heap.size 2 a N c (p.map (Value.int .i64))) ∧ Below w.heap.size w w'
set_option maxRecDepth 100000 in
set_option maxHeartbeats 6400000 in
theorem coveringTo_any (ao bo : Option Addr) (n c m c' f N K : Nat) (d e : List (List Int)) (w : World) (hd : Intss w ao n d) (he : Intss w bo m e) (hM : Man d) (hE : Man e) (hN : flg d = N) (hK : flg e = K) (hf : f < K) :
    Calls Try.prog 96 #[.agg #[.slice ao n c], .agg #[.slice bo m c'], .int .i64 f] w (CvAns w N (covO d e f)) := by
  obtain ⟨R, hR⟩ : ∃ R, covO d e f = R := ⟨_, rfl⟩
  rw [hR]
  have HR := Lib.hid hR
  have HD := Lib.hid hd
  have HE := Lib.hid he
  have HM := Lib.hid hM
  have HEM := Lib.hid hE
  have HN := Lib.hid hN
  have HK := Lib.hid hK
  have hdl := hd.1
  have hel := he.1
  have hd1 := hM.n1
  have hd5 := hM.n5
  have he1 := hE.n1
  have he5 := hE.n5
  have hN2 : 2 ≤ N := by rw [← hN]; exact hM.f2
  have hN4 : N ≤ 400 := by rw [← hN]; exact hM.f4
  have hK4 : K ≤ 400 := by rw [← hK]; exact hE.f4
  clear hR hd he hM hE hN hK
  have b0 := below_alloc2 w (.cells #[.slice ao n c] 28) (.cells #[.slice bo m c'] 28)
  have km : Blk ((w.alloc (.cells #[.slice ao n c] 28)).alloc (.cells #[.slice bo m c'] 28)) w.heap.size 28 #[.slice ao n c] := (blk_at rfl).alloc _
  have kk : Blk ((w.alloc (.cells #[.slice ao n c] 28)).alloc (.cells #[.slice bo m c'] 28)) (w.heap.size + 1) 28 #[.slice bo m c'] := blk_at (by simp)
  have HD1 := Lib.hid (HD.out.below b0)
  have HE1 := Lib.hid (HE.out.below b0)
  go_enter Try.func96, Try.ntmps96
  go_upto_region 1 with fail
  generalize (w.alloc (.cells #[.slice ao n c] 28)).alloc (.cells #[.slice bo m c'] 28) = w1 at *
  have KM := Lib.hid km
  have KK := Lib.hid kk
  have hz1 := b0.size
  by_cases hrk : n = m
  · subst hrk
    have hbeq : ((n : Int) != (n : Int)) = false := by simp
    go_wp2_with (first | (go_at_call 69; first | (refine (rankM_any _ n c ao w1 KM.out).mono ?_; rintro e' w' ⟨rfl, hw⟩; subst hw) | (refine (rankM_any _ n c' bo w1 KK.out).mono ?_; rintro e' w' ⟨rfl, hw⟩; subst hw)))
    have b2 := below_alloc1 w1 (.cells #[.int .i64 (-1)] 2)
    have HI2 := Lib.hid (show Ints (w1.alloc (.cells #[.int .i64 (-1)] 2)) (some ⟨w1.heap.size, 0, none⟩) 1 [-1] from Own.ints (zs := [-1]) (own_lit (us := [.int .i64 (-1)]) rfl (Nat.le_refl _) (by simp)))
    have KM2 := Lib.hid (KM.out.belowS b2)
    have KK2 := Lib.hid (KK.out.belowS b2)
    have HD2 := Lib.hid (HD1.out.below b2)
    have HE2 := Lib.hid (HE1.out.below b2)
    have B2 := Lib.hid (b0.trans (b2.mono hz1))
    clear b0 b2 km kk KM KK HD1 HE1
    go_wp2_with fail
    generalize w1.alloc (.cells #[.int .i64 (-1)] 2) = w2 at *
    refine (flagsI_any _ ao n c N d w2 KM2.out ⟨ao, n, c, rfl, HD2.out⟩ (by omega) HN.out (by omega)).mono ?_
    rintro e' w' ⟨rfl, hw⟩
    subst hw
    go_wp2_with fail
    refine (repeat_any _ 1 1 N [-1] w2 HI2.out (by omega) (by omega) (by omega) (by omega)).mono ?_
    rintro e' w3 ⟨ga, gc, rfl, o3, b3⟩
    rw [Nat.one_mul, repL_rep] at o3
    obtain ⟨gl, rfl, hglb, hgll, -, hcell3, hfr3⟩ := o3.form (by omega)
    have hz2 := B2.out.size
    have x0 : w3.cell? ⟨gl, 0, none⟩ = some (.int .i64 (-1)) := by rw [hcell3 0 (by omega), List.getElem?_map, List.getElem?_replicate, if_pos (by omega)]; rfl
    have f0 := hfr3 0
    obtain ⟨st, sg⟩ := o3.stored 0 (.int .i64 (f : Int))
    have B4 := Lib.hid (b3.grown sg b3.size (fun g e => by injection e with e; omega))
    have HS := Lib.hid (CvS.start (f := f) HM.out (by rw [HK.out]; exact hf))
    have O4 := Lib.hid (show Own (w3.setCell ⟨gl, 0, none⟩ (.int .i64 (f : Int))) w2.heap.size 2 (some ⟨gl, 0, none⟩) N gc (((List.replicate (flg d) (-1)).set 0 (f : Int)).map (Value.int .i64)) from by
      rw [HN.out, List.map_set]
      simpa using st)
    clear st sg o3 b3 hcell3 hfr3
    have hN1 : 0 < N := by omega
    rw [Nat.one_mul]
    go_upto_region 5 with fail
    generalize w3.setCell ⟨gl, 0, none⟩ (.int .i64 (f : Int)) = w4 at *
    clear x0 f0
    have hz4 := B4.out.size
    have b5 := below_alloc1 w4 (.cells #[.int .i64 0] 2)
    have hQ := (own_lit (w := w4) (base := w4.heap.size) (E := 2) (us := [.int .i64 0]) rfl (Nat.le_refl _) (by simp)).que (by simp)
    have Q5 := Lib.hid hQ
    have O5 := Lib.hid (O4.out.below b5)
    have B5 := Lib.hid (B4.out.trans (b5.mono hz4))
    have hgl4 : gl < w4.heap.size := (O4.out.lt gl rfl).2
    obtain ⟨lq, hlq⟩ : ∃ lq, w4.heap.size = lq := ⟨_, rfl⟩
    have HLQ := Lib.hid hlq
    clear b5 B4 O4 hQ
    go_wp2_with fail
    generalize w4.alloc (.cells #[.int .i64 0] 2) = w5 at *
    rw [hlq] at Q5 hgl4
    have hz5 := B5.out.size
    have hlq5 : lq ≤ w5.heap.size := by exact Nat.le_of_lt (Q5.out.lt Nat.zero_lt_one lq rfl).2
    clear hlq
    go_loopw [8] (fun qv wr => ∃ (qn qc : Nat) (qa : Option Addr) (L O : List Int), qv = .slice qa qn qc ∧ CvS d e f L O ∧ Own wr w2.heap.size 2 (some ⟨gl, 0, none⟩) N gc (L.map (Value.int .i64)) ∧ Que wr lq 2 qa qn qc (O.map (Value.int .i64)) ∧ Below w2.heap.size w2 wr ∧ lq ≤ wr.heap.size ∧ 2 * unl L + qn ≤ 2 * N) (fun qv W => 2 * negs W gl N + slN qv)
    case atStart => exact ⟨1, 1, _, _, [0], rfl, HS.out, O5.out, Q5.out, B5.out, hlq5, by have := unl_start f hN1; rw [HN.out]; omega⟩
    case round =>
      clear O5 Q5 B5 HS hz5 hlq5
      obtain ⟨qn, qc, qa, L, O, rfl, st, ol, oq, hb, hlw, hfew⟩ := hrel
      obtain ⟨wA, rfl⟩ : ∃ x, x = wr := ⟨_, rfl⟩
      have hqO : O.length = qn := by have := oq.1; simpa using this
      by_cases hq : 0 < qn
      · obtain ⟨gq, off, u, rfl, hu0, hcq, hgq1, hgq2⟩ := oq.head hq
        obtain ⟨z, hz⟩ : ∃ z, O[0]? = some z := ⟨_, List.getElem?_eq_getElem (by omega)⟩
        obtain ⟨x, rfl, hxN, hxl⟩ := st.que z (List.mem_of_getElem? hz)
        have hue : u = .int .i64 (x : Int) := by
          rw [List.getElem?_map, hz] at hu0
          exact (Option.some.inj hu0).symm
        subst hue
        have HF := Lib.hid (st.front (List.mem_of_getElem? hz))
        have HZ := Lib.hid hz
        have HUN := Lib.hid (negs_own ol)
        have OL := Lib.hid ol
        have OQ := Lib.hid oq
        have HB := Lib.hid hb
        have hgt : (0 : Int) < (qn : Int) := by omega
        have xm := (KM2.out.belowS hb).cell 0
        simp at xm
        clear st ol oq hz hu0
        go_wp2_with fail
        go_loopw [8, 35] (fun qv kv wr => ∃ (k qn' qc' : Nat) (qa : Option Addr) (L' O' : List Int), qv = .slice qa qn' qc' ∧ kv = .int .i64 k ∧ k ≤ n ∧ 0 < qn' ∧ CvF d e f L' O' x k ∧ O'[0]? = some (x : Int) ∧ Own wr w2.heap.size 2 (some ⟨gl, 0, none⟩) N gc (L'.map (Value.int .i64)) ∧ Que wr lq 2 qa qn' qc' (O'.map (Value.int .i64)) ∧ Below w2.heap.size w2 wr ∧ lq ≤ wr.heap.size ∧ 2 * unl L' + qn' ≤ 2 * unl L + qn) (fun _ kv _ => n - (intOf kv).toNat)
        case atStart => exact ⟨0, qn, qc, _, L, O, rfl, rfl, Nat.zero_le _, hq, HF.out, HZ.out, OL.out, OQ.out, HB.out, hlw, Nat.le_refl _⟩
        case round =>
          clear HF HZ OL OQ HB hb hlw xm
          obtain ⟨k, qn', qc', qa', L', O', rfl, rfl, hk, hq', hF, hO0, ol, oq, hb, hlw, hmu⟩ := hrel
          obtain ⟨wC, rfl⟩ : ∃ x, x = wr := ⟨_, rfl⟩
          by_cases hlt : k < n
          · obtain ⟨y, t, hy1, hy2, hy3, ⟨u, hu1, hu2, hu3⟩, ht2⟩ := hF.vals HM.out HEM.out (by omega) (by omega)
            obtain ⟨b1, off1, a1, n1, c1, rfl, hc1, hi1⟩ := (HD2.out.below hb).at_ hlt
            obtain ⟨b3, off3, a3, n3, c3, rfl, hc3, hi3⟩ := (HE2.out.below hb).at_ hlt
            have hn1 : n1 = N := by rw [← hi1.1, ← HN.out]; exact HM.out.len k (by omega)
            have hn3 : n3 = K := by rw [← hi3.1, ← HK.out]; exact HEM.out.len k (by omega)
            subst hn1
            subst hn3
            obtain ⟨b2, off2, rfl, hc2⟩ := hi1.at_ (show x < n1 by rw [← HN.out]; exact hxN)
            obtain ⟨b4, off4, rfl, hc4⟩ := hi3.at_ (show u < n3 by rw [← HK.out]; exact hu2)
            rw [hy1] at hc2
            rw [hu3] at hc4
            obtain ⟨gl', egl, -, -, -, hcl, hfl⟩ := ol.form (by omega)
            injection egl with egl
            injection egl with egl
            subst egl
            have hLl := hF.st.len
            have rowL : ∀ j, j < n1 → wC.cell? ⟨gl, j, none⟩ = some (.int .i64 (iget L' j)) := fun j hj => by rw [hcl j hj, List.getElem?_map, List.getElem?_eq_getElem (by rw [hLl, HN.out]; exact hj), iget_lt (by rw [hLl, HN.out]; exact hj)]; rfl
            have hyN : y < n1 := by rw [← HN.out]; exact hy2
            have hxN' : x < n1 := by rw [← HN.out]; exact hxN
            have hcx := rowL x hxN'
            have hcy := rowL y hyN
            have hfy := hfl y
            rw [hu1] at hcx
            have hx0 : (x : Int) < (n1 : Int) := by omega
            have hu0 : (u : Int) < (n3 : Int) := by have := HK.out; omega
            have hy0 : (y : Int) < (n1 : Int) := by omega
            have hk0 : (k : Int) < (n : Int) := by omega
            have xk := (KK2.out.belowS hb).cell 0
            simp at xk
            have HFF := Lib.hid hF
            have OL := Lib.hid ol
            have OQ := Lib.hid oq
            have HB := Lib.hid hb
            have HY := Lib.hid hy3
            have HU := Lib.hid hu1
            have HT := Lib.hid hu3
            have HT2 := Lib.hid ht2
            have HU2 := Lib.hid hu2
            have HO0 := Lib.hid hO0
            clear hF ol oq hb hy1 hy2 hy3 hu1 hu2 hu3 ht2 hi1 hi3 hcl hfl rowL hO0
            by_cases hneg : iget L' y < 0
            · have hdn : decide (iget L' y < 0) = true := decide_eq_true hneg
              go_wp2_with fail
              go_quiet (fail)
              go_upto_region 15 with fail
              obtain ⟨st, sg⟩ := (OL.out.drewN nq).stored y (.int .i64 (t : Int))
              have HNW := Lib.hid (HFF.out.new HM.out HEM.out (by omega) (by omega) HY.out HU.out HU2.out HT.out HT2.out hneg)
              have HUS := Lib.hid (unl_set (L := L') (y := y) (x := (t : Int)) (by rw [hLl, HN.out]; exact hyN) hneg (by omega))
              have hB4 := Lib.hid ((below_drewN HB.out nq).grown sg HB.out.size (fun g e => by injection e with e; omega))
              have hcq : 0 < qc' := by have := OQ.out.2.1; omega
              have hQ4 := Lib.hid (OQ.out.same (w' := (wC.drewN nq).setCell ⟨gl, y, none⟩ (.int .i64 (t : Int))) fun g eg => sg.block g ((OQ.out.lt hcq g eg).2) (fun e => by injection e with e; have := (OQ.out.lt hcq g eg).1; omega))
              have hO4 := Lib.hid (show Own ((wC.drewN nq).setCell ⟨gl, y, none⟩ (.int .i64 (t : Int))) w2.heap.size 2 (some ⟨gl, 0, none⟩) n1 gc ((L'.set y (t : Int)).map (Value.int .i64)) from by rw [List.map_set]; exact st)
              have hlw4 : lq ≤ ((wC.drewN nq).setCell ⟨gl, y, none⟩ (.int .i64 (t : Int))).heap.size := by have := sg.size; exact Nat.le_trans hlw this
              clear st sg
              generalize (wC.drewN nq).setCell ⟨gl, y, none⟩ (.int .i64 (t : Int)) = w6 at *
              go_wp2_with (at_builtin; refine wpList_apQ etI w6 rfl _ _ rfl lq qa' qn' qc' _ rfl hQ4.out hq' (.int .i64 (y : Int)) rfl rfl (by omega) hlw4 ?_; intro ao7 c7 w7 q7 g7 hat7)
              have Q7 := Lib.hid q7
              have O7 := Lib.hid (hO4.out.same (w' := w7) fun g eg => g7.block g (hO4.out.lt g eg).2 (fun e => by have := (hQ4.out.lt hcq g e.symm).1; have e2 : gl = g := (by simpa [bk] using eg); omega))
              have B7 := Lib.hid (hB4.out.grown g7 hB4.out.size (fun g e => by have := (hQ4.out.lt hcq g e).1; omega))
              have hl7 := g7.size
              clear q7 g7 hat7 hQ4 hO4 hB4
              go_roundw
              case rel => exact ⟨k + 1, qn' + 1, c7, ao7, _, _, rfl, by go_num, by omega, by omega, HNW.out, by rw [List.getElem?_append_left (List.getElem?_eq_some_iff.1 HO0.out).1]; exact HO0.out, O7.out, by rw [List.map_append]; exact Q7.out, B7.out, by omega, by have := HUS.out; omega⟩
              case measure => simp [intOf]; omega
            · have hdn : decide (iget L' y < 0) = false := decide_eq_false hneg
              by_cases heq : iget L' y = (t : Int)
              · have hne : (iget L' y != (t : Int)) = false := by simp [heq]
                have HSM := Lib.hid (HFF.out.same HY.out HU.out HT.out heq)
                clear heq
                go_wp2_with fail
                go_quiet (fail)
                go_wp2
                go_roundw
                case rel => exact ⟨k + 1, qn', qc', qa', L', O', rfl, by go_num, by omega, hq', HSM.out, HO0.out, OL.out.drewN _, OQ.out.same (fun _ _ => rfl), below_drewN HB.out _, hlw, hmu⟩
                case measure => simp [intOf]; omega
              · have hne : (iget L' y != (t : Int)) = true := by simp [heq]
                have hnl : iget L' y ≠ -1 := by omega
                have hRn : R = none := by rw [← HR.out]; exact HFF.out.clash HM.out (by omega) HY.out HU.out HT.out hnl heq
                have HB0 := Lib.hid (B2.out.trans (HB.out.mono hz2))
                have HRN := Lib.hid hRn
                clear hRn heq
                go_wp2_with fail
                go_quiet (fail)
                go_wp2
                go_ret
                exact ⟨none, 0, 0, rfl, fun _ => ⟨rfl, rfl, rfl⟩, fun p h => (by rw [HRN.out] at h; cases h), below_drewN HB0.out _⟩
          · obtain rfl : k = n := by omega
            have hNX := Lib.hid (show CvS d e f L' (O'.drop 1) from (hdl ▸ hF : CvF d e f L' O' x d.length).next hO0)
            obtain ⟨g2, off2, u2, rfl, -, -, -, -⟩ := oq.head hq'
            obtain ⟨q2, rfl⟩ : ∃ q, qn' = q + 1 := ⟨qn' - 1, by omega⟩
            have hqc := oq.2.1
            have hcb := oq.2.2.1
            have OQ := Lib.hid oq
            have OL := Lib.hid ol
            have HB := Lib.hid hb
            have HUA := Lib.hid (negs_own ol)
            clear hF oq ol hb hO0
            have hge : (1 : Int) ≤ (qc' : Int) := by omega
            have hge2 : (1 : Int) ≤ ((q2 + 1 : Nat) : Int) := by omega
            have hmap : (O'.drop 1).map (Value.int .i64) = (O'.map (Value.int .i64)).drop 1 := List.map_drop
            by_cases hc1 : qc' = 1
            · obtain ⟨hT, hq20⟩ := OQ.out.tail0 (bo := some ⟨g2, off2, none⟩) hc1
              subst hc1
              subst hq20
              have HTQ := Lib.hid hT
              clear hT
              go_wp2
              refine ⟨⟨0, 0, _, _, _, rfl, hNX.out, OL.out, by rw [hmap]; exact HTQ.out, HB.out, hlw, by omega⟩, ?_⟩
              rw [HUA.out, HUN.out]
              show 2 * unl L' + 0 < 2 * unl L + qn
              omega
            · have HTQ := Lib.hid OQ.out.tail
              go_wp2
              refine ⟨⟨q2, qc' - 1, _, _, _, rfl, hNX.out, OL.out, by rw [hmap]; exact HTQ.out, HB.out, hlw, by omega⟩, ?_⟩
              rw [HUA.out, HUN.out]
              show 2 * unl L' + q2 < 2 * unl L + qn
              omega
      · obtain rfl : qn = 0 := by omega
        obtain rfl : O = [] := List.eq_nil_of_length_eq_zero hqO
        have hfin := st.fin HM.out HEM.out (by omega)
        rw [HR.out] at hfin
        subst hfin
        have OL := Lib.hid (ol.mono (show w.heap.size ≤ w2.heap.size from hz2))
        have HB0 := Lib.hid (B2.out.trans (hb.mono hz2))
        clear st ol oq hb
        go_wp2
        go_ret
        exact ⟨_, _, _, rfl, fun h => (by cases h), fun p h => (by injection h with h; subst h; exact ⟨rfl, ⟨gl, rfl⟩, OL.out⟩), HB0.out⟩
  · have hrn : R = none := by rw [← HR.out]; exact covO_rank (by omega)
    subst hrn
    have hbeq : ((n : Int) != (m : Int)) = true := by simp; omega
    go_wp2_with (first | (go_at_call 69; first | (refine (rankM_any _ n c ao w1 KM.out).mono ?_; rintro e' w' ⟨rfl, hw⟩; subst hw) | (refine (rankM_any _ m c' bo w1 KK.out).mono ?_; rintro e' w' ⟨rfl, hw⟩; subst hw)))
    go_ret
    exact ⟨none, 0, 0, rfl, fun _ => ⟨rfl, rfl, rfl⟩, fun p h => (by cases h), b0⟩
end Go.Proofs.Ytmdhljleaijkbaa

/- IsDiagram, the program's and the reference's. -/
namespace Go.Proofs.Ytmdhljleaijkbaa
open Go.RowKit

end Go.Proofs.Ytmdhljleaijkbaa

/- The presentation of a diagram: what both call. -/
namespace Go.Proofs.Ytmdhljleaijkbaa
open Go.RowKit

end Go.Proofs.Ytmdhljleaijkbaa

/- The presentation of a diagram: the data, and how one relator more is laid. -/
namespace Go.Proofs.Ytmdhljleaijkbaa
open Go.RowKit

end Go.Proofs.Ytmdhljleaijkbaa

/- WithRelators, the reference's parts: l01Own, l01Own2, l11Code. -/
namespace Go.Proofs.Ytmdhljleaijkbaa
open Go.RowKit

/-- a list of the call's own, just made, is laid at the end of a row of lists -/
theorem rows_push2 {T1 E lo : Nat} {wr w2 w3 w4 : World} {ao ao' ao2 : Option Addr} {m c n' c' c2 : Nat} {us : List Value} {ds : List (List Int)} {zs : List Int}
    (hR : OwR (OwS T1) wr lo wr.heap.size E ao m c us ds) (hlo : lo ≤ wr.heap.size) (hb : Below wr.heap.size wr w2) (hu : Own w2 wr.heap.size T1 ao' n' c' (zs.map (Value.int .i64))) (hb3 : Below w2.heap.size w2 w3)
    (hown : Own w4 lo E ao2 (m + 1) c2 (us ++ [.slice ao' n' c'])) (hg : w3.grownBy w4 (bk ao)) (hat : bk ao2 = bk ao ∨ ∃ g, bk ao2 = some g ∧ w2.heap.size ≤ g) :
    OwR (OwS T1) w4 lo w4.heap.size E ao2 (m + 1) c2 (us ++ [.slice ao' n' c']) (ds ++ [zs]) := by
  have hR3 : OwR (OwS T1) w3 lo wr.heap.size E ao m c us ds := hR.below (innerS _) (hb.trans (hb3.mono hb.size))
  have s1 := hb.size
  have s2 := hb3.size
  have s3 := hg.size
  have hub : ∀ g, bk ao' = some g → wr.heap.size ≤ g ∧ g < w2.heap.size := hu.lt
  have hne : ∀ g, bk ao' = some g → bk ao ≠ some g := fun g h1 h2 => by have := hub g h1; have := hR.top g h2; omega
  have hu4 : OwS T1 w4 (.slice ao' n' c') zs := (innerS T1).loc (w := w2) ⟨ao', n', c', rfl, hu.mono (Nat.zero_le _)⟩ fun g h => by
    rw [ownBlock_slice] at h
    have := hub g h
    rw [hg.block g (by omega) (fun e => hne g h e.symm)]
    exact hb3.block g this.2
  refine hR3.push (innerS _) hown hg hu4 (in_slice fun g h => ⟨by have := hub g h; omega, by have := hub g h; omega⟩) (fun g h => (hown.lt g h).2) (by omega) ?_ ?_
  · intro g h
    rcases hat with h1 | ⟨g1, h1, h5⟩
    · exact .inl (h1 ▸ h)
    · refine .inr fun j u hj e => ?_
      rw [h1] at h; obtain rfl := Option.some.inj h
      have := (hR3.rng j u hj _ e).2
      omega
  · intro g h
    rw [ownBlock_slice] at h
    have hh := hub g h
    refine ⟨fun e => ?_, fun j v hj e => ?_⟩
    · rcases hat with h1 | ⟨g1, h1, h5⟩
      · exact hne g h (h1 ▸ e)
      · rw [h1] at e; have := Option.some.inj e; omega
    · have := (hR3.rng j v hj _ e).2; omega
end Go.Proofs.Ytmdhljleaijkbaa

/- All coverings, the program's coveringsOf. -/
namespace Go.Proofs.Ytmdhljleaijkbaa
open Go.RowKit

/-- the coverings that give the flag 0 a flag below k -/
noncomputable def cvL (d e : List (List Int)) (k : Nat) : List (List Int) := (List.range k).filterMap (covO d e)
theorem cvL_none {d e : List (List Int)} {k : Nat} (h : covO d e k = none) : cvL d e (k + 1) = cvL d e k := by
  unfold cvL; rw [List.range_succ, List.filterMap_append]; simp [h]
theorem cvL_some {d e : List (List Int)} {k : Nat} {p : List Int} (h : covO d e k = some p) : cvL d e (k + 1) = cvL d e k ++ [p] := by
  unfold cvL; rw [List.range_succ, List.filterMap_append]; simp [h]
theorem cvL_len (d e : List (List Int)) (k : Nat) : (cvL d e k).length ≤ k := by
  have := List.length_filterMap_le (covO d e) (List.range k)
  simpa [cvL] using this
/-- what coveringsOf answers -/
def CvsAns (w : World) (L : List (List Int)) (e : Ending) (w' : World) : Prop :=
  ∃ (a : Option Addr) (n c : Nat) (us : List Value), e = .returned (.slice a n c) ∧ OwR (OwS 2) w' w.heap.size w'.heap.size 32 a n c us L ∧ Below w.heap.size w w'
set_option maxRecDepth 100000 in
set_option maxHeartbeats 6400000 in
theorem coveringsOf_any (ao bo : Option Addr) (n c m c' N K : Nat) (d e : List (List Int)) (w : World) (hd : Intss w ao n d) (he : Intss w bo m e) (hM : Man d) (hE : Man e) (hN : flg d = N) (hK : flg e = K) :
    Calls Try.prog 50 #[.agg #[.slice ao n c], .agg #[.slice bo m c']] w (CvsAns w (cvL d e K)) := by
  have HD := Lib.hid hd
  have HE := Lib.hid he
  have HM := Lib.hid hM
  have HEM := Lib.hid hE
  have HN := Lib.hid hN
  have HK := Lib.hid hK
  have he1 := hE.n1
  have hel := he.1
  have hK4 : K ≤ 400 := by rw [← hK]; exact hE.f4
  have hN2 : 2 ≤ N := by rw [← hN]; exact hM.f2
  clear hd he hM hE hN hK
  have b0 := below_alloc2 w (.cells #[.slice ao n c] 28) (.cells #[.slice bo m c'] 28)
  have km : Blk ((w.alloc (.cells #[.slice ao n c] 28)).alloc (.cells #[.slice bo m c'] 28)) w.heap.size 28 #[.slice ao n c] := (blk_at rfl).alloc _
  have kk : Blk ((w.alloc (.cells #[.slice ao n c] 28)).alloc (.cells #[.slice bo m c'] 28)) (w.heap.size + 1) 28 #[.slice bo m c'] := blk_at (by simp)
  have HD1 := Lib.hid (HD.out.below b0)
  have HE1 := Lib.hid (HE.out.below b0)
  go_enter Try.func50, Try.ntmps50
  go_upto_region 2 with fail
  generalize (w.alloc (.cells #[.slice ao n c] 28)).alloc (.cells #[.slice bo m c'] 28) = w1 at *
  have KM := Lib.hid km
  have KK := Lib.hid kk
  have HB0 := Lib.hid b0
  have hz1 := b0.size
  clear b0 km kk
  go_wp2_with fail
  refine (flagsI_any _ bo m c' K e w1 KK.out ⟨bo, m, c', rfl, HE1.out⟩ (by omega) HK.out (by omega)).mono ?_
  rintro e' w' ⟨rfl, hw⟩
  subst hw
  have hN0 : OwR (OwS 2) w1 w1.heap.size w1.heap.size 32 none 0 0 [] [] := OwR.empty_ (Own.nil_ _ _ _) (fun g hg => by cases hg)
  go_wp2_with fail
  go_loopw [5, 9] (fun sv fv wr => ∃ (f k : Nat) (a : Option Addr) (cc : Nat) (us : List Value), sv = .slice a k cc ∧ fv = .int .i64 f ∧ f ≤ K ∧ k ≤ f ∧ OwR (OwS 2) wr w1.heap.size wr.heap.size 32 a k cc us (cvL d e f) ∧ Below w1.heap.size w1 wr) (fun _ fv _ => K - (intOf fv).toNat)
  case atStart => exact ⟨0, 0, none, 0, [], rfl, rfl, Nat.zero_le _, Nat.le_refl _, hN0, Below.refl _ _⟩
  case round =>
    clear hN0
    obtain ⟨f, k, a, cc, us, rfl, rfl, hf, hkf, ho, hb⟩ := hrel
    obtain ⟨wA, rfl⟩ : ∃ x, x = wr := ⟨_, rfl⟩
    have OR := Lib.hid ho
    have hsz := hb.size
    clear ho
    by_cases hlt : f < K
    · have xm := (KM.out.belowS hb).cell 0
      have xk := (KK.out.belowS hb).cell 0
      simp at xm xk
      go_wp2_with fail
      refine (coveringTo_any ao bo n c m c' f N K d e wA (HD1.out.below hb) (HE1.out.below hb) HM.out HEM.out HN.out HK.out hlt).mono ?_
      rintro e' w2 ⟨a2, n2, c2, rfl, hno, hyes, b2⟩
      have hB2 := Lib.hid (hb.trans (b2.mono hsz))
      have OR2 := Lib.hid (OR.out.below (innerS _) b2)
      have hz2 := b2.size
      cases hc : covO d e f with
      | none =>
        obtain ⟨rfl, rfl, rfl⟩ := hno hc
        have HL := Lib.hid (cvL_none hc)
        clear hno hyes hc
        go_wp2
        go_roundw
        case rel => exact ⟨f + 1, k, a, cc, us, rfl, by go_num, by omega, by omega, by rw [HL.out]; exact OR2.out.mono (Nat.le_refl _) hz2, hB2.out⟩
        case measure => simp [intOf]; omega
      | some p =>
        obtain ⟨rfl, ⟨g2, rfl⟩, o2⟩ := hyes p hc
        have HL := Lib.hid (cvL_some hc)
        have O2 := Lib.hid o2
        have BB := Lib.hid b2
        have OR1 := Lib.hid OR.out
        clear hno hyes hc o2
        go_wp2_with (at_builtin; refine wpList_ap1 etSS _ rfl _ _ rfl w1.heap.size a k cc _ rfl OR2.out.own (.slice (some ⟨g2, 0, none⟩) n2 c2) rfl rfl (by omega) (by omega) ?_; intro ao3 c3 w3 o3 g3 hat3)
        have OR3 := Lib.hid (rows_push2 OR1.out hsz BB.out O2.out (Below.refl _ _) o3 g3 (hat3.imp id fun e => ⟨_, e, Nat.le_succ _⟩))
        have B3 := Lib.hid (hB2.out.grown g3 (by omega) (fun g hg => (OR2.out.own.lt g hg).1))
        clear o3 g3 hat3
        go_roundw
        case rel => exact ⟨f + 1, k + 1, ao3, c3, _, rfl, by go_num, by omega, by omega, by rw [HL.out]; exact OR3.out, B3.out⟩
        case measure => simp [intOf]; omega
    · obtain rfl : f = K := by omega
      have BF := Lib.hid (HB0.out.trans (hb.mono hz1))
      go_wp2
      go_ret
      exact ⟨a, k, cc, us, rfl, OR.out.mono hz1 (Nat.le_refl _), BF.out⟩
end Go.Proofs.Ytmdhljleaijkbaa

/- Counting: pigeonholes; onto and one to one. No program in sight. -/
namespace Go.Proofs.Ytmdhljleaijkbaa

theorem holes : ∀ (m n : Nat) (f : Nat → Nat), (∀ i, i < n → f i < m) → (∀ i j, i < n → j < n → f i = f j → i = j) → n ≤ m
  | 0, n, f, h, _ => by
    rcases Nat.eq_zero_or_pos n with e | e
    · omega
    · have := h 0 e; omega
  | m + 1, 0, f, _, _ => Nat.zero_le _
  | m + 1, n + 1, f, h, hi => by
    have := holes m n (fun i => if f i = m then f n else f i) (fun i hin => by
      have h1 := h i (by omega)
      have h2 := h n (by omega)
      have h3 := hi i n (by omega) (by omega)
      split <;> omega) (fun i j hin hjn e => by
      have h3 := hi i n (by omega) (by omega)
      have h4 := hi j n (by omega) (by omega)
      have h5 := hi i j (by omega) (by omega)
      split at e <;> split at e
      · omega
      · exact absurd (h4 e.symm) (by omega)
      · exact absurd (h3 e) (by omega)
      · exact h5 e)
    omega
/-- what meets all of n points from n points is one to one -/
theorem onto_inj {n : Nat} {f : Nat → Nat} (_h : ∀ i, i < n → f i < n) (hs : ∀ y, y < n → ∃ i, i < n ∧ f i = y) {a b : Nat} (ha : a < n) (hb : b < n) (e : f a = f b) : a = b := by
  apply Classical.byContradiction
  intro hne
  have hg : ∃ g : Nat → Nat, ∀ y, y < n → g y < n ∧ f (g y) = y ∧ g y ≠ b := by
    refine Classical.axiomOfChoice (r := fun y i => y < n → i < n ∧ f i = y ∧ i ≠ b) fun y => ?_
    by_cases hy : y < n
    · by_cases hya : y = f b
      · exact ⟨a, fun _ => ⟨ha, by rw [hya]; exact e, hne⟩⟩
      · obtain ⟨i, h1, h2⟩ := hs y hy
        exact ⟨i, fun _ => ⟨h1, h2, fun e2 => hya (by rw [← h2, e2])⟩⟩
    · exact ⟨0, fun q => absurd q hy⟩
  obtain ⟨g, hg⟩ := hg
  have := holes (n - 1) n (fun i => if g i = n - 1 then b else g i) (fun i hi' => by
    obtain ⟨h1, h2, h3⟩ := hg i hi'
    split
    · omega
    · omega) (fun i j hi' hj' q => by
    obtain ⟨h1, h2, h3⟩ := hg i hi'
    obtain ⟨k1, k2, k3⟩ := hg j hj'
    have q2 : g i = g j := by
      split at q <;> split at q
      · omega
      · exact absurd q.symm k3
      · exact absurd q h3
      · exact q
    rw [← h2, ← k2, q2])
  omega
end Go.Proofs.Ytmdhljleaijkbaa

/- Automorphisms of maniplexes, plain. No program in sight. -/
namespace Go.Proofs.Ytmdhljleaijkbaa

section
variable {d e k : List (List Int)}
/-- the flag that a flag gets -/
def at_ (p : List Int) (i : Nat) : Nat := (iget p i).toNat
theorem Cov.at_lt {p : List Int} (h : Cov d e p) {i : Nat} (hi : i < flg d) : at_ p i < flg e ∧ iget p i = (at_ p i : Int) := by
  obtain ⟨x, h1, h2⟩ := h.val i hi
  unfold at_; rw [h1]; exact ⟨by omega, by omega⟩
theorem Cov.on {p : List Int} (h : Cov d e p) {g i : Nat} (hg : g < d.length) (hi : i < flg d) : at_ p (bTo d i g) = bTo e (at_ p i) g := by
  unfold at_ bTo
  rw [← h.mov g i hg hi]; rfl
theorem cov_mk (f : Nat → Nat) (hv : ∀ i, i < flg d → f i < flg e) (hd : Man d) (he : Man e) (hl : d.length = e.length) (hm : ∀ g i, g < d.length → i < flg d → f (bTo d i g) = bTo e (f i) g) : Cov d e ((List.range (flg d)).map fun i => (f i : Int)) ∧ ∀ i, i < flg d → at_ ((List.range (flg d)).map fun i => (f i : Int)) i = f i := by
  have hg : ∀ i, i < flg d → iget ((List.range (flg d)).map fun i => (f i : Int)) i = (f i : Int) := fun i hi => by simp [iget, hi]
  refine ⟨⟨by simp, fun i hi => ⟨f i, hg i hi, hv i hi⟩, fun g i hgl hi => ?_⟩, fun i hi => by unfold at_; rw [hg i hi]; omega⟩
  have h1 := bTo_lt (man_leads hd) hi hgl
  rw [hg i hi, hg _ h1.1, hm g i hgl hi, Int.toNat_natCast]
  exact (bTo_lt (man_leads he) (hv i hi) (by omega)).2.symm
/-- coverings meet all flags -/
theorem Cov.onto {p : List Int} (h : Cov d e p) (hd : Man d) (he : Man e) (hl : d.length = e.length) : ∀ y, y < flg e → ∃ i, i < flg d ∧ at_ p i = y := by
  have h2 : 0 < flg d := by have := hd.f2; unfold flg; omega
  have key : ∀ j, j < flg e → ∀ i0, i0 < flg d → (rch e (flg e) (at_ p i0) j = true → ∃ i, i < flg d ∧ at_ p i = j) := fun j hj i0 hi0 hr =>
    rch_in (man_leads he) (h.at_lt hi0).1 (p := fun j => ∃ i, i < flg d ∧ at_ p i = j) ⟨i0, hi0, rfl⟩ (fun x hx ⟨i, hi, hix⟩ g hg => ⟨bTo d i g, (bTo_lt (man_leads hd) hi (by omega)).1, by rw [h.on (by omega) hi, hix]⟩) j hj hr
  intro y hy
  refine key y hy 0 h2 ?_
  have h0 := (h.at_lt h2).1
  have := man_rch he _ h0
  exact rch_trans (man_leads he) h0 (by have := he.f2; unfold flg; omega) hy (rch_symm (man_leads he) (man_back he) (by have := he.f2; unfold flg; omega) h0 this) (man_rch he y hy)
theorem Cov.comp {p q : List Int} (hp : Cov d e p) (hq : Cov e k q) (hd : Man d) (hk : Man k) (hl : d.length = e.length) (hl2 : e.length = k.length) : ∃ r, Cov d k r ∧ ∀ i, i < flg d → at_ r i = at_ q (at_ p i) := by
  obtain ⟨h1, h2⟩ := cov_mk (d := d) (e := k) (fun i => at_ q (at_ p i)) (fun i hi => (hq.at_lt (hp.at_lt hi).1).1) hd hk (hl.trans hl2) (fun g i hg hi => by rw [hp.on hg hi, hq.on (by omega) (hp.at_lt hi).1])
  exact ⟨_, h1, h2⟩
/-- an isomorphism turned round -/
theorem Cov.back {p : List Int} (hp : Cov d e p) (hd : Man d) (he : Man e) (hl : d.length = e.length) (hn : flg d = flg e) : ∃ q, Cov e d q ∧ (∀ i, i < flg d → at_ q (at_ p i) = i) ∧ ∀ i, i < flg e → at_ p (at_ q i) = i := by
  have honto := hp.onto hd he hl
  have hv : ∀ i, i < flg d → at_ p i < flg d := fun i hi => by rw [hn]; exact (hp.at_lt hi).1
  have hs : ∀ y, y < flg d → ∃ i, i < flg d ∧ at_ p i = y := fun y hy => honto y (by omega)
  have hinj : ∀ a b, a < flg d → b < flg d → at_ p a = at_ p b → a = b := fun a b ha hb q => onto_inj hv hs ha hb q
  obtain ⟨f, hf⟩ : ∃ f : Nat → Nat, ∀ y, y < flg d → f y < flg d ∧ at_ p (f y) = y := by
    refine Classical.axiomOfChoice (r := fun y i => y < flg d → i < flg d ∧ at_ p i = y) fun y => ?_
    by_cases hy : y < flg d
    · obtain ⟨i, h1, h2⟩ := hs y hy; exact ⟨i, fun _ => ⟨h1, h2⟩⟩
    · exact ⟨0, fun q => absurd q hy⟩
  obtain ⟨h1, h2⟩ := cov_mk (d := e) (e := d) f (fun i hi => (hf i (by omega)).1) he hd hl.symm (fun g i hg hi => by
    have h3 := hf i (by omega)
    have h4 := (bTo_lt (man_leads he) hi hg).1
    have h5 := hf (bTo e i g) (by omega)
    refine hinj _ _ h5.1 (bTo_lt (man_leads hd) h3.1 (by omega)).1 ?_
    rw [h5.2, hp.on (by omega) h3.1, h3.2])
  refine ⟨_, h1, fun i hi => ?_, fun i hi => ?_⟩
  · have h3 := hv i hi
    rw [h2 _ (by omega)]
    exact hinj _ _ (hf _ h3).1 hi (hf _ h3).2
  · rw [h2 i hi]; exact (hf i (by omega)).2
theorem cov_id (hd : Man d) : ∃ p, Cov d d p ∧ ∀ i, i < flg d → at_ p i = i := by
  obtain ⟨h1, h2⟩ := cov_mk (d := d) (e := d) (fun i => i) (fun i hi => hi) hd hd rfl (fun g i hg hi => rfl)
  exact ⟨_, h1, h2⟩
/-- who is among all coverings -/
theorem mem_cvL {n : Nat} {p : List Int} : p ∈ cvL d e n ↔ ∃ f, f < n ∧ covO d e f = some p := by
  unfold cvL; rw [List.mem_filterMap]
  constructor
  · rintro ⟨f, h1, h2⟩; exact ⟨f, List.mem_range.1 h1, h2⟩
  · rintro ⟨f, h1, h2⟩; exact ⟨f, List.mem_range.2 h1, h2⟩
theorem mem_cvs (hd : Man d) (hl : d.length = e.length) {p : List Int} : p ∈ cvL d e (flg e) ↔ Cov d e p := by
  rw [mem_cvL]
  constructor
  · rintro ⟨f, _, h⟩; exact (covO_some h).2.1
  · intro h
    have h0 := h.at_lt (show 0 < flg d by have := hd.f2; unfold flg; omega)
    exact ⟨at_ p 0, h0.1, covO_eq hd hl h h0.2⟩
/-- the automorphisms -/
noncomputable def autL (d : List (List Int)) : List (List Int) := cvL d d (flg d)
theorem autL_get (hd : Man d) {g : Nat} (hg : g < (autL d).length) : Cov d d (lget (autL d) g) := (mem_cvs hd rfl).1 (lget_mem hg)
theorem autL_leads (hd : Man d) : Leads (autL d) (flg d) := ⟨fun k hk => (autL_get hd hk).len, fun k hk x hx => by
  obtain ⟨y, h1, h2⟩ := (autL_get hd hk).val x hx
  rw [h1]; omega⟩
/-- an automorphism leads from a to b -/
def AutTo (d : List (List Int)) (a b : Nat) : Prop := ∃ p, Cov d d p ∧ at_ p a = b
theorem autTo_symm (hd : Man d) {a b : Nat} (ha : a < flg d) (h : AutTo d a b) : AutTo d b a := by
  obtain ⟨p, h1, h2⟩ := h
  obtain ⟨q, k1, k2, _⟩ := h1.back hd hd rfl rfl
  exact ⟨q, k1, by rw [← h2]; exact k2 a ha⟩
theorem autTo_trans (hd : Man d) {a b c : Nat} (ha : a < flg d) (h : AutTo d a b) (k : AutTo d b c) : AutTo d a c := by
  obtain ⟨p, h1, h2⟩ := h
  obtain ⟨q, k1, k2⟩ := k
  obtain ⟨r, r1, r2⟩ := h1.comp k1 hd hd rfl rfl
  exact ⟨r, r1, by rw [r2 a ha, h2, k2]⟩
theorem aut_rch (hd : Man d) {a b : Nat} (ha : a < flg d) (hb : b < flg d) : rch (autL d) (flg d) a b = true ↔ AutTo d a b := by
  constructor
  · intro h
    refine rch_in (autL_leads hd) ha (p := fun b => AutTo d a b) ?_ (fun x hx hax g hg => autTo_trans hd ha hax ⟨_, autL_get hd hg, rfl⟩) b hb h
    obtain ⟨p, h1, h2⟩ := cov_id hd
    exact ⟨p, h1, h2 a ha⟩
  · rintro ⟨p, h1, h2⟩
    obtain ⟨g, hg, e⟩ := List.getElem_of_mem ((mem_cvs hd rfl).2 h1)
    have hg' : g < (autL d).length := hg
    have := rch_on (autL_leads hd) ha ha (rch_refl (autL_leads hd) ha) hg'
    have e2 : bTo (autL d) a g = b := by
      unfold bTo
      rw [lget_lt hg']
      have : (autL d)[g] = p := e
      rw [this]; exact h2
    rw [e2] at this
    exact this
theorem aut_sym (hd : Man d) : SymR (autL d) (flg d) := fun c x hc hx h => (aut_rch hd hx hc).2 (autTo_symm hd hc ((aut_rch hd hc hx).1 h))
/-- the labels of orbits of flags, and how many orbits -/
noncomputable def forb (d : List (List Int)) : LSt := labs (autL d) (flg d)
end
end Go.Proofs.Ytmdhljleaijkbaa

/- Coverings of maniplexes, the reference's. -/
namespace Go.Proofs.Ytmdhljleaijkbaa
open Go.RowKit

end Go.Proofs.Ytmdhljleaijkbaa

/- Maniplexes that are read, whatever shares their rows: the test. -/
namespace Go.Proofs.Ytmdhljleaijkbaa
open Go.RowKit

theorem RdSSc.intss {w : World} {ao : Option Addr} {n c : Nat} {d : List (List Int)} (h : RdSSc w (.slice ao n c) d) : Intss w ao n d := by
  obtain ⟨a1, n1, c1, e, hi⟩ := h.rd
  injection e with e1 e2 e3
  subst e1 e2 e3
  exact hi
theorem callMc {f : FuncId} {outs : List (Nm × Ch)} {res : AV} {d : List (List Int)} (hf : FC Try.prog f [(1003, rowsRo d)] [mA d.length] outs res []) {w : World} {v : Value} (h : RdSSc w v d) :
    Calls Try.prog f #[.agg #[v]] w fun e w' => ∃ v η ω, e = .returned v ∧ Den η res v ∧ Mem η ω w' (fun x => lk x outs) ∧ Below w.heap.size w w' ∧ ∀ b, b < w.heap.size → ω b = none := by
  obtain ⟨hd, r, rfl, hv⟩ := ofSSc 1003 32 2 h
  exact hf.call (l := [(1003, (rowsRo d, hd, r))]) (us := [_]) (fun p hp => by simp at hp; subst hp; exact hv) rfl (denL1 (denM (den_sl (q := (rowsRo d, hd, r)) rfl)))
/-- lists of a size that laws let pass -/
def FewSS (d : List (List Int)) : Prop := d.length ≤ 1048576 ∧ ∀ i, i < d.length → (lget d i).length ≤ 1048576
theorem implManC {w : World} {v : Value} {d : List (List Int)} (h : RdSSc w v d) (hf : FewSS d) :
    Calls Try.prog 39 #[.agg #[v]] w fun e w' => e = .returned (.bool (manB d)) ∧ Below w.heap.size w w' := one_val (callMc (manI_fc d hf.1 hf.2) h)
theorem man_few {d : List (List Int)} (h : Man d) : FewSS d := ⟨by have := h.n5; omega, fun i hi => by have := h.len i hi; have := h.f4; omega⟩
end Go.Proofs.Ytmdhljleaijkbaa

/- All coverings, the reference's; CoveringOf, both sides; CountCoverings, AreCovered. -/
namespace Go.Proofs.Ytmdhljleaijkbaa
open Go.RowKit

end Go.Proofs.Ytmdhljleaijkbaa

/- Faces of a maniplex: labels and numbers (the program's FaceLabels, FaceCounts). -/
namespace Go.Proofs.Ytmdhljleaijkbaa
open Go.RowKit

theorem implManG {E1 E : Nat} {lo hi : Nat} {v : Value} {d : List (List Int)} (w : World) (h : OwM E1 E w lo hi v d) (h1 : d.length ≤ 1048576) (h2 : ∀ i, i < d.length → (lget d i).length ≤ 1048576) :
    Calls Try.prog 39 #[v] w fun e w' => e = .returned (.bool (manB d)) ∧ Below w.heap.size w w' := one_val (callM (fun _ => manI_fc d h1 h2) h)
theorem orbW_anyS {d : List (List Int)} {n : Nat} {v : Value} (w : World) (h : RdSSc w v d) (hT : Leads d n) (hB : SymR d n) (hn0 : 0 < n) (hn : n ≤ 1000) (hd : d.length ≤ 1000) :
    Calls Try.prog 72 #[.int .i64 n, v] w fun e w' => ∃ v', e = .returned (.tuple #[v', .int .i64 ((labs d n).2 : Nat)]) ∧ OwnS 2 w' w.heap.size w'.heap.size v' (labs d n).1 ∧ Below w.heap.size w w' := by
  have hl := (labs_allS hT hB).1
  refine (callNR (orbI_fcS d n d.length rfl hT hB hn0 (by omega) (by omega)) h).mono ?_
  rintro e w' ⟨v, η, ω, rfl, hde, hm, hb, hlo⟩
  obtain ⟨u, u', rfl, h1, h2⟩ := den_tup2 hde
  have h1 : Den1 η (.sl 16 0 n) u := h1
  have h2 : u' = .int .i64 ((labs d n).2 : Nat) := h2
  subst h2
  have := toS (x := 16) (E := 2) (zs := (labs d n).1) hm hlo rfl (by rw [hl]; exact h1) (by omega)
  exact ⟨u, rfl, this, hb⟩
theorem orbW_any {d : List (List Int)} {n : Nat} {v : Value} (w : World) (h : RdSSc w v d) (hT : Leads d n) (hB : Back2 d n) (hn0 : 0 < n) (hn : n ≤ 1000) (hd : d.length ≤ 1000) :
    Calls Try.prog 72 #[.int .i64 n, v] w fun e w' => ∃ v', e = .returned (.tuple #[v', .int .i64 ((labs d n).2 : Nat)]) ∧ OwnS 2 w' w.heap.size w'.heap.size v' (labs d n).1 ∧ Below w.heap.size w w' := orbW_anyS w h hT (hB.sym hT) hn0 hn hd
set_option maxHeartbeats 3200000 in
theorem facesI_any (mb c r : Nat) (ao : Option Addr) (d : List (List Int)) (w : World) (hm : Blk w mb 28 #[.slice ao d.length c]) (h : RdSSc w (.slice ao d.length c) d) (hM : Man d) (hr : r < d.length) :
    Calls Try.prog 73 #[.pointer (some ⟨mb, 0, none⟩), .int .i64 r] w fun e w' => ∃ v, e = .returned (.tuple #[v, .int .i64 ((labs (d.eraseIdx r) (lget d 0).length).2 : Nat)]) ∧ OwnS 2 w' w.heap.size w'.heap.size v (labs (d.eraseIdx r) (lget d 0).length).1 ∧ Below w.heap.size w w' := by
  obtain ⟨hT, hB⟩ := erase_ok hM hr
  have hn2 := hM.f2
  have hn4 := hM.f4
  have h5 := hM.n5
  have hlen : (d.eraseIdx r).length ≤ 1000 := by have := List.length_eraseIdx_le d r; omega
  obtain ⟨n, hn⟩ : ∃ n, (lget d 0).length = n := ⟨_, rfl⟩
  have hN := Lib.hid hn
  rw [hn] at hT hB hn2 hn4
  rw [hn]
  have HM := Lib.hid hm
  have HR := Lib.hid h
  have HO := Lib.hid (fun (w : World) (v : Value) (h : RdSSc w v (d.eraseIdx r)) => orbW_any w h hT hB (by omega) (by omega) hlen)
  generalize (labs (d.eraseIdx r) n).2 = m at *
  generalize (labs (d.eraseIdx r) n).1 = L at *
  clear hT hB hm h hn
  go_enter Try.func73, Try.ntmps73
  go_wp2_with fail
  refine (flagsI_any mb ao d.length c n d w HM.out HR.out.rd (by omega) hN.out (by omega)).mono ?_
  rintro e w' ⟨rfl, hw⟩
  subst hw
  go_wp2_with fail
  refine (without_any mb c r ao d w HM.out HR.out hr (by omega)).mono ?_
  rintro e w2 ⟨v2, rfl, r2, b2⟩
  have R2 := Lib.hid r2
  have z2 := b2.size
  clear r2
  go_wp2_with fail
  refine (HO.out w2 v2 R2.out).mono ?_
  rintro e w3 ⟨v3, rfl, o3, b3⟩
  have OS := Lib.hid (show OwnS 2 w3 w.heap.size w3.heap.size v3 L from ⟨o3.1, o3.2.mono z2 (Nat.le_refl _)⟩)
  have hb := b2.trans (b3.mono z2)
  clear o3 b2 b3 R2
  go_wp2_with fail
  exact bodyPost_ret (v := .tuple #[v3, .int .i64 (m : Nat)]) (by simp [results, Try.f73, go_sem]) rfl ⟨v3, rfl, OS.out, hb⟩
def fcL (d : List (List Int)) (k : Nat) : List Int := (List.range k).map fun i => (((labs (d.eraseIdx i) (lget d 0).length).2 : Nat) : Int)
theorem fcL_succ (d : List (List Int)) (k : Nat) : fcL d (k + 1) = fcL d k ++ [(((labs (d.eraseIdx k) (lget d 0).length).2 : Nat) : Int)] := by simp [fcL, List.range_succ]
theorem fcL_len (d : List (List Int)) (k : Nat) : (fcL d k).length = k := by simp [fcL]
set_option maxHeartbeats 3200000 in
theorem faceCounts_any (mb c : Nat) (ao : Option Addr) (d : List (List Int)) (w : World) (hm : Blk w mb 28 #[.slice ao d.length c]) (h : RdSSc w (.slice ao d.length c) d) (hM : Man d) :
    Calls Try.prog 40 #[.pointer (some ⟨mb, 0, none⟩)] w fun e w' => ∃ a2 c2, e = .returned (.slice a2 d.length c2) ∧ Own w' w.heap.size 2 a2 d.length c2 ((fcL d d.length).map (Value.int .i64)) ∧ Below w.heap.size w w' := by
  have h5 := hM.n5
  have HM := Lib.hid hm
  have HR := Lib.hid h
  obtain ⟨K, hK⟩ : ∃ K, d.length = K := ⟨_, rfl⟩
  have HK := Lib.hid hK
  have HF := Lib.hid (fun (w' : World) (k : Nat) (hk : k < K) (hm : Blk w' mb 28 #[.slice ao d.length c]) (h : RdSSc w' (.slice ao d.length c) d) => facesI_any mb c k ao d w' hm h hM (by omega))
  rw [hK] at h5
  clear hm h
  rw [hK]
  have hE : Own w w.heap.size 2 none 0 0 [] := Own.nil_ _ _ _
  clear hK
  go_enter Try.func40, Try.ntmps40
  go_wp2_with fail
  refine (rankM_any mb d.length c ao w HM.out).mono ?_
  rintro e w' ⟨rfl, hw⟩
  subst hw
  rw [HK.out]
  go_wp2_with fail
  go_loopw [3, 9] (fun sv iv wr => ∃ (k : Nat) (a2 : Option Addr) (c2 : Nat), k ≤ K ∧ sv = .slice a2 k c2 ∧ iv = .int .i64 k ∧ Own wr w.heap.size 2 a2 k c2 ((fcL d k).map (Value.int .i64)) ∧ Below w.heap.size w wr) (fun _ i _ => K - (intOf i).toNat)
  case atStart => exact ⟨0, none, 0, Nat.zero_le _, rfl, rfl, hE, Below.refl _ _⟩
  case round =>
    clear hE
    obtain ⟨k, a2, c2, hk, rfl, rfl, ho, hb⟩ := hrel
    have hsz := hb.size
    by_cases hlt : k < K
    · have HO := Lib.hid ho
      clear ho
      go_wp2_with fail
      refine (HF.out wr k hlt (HM.out.belowS hb) (HR.out.below hb)).mono ?_
      rintro e w3 ⟨v3, rfl, -, b3⟩
      have HS := Lib.hid (fcL_succ d k)
      generalize (labs (d.eraseIdx k) (lget d 0).length).2 = x at *
      have HO3 := Lib.hid (HO.out.below b3)
      have hb3 := hb.trans (b3.mono hsz)
      have hsz3 := hb3.size
      have hol := fun g hg => (HO3.out.lt g hg).1
      clear HO b3 hb
      go_wp2_with (at_builtin; refine wpList_ap1 etI _ rfl _ _ rfl w.heap.size a2 k c2 _ rfl HO3.out (.int .i64 (x : Int)) rfl rfl (by omega) hsz3 ?_; intro ao2 c4 w4 ho2 hg2 hblk)
      have HO4 := Lib.hid ho2
      have hb4 := hb3.grown hg2 hsz3 hol
      clear ho2 hblk hg2 hb3
      go_wp2
      go_roundw
      case rel => exact ⟨k + 1, ao2, c4, by omega, rfl, by go_num, by rw [HS.out, List.map_append]; exact HO4.out, hb4⟩
      case measure => simp [intOf]; omega
    · obtain rfl : k = K := by omega
      go_wp2_with fail
      go_ret
      exact ⟨a2, c2, rfl, ho, hb⟩
theorem OwM.rdcM {E1 E : Nat} {w : World} {lo hi : Nat} {ao : Option Addr} {n c : Nat} {d : List (List Int)} (h : OwM E1 E w lo hi (.agg #[.slice ao n c]) d) : RdSSc w (.slice ao n c) d ∧ d.length = n := by
  obtain ⟨a', n', c', us, e, hor⟩ := h
  have e2 : Value.slice ao n c = .slice a' n' c' := by
    injection e with e
    have := congrArg (fun x : Array Value => x[0]?) e
    simpa using this
  injection e2 with e3 e4 e5
  subst e3 e4 e5
  exact ⟨OwSS.rdc (⟨_, _, _, _, rfl, hor⟩ : OwSS E1 E w lo hi _ d), hor.len⟩
set_option maxHeartbeats 3200000 in
theorem api_faceCounts {E1 E : Nat} {lo hi : Nat} {ao : Option Addr} {n c : Nat} {d : List (List Int)} (w : World) (h : OwM E1 E w lo hi (.agg #[.slice ao n c]) d) (hM : Man d) :
    Calls Try.prog 10 #[.agg #[.slice ao n c]] w fun e w' => ∃ a2 c2, e = .returned (.tuple #[.slice a2 n c2, .int .i64 0]) ∧ Own w' w.heap.size 2 a2 n c2 ((fcL d n).map (Value.int .i64)) ∧ Below w.heap.size w w' := by
  obtain ⟨hrd, rfl⟩ := h.rdcM
  have hf4 := hM.f4
  have h5 := hM.n5
  have b1 := below_alloc1 w (.cells #[.slice ao d.length c] 28)
  have k1 : Blk (w.alloc (.cells #[.slice ao d.length c] 28)) w.heap.size 28 #[.slice ao d.length c] := blk_at rfl
  have x1 := k1.cell 0
  have HW := Lib.hid (h.below b1)
  have HRD := Lib.hid (hrd.below b1)
  have HMB := Lib.hid (manB_yes hM)
  have HL := Lib.hid (show ∀ i, i < d.length → (lget d i).length ≤ 1048576 from fun i hi => by rw [hM.len i hi]; omega)
  clear h hrd
  go_enter Try.func10, Try.ntmps10
  go_wp2_with (go_at_call 39; refine (implManG _ HW.out (by omega) HL.out).mono ?_; rintro e w2 ⟨rfl, b2⟩; rw [HMB.out])
  have z2 := b2.size
  have hb2 := b1.trans (b2.mono b1.size)
  refine (faceCounts_any w.heap.size c ao d w2 (k1.belowS b2) (HRD.out.below b2) hM).mono ?_
  rintro e w3 ⟨a2, c2, rfl, o3, b3⟩
  have O3 := Lib.hid (o3.mono (show w.heap.size ≤ w2.heap.size by have := b1.size; omega))
  have hb3 := hb2.trans (b3.mono (by have := b1.size; omega))
  clear o3 b3 b2 hb2
  go_wp2_with fail
  exact bodyPost_ret (v := .tuple #[.slice a2 d.length c2, .int .i64 0]) (by simp [results, Try.f10, go_sem]) rfl ⟨a2, c2, rfl, O3.out, hb3⟩
end Go.Proofs.Ytmdhljleaijkbaa
