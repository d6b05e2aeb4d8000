/- What a maniplex is, the program's: isManiplex. guards: -/
import Derived.Test.YtpognnifgcacnaaPart4
import Derived.Test.YtpognnifgcacnaaPart3
import Derived.Lib.LazyBuf
import Derived.Lib.SliceRun
import Derived.Test.YtpognnifgcacnaaPart1
import Derived.RegionTactic
import Derived.Deep.AppendLies
import Derived.Deep.DeepCutAuto
namespace Go.Proofs.Ytpognnifgcacnaa
open Go.RowKit

abbrev mxV (R : Nat) : Ch := ⟨false, 41, 1, .flat [.sl 1003 0 R]⟩
theorem rank_fc (R : Nat) : FC Try.prog 185 [(1, mxV R)] [o1 (.ptr 1 0)] [] (vv (I6 R)) [] := by
  have hS := sizeR_fc 1003 R
  refine fc_enter (nt := 8) Try.func185 rfl rfl (by simp) fun w0 ω0 => ?_
  (refine goes_seq ?_; refine goes_region ?_; apply run_step rfl; (exact stp_assign rfl rfl); refine run_nil ?_; refine fin_seq ?_; refine goes_seq ?_; refine goes_region ?_; apply run_step rfl; (exact stp_move rfl rfl); apply run_step rfl; (exact stp_nilCheck rfl rfl rfl); apply run_step rfl; (exact stp_fieldAddr (d := 0) rfl rfl rfl (by as_aux_lemma => kernel_rfl)); apply run_step rfl; (exact stp_loadF rfl (by as_aux_lemma => kernel_rfl) rfl rfl rfl rfl); apply run_step rfl; (apply call_gate 145; exact stp_callR hS (by as_aux_lemma => kernel_rfl) rfl rfl ⟨rfl, trivial⟩ trivial rfl rfl); apply run_step rfl; (exact stp_assign rfl rfl); refine run_nil ?_; refine fin_seq ?_; refine goes_ret ?_)
  exact fin_ret1 (.inl rfl) rfl (.tmp rfl) trivial trivial
set_option maxRecDepth 100000 in
theorem flags_fc1 (zss : List (List Int)) (n : Nat) (hpos : 0 < zss.length) (hn : (lget zss 0).length = n) : FC Try.prog 172 [(1, mxV zss.length), (1003, rowsRo zss)] [o1 (.ptr 1 0)] [] (vv (I6 n)) [] := by
  have hlen : (irows zss).length = zss.length := irows_len _
  have hrow0 : (irows zss)[0]? = some (ivals (lget zss 0)) := irows_get hpos
  have hil : (ivals (lget zss 0)).length = n := by rw [ivals_len]; exact hn
  have hSz := sizeE_fc 1003 0 n
  refine fc_enter (nt := 10) Try.func172 rfl rfl (by simp) fun w0 ω0 => ?_
  (refine goes_seq ?_; refine goes_region ?_; apply run_step rfl; (exact stp_assign rfl rfl); refine run_nil ?_; refine fin_seq ?_; refine goes_seq ?_; refine goes_region ?_; apply run_step rfl; (exact stp_move rfl rfl); apply run_step rfl; (exact stp_nilCheck rfl rfl rfl); apply run_step rfl; (exact stp_fieldAddr (d := 0) rfl rfl rfl (by as_aux_lemma => kernel_rfl)); apply run_step rfl; (exact stp_loadF rfl (by as_aux_lemma => kernel_rfl) rfl rfl rfl rfl); apply run_step rfl; (first | exact stp_ix (j := 0) rfl rfl rfl rfl rfl (by as_aux_lemma => kernel_rfl) rfl hpos (Nat.le_of_eq hlen.symm) | exact stp_loadR rfl (by as_aux_lemma => kernel_rfl) rfl rfl rfl hrow0 hil | (apply call_gate 139; exact stp_callR hSz (by as_aux_lemma => kernel_rfl) rfl rfl ⟨rfl, trivial⟩ trivial rfl rfl)); apply run_step rfl; (first | exact stp_ix (j := 0) rfl rfl rfl rfl rfl (by as_aux_lemma => kernel_rfl) rfl hpos (Nat.le_of_eq hlen.symm) | exact stp_loadR rfl (by as_aux_lemma => kernel_rfl) rfl rfl rfl hrow0 hil | (apply call_gate 139; exact stp_callR hSz (by as_aux_lemma => kernel_rfl) rfl rfl ⟨rfl, trivial⟩ trivial rfl rfl)); apply run_step rfl; (first | exact stp_ix (j := 0) rfl rfl rfl rfl rfl (by as_aux_lemma => kernel_rfl) rfl hpos (Nat.le_of_eq hlen.symm) | exact stp_loadR rfl (by as_aux_lemma => kernel_rfl) rfl rfl rfl hrow0 hil | (apply call_gate 139; exact stp_callR hSz (by as_aux_lemma => kernel_rfl) rfl rfl ⟨rfl, trivial⟩ trivial rfl rfl)); apply run_step rfl; (exact stp_assign rfl rfl); refine run_nil ?_; refine fin_seq ?_; refine goes_ret ?_)
  exact fin_ret1 (.inl rfl) rfl (.tmp rfl) trivial trivial

set_option maxRecDepth 100000 in
set_option maxHeartbeats 4000000 in
theorem manI_fc (zss : List (List Int)) (hR : zss.length ≤ 1048576) (hl : ∀ i, i < zss.length → (lget zss i).length ≤ 1048576) :
    FC Try.prog 114 [(1003, rowsRo zss)] [mA zss.length] [] (vv (.bool (manB zss))) [] := by
  have hRk := rank_fc zss.length
  have hW1 := within_fc (zss.length : Int) 1 5
  refine fc_enter (nt := 101) Try.func114 rfl rfl (by simp) fun w0 ω0 => ?_
  have hlen : (irows zss).length = zss.length := irows_len _
  cases c1 : inB (zss.length : Int) 1 5 with
  | false =>
    rw [manB_no (fun h => by have h1 := h.n1; have h2 := h.n5; rw [inB_true.2 ⟨by omega, by omega⟩] at c1; cases c1)]
    rw [c1] at hW1
    (refine goes_seq ?_; refine goes_region ?_; apply run_step rfl; (exact stp_box rfl rfl rfl rfl); apply run_step rfl; (exact stp_assign rfl rfl); refine run_nil ?_; refine fin_seq ?_; refine goes_seq ?_; refine goes_seq ?_; refine goes_region ?_; apply run_step rfl; (first | (apply call_gate 185; exact stp_callR hRk (by as_aux_lemma => kernel_rfl) rfl rfl ⟨rfl, trivial⟩ ⟨⟨_, rfl, .inr rfl⟩, trivial⟩ rfl rfl) | (apply call_gate 97; exact stp_callR hW1 (by as_aux_lemma => kernel_rfl) rfl rfl ⟨rfl, rfl, rfl, trivial⟩ trivial rfl rfl)); apply run_step rfl; (first | (apply call_gate 185; exact stp_callR hRk (by as_aux_lemma => kernel_rfl) rfl rfl ⟨rfl, trivial⟩ ⟨⟨_, rfl, .inr rfl⟩, trivial⟩ rfl rfl) | (apply call_gate 97; exact stp_callR hW1 (by as_aux_lemma => kernel_rfl) rfl rfl ⟨rfl, rfl, rfl, trivial⟩ trivial rfl rfl)); apply run_step rfl; (exact stp_not rfl rfl); apply run_step rfl; (exact stp_move rfl rfl); apply run_gNo rfl rfl rfl rfl rfl; apply run_gNo rfl rfl rfl rfl rfl; apply run_gNo rfl rfl rfl rfl rfl; apply run_step rfl; (exact stp_pickT rfl rfl rfl); refine run_nil ?_; refine fin_seq ?_)
    refine goes_cond rfl (fun _ => ?_) (fun e => by cases e)
    (refine goes_seq ?_; refine goes_region ?_; apply run_step rfl; (exact stp_assign rfl rfl); refine run_nil ?_; refine fin_seq ?_; refine goes_ret ?_; refine fin_ret_then ?_)
    exact fin_ret1 (.inl rfl) rfl (.tmp rfl) trivial trivial
  | true =>
  rw [c1] at hW1
  have c1 := inB_true.1 c1
  have hpos : 0 < zss.length := by omega
  have hrow0 : (irows zss)[0]? = some (ivals (lget zss 0)) := irows_get hpos
  obtain ⟨n, hn⟩ : ∃ n, (lget zss 0).length = n := ⟨_, rfl⟩
  have hil : (ivals (lget zss 0)).length = n := by rw [ivals_len]; exact hn
  have hG := flags_fc1 zss n hpos hn
  have hW2 := within_fc (n : Int) 2 400
  cases c2 : inB (n : Int) 2 400 with
  | false =>
    rw [manB_no (fun h => by have h1 := h.f2; have h2 := h.f4; rw [inB_true.2 ⟨by omega, by omega⟩] at c2; cases c2)]
    rw [c2] at hW2
    (refine goes_seq ?_; refine goes_region ?_; apply run_step rfl; (exact stp_box rfl rfl rfl rfl); apply run_step rfl; (exact stp_assign rfl rfl); refine run_nil ?_; refine fin_seq ?_; refine goes_seq ?_; refine goes_seq ?_; refine goes_region ?_; apply run_step rfl; (first | (apply call_gate 185; exact stp_callR hRk (by as_aux_lemma => kernel_rfl) rfl rfl ⟨rfl, trivial⟩ ⟨⟨_, rfl, .inr rfl⟩, trivial⟩ rfl rfl) | (apply call_gate 97; exact stp_callR hW1 (by as_aux_lemma => kernel_rfl) rfl rfl ⟨rfl, rfl, rfl, trivial⟩ trivial rfl rfl) | (apply call_gate 97; exact stp_callR hW2 (by as_aux_lemma => kernel_rfl) rfl rfl ⟨rfl, rfl, rfl, trivial⟩ trivial rfl rfl) | (apply call_gate 172; exact stp_callR hG (by as_aux_lemma => kernel_rfl) rfl rfl ⟨rfl, trivial⟩ ⟨⟨_, rfl, .inr rfl⟩, ⟨_, rfl, .inl rfl⟩, trivial⟩ rfl rfl)); apply run_step rfl; (first | (apply call_gate 185; exact stp_callR hRk (by as_aux_lemma => kernel_rfl) rfl rfl ⟨rfl, trivial⟩ ⟨⟨_, rfl, .inr rfl⟩, trivial⟩ rfl rfl) | (apply call_gate 97; exact stp_callR hW1 (by as_aux_lemma => kernel_rfl) rfl rfl ⟨rfl, rfl, rfl, trivial⟩ trivial rfl rfl) | (apply call_gate 97; exact stp_callR hW2 (by as_aux_lemma => kernel_rfl) rfl rfl ⟨rfl, rfl, rfl, trivial⟩ trivial rfl rfl) | (apply call_gate 172; exact stp_callR hG (by as_aux_lemma => kernel_rfl) rfl rfl ⟨rfl, trivial⟩ ⟨⟨_, rfl, .inr rfl⟩, ⟨_, rfl, .inl rfl⟩, trivial⟩ rfl rfl)); apply run_step rfl; (exact stp_not rfl rfl); apply run_step rfl; (exact stp_move rfl rfl); apply run_gYes rfl rfl rfl; (first | (apply call_gate 185; exact stp_callR hRk (by as_aux_lemma => kernel_rfl) rfl rfl ⟨rfl, trivial⟩ ⟨⟨_, rfl, .inr rfl⟩, trivial⟩ rfl rfl) | (apply call_gate 97; exact stp_callR hW1 (by as_aux_lemma => kernel_rfl) rfl rfl ⟨rfl, rfl, rfl, trivial⟩ trivial rfl rfl) | (apply call_gate 97; exact stp_callR hW2 (by as_aux_lemma => kernel_rfl) rfl rfl ⟨rfl, rfl, rfl, trivial⟩ trivial rfl rfl) | (apply call_gate 172; exact stp_callR hG (by as_aux_lemma => kernel_rfl) rfl rfl ⟨rfl, trivial⟩ ⟨⟨_, rfl, .inr rfl⟩, ⟨_, rfl, .inl rfl⟩, trivial⟩ rfl rfl)); apply run_gYes rfl rfl rfl; (first | (apply call_gate 185; exact stp_callR hRk (by as_aux_lemma => kernel_rfl) rfl rfl ⟨rfl, trivial⟩ ⟨⟨_, rfl, .inr rfl⟩, trivial⟩ rfl rfl) | (apply call_gate 97; exact stp_callR hW1 (by as_aux_lemma => kernel_rfl) rfl rfl ⟨rfl, rfl, rfl, trivial⟩ trivial rfl rfl) | (apply call_gate 97; exact stp_callR hW2 (by as_aux_lemma => kernel_rfl) rfl rfl ⟨rfl, rfl, rfl, trivial⟩ trivial rfl rfl) | (apply call_gate 172; exact stp_callR hG (by as_aux_lemma => kernel_rfl) rfl rfl ⟨rfl, trivial⟩ ⟨⟨_, rfl, .inr rfl⟩, ⟨_, rfl, .inl rfl⟩, trivial⟩ rfl rfl)); apply run_gYes rfl rfl rfl; (exact stp_not rfl rfl); apply run_step rfl; (exact stp_pickF rfl rfl rfl); refine run_nil ?_; refine fin_seq ?_)
    refine goes_cond rfl (fun _ => ?_) (fun e => by cases e)
    (refine goes_seq ?_; refine goes_region ?_; apply run_step rfl; (exact stp_assign rfl rfl); refine run_nil ?_; refine fin_seq ?_; refine goes_ret ?_; refine fin_ret_then ?_)
    exact fin_ret1 (.inl rfl) rfl (.tmp rfl) trivial trivial
  | true =>
  rw [c2] at hW2
  have c2 := inB_true.1 c2
  (refine goes_seq ?_; refine goes_region ?_; apply run_step rfl; (exact stp_box rfl rfl rfl rfl); apply run_step rfl; (exact stp_assign rfl rfl); refine run_nil ?_; refine fin_seq ?_; refine goes_seq ?_; refine goes_seq ?_; refine goes_region ?_; apply run_step rfl; (first | (apply call_gate 185; exact stp_callR hRk (by as_aux_lemma => kernel_rfl) rfl rfl ⟨rfl, trivial⟩ ⟨⟨_, rfl, .inr rfl⟩, trivial⟩ rfl rfl) | (apply call_gate 97; exact stp_callR hW1 (by as_aux_lemma => kernel_rfl) rfl rfl ⟨rfl, rfl, rfl, trivial⟩ trivial rfl rfl) | (apply call_gate 97; exact stp_callR hW2 (by as_aux_lemma => kernel_rfl) rfl rfl ⟨rfl, rfl, rfl, trivial⟩ trivial rfl rfl) | (apply call_gate 172; exact stp_callR hG (by as_aux_lemma => kernel_rfl) rfl rfl ⟨rfl, trivial⟩ ⟨⟨_, rfl, .inr rfl⟩, ⟨_, rfl, .inl rfl⟩, trivial⟩ rfl rfl)); apply run_step rfl; (first | (apply call_gate 185; exact stp_callR hRk (by as_aux_lemma => kernel_rfl) rfl rfl ⟨rfl, trivial⟩ ⟨⟨_, rfl, .inr rfl⟩, trivial⟩ rfl rfl) | (apply call_gate 97; exact stp_callR hW1 (by as_aux_lemma => kernel_rfl) rfl rfl ⟨rfl, rfl, rfl, trivial⟩ trivial rfl rfl) | (apply call_gate 97; exact stp_callR hW2 (by as_aux_lemma => kernel_rfl) rfl rfl ⟨rfl, rfl, rfl, trivial⟩ trivial rfl rfl) | (apply call_gate 172; exact stp_callR hG (by as_aux_lemma => kernel_rfl) rfl rfl ⟨rfl, trivial⟩ ⟨⟨_, rfl, .inr rfl⟩, ⟨_, rfl, .inl rfl⟩, trivial⟩ rfl rfl)); apply run_step rfl; (exact stp_not rfl rfl); apply run_step rfl; (exact stp_move rfl rfl); apply run_gYes rfl rfl rfl; (first | (apply call_gate 185; exact stp_callR hRk (by as_aux_lemma => kernel_rfl) rfl rfl ⟨rfl, trivial⟩ ⟨⟨_, rfl, .inr rfl⟩, trivial⟩ rfl rfl) | (apply call_gate 97; exact stp_callR hW1 (by as_aux_lemma => kernel_rfl) rfl rfl ⟨rfl, rfl, rfl, trivial⟩ trivial rfl rfl) | (apply call_gate 97; exact stp_callR hW2 (by as_aux_lemma => kernel_rfl) rfl rfl ⟨rfl, rfl, rfl, trivial⟩ trivial rfl rfl) | (apply call_gate 172; exact stp_callR hG (by as_aux_lemma => kernel_rfl) rfl rfl ⟨rfl, trivial⟩ ⟨⟨_, rfl, .inr rfl⟩, ⟨_, rfl, .inl rfl⟩, trivial⟩ rfl rfl)); apply run_gYes rfl rfl rfl; (first | (apply call_gate 185; exact stp_callR hRk (by as_aux_lemma => kernel_rfl) rfl rfl ⟨rfl, trivial⟩ ⟨⟨_, rfl, .inr rfl⟩, trivial⟩ rfl rfl) | (apply call_gate 97; exact stp_callR hW1 (by as_aux_lemma => kernel_rfl) rfl rfl ⟨rfl, rfl, rfl, trivial⟩ trivial rfl rfl) | (apply call_gate 97; exact stp_callR hW2 (by as_aux_lemma => kernel_rfl) rfl rfl ⟨rfl, rfl, rfl, trivial⟩ trivial rfl rfl) | (apply call_gate 172; exact stp_callR hG (by as_aux_lemma => kernel_rfl) rfl rfl ⟨rfl, trivial⟩ ⟨⟨_, rfl, .inr rfl⟩, ⟨_, rfl, .inl rfl⟩, trivial⟩ rfl rfl)); apply run_gYes rfl rfl rfl; (exact stp_not rfl rfl); apply run_step rfl; (exact stp_pickF rfl rfl rfl); refine run_nil ?_; refine fin_seq ?_)
  refine goes_cond rfl (fun e => by cases e) (fun _ => ?_)
  (refine goes_skip ?_; refine fin_seq ?_; refine goes_seq ?_; refine goes_seq ?_; refine goes_region ?_; apply run_step rfl; (exact stp_fieldAddr (d := 0) rfl rfl rfl (by as_aux_lemma => kernel_rfl)); apply run_step rfl; (exact stp_loadF rfl (by as_aux_lemma => kernel_rfl) rfl rfl rfl rfl); apply run_step rfl; (exact stp_len rfl rfl rfl (by as_aux_lemma => kernel_rfl)); apply run_step rfl; (exact stp_move rfl rfl); refine run_nil ?_; refine fin_seq ?_; refine goes_block ?_)
  refine goes_loop (fun i : Nat => St.of [(1, o1 (.ptr 1 0)), (21, o1 (.sl 1003 0 zss.length)), (22, vv (I6 zss.length)), (23, vv (I6 i))] [(1003, rowsRo zss), (1, mxB zss.length)]) (fun i => i ≤ zss.length ∧ Rows zss n i) (fun i => zss.length - i) 0 ⟨Nat.zero_le _, fun j hj => absurd hj (by omega)⟩ (Wk.of ⟨rfl, rfl, rfl, rfl, trivial⟩ ⟨rfl, rfl, trivial⟩ trivial) ?_
  rintro i ⟨hi, hrows⟩
  (refine goes_seq ?_; refine goes_region ?_; apply run_step rfl; (exact stp_bin rfl rfl rfl rfl); refine run_nil ?_; refine fin_seq ?_; refine goes_seq ?_)
  refine goes_if rfl (fun hlt => ?_) (fun hlt => ?_)
  · have hiz : i < zss.length := by omega
    have hrowi : (irows zss)[i]? = some (ivals (lget zss i)) := irows_get hiz
    have hP := freeI_fc zss i hiz (hl i hiz)
    obtain ⟨m, hm⟩ : ∃ m, (lget zss i).length = m := ⟨_, rfl⟩
    have hilm : (ivals (lget zss i)).length = m := by rw [ivals_len]; exact hm
    rw [hm] at hP
    have hSz := sizeE_fc 1003 i m
    cases hf : freeInv (lget zss i) with
    | false =>
      rw [hf] at hP
      (refine goes_skip ?_; refine fin_seq ?_; refine goes_seq ?_; refine goes_block ?_; refine goes_seq ?_; refine goes_region ?_; apply run_step rfl; (first | exact stp_ix (j := i) rfl rfl rfl rfl rfl (by as_aux_lemma => kernel_rfl) rfl hiz (Nat.le_of_eq hlen.symm) | exact stp_loadR rfl (by as_aux_lemma => kernel_rfl) rfl rfl rfl hrowi hilm | (apply call_gate 186; exact stp_callR hP (by as_aux_lemma => kernel_rfl) rfl rfl ⟨rfl, trivial⟩ ⟨⟨_, rfl, .inl rfl⟩, trivial⟩ rfl rfl)); apply run_step rfl; (first | exact stp_ix (j := i) rfl rfl rfl rfl rfl (by as_aux_lemma => kernel_rfl) rfl hiz (Nat.le_of_eq hlen.symm) | exact stp_loadR rfl (by as_aux_lemma => kernel_rfl) rfl rfl rfl hrowi hilm | (apply call_gate 186; exact stp_callR hP (by as_aux_lemma => kernel_rfl) rfl rfl ⟨rfl, trivial⟩ ⟨⟨_, rfl, .inl rfl⟩, trivial⟩ rfl rfl)); apply run_step rfl; (exact stp_assign rfl rfl); refine run_nil ?_; refine fin_seq ?_; refine goes_seq ?_; refine goes_region ?_; apply run_step rfl; (exact stp_move rfl rfl); apply run_step rfl; (first | exact stp_ix (j := i) rfl rfl rfl rfl rfl (by as_aux_lemma => kernel_rfl) rfl hiz (Nat.le_of_eq hlen.symm) | exact stp_loadR rfl (by as_aux_lemma => kernel_rfl) rfl rfl rfl hrowi hilm | (apply call_gate 186; exact stp_callR hP (by as_aux_lemma => kernel_rfl) rfl rfl ⟨rfl, trivial⟩ ⟨⟨_, rfl, .inl rfl⟩, trivial⟩ rfl rfl)); apply run_step rfl; (exact stp_not rfl rfl); apply run_step rfl; (exact stp_move rfl rfl); apply run_gNo rfl rfl rfl rfl rfl; apply run_gNo rfl rfl rfl rfl rfl; apply run_gNo rfl rfl rfl rfl rfl; apply run_gNo rfl rfl rfl rfl rfl; apply run_step rfl; (exact stp_pickT rfl rfl rfl); refine run_nil ?_; refine fin_seq ?_)
      refine goes_cond rfl (fun _ => ?_) (fun e => by cases e)
      rw [manB_no (fun h => by have h1 := h.perm i hiz; have h2 := h.free i hiz; unfold freeInv at hf; rw [h1, h2] at hf; cases hf)]
      (refine goes_seq ?_; refine goes_region ?_; apply run_step rfl; (exact stp_assign rfl rfl); refine run_nil ?_; refine fin_seq ?_; refine goes_ret ?_; refine fin_ret_block ?_; refine fin_ret_then ?_; refine fin_ret_then ?_; refine fin_ret_block ?_; refine fin_ret_then ?_)
      exact fin_ret1 (.inl rfl) rfl (.tmp rfl) trivial trivial
    | true =>
      rw [hf] at hP
      unfold freeInv at hf
      rw [Bool.and_eq_true] at hf
      (refine goes_skip ?_; refine fin_seq ?_; refine goes_seq ?_; refine goes_block ?_; refine goes_seq ?_; refine goes_region ?_; apply run_step rfl; (first | exact stp_ix (j := i) rfl rfl rfl rfl rfl (by as_aux_lemma => kernel_rfl) rfl hiz (Nat.le_of_eq hlen.symm) | exact stp_loadR rfl (by as_aux_lemma => kernel_rfl) rfl rfl rfl hrowi hilm | (apply call_gate 186; exact stp_callR hP (by as_aux_lemma => kernel_rfl) rfl rfl ⟨rfl, trivial⟩ ⟨⟨_, rfl, .inl rfl⟩, trivial⟩ rfl rfl) | (apply call_gate 139; exact stp_callR hSz (by as_aux_lemma => kernel_rfl) rfl rfl ⟨rfl, trivial⟩ trivial rfl rfl) | (apply call_gate 172; exact stp_callR hG (by as_aux_lemma => kernel_rfl) rfl rfl ⟨rfl, trivial⟩ ⟨⟨_, rfl, .inr rfl⟩, ⟨_, rfl, .inl rfl⟩, trivial⟩ rfl rfl)); apply run_step rfl; (first | exact stp_ix (j := i) rfl rfl rfl rfl rfl (by as_aux_lemma => kernel_rfl) rfl hiz (Nat.le_of_eq hlen.symm) | exact stp_loadR rfl (by as_aux_lemma => kernel_rfl) rfl rfl rfl hrowi hilm | (apply call_gate 186; exact stp_callR hP (by as_aux_lemma => kernel_rfl) rfl rfl ⟨rfl, trivial⟩ ⟨⟨_, rfl, .inl rfl⟩, trivial⟩ rfl rfl) | (apply call_gate 139; exact stp_callR hSz (by as_aux_lemma => kernel_rfl) rfl rfl ⟨rfl, trivial⟩ trivial rfl rfl) | (apply call_gate 172; exact stp_callR hG (by as_aux_lemma => kernel_rfl) rfl rfl ⟨rfl, trivial⟩ ⟨⟨_, rfl, .inr rfl⟩, ⟨_, rfl, .inl rfl⟩, trivial⟩ rfl rfl)); apply run_step rfl; (exact stp_assign rfl rfl); refine run_nil ?_; refine fin_seq ?_; refine goes_seq ?_; refine goes_region ?_; apply run_step rfl; (exact stp_move rfl rfl); apply run_step rfl; (first | exact stp_ix (j := i) rfl rfl rfl rfl rfl (by as_aux_lemma => kernel_rfl) rfl hiz (Nat.le_of_eq hlen.symm) | exact stp_loadR rfl (by as_aux_lemma => kernel_rfl) rfl rfl rfl hrowi hilm | (apply call_gate 186; exact stp_callR hP (by as_aux_lemma => kernel_rfl) rfl rfl ⟨rfl, trivial⟩ ⟨⟨_, rfl, .inl rfl⟩, trivial⟩ rfl rfl) | (apply call_gate 139; exact stp_callR hSz (by as_aux_lemma => kernel_rfl) rfl rfl ⟨rfl, trivial⟩ trivial rfl rfl) | (apply call_gate 172; exact stp_callR hG (by as_aux_lemma => kernel_rfl) rfl rfl ⟨rfl, trivial⟩ ⟨⟨_, rfl, .inr rfl⟩, ⟨_, rfl, .inl rfl⟩, trivial⟩ rfl rfl)); apply run_step rfl; (exact stp_not rfl rfl); apply run_step rfl; (exact stp_move rfl rfl); apply run_gYes rfl rfl rfl; (exact stp_move rfl rfl); apply run_gYes rfl rfl rfl; (first | exact stp_ix (j := i) rfl rfl rfl rfl rfl (by as_aux_lemma => kernel_rfl) rfl hiz (Nat.le_of_eq hlen.symm) | exact stp_loadR rfl (by as_aux_lemma => kernel_rfl) rfl rfl rfl hrowi hilm | (apply call_gate 186; exact stp_callR hP (by as_aux_lemma => kernel_rfl) rfl rfl ⟨rfl, trivial⟩ ⟨⟨_, rfl, .inl rfl⟩, trivial⟩ rfl rfl) | (apply call_gate 139; exact stp_callR hSz (by as_aux_lemma => kernel_rfl) rfl rfl ⟨rfl, trivial⟩ trivial rfl rfl) | (apply call_gate 172; exact stp_callR hG (by as_aux_lemma => kernel_rfl) rfl rfl ⟨rfl, trivial⟩ ⟨⟨_, rfl, .inr rfl⟩, ⟨_, rfl, .inl rfl⟩, trivial⟩ rfl rfl)); apply run_gYes rfl rfl rfl; (first | exact stp_ix (j := i) rfl rfl rfl rfl rfl (by as_aux_lemma => kernel_rfl) rfl hiz (Nat.le_of_eq hlen.symm) | exact stp_loadR rfl (by as_aux_lemma => kernel_rfl) rfl rfl rfl hrowi hilm | (apply call_gate 186; exact stp_callR hP (by as_aux_lemma => kernel_rfl) rfl rfl ⟨rfl, trivial⟩ ⟨⟨_, rfl, .inl rfl⟩, trivial⟩ rfl rfl) | (apply call_gate 139; exact stp_callR hSz (by as_aux_lemma => kernel_rfl) rfl rfl ⟨rfl, trivial⟩ trivial rfl rfl) | (apply call_gate 172; exact stp_callR hG (by as_aux_lemma => kernel_rfl) rfl rfl ⟨rfl, trivial⟩ ⟨⟨_, rfl, .inr rfl⟩, ⟨_, rfl, .inl rfl⟩, trivial⟩ rfl rfl)); apply run_gYes rfl rfl rfl; (exact stp_bin rfl rfl rfl rfl); apply run_step rfl; (exact stp_pickF rfl rfl rfl); refine run_nil ?_; refine fin_seq ?_)
      refine goes_cond rfl (fun e1 => ?_) (fun e1 => ?_)
      · have e1 : (m : Int) ≠ n := by simpa using e1
        rw [manB_no (fun h => by have := h.len i hiz; omega)]
        (refine goes_seq ?_; refine goes_region ?_; apply run_step rfl; (exact stp_assign rfl rfl); refine run_nil ?_; refine fin_seq ?_; refine goes_ret ?_; refine fin_ret_block ?_; refine fin_ret_then ?_; refine fin_ret_then ?_; refine fin_ret_block ?_; refine fin_ret_then ?_)
        exact fin_ret1 (.inl rfl) rfl (.tmp rfl) trivial trivial
      · have e1 : (m : Int) = n := by simpa using e1
        (refine goes_skip ?_; refine fin_block ?_; refine fin_seq ?_; refine goes_region ?_; apply run_step rfl; (exact stp_add rfl rfl rfl (by first | exact IntWalk.i64_in _ (by omega) | rfl)); apply run_step rfl; (exact stp_move rfl rfl); refine run_nil ?_)
        exact fin_round (i + 1) ⟨hiz, fun j hj => by
          by_cases e : j = i
          · subst e; exact ⟨by omega, hf.1, hf.2⟩
          · exact hrows j (by omega)⟩ (by omega) (Wk.of ⟨rfl, rfl, rfl, rfl, trivial⟩ ⟨rfl, rfl, trivial⟩ trivial)
  obtain rfl : i = zss.length := by omega
  have hrn : Rows zss n zss.length := hrows
  have hT := rows_leads hrn
  have hB := rows_back hrn
  (refine goes_exit ?_; refine fin_exit_then ?_; refine fin_exit_then ?_; refine fin_exit_eq ?_; refine fin_seq ?_; refine goes_seq ?_; refine goes_seq ?_; refine goes_region ?_; apply run_step rfl; (exact stp_fieldAddr (d := 0) rfl rfl rfl (by as_aux_lemma => kernel_rfl)); apply run_step rfl; (exact stp_loadF rfl (by as_aux_lemma => kernel_rfl) rfl rfl rfl rfl); apply run_step rfl; (exact stp_len rfl rfl rfl (by as_aux_lemma => kernel_rfl)); apply run_step rfl; (exact stp_move rfl rfl); refine run_nil ?_; refine fin_seq ?_; refine goes_block ?_)
  refine goes_loop (fun i : Nat => St.of [(1, o1 (.ptr 1 0)), (38, o1 (.sl 1003 0 zss.length)), (39, vv (I6 zss.length)), (40, vv (I6 i))] [(1003, rowsRo zss), (1, mxB zss.length)]) (fun i => i ≤ zss.length ∧ ∀ i' k, i' < i → i' + 2 ≤ k → k < zss.length → ∀ f, f < n → commAt zss i' k f) (fun i => zss.length - i) 0 ⟨Nat.zero_le _, fun j k hj => absurd hj (by omega)⟩ (Wk.of ⟨rfl, rfl, rfl, rfl, trivial⟩ ⟨rfl, rfl, trivial⟩ trivial) ?_
  clear hi hrows hlt
  rintro i ⟨hi, hci⟩
  (refine goes_seq ?_; refine goes_region ?_; apply run_step rfl; (exact stp_bin rfl rfl rfl rfl); refine run_nil ?_; refine fin_seq ?_; refine goes_seq ?_)
  refine goes_if rfl (fun hlt => ?_) (fun hlt => ?_)
  · have hiz : i < zss.length := by omega
    have hrowi : (irows zss)[i]? = some (ivals (lget zss i)) := irows_get hiz
    have hilm : (ivals (lget zss i)).length = n := by rw [ivals_len]; exact (hrn i hiz).1
    obtain ⟨mm, hmm⟩ : ∃ mm, min (i + 2) zss.length = mm := ⟨_, rfl⟩
    have hmR : mm ≤ zss.length := by omega
    have hi2 : IntKind.i64.wrap ((i : Int) + 2) = ((i + 2 : Nat) : Int) := IntWalk.i64_in _ (by omega)
    (refine goes_skip ?_; refine fin_seq ?_; refine goes_seq ?_; refine goes_block ?_; refine goes_seq ?_; refine goes_region ?_; apply run_step rfl; (exact stp_move rfl rfl); apply run_step rfl; (first | exact stp_ix (j := i) rfl rfl rfl rfl rfl (by as_aux_lemma => kernel_rfl) rfl hiz (Nat.le_of_eq hlen.symm) | exact stp_loadR rfl (by as_aux_lemma => kernel_rfl) rfl rfl rfl hrowi hilm | exact stp_add rfl rfl rfl hi2 | exact stp_minN rfl rfl rfl | exact stp_slice (k := 1) (l := min (i + 2) zss.length) (h := zss.length) rfl rfl rfl rfl (by as_aux_lemma => kernel_rfl) (by omega) (bnd_some rfl rfl) bnd_none (by omega) (Nat.le_refl _) (by rw [Nat.mul_one, Nat.zero_add]; exact Nat.le_of_eq hlen.symm)); apply run_step rfl; (first | exact stp_ix (j := i) rfl rfl rfl rfl rfl (by as_aux_lemma => kernel_rfl) rfl hiz (Nat.le_of_eq hlen.symm) | exact stp_loadR rfl (by as_aux_lemma => kernel_rfl) rfl rfl rfl hrowi hilm | exact stp_add rfl rfl rfl hi2 | exact stp_minN rfl rfl rfl | exact stp_slice (k := 1) (l := min (i + 2) zss.length) (h := zss.length) rfl rfl rfl rfl (by as_aux_lemma => kernel_rfl) (by omega) (bnd_some rfl rfl) bnd_none (by omega) (Nat.le_refl _) (by rw [Nat.mul_one, Nat.zero_add]; exact Nat.le_of_eq hlen.symm)); apply run_step rfl; (exact stp_assign rfl rfl); apply run_step rfl; (exact stp_assign rfl rfl); refine run_nil ?_; refine fin_seq ?_; refine goes_seq ?_; refine goes_region ?_; apply run_step rfl; (exact stp_fieldAddr (d := 0) rfl rfl rfl (by as_aux_lemma => kernel_rfl)); apply run_step rfl; (exact stp_loadF rfl (by as_aux_lemma => kernel_rfl) rfl rfl rfl rfl); apply run_step rfl; (exact stp_move rfl rfl); apply run_step rfl; (first | exact stp_ix (j := i) rfl rfl rfl rfl rfl (by as_aux_lemma => kernel_rfl) rfl hiz (Nat.le_of_eq hlen.symm) | exact stp_loadR rfl (by as_aux_lemma => kernel_rfl) rfl rfl rfl hrowi hilm | exact stp_add rfl rfl rfl hi2 | exact stp_minN rfl rfl rfl | exact stp_slice (k := 1) (l := min (i + 2) zss.length) (h := zss.length) rfl rfl rfl rfl (by as_aux_lemma => kernel_rfl) (by omega) (bnd_some rfl rfl) bnd_none (by omega) (Nat.le_refl _) (by rw [Nat.mul_one, Nat.zero_add]; exact Nat.le_of_eq hlen.symm)); apply run_step rfl; (exact stp_fieldAddr (d := 0) rfl rfl rfl (by as_aux_lemma => kernel_rfl)); apply run_step rfl; (exact stp_loadF rfl (by as_aux_lemma => kernel_rfl) rfl rfl rfl rfl); apply run_step rfl; (exact stp_len rfl rfl rfl (by as_aux_lemma => kernel_rfl)); apply run_step rfl; (first | exact stp_ix (j := i) rfl rfl rfl rfl rfl (by as_aux_lemma => kernel_rfl) rfl hiz (Nat.le_of_eq hlen.symm) | exact stp_loadR rfl (by as_aux_lemma => kernel_rfl) rfl rfl rfl hrowi hilm | exact stp_add rfl rfl rfl hi2 | exact stp_minN rfl rfl rfl | exact stp_slice (k := 1) (l := min (i + 2) zss.length) (h := zss.length) rfl rfl rfl rfl (by as_aux_lemma => kernel_rfl) (by omega) (bnd_some rfl rfl) bnd_none (by omega) (Nat.le_refl _) (by rw [Nat.mul_one, Nat.zero_add]; exact Nat.le_of_eq hlen.symm)); apply run_step rfl; (first | exact stp_ix (j := i) rfl rfl rfl rfl rfl (by as_aux_lemma => kernel_rfl) rfl hiz (Nat.le_of_eq hlen.symm) | exact stp_loadR rfl (by as_aux_lemma => kernel_rfl) rfl rfl rfl hrowi hilm | exact stp_add rfl rfl rfl hi2 | exact stp_minN rfl rfl rfl | exact stp_slice (k := 1) (l := min (i + 2) zss.length) (h := zss.length) rfl rfl rfl rfl (by as_aux_lemma => kernel_rfl) (by omega) (bnd_some rfl rfl) bnd_none (by omega) (Nat.le_refl _) (by rw [Nat.mul_one, Nat.zero_add]; exact Nat.le_of_eq hlen.symm)); apply run_step rfl; (exact stp_len rfl rfl rfl (by as_aux_lemma => kernel_rfl)); apply run_step rfl; (exact stp_move rfl rfl); refine run_nil ?_; refine fin_seq ?_; refine goes_block ?_)
    rw [hmm]
    refine goes_loop (fun j : Nat => St.of [(1, o1 (.ptr 1 0)), (6, o1 (.esl 1003 i 0 n)), (38, o1 (.sl 1003 0 zss.length)), (39, vv (I6 zss.length)), (40, vv (I6 i)), (53, o1 (.sl 1003 mm (zss.length - mm))), (54, vv (I6 (zss.length - mm : Nat))), (55, vv (I6 j))] [(1003, rowsRo zss), (1, mxB zss.length)]) (fun j => j ≤ zss.length - mm ∧ ∀ k', i + 2 ≤ k' → k' < mm + j → ∀ f, f < n → commAt zss i k' f) (fun j => zss.length - mm - j) 0 ⟨Nat.zero_le _, fun k' h1 h2 => absurd h1 (by omega)⟩ (Wk.of ⟨rfl, rfl, rfl, rfl, rfl, congrArg (fun z => some (o1 (.sl 1003 z (zss.length - mm)))) (Nat.zero_add mm), rfl, rfl, trivial⟩ ⟨rfl, rfl, trivial⟩ trivial) ?_
    rintro j ⟨hj, hck⟩
    (refine goes_seq ?_; refine goes_region ?_; apply run_step rfl; (exact stp_bin rfl rfl rfl rfl); refine run_nil ?_; refine fin_seq ?_; refine goes_seq ?_)
    refine goes_if rfl (fun hlj => ?_) (fun hlj => ?_)
    · obtain ⟨k, hk⟩ : ∃ k, mm + j = k := ⟨_, rfl⟩
      have hkz : k < zss.length := by omega
      have hki : i + 2 ≤ k := by omega
      have hjl : j < zss.length - mm := by omega
      have hml : mm + (zss.length - mm) ≤ (irows zss).length := by rw [hlen]; omega
      have hrowk : (irows zss)[k]? = some (ivals (lget zss k)) := irows_get hkz
      have hilk : (ivals (lget zss k)).length = n := by rw [ivals_len]; exact (hrn k hkz).1
      (refine goes_skip ?_; refine fin_seq ?_; refine goes_seq ?_; refine goes_block ?_; refine goes_seq ?_; refine goes_region ?_; apply run_step rfl; (first | exact stp_ixK (j := j) rfl rfl rfl rfl rfl (by as_aux_lemma => kernel_rfl) rfl hjl hml hk | exact stp_loadR rfl (by as_aux_lemma => kernel_rfl) rfl rfl rfl hrowk hilk | (apply call_gate 172; exact stp_callR hG (by as_aux_lemma => kernel_rfl) rfl rfl ⟨rfl, trivial⟩ ⟨⟨_, rfl, .inr rfl⟩, ⟨_, rfl, .inl rfl⟩, trivial⟩ rfl rfl)); apply run_step rfl; (first | exact stp_ixK (j := j) rfl rfl rfl rfl rfl (by as_aux_lemma => kernel_rfl) rfl hjl hml hk | exact stp_loadR rfl (by as_aux_lemma => kernel_rfl) rfl rfl rfl hrowk hilk | (apply call_gate 172; exact stp_callR hG (by as_aux_lemma => kernel_rfl) rfl rfl ⟨rfl, trivial⟩ ⟨⟨_, rfl, .inr rfl⟩, ⟨_, rfl, .inl rfl⟩, trivial⟩ rfl rfl)); apply run_step rfl; (exact stp_assign rfl rfl); refine run_nil ?_; refine fin_seq ?_; refine goes_seq ?_; refine goes_region ?_; apply run_step rfl; (first | exact stp_ixK (j := j) rfl rfl rfl rfl rfl (by as_aux_lemma => kernel_rfl) rfl hjl hml hk | exact stp_loadR rfl (by as_aux_lemma => kernel_rfl) rfl rfl rfl hrowk hilk | (apply call_gate 172; exact stp_callR hG (by as_aux_lemma => kernel_rfl) rfl rfl ⟨rfl, trivial⟩ ⟨⟨_, rfl, .inr rfl⟩, ⟨_, rfl, .inl rfl⟩, trivial⟩ rfl rfl)); apply run_step rfl; (exact stp_move rfl rfl); refine run_nil ?_; refine fin_seq ?_; refine goes_block ?_)
      refine goes_loop (fun f : Nat => St.of [(1, o1 (.ptr 1 0)), (6, o1 (.esl 1003 i 0 n)), (8, o1 (.esl 1003 k 0 n)), (38, o1 (.sl 1003 0 zss.length)), (39, vv (I6 zss.length)), (40, vv (I6 i)), (53, o1 (.sl 1003 mm (zss.length - mm))), (54, vv (I6 (zss.length - mm : Nat))), (55, vv (I6 j)), (59, vv (I6 n)), (60, vv (I6 f))] [(1003, rowsRo zss), (1, mxB zss.length)]) (fun f => f ≤ n ∧ ∀ f', f' < f → commAt zss i k f') (fun f => n - f) 0 ⟨Nat.zero_le _, fun f' h1 => absurd h1 (by omega)⟩ (Wk.of ⟨rfl, rfl, rfl, rfl, rfl, rfl, rfl, rfl, rfl, rfl, rfl, trivial⟩ ⟨rfl, rfl, trivial⟩ trivial) ?_
      rintro f ⟨hf, hcf⟩
      (refine goes_seq ?_; refine goes_region ?_; apply run_step rfl; (exact stp_bin rfl rfl rfl rfl); refine run_nil ?_; refine fin_seq ?_; refine goes_seq ?_)
      refine goes_if rfl (fun hlf => ?_) (fun hlf => ?_)
      · have hfn : f < n := by omega
        have hd1 := bTo_lt hT hfn (g := i) hiz
        have hd2 := bTo_lt hT hfn (g := k) hkz
        have hx1 := bTo_lt hT hd1.1 (g := k) hkz
        have hx2 := bTo_lt hT hd2.1 (g := i) hiz
        have hcm : commAt zss i k f ↔ bTo zss (bTo zss f i) k = bTo zss (bTo zss f k) i ∧ bTo zss f i ≠ bTo zss f k := Iff.rfl
        generalize bTo zss (bTo zss f i) k = x1 at *
        generalize bTo zss (bTo zss f k) i = x2 at *
        generalize bTo zss f i = d1 at *
        generalize bTo zss f k = d2 at *
        have g1 : (ivals (lget zss i))[f]? = some (I6 (d1 : Int)) := by rw [ivals_get (by rw [(hrn i hiz).1]; exact hfn), hd1.2]
        have g2 : (ivals (lget zss k))[f]? = some (I6 (d2 : Int)) := by rw [ivals_get (by rw [(hrn k hkz).1]; exact hfn), hd2.2]
        have g3 : (ivals (lget zss k))[d1]? = some (I6 (x1 : Int)) := by rw [ivals_get (by rw [(hrn k hkz).1]; exact hd1.1), hx1.2]
        have g4 : (ivals (lget zss i))[d2]? = some (I6 (x2 : Int)) := by rw [ivals_get (by rw [(hrn i hiz).1]; exact hd2.1), hx2.2]
        have hni : n ≤ (ivals (lget zss i)).length := Nat.le_of_eq hilm.symm
        have hnk : n ≤ (ivals (lget zss k)).length := Nat.le_of_eq hilk.symm
        (refine goes_skip ?_; refine fin_seq ?_; refine goes_seq ?_; refine goes_block ?_; refine goes_seq ?_; refine goes_region ?_; apply run_step rfl; (exact stp_move rfl rfl); apply run_step rfl; (exact stp_assign rfl rfl); refine run_nil ?_; refine fin_seq ?_; refine goes_seq ?_)
        by_cases e1 : (d1 : Int) = d2
        · apply goes_drawG 26 [] [[], [], [0, 1], [0, 1, 2], [], [], [4, 5], [4, 5, 6], [0, 1, 2, 3, 4, 5, 6, 7], [0, 1, 2, 3, 4, 5, 6, 7, 8], [0, 1, 2, 3, 4, 5, 6, 7, 8, 9], [0, 1, 2, 3, 4, 5, 6, 7, 8, 9], [0, 1, 2, 3, 4, 5, 6, 7, 8, 9], [0, 1, 2, 3, 4, 5, 6, 7, 8, 9, 11, 12], [0, 1, 2, 3, 4, 5, 6, 7, 8, 9, 11, 12, 13], [0, 1, 2, 3, 4, 5, 6, 7, 8, 9, 10, 11, 12, 13, 14], [0, 1, 2, 3, 4, 5, 6, 7, 8, 9, 10, 11, 12, 13, 14, 15], [0, 1, 2, 3, 4, 5, 6, 7, 8, 9], [0, 1, 2, 3, 4, 5, 6, 7, 8, 9], [0, 1, 2, 3, 4, 5, 6, 7, 8, 9], [0, 1, 2, 3, 4, 5, 6, 7, 8, 9, 18, 19], [0, 1, 2, 3, 4, 5, 6, 7, 8, 9, 18, 19, 20], [0, 1, 2, 3, 4, 5, 6, 7, 8, 9, 17, 18, 19, 20, 21], [0, 1, 2, 3, 4, 5, 6, 7, 8, 9, 17, 18, 19, 20, 21, 22], [0, 1, 2, 3, 4, 5, 6, 7, 8, 9, 10, 11, 12, 13, 14, 15, 16, 17, 18, 19, 20, 21, 22, 23], [0, 1, 2, 3, 4, 5, 6, 7, 8, 9, 10, 11, 12, 13, 14, 15, 16, 17, 18, 19, 20, 21, 22, 23, 24]] [63, 64, 65, 66, 67, 68, 69, 70, 71, 72, 73, 74, 75, 76, 77, 78, 79, 80, 81, 82, 83, 84, 85, 86, 87, 88] [] (by kernel_rfl) (by kernel_rfl)
          · (apply drawG_put rfl; (intro S1 hS; exact stp_move rfl (hS.op rfl)))
            (apply drawG_put rfl; (intro S1 hS; exact stp_move rfl (hS.op rfl)))
            (apply drawG_put rfl; (intro S1 hS; exact stp_ixE (j := f) rfl (hS.op rfl) (hS.op rfl) (hS.ch _ _ rfl) rfl (by as_aux_lemma => kernel_rfl) hrowi rfl hfn hni))
            (apply drawG_put rfl; (intro S1 hS; exact stp_loadE' rfl (by as_aux_lemma => kernel_rfl) (hS.op rfl) (hS.ch _ _ rfl) rfl hrowi g1))
            (apply drawG_put rfl; (intro S1 hS; exact stp_move rfl (hS.op rfl)))
            (apply drawG_put rfl; (intro S1 hS; exact stp_move rfl (hS.op rfl)))
            (apply drawG_put rfl; (intro S1 hS; exact stp_ixE (j := f) rfl (hS.op rfl) (hS.op rfl) (hS.ch _ _ rfl) rfl (by as_aux_lemma => kernel_rfl) hrowk rfl hfn hnk))
            (apply drawG_put rfl; (intro S1 hS; exact stp_loadE' rfl (by as_aux_lemma => kernel_rfl) (hS.op rfl) (hS.ch _ _ rfl) rfl hrowk g2))
            (apply drawG_put rfl; (intro S1 hS; exact stp_bin rfl (hS.op rfl) (hS.op rfl) (binEql e1)))
            (apply drawG_put rfl; (intro S1 hS; exact stp_move rfl (hS.op rfl)))
            apply drawG_no rfl rfl rfl rfl rfl
            apply drawG_no rfl rfl rfl rfl rfl
            apply drawG_no rfl rfl rfl rfl rfl
            apply drawG_no rfl rfl rfl rfl rfl
            apply drawG_no rfl rfl rfl rfl rfl
            apply drawG_no rfl rfl rfl rfl rfl
            apply drawG_no rfl rfl rfl rfl rfl
            apply drawG_no rfl rfl rfl rfl rfl
            apply drawG_no rfl rfl rfl rfl rfl
            apply drawG_no rfl rfl rfl rfl rfl
            apply drawG_no rfl rfl rfl rfl rfl
            apply drawG_no rfl rfl rfl rfl rfl
            apply drawG_no rfl rfl rfl rfl rfl
            apply drawG_no rfl rfl rfl rfl rfl
            apply drawG_no rfl rfl rfl rfl rfl
            (apply drawG_put rfl; (intro S1 hS; exact stp_pickT rfl (hS.op rfl) (hS.op rfl)))
            exact DrawG.nil
          · rfl
          ((refine rest_done (by as_aux_lemma => kernel_rfl) ?_; skip))
          (refine fin_seq ?_)
          refine goes_cond rfl (fun _ => ?_) (fun e => by cases e)
          rw [manB_no (fun h => by have := (hcm.1 (h.comm i k hki hkz f (by omega))).2; omega)]
          (refine goes_seq ?_; refine goes_region ?_; apply run_step rfl; (exact stp_assign rfl rfl); refine run_nil ?_; refine fin_seq ?_; refine goes_ret ?_; refine fin_ret_block ?_; refine fin_ret_then ?_; refine fin_ret_then ?_; refine fin_ret_block ?_; refine fin_ret_block ?_; refine fin_ret_then ?_; refine fin_ret_then ?_; refine fin_ret_block ?_; refine fin_ret_block ?_; refine fin_ret_then ?_; refine fin_ret_then ?_; refine fin_ret_block ?_; refine fin_ret_then ?_)
          exact fin_ret1 (.inl rfl) rfl (.tmp rfl) trivial trivial
        · apply goes_drawG 26 [] [[], [], [0, 1], [0, 1, 2], [], [], [4, 5], [4, 5, 6], [0, 1, 2, 3, 4, 5, 6, 7], [0, 1, 2, 3, 4, 5, 6, 7, 8], [0, 1, 2, 3, 4, 5, 6, 7, 8, 9], [0, 1, 2, 3, 4, 5, 6, 7, 8, 9], [0, 1, 2, 3, 4, 5, 6, 7, 8, 9], [0, 1, 2, 3, 4, 5, 6, 7, 8, 9, 11, 12], [0, 1, 2, 3, 4, 5, 6, 7, 8, 9, 11, 12, 13], [0, 1, 2, 3, 4, 5, 6, 7, 8, 9, 10, 11, 12, 13, 14], [0, 1, 2, 3, 4, 5, 6, 7, 8, 9, 10, 11, 12, 13, 14, 15], [0, 1, 2, 3, 4, 5, 6, 7, 8, 9], [0, 1, 2, 3, 4, 5, 6, 7, 8, 9], [0, 1, 2, 3, 4, 5, 6, 7, 8, 9], [0, 1, 2, 3, 4, 5, 6, 7, 8, 9, 18, 19], [0, 1, 2, 3, 4, 5, 6, 7, 8, 9, 18, 19, 20], [0, 1, 2, 3, 4, 5, 6, 7, 8, 9, 17, 18, 19, 20, 21], [0, 1, 2, 3, 4, 5, 6, 7, 8, 9, 17, 18, 19, 20, 21, 22], [0, 1, 2, 3, 4, 5, 6, 7, 8, 9, 10, 11, 12, 13, 14, 15, 16, 17, 18, 19, 20, 21, 22, 23], [0, 1, 2, 3, 4, 5, 6, 7, 8, 9, 10, 11, 12, 13, 14, 15, 16, 17, 18, 19, 20, 21, 22, 23, 24]] [63, 64, 65, 66, 67, 68, 69, 70, 71, 72, 73, 74, 75, 76, 77, 78, 79, 80, 81, 82, 83, 84, 85, 86, 87, 88] [] (by kernel_rfl) (by kernel_rfl)
          · (apply drawG_put rfl; (intro S1 hS; exact stp_move rfl (hS.op rfl)))
            (apply drawG_put rfl; (intro S1 hS; exact stp_move rfl (hS.op rfl)))
            (apply drawG_put rfl; (intro S1 hS; exact stp_ixE (j := f) rfl (hS.op rfl) (hS.op rfl) (hS.ch _ _ rfl) rfl (by as_aux_lemma => kernel_rfl) hrowi rfl hfn hni))
            (apply drawG_put rfl; (intro S1 hS; exact stp_loadE' rfl (by as_aux_lemma => kernel_rfl) (hS.op rfl) (hS.ch _ _ rfl) rfl hrowi g1))
            (apply drawG_put rfl; (intro S1 hS; exact stp_move rfl (hS.op rfl)))
            (apply drawG_put rfl; (intro S1 hS; exact stp_move rfl (hS.op rfl)))
            (apply drawG_put rfl; (intro S1 hS; exact stp_ixE (j := f) rfl (hS.op rfl) (hS.op rfl) (hS.ch _ _ rfl) rfl (by as_aux_lemma => kernel_rfl) hrowk rfl hfn hnk))
            (apply drawG_put rfl; (intro S1 hS; exact stp_loadE' rfl (by as_aux_lemma => kernel_rfl) (hS.op rfl) (hS.ch _ _ rfl) rfl hrowk g2))
            (apply drawG_put rfl; (intro S1 hS; exact stp_bin rfl (hS.op rfl) (hS.op rfl) (binEql' e1)))
            (apply drawG_put rfl; (intro S1 hS; exact stp_move rfl (hS.op rfl)))
            (apply drawG_yes rfl rfl rfl; (intro S1 hS; exact stp_move rfl (hS.op rfl)))
            (apply drawG_yes rfl rfl rfl; (intro S1 hS; exact stp_move rfl (hS.op rfl)))
            (apply drawG_yes rfl rfl rfl; (intro S1 hS; exact stp_move rfl (hS.op rfl)))
            (apply drawG_yes rfl rfl rfl; (intro S1 hS; exact stp_ixE (j := f) rfl (hS.op rfl) (hS.op rfl) (hS.ch _ _ rfl) rfl (by as_aux_lemma => kernel_rfl) hrowi rfl hfn hni))
            (apply drawG_yes rfl rfl rfl; (intro S1 hS; exact stp_loadE' rfl (by as_aux_lemma => kernel_rfl) (hS.op rfl) (hS.ch _ _ rfl) rfl hrowi g1))
            (apply drawG_yes rfl rfl rfl; (intro S1 hS; exact stp_ixE (j := d1) rfl (hS.op rfl) (hS.op rfl) (hS.ch _ _ rfl) rfl (by as_aux_lemma => kernel_rfl) hrowk rfl hd1.1 hnk))
            (apply drawG_yes rfl rfl rfl; (intro S1 hS; exact stp_loadE' rfl (by as_aux_lemma => kernel_rfl) (hS.op rfl) (hS.ch _ _ rfl) rfl hrowk g3))
            (apply drawG_yes rfl rfl rfl; (intro S1 hS; exact stp_move rfl (hS.op rfl)))
            (apply drawG_yes rfl rfl rfl; (intro S1 hS; exact stp_move rfl (hS.op rfl)))
            (apply drawG_yes rfl rfl rfl; (intro S1 hS; exact stp_move rfl (hS.op rfl)))
            (apply drawG_yes rfl rfl rfl; (intro S1 hS; exact stp_ixE (j := f) rfl (hS.op rfl) (hS.op rfl) (hS.ch _ _ rfl) rfl (by as_aux_lemma => kernel_rfl) hrowk rfl hfn hnk))
            (apply drawG_yes rfl rfl rfl; (intro S1 hS; exact stp_loadE' rfl (by as_aux_lemma => kernel_rfl) (hS.op rfl) (hS.ch _ _ rfl) rfl hrowk g2))
            (apply drawG_yes rfl rfl rfl; (intro S1 hS; exact stp_ixE (j := d2) rfl (hS.op rfl) (hS.op rfl) (hS.ch _ _ rfl) rfl (by as_aux_lemma => kernel_rfl) hrowi rfl hd2.1 hni))
            (apply drawG_yes rfl rfl rfl; (intro S1 hS; exact stp_loadE' rfl (by as_aux_lemma => kernel_rfl) (hS.op rfl) (hS.ch _ _ rfl) rfl hrowi g4))
            (apply drawG_yes rfl rfl rfl; (intro S1 hS; exact stp_bin rfl (hS.op rfl) (hS.op rfl) rfl))
            (apply drawG_put rfl; (intro S1 hS; exact stp_pickF rfl (hS.op rfl) (hS.op rfl)))
            exact DrawG.nil
          · rfl
          ((refine rest_done (by as_aux_lemma => kernel_rfl) ?_; skip))
          (refine fin_seq ?_)
          refine goes_cond rfl (fun e2 => ?_) (fun e2 => ?_)
          · have e2 : (x1 : Int) ≠ x2 := by simpa using e2
            rw [manB_no (fun h => by have := (hcm.1 (h.comm i k hki hkz f (by omega))).1; omega)]
            (refine goes_seq ?_; refine goes_region ?_; apply run_step rfl; (exact stp_assign rfl rfl); refine run_nil ?_; refine fin_seq ?_; refine goes_ret ?_; refine fin_ret_block ?_; refine fin_ret_then ?_; refine fin_ret_then ?_; refine fin_ret_block ?_; refine fin_ret_block ?_; refine fin_ret_then ?_; refine fin_ret_then ?_; refine fin_ret_block ?_; refine fin_ret_block ?_; refine fin_ret_then ?_; refine fin_ret_then ?_; refine fin_ret_block ?_; refine fin_ret_then ?_)
            exact fin_ret1 (.inl rfl) rfl (.tmp rfl) trivial trivial
          · have e2 : (x1 : Int) = x2 := by simpa using e2
            (refine goes_skip ?_; refine fin_block ?_; refine fin_seq ?_; refine goes_region ?_; apply run_step rfl; (exact stp_add rfl rfl rfl (by first | exact IntWalk.i64_in _ (by omega) | rfl)); apply run_step rfl; (exact stp_move rfl rfl); refine run_nil ?_)
            exact fin_round (f + 1) ⟨hfn, fun f' hf' => by
              by_cases e : f' = f
              · subst e; exact hcm.2 ⟨by omega, by omega⟩
              · exact hcf f' (by omega)⟩ (by omega) (Wk.of ⟨rfl, rfl, rfl, rfl, rfl, rfl, rfl, rfl, rfl, rfl, rfl, trivial⟩ ⟨rfl, rfl, trivial⟩ trivial)
      · (refine goes_exit ?_; refine fin_exit_then ?_; refine fin_exit_then ?_; refine fin_exit_eq ?_; refine fin_block ?_; refine fin_seq ?_; refine goes_region ?_; apply run_step rfl; (exact stp_add rfl rfl rfl (by first | exact IntWalk.i64_in _ (by omega) | rfl)); apply run_step rfl; (exact stp_move rfl rfl); refine run_nil ?_)
        exact fin_round (j + 1) ⟨by omega, fun k' h1 h2 f' hf' => by
          by_cases e : k' = k
          · subst e; exact hcf f' (by omega)
          · exact hck k' h1 (by omega) f' hf'⟩ (by omega) (Wk.of ⟨rfl, rfl, rfl, rfl, rfl, rfl, rfl, rfl, trivial⟩ ⟨rfl, rfl, trivial⟩ trivial)
    · (refine goes_exit ?_; refine fin_exit_then ?_; refine fin_exit_then ?_; refine fin_exit_eq ?_; refine fin_block ?_; refine fin_seq ?_; refine goes_region ?_; apply run_step rfl; (exact stp_add rfl rfl rfl (by first | exact IntWalk.i64_in _ (by omega) | rfl)); apply run_step rfl; (exact stp_move rfl rfl); refine run_nil ?_)
      exact fin_round (i + 1) ⟨hiz, fun i' k' h1 h2 h3 => by
        by_cases e : i' = i
        · subst e; exact hck k' h2 (by omega)
        · exact hci i' k' (by omega) h2 h3⟩ (by omega) (Wk.of ⟨rfl, rfl, rfl, rfl, trivial⟩ ⟨rfl, rfl, trivial⟩ trivial)
  obtain rfl : i = zss.length := by omega
  have hM : Man0 zss := ⟨by omega, by omega, by omega, by omega, by rw [hn]; exact hrn, fun i k h1 h2 f hf => hci i k (by omega) h1 h2 f (by omega)⟩
  have hO := (orbI_fc zss n zss.length rfl hT hB (by omega) (by omega) (by omega)).nm [(1003, 1003), (16, 96)] (by kernel_rfl)
  have hO : FC Try.prog 187 [(1003, rowsRo zss)] [vv (I6 n), o1 (.sl 1003 0 zss.length)] [(96, leOw (labs zss n).1)] (.tup [.one (.sl 96 0 n), .one (.val (I6 (labs zss n).2))]) [] := hO
  have hv : manB zss = (((labs zss n).2 : Int) == 1) := by
    rw [hM.man, hn]
    have := labs_one hT hB (n := n) (by omega)
    by_cases hc : (orb zss n 0).2.length = n
    · rw [hc, this.2 hc]; simp
    · have h1 : (labs zss n).2 ≠ 1 := fun h => hc (this.1 h)
      have h2 : ((labs zss n).2 : Int) ≠ 1 := by omega
      have h3 : ((orb zss n 0).2.length : Int) ≠ n := by omega
      rw [beq_eq_false_iff_ne.2 h2, beq_eq_false_iff_ne.2 h3]
  rw [hv]
  (refine goes_exit ?_; refine fin_exit_then ?_; refine fin_exit_then ?_; refine fin_exit_eq ?_; refine fin_seq ?_; refine goes_seq ?_)
  apply goes_draw 5 [] [[], [], [1], [0, 1, 2], [0, 1, 2, 3], [0, 1, 2, 3, 4], [0, 1, 2, 3, 4], [0, 1, 2, 3, 4, 5], [0, 1, 2, 3, 4, 5, 6, 7]] [93, 94, 95, 96, 92] [96] (by kernel_rfl) (by kernel_rfl)
  · (apply draw_put rfl; (intro S1 hS; apply call_gate 172; exact stp_callR hG (by as_aux_lemma => kernel_rfl) rfl (opL_le hS rfl) ⟨rfl, trivial⟩ (allIn_le hS ⟨⟨_, rfl, .inr rfl⟩, ⟨_, rfl, .inl rfl⟩, trivial⟩) rfl rfl))
    (apply draw_put rfl; (intro S1 hS; exact stp_fieldAddr (d := 0) rfl (hS.op rfl) (hS.ch _ _ rfl) (by as_aux_lemma => kernel_rfl)))
    (apply draw_put rfl; (intro S1 hS; exact stp_loadF rfl (by as_aux_lemma => kernel_rfl) (hS.op rfl) (hS.ch _ _ rfl) rfl rfl))
    (apply draw_new rfl; (intro S1 hS; apply call_gate 187; exact stp_callN hO (by as_aux_lemma => kernel_rfl) rfl (opL_le hS rfl) ⟨rfl, rfl, trivial⟩ (allIn_le hS ⟨⟨_, rfl, .inl rfl⟩, trivial⟩) rfl rfl rfl))
    (apply draw_put rfl; (intro S1 hS; exact stp_move rfl (hS.op rfl)))
    exact Draw.nil
  · rfl
  refine rest_join (St.of [(11, vv (I6 (labs zss n).2))] []) ?_ ?_
  · ((apply rest_two 5 6 rfl (by as_aux_lemma => kernel_rfl) rfl rfl rfl rfl; (exact stp_extract rfl rfl rfl); (exact stp_extract rfl rfl rfl); (focus ((apply rest_two 6 7 rfl (by as_aux_lemma => kernel_rfl) rfl rfl rfl rfl; (exact stp_extract rfl rfl rfl); (exact stp_assign rfl rfl); (focus ((apply rest_one 7 rfl (by as_aux_lemma => kernel_rfl) rfl rfl; (exact stp_assign rfl rfl)); (apply rest_one 8 rfl (by as_aux_lemma => kernel_rfl) rfl rfl; (exact stp_assign rfl rfl)); (refine rest_done (by as_aux_lemma => kernel_rfl) ?_; exact fin_join (Wk.of ⟨rfl, trivial⟩ trivial trivial)))); (focus ((apply rest_one 6 rfl (by as_aux_lemma => kernel_rfl) rfl rfl; (exact stp_extract rfl rfl rfl)); (apply rest_one 8 rfl (by as_aux_lemma => kernel_rfl) rfl rfl; (exact stp_assign rfl rfl)); (refine rest_done (by as_aux_lemma => kernel_rfl) ?_; exact fin_join (Wk.of ⟨rfl, trivial⟩ trivial trivial))))))); (focus ((apply rest_one 5 rfl (by as_aux_lemma => kernel_rfl) rfl rfl; (exact stp_extract rfl rfl rfl)); (apply rest_one 7 rfl (by as_aux_lemma => kernel_rfl) rfl rfl; (exact stp_assign rfl rfl)); (apply rest_one 8 rfl (by as_aux_lemma => kernel_rfl) rfl rfl; (exact stp_assign rfl rfl)); (refine rest_done (by as_aux_lemma => kernel_rfl) ?_; exact fin_join (Wk.of ⟨rfl, trivial⟩ trivial trivial))))))
  (refine fin_seq ?_; refine goes_seq ?_; refine goes_region ?_; apply run_step rfl; (exact stp_move rfl rfl); apply run_step rfl; (exact stp_bin rfl rfl rfl rfl); apply run_step rfl; (exact stp_assign rfl rfl); refine run_nil ?_; refine fin_seq ?_; refine goes_ret ?_)
  exact fin_ret1 (.inl rfl) rfl (.tmp rfl) trivial trivial
end Go.Proofs.Ytpognnifgcacnaa

/- IsMap. guards: -/
namespace Go.Proofs.Ytpognnifgcacnaa
open Go.RowKit

end Go.Proofs.Ytpognnifgcacnaa

/- Walks in names: bits of masks. No program in sight. -/
namespace Go.Proofs.Ytpognnifgcacnaa
open Go.RowKit

section
variable {P : Program} {nt : Nat} {S S' S2 : St} {t : Nat} {ty : TypeId} {ps : String} {af : Array Edge} {gd : Option (Nat × Bool)} {x y : Operand} {o : Oper}
/-- a step behind a loss of knowledge -/
theorem Stp.pre (h : Wk S S') (k : Stp P nt o S' S2) : Stp P nt o S S2 :=
  ⟨fun w0 ω0 a w Q hs => k.go w0 ω0 a w Q (h.go _ _ _ _ _ hs)⟩
end
end Go.Proofs.Ytpognnifgcacnaa

/- A memory of names: a call that turns one vector of the caller's in place; quotients and remainders. No program in sight. -/
namespace Go.Proofs.Ytpognnifgcacnaa
open Go.RowKit

section
variable {P : Program} {nt : Nat} {S S' S2 : St} {t : Nat} {ty : TypeId} {ps : String} {af : Array Edge} {gd : Option (Nat × Bool)} {x y : Operand} {o : Oper}
theorem stp_remN {xt yt : TypeId} {a b : Nat} (ht : Nat.blt t nt = true) (hx : S.op x = some (vv (I6 (a : Int)))) (hy : S.op y = some (vv (I6 (b : Int)))) (hb : 0 < b) (ha : a < 1000000000000) :
    Stp P nt ⟨some t, .binOp .rem xt x y yt, ty, ps, af, gd⟩ S (S.put t (vv (I6 ((a % b : Nat) : Int)))) :=
  Stp.pure rfl ht fun _ _ η _ s w hs => by
    refine ⟨I6 ((a % b : Nat) : Int), ?_, rfl⟩
    have hle := Nat.mod_le a b
    have e : Op.intDiv .rem .i64 (a : Int) (b : Int) = pure (I6 ((a % b : Nat) : Int)) := by
      have h1 : (a : Int).tmod (b : Int) = ((a % b : Nat) : Int) := rfl
      have h3 : ¬ (b : Int) = 0 := by omega
      unfold Op.intDiv
      rw [if_neg h3]
      show pure (Value.int .i64 ((a : Int).tmod (b : Int))) = _
      rw [h1]
    simp [execOp, hs.opV hx, hs.opV hy, eqGuard, binOp, e]
end
end Go.Proofs.Ytpognnifgcacnaa

/- ReverseDiagram: the reference's l12Turned, slices.Clone and slices.Reverse at []int64. -/
namespace Go.Proofs.Ytpognnifgcacnaa
open Go.RowKit

/-- a list the other way round; closed to simp -/
def turned (zs : List Int) : List Int := zs.reverse
end Go.Proofs.Ytpognnifgcacnaa

/- slices.Reverse at []int64: it turns a row of the call's own round, in place. -/
namespace Go.Proofs.Ytpognnifgcacnaa
open Go.RowKit

end Go.Proofs.Ytpognnifgcacnaa

/- Comparisons of lists, the greatest one of an ascending list, the greatest common divisor. -/
namespace Go.Proofs.Ytpognnifgcacnaa
open Go.RowKit

end Go.Proofs.Ytpognnifgcacnaa

/- A memory of names: a vector takes another name; an append of nothing. No program in sight. -/
namespace Go.Proofs.Ytpognnifgcacnaa
open Go.RowKit

section
variable {P : Program} {nt : Nat} {S : St} {t : Nat} {ty : TypeId} {ps : String} {af : Array Edge} {gd : Option (Nat × Bool)} {x y : Operand}
end
end Go.Proofs.Ytpognnifgcacnaa

/- A memory of names: a literal of three rows; the other one of a pair (x ^ 1). No program in sight. -/
namespace Go.Proofs.Ytpognnifgcacnaa
open Go.RowKit

section
variable {P : Program} {nt : Nat} {S : St} {t : Nat} {ty : TypeId} {ps : String} {af : Array Edge} {gd : Option (Nat × Bool)} {x y : Operand}
theorem stp_lit3R {T E F z0 z1 z2 m0 m1 m2 : Nat} {x0 x1 x2 : Operand} {v0 v1 v2 : List Value} (ht : Nat.blt t nt = true) (hT : elZ P T E 1 = true) (hx0 : S.op x0 = some (o1 (.sl z0 0 m0))) (hx1 : S.op x1 = some (o1 (.sl z1 0 m1))) (hx2 : S.op x2 = some (o1 (.sl z2 0 m2)))
    (hz0 : S.ch z0 = some ⟨true, F, 1, .vals v0⟩) (hz1 : S.ch z1 = some ⟨true, F, 1, .vals v1⟩) (hz2 : S.ch z2 = some ⟨true, F, 1, .vals v2⟩) (hm0 : v0.length = m0) (hm1 : v1.length = m1) (hm2 : v2.length = m2) (h01 : Nat.beq z0 z1 = false) (h02 : Nat.beq z0 z2 = false) (h12 : Nat.beq z1 z2 = false) (hzt : (!(Nat.beq z0 t) && (!(Nat.beq z1 t) && !(Nat.beq z2 t))) = true) :
    Stp P nt ⟨some t, .buildSlice T 3 #[(0, x0), (1, x1), (2, x2)], ty, ps, af, gd⟩ S (((((S.rm z0).rm z1).rm z2).new t ⟨true, E, 1, .rows F [v0, v1, v2] []⟩).put t (o1 (.sl t 0 3))) :=
  Stp.of _ fun w0 ω0 η ω a w hs => by
    have n01 : z0 ≠ z1 := fun e => by rw [e] at h01; simp at h01
    have n02 : z0 ≠ z2 := fun e => by rw [e] at h02; simp at h02
    have n12 : z1 ≠ z2 := fun e => by rw [e] at h12; simp at h12
    subst hm0 hm1 hm2
    obtain ⟨i, zz, k1, k2, k3, k4, k5, k6⟩ := elZ_spec hT
    have d0 : Den1 η (.sl z0 0 v0.length) (a.eval x0) := hs.opv hx0
    have d1 : Den1 η (.sl z1 0 v1.length) (a.eval x1) := hs.opv hx1
    have d2 : Den1 η (.sl z2 0 v2.length) (a.eval x2) := hs.opv hx2
    have o0 : (a.eval x0).oneCell' = true := d0.one fun v hv => by cases hv
    have o1' : (a.eval x1).oneCell' = true := d1.one fun v hv => by cases hv
    have o2 : (a.eval x2).oneCell' = true := d2.one fun v hv => by cases hv
    obtain ⟨e0, p0, q0, r0⟩ := hs.chunk hz0
    obtain ⟨e1, p1, q1, r1⟩ := hs.chunk hz1
    obtain ⟨e2, p2, q2, r2⟩ := hs.chunk hz2
    have q0 : e0.k = 1 := q0
    have q1 : e1.k = 1 := q1
    have q2 : e2.k = 1 := q2
    have r0 : VecO ω w (z0, none) e0 F v0.length (cellsOK η ω w true z0 (.vals v0)) := r0
    have r1 : VecO ω w (z1, none) e1 F v1.length (cellsOK η ω w true z1 (.vals v1)) := r1
    have r2 : VecO ω w (z2, none) e2 F v2.length (cellsOK η ω w true z2 (.vals v2)) := r2
    obtain ⟨a0, ha0, s0, _⟩ := d0.2 e0 p0
    obtain ⟨a1, ha1, s1, _⟩ := d1.2 e1 p1
    obtain ⟨a2, ha2, s2, _⟩ := d2.2 e2 p2
    refine ⟨.slice (some ⟨w.heap.size, 0, none⟩) 3 3, w.alloc (.cells #[a.eval x0, a.eval x1, a.eval x2] E), ?_, ?_⟩
    · simp [execOp, Instr.buildSlice, run_underlying k1, sizeOf, typeInfo, k2, k3, zeroValue, k5, Instr.fill, newRow, cells_one o0, cells_one o1', cells_one o2, range3]
    · let ω' : Own? := fun b => if b = w.heap.size then some (t, none) else if ω b = some (z0, none) then some (t, some 0) else if ω b = some (z1, none) then some (t, some 1) else if ω b = some (z2, none) then some (t, some 2) else ω b
      have g0 : ∀ b, b < w.heap.size → ω b = some (z0, none) → ω' b = some (t, some 0) := fun b hb h => by simp only [ω', if_neg (Nat.ne_of_lt hb), h, if_true]
      have g1 : ∀ b, b < w.heap.size → ω b = some (z1, none) → ω' b = some (t, some 1) := fun b hb h => by
        simp only [ω', if_neg (Nat.ne_of_lt hb), h]
        rw [if_neg (by simp; exact fun e => n01 e.symm)]; simp
      have g2 : ∀ b, b < w.heap.size → ω b = some (z2, none) → ω' b = some (t, some 2) := fun b hb h => by
        simp only [ω', if_neg (Nat.ne_of_lt hb), h]
        rw [if_neg (by simp; exact fun e => n02 e.symm), if_neg (by simp; exact fun e => n12 e.symm)]; simp
      have calm : Calm (((S.rm z0).rm z1).rm z2) ω w ω' (w.alloc (.cells #[a.eval x0, a.eval x1, a.eval x2] E)) := ⟨rfl, rfl, rfl, by simp, fun b hb hl => by
        refine ⟨Below.heap_alloc w _ b hb, ?_⟩
        have hne : ∀ z, (((S.rm z0).rm z1).rm z2).ch z = none → ω b ≠ some (z, none) := fun z hz => by
          rcases hl with h0 | ⟨y, j, c, h0, h1⟩
          · rw [h0]; simp
          · rw [h0]
            intro e
            simp at e; rw [e.1, hz] at h1; cases h1
        have c0 : (((S.rm z0).rm z1).rm z2).ch z0 = none := by simp [ch_rm]
        have c1 : (((S.rm z0).rm z1).rm z2).ch z1 = none := by simp [ch_rm]
        have c2 : (((S.rm z0).rm z1).rm z2).ch z2 = none := by simp [ch_rm]
        simp only [ω', if_neg (Nat.ne_of_lt hb), if_neg (hne _ c0), if_neg (hne _ c1), if_neg (hne _ c2)]⟩
      let R : Nat → Hd := fun j => if j = 0 then e0 else if j = 1 then e1 else e2
      have key : ChIs ((((η.drop z0).drop z1).drop z2).new t ⟨some ⟨w.heap.size, 0, none⟩, 3, 1⟩ R) ω' (w.alloc (.cells #[a.eval x0, a.eval x1, a.eval x2] E)) t ⟨some ⟨w.heap.size, 0, none⟩, 3, 1⟩ ⟨true, E, 1, .rows F [v0, v1, v2] []⟩ := by
        refine ⟨rfl, .inr ⟨w.heap.size, 0, _, rfl, by simp only [ω', if_true], heap_alloc_new w _, ⟨rfl, rfl⟩, by simp [Dat.len], by simp [maxLen], fun j hj => ?_⟩⟩
        match j, hj with
        | 0, _ =>
          refine ⟨a.eval x0, by simp, o0, fun _ vs' hvs' => ?_⟩
          simp at hvs'; subst hvs'
          have hr : ((((η.drop z0).drop z1).drop z2).new t ⟨some ⟨w.heap.size, 0, none⟩, 3, 1⟩ R).r t 0 = e0 := by simp [Env.new, R]
          rw [hr]
          exact ⟨by rw [ha0, s0 rfl, Nat.sub_zero], q0, VecO.give r0 fun b hb hob => ⟨Below.heap_alloc w _ b hb, g0 b hb hob⟩⟩
        | 1, _ =>
          refine ⟨a.eval x1, by simp, o1', fun _ vs' hvs' => ?_⟩
          simp at hvs'; subst hvs'
          have hr : ((((η.drop z0).drop z1).drop z2).new t ⟨some ⟨w.heap.size, 0, none⟩, 3, 1⟩ R).r t 1 = e1 := by simp [Env.new, R]
          rw [hr]
          exact ⟨by rw [ha1, s1 rfl, Nat.sub_zero], q1, VecO.give r1 fun b hb hob => ⟨Below.heap_alloc w _ b hb, g1 b hb hob⟩⟩
        | 2, _ =>
          refine ⟨a.eval x2, by simp, o2, fun _ vs' hvs' => ?_⟩
          simp at hvs'; subst hvs'
          have hr : ((((η.drop z0).drop z1).drop z2).new t ⟨some ⟨w.heap.size, 0, none⟩, 3, 1⟩ R).r t 2 = e2 := by simp [Env.new, R]
          rw [hr]
          exact ⟨by rw [ha2, s2 rfl, Nat.sub_zero], q2, VecO.give r2 fun b hb hob => ⟨Below.heap_alloc w _ b hb, g2 b hb hob⟩⟩
        | j + 3, hj => exact absurd hj (by simp [Dat.len])
      exact ⟨_, _, ((((hs.drop z0).drop z1).drop z2).lay calm key).putV (by simpa using ht) den_newsl⟩
end
end Go.Proofs.Ytpognnifgcacnaa

/- The map of a rotation, on lists; rotations in names. -/
namespace Go.Proofs.Ytpognnifgcacnaa
open Go.RowKit

structure Tab where
  a : List Int
  b : List Int
  c : List Int
def Tab.rows (T : Tab) : List (List Int) := [T.a, T.b, T.c]
end Go.Proofs.Ytpognnifgcacnaa

/- A memory of names: a struct of one slice. No program in sight. -/
namespace Go.Proofs.Ytpognnifgcacnaa
open Go.RowKit

section
variable {P : Program} {nt : Nat} {S : St} {t : Nat} {ty : TypeId} {ps : String} {af : Array Edge} {gd : Option (Nat × Bool)}
/-- a struct of one slice -/
theorem stp_buildS1 {T : TypeId} {x0 : Operand} {b0 : A1} {n0 : Nat} (ht : Nat.blt t nt = true) (hx0 : S.op x0 = some (o1 b0)) (hl0 : b0.len = some n0)
    (hb : ∀ ao n c, P.built T [(0, .slice ao n c)] = some #[.slice ao n c]) :
    Stp P nt ⟨some t, .build T #[(0, x0)], ty, ps, af, gd⟩ S (S.put t (.s (.agg [b0]))) :=
  Stp.of _ fun w0 ω0 η ω a w hs => by
    have d0 : Den1 η b0 (a.eval x0) := hs.opv hx0
    obtain ⟨ao, c, e0⟩ := d0.len_ hl0
    refine ⟨.agg #[a.eval x0], w, ?_, η, ω, hs.putV (by simpa using ht) (⟨_, rfl, by simp, fun j b hb => ?_⟩ : Den2 η (.agg [b0]) _)⟩
    · simp only [execOp]
      have := run_build w T #[(0, .slice ao n0 c)] _ (hb ao n0 c)
      simp [e0, this]
    · match j, hb with
      | 0, hb => simp at hb; subst hb; exact ⟨_, by simp, d0⟩
      | j + 1, hb => simp at hb
end
end Go.Proofs.Ytpognnifgcacnaa

/- The map of a rotation: the program's. -/
namespace Go.Proofs.Ytpognnifgcacnaa
open Go.RowKit

section
variable {P : Program} {nt : Nat} {S : St} {t : Nat} {ty : TypeId} {ps : String} {af : Array Edge} {gd : Option (Nat × Bool)} {x : Operand}
end
abbrev mBox : Ch := ⟨true, 41, 1, .flat [.val (.slice none 0 0)]⟩
end Go.Proofs.Ytpognnifgcacnaa

/- Maps of polygons: the reference's l10Map, in names. guards: (gen_mpn.py) -/
namespace Go.Proofs.Ytpognnifgcacnaa
open Go.RowKit

section
variable {P : Program} {nt : Nat} {S : St} {t : Nat} {ty : TypeId} {ps : String} {af : Array Edge} {gd : Option (Nat × Bool)} {x y : Operand}
theorem stp_app2I {T E n q len : Nat} {c : Ch} {zs : List Int} {z0 z1 : Int} (ht : Nat.blt t nt = true) (hT : elZ P T E 1 = true) (hx : S.op x = some (o1 (.sl n 0 len))) (hc : S.ch n = some c) (hce : c = ⟨true, E, 1, .vals (ivals zs)⟩) (hl : zs.length = len)
    (hy : S.op y = some (o1 (.sl q 0 2))) (hq : S.ch q = some ⟨true, E, 1, .vals (ivals [z0, z1])⟩) (hb : len + 2 ≤ 2199023255552) :
    Stp P nt ⟨some t, .call { callee := .builtin .append, args := #[x, y], argTypes := #[T, T] }, ty, ps, af, gd⟩ S ((S.new n ⟨true, E, 1, .vals (ivals (zs ++ [z0, z1]))⟩).put t (o1 (.sl n 0 (len + 2)))) := by
  have := stp_append (P := P) (nt := nt) (ty := ty) (ps := ps) (af := af) (gd := gd) (vs := ivals zs) (news := ivals [z0, z1]) (m := 2) (k := 1) ht hT rfl hx hc hce rfl (by rw [ivals_len]; omega) hy (reads_all hq rfl rfl rfl) (by omega) (by intro v hv; simp [ivals] at hv; rcases hv with rfl | rfl <;> rfl) hb
  rw [Nat.zero_mul, List.drop_zero, show ivals zs ++ ivals [z0, z1] = ivals (zs ++ [z0, z1]) from by simp [ivals]] at this
  exact this
end
abbrev mpYes (b : Bool) : AV := .tup [.agg [.sl 156 0 3], .one (.val (.bool b))]
abbrev mpNo : AV := .tup [.agg [.val (.slice none 0 0)], .one (.val (.bool false))]
set_option maxRecDepth 100000 in
set_option maxHeartbeats 4000000 in
theorem mapS_fc (ps : List (List Int)) (N : Nat) (hN : lenSS ps = N) (h200 : N ≤ 200) (hp : ∀ j, j < ps.length → 3 ≤ (lget ps j).length) (hlen : ps.length ≤ 1000)
    (b : Bool) (hg : mpGood ps = b) (outs : List (Nm × Ch)) (res : AV) (ho : (outs, res) = if b = true then ([(156, imOw (mpM ps))], mpYes (manB (mpM ps))) else ([], mpNo)) :
    FC Try.prog 116 [(1003, rowsRo ps)] [o1 (.sl 1003 0 ps.length)] outs res [] := by
  have hf0 : ∀ i, i < (mpM ps).length → (lget (mpM ps) i).length ≤ 1048576 := fun i hi => by
    have hi : i < 3 := hi
    match i, hi with
    | 0, _ => show (zerL ps (lenSS ps)).length ≤ _; unfold zerL; rw [dupL_len]; omega
    | 1, _ => show (oneL (lenSS ps)).length ≤ _; unfold oneL; rw [dupL_len]; omega
    | 2, _ => show (twoL ps (lenSS ps) (2 * lenSS ps)).length ≤ _; rw [twoL_len]; omega
  have hM := (manS_fc (mpM ps) (by show 3 ≤ _; omega) hf0).nm [(1003, 156)] (by kernel_rfl)
  have hM : FC Try.prog 108 [(156, rowsRo (mpM ps))] [.s (.agg [.sl 156 0 3])] [] (vv (.bool (manB (mpM ps)))) [] := hM
  have hir : (irows ps).length = ps.length := irows_len _
  refine fc_enter (nt := 161) Try.func116 rfl rfl (by simp) fun w0 ω0 => ?_
  (refine goes_seq ?_; refine goes_region ?_; apply run_step rfl; (exact stp_allocZ [.slice none 0 0] rfl (by as_aux_lemma => kernel_rfl)); apply run_step rfl; (exact stp_assign rfl rfl); refine run_nil ?_; refine fin_seq ?_; refine goes_seq ?_; refine goes_region ?_; apply run_step rfl; (exact stp_lit0 (E := 2) (k := 1) rfl (by as_aux_lemma => kernel_rfl)); apply run_step rfl; (exact stp_lit0 (E := 2) (k := 1) rfl (by as_aux_lemma => kernel_rfl)); apply run_step rfl; (exact stp_lit0 (E := 2) (k := 1) rfl (by as_aux_lemma => kernel_rfl)); apply run_step rfl; (exact stp_lit0 (E := 2) (k := 1) rfl (by as_aux_lemma => kernel_rfl)); apply run_step rfl; (exact stp_assign rfl rfl); apply run_step rfl; (exact stp_assign rfl rfl); apply run_step rfl; (exact stp_assign rfl rfl); apply run_step rfl; (exact stp_assign rfl rfl); refine run_nil ?_; refine fin_seq ?_; refine goes_seq ?_; refine goes_region ?_; apply run_step rfl; (exact stp_assign rfl rfl); refine run_nil ?_; refine fin_seq ?_; refine goes_seq ?_; refine goes_seq ?_; refine goes_region ?_; apply run_step rfl; (exact stp_assign rfl rfl); refine run_nil ?_; refine fin_seq ?_; refine goes_block ?_)
  refine goes_loop (fun j : Nat => St.of [(0, o1 (.sl 1003 0 ps.length)), (2, o1 (.ptr 2 0)), (4, o1 (.sl 21 0 (2 * begP ps j))), (5, o1 (.sl 22 0 (2 * begP ps j))), (6, o1 (.sl 23 0 (2 * begP ps j))), (7, o1 (.sl 24 0 (2 * begP ps j))), (8, vv (I6 (begP ps j))), (9, vv (I6 j))] [(1003, rowsRo ps), (2, mBox), (21, leOw (ownL ps (begP ps j))), (22, leOw (othL ps (begP ps j))), (23, leOw (zerL ps (begP ps j))), (24, leOw (oneL (begP ps j)))]) (fun j => j ≤ ps.length) (fun j => ps.length - j) 0 (Nat.zero_le _) (Wk.of ⟨rfl, rfl, rfl, rfl, rfl, rfl, rfl, rfl, trivial⟩ ⟨rfl, rfl, rfl, rfl, rfl, rfl, trivial⟩ trivial) ?_
  rintro j hjl
  (refine goes_seq ?_; refine goes_seq ?_; refine goes_region ?_; apply run_step rfl; (exact stp_move rfl rfl); apply run_step rfl; (exact stp_move rfl rfl); apply run_step rfl; (exact stp_len rfl rfl rfl (by as_aux_lemma => kernel_rfl)); apply run_step rfl; (exact stp_bin rfl rfl rfl rfl); refine run_nil ?_; refine fin_seq ?_)
  refine goes_if rfl (fun hlt => ?_) (fun hlt => ?_)
  · have hj : j < ps.length := by omega
    obtain ⟨m, hm⟩ : ∃ m, (lget ps j).length = m := ⟨_, rfl⟩
    have hil : (ivals (lget ps j)).length = m := by rw [ivals_len]; exact hm
    have h3 := hp j hj
    have hbs := begP_succ hj
    have hbl : begP ps (j + 1) ≤ lenSS ps := lenSS_take_le _ _
    rw [hm] at h3 hbs
    have hat1 : ∀ i, i < m → nxP ps (begP ps j + i) = begP ps j + (i + 1) % m := fun i hi => by rw [nxP_at ps j i hj (by omega), hm]
    have hat2 : ∀ i, i < m → pvP ps (begP ps j + i) = begP ps j + (i + m - 1) % m := fun i hi => by rw [pvP_at ps j i hj (by omega), hm]
    have hat3 : ∀ i, i < m → vtx ps (begP ps j + i) = iget (lget ps j) i := fun i hi => flat_at ps j i hj (by omega)
    generalize begP ps j = b0 at *
    (refine goes_skip ?_; refine fin_seq ?_; refine goes_seq ?_; refine goes_block ?_; refine goes_seq ?_; refine goes_region ?_; apply run_step rfl; (exact stp_move rfl rfl); apply run_step rfl; (exact stp_move rfl rfl); apply run_step rfl; (exact stp_ix rfl rfl rfl rfl rfl (by as_aux_lemma => kernel_rfl) (by first | rfl | exact (Int.toNat_of_nonneg (by omega)).symm) (by first | assumption | omega | (simp; omega)) (by first | exact Nat.le_refl _ | exact Nat.le_of_eq (ivals_len _).symm | exact Nat.le_of_eq (irows_len _).symm | (refine Nat.le_trans ?_ (Nat.le_of_eq (ivals_len _).symm); (first | omega | (simp; done) | (simp; omega))) | (refine Nat.le_trans ?_ (Nat.le_of_eq (irows_len _).symm); (first | omega | (simp; done) | (simp; omega))))); apply run_step rfl; (exact stp_loadR rfl (by as_aux_lemma => kernel_rfl) rfl rfl rfl (irows_get hj) hil); apply run_step rfl; (exact stp_assign rfl rfl); refine run_nil ?_; refine fin_seq ?_; refine goes_seq ?_; refine goes_region ?_; apply run_step rfl; (exact stp_move rfl rfl); apply run_step rfl; (exact stp_len rfl rfl rfl (by as_aux_lemma => kernel_rfl)); apply run_step rfl; (exact stp_assign rfl rfl); refine run_nil ?_; refine fin_seq ?_; refine goes_seq ?_; refine goes_seq ?_; refine goes_region ?_; apply run_step rfl; (exact stp_assign rfl rfl); refine run_nil ?_; refine fin_seq ?_; refine goes_block ?_)
    refine goes_loop (fun i : Nat => St.of [(0, o1 (.sl 1003 0 ps.length)), (2, o1 (.ptr 2 0)), (4, o1 (.sl 21 0 (2 * (b0 + i)))), (5, o1 (.sl 22 0 (2 * (b0 + i)))), (6, o1 (.sl 23 0 (2 * (b0 + i)))), (7, o1 (.sl 24 0 (2 * (b0 + i)))), (8, vv (I6 b0)), (9, vv (I6 j)), (10, o1 (.esl 1003 j 0 m)), (11, vv (I6 m)), (12, vv (I6 i))] [(1003, rowsRo ps), (2, mBox), (21, leOw (ownL ps (b0 + i))), (22, leOw (othL ps (b0 + i))), (23, leOw (zerL ps (b0 + i))), (24, leOw (oneL (b0 + i)))]) (fun i => i ≤ m) (fun i => m - i) 0 (Nat.zero_le _) (Wk.of ⟨rfl, rfl, rfl, rfl, rfl, rfl, rfl, rfl, rfl, rfl, rfl, trivial⟩ ⟨rfl, rfl, rfl, rfl, rfl, rfl, trivial⟩ trivial) ?_
    rintro i hi
    (refine goes_seq ?_; refine goes_seq ?_; refine goes_region ?_; apply run_step rfl; (exact stp_move rfl rfl); apply run_step rfl; (exact stp_move rfl rfl); apply run_step rfl; (exact stp_bin rfl rfl rfl rfl); refine run_nil ?_; refine fin_seq ?_)
    refine goes_if rfl (fun hlt2 => ?_) (fun hlt2 => ?_)
    · have him : i < m := by omega
      have h0m : 0 < m := by omega
      have hp0 : (i + 1) % m < m := Nat.mod_lt _ h0m
      have hq0 : (i + m - 1) % m < m := Nat.mod_lt _ h0m
      have s1 : ownL ps (b0 + i + 1) = ownL ps (b0 + i) ++ [iget (lget ps j) i, iget (lget ps j) i] := by show ownL ps (b0 + i) ++ [vtx ps (b0 + i), vtx ps (b0 + i)] = _; rw [hat3 i him]
      have s2 : othL ps (b0 + i + 1) = othL ps (b0 + i) ++ [iget (lget ps j) ((i + 1) % m), iget (lget ps j) ((i + m - 1) % m)] := by
        show othL ps (b0 + i) ++ [vtx ps (nxP ps (b0 + i)), vtx ps (pvP ps (b0 + i))] = _
        rw [hat1 i him, hat2 i him, hat3 _ hp0, hat3 _ hq0]
      have s3 : zerL ps (b0 + i + 1) = zerL ps (b0 + i) ++ [((2 * (b0 + (i + 1) % m) + 1 : Nat) : Int), ((2 * (b0 + (i + m - 1) % m) : Nat) : Int)] := by
        show zerL ps (b0 + i) ++ [((2 * nxP ps (b0 + i) + 1 : Nat) : Int), ((2 * pvP ps (b0 + i) : Nat) : Int)] = _
        rw [hat1 i him, hat2 i him]
      have s4 : oneL (b0 + i + 1) = oneL (b0 + i) ++ [((2 * (b0 + i) + 1 : Nat) : Int), ((2 * (b0 + i) : Nat) : Int)] := rfl
      have l1 : (ownL ps (b0 + i)).length = 2 * (b0 + i) := dupL_len _ _ _
      have l2 : (othL ps (b0 + i)).length = 2 * (b0 + i) := dupL_len _ _ _
      have l3 : (zerL ps (b0 + i)).length = 2 * (b0 + i) := dupL_len _ _ _
      have l4 : (oneL (b0 + i)).length = 2 * (b0 + i) := dupL_len _ _ _
      have hm5 : m ≤ 200 := by omega
      have hb5 : b0 ≤ 200 := by omega
      generalize ownL ps (b0 + i) = A1 at *
      generalize othL ps (b0 + i) = A2 at *
      generalize zerL ps (b0 + i) = A3 at *
      generalize oneL (b0 + i) = A4 at *
      have hi12 : i + 1 < 1000000000000 := by omega
      have hi13 : i + m - 1 < 1000000000000 := by omega
      have e1 : IntKind.i64.wrap ((b0 : Int) + (i : Int)) = ((b0 + i : Nat) : Int) := by rw [IntWalk.i64_in _ (by omega)]; omega
      have e2 : IntKind.i64.wrap ((i : Int) + 1) = ((i + 1 : Nat) : Int) := by rw [IntWalk.i64_in _ (by omega)]; omega
      have e3 : IntKind.i64.wrap ((i : Int) + (m : Int)) = ((i + m : Nat) : Int) := by rw [IntWalk.i64_in _ (by omega)]; omega
      have e4 : IntKind.i64.wrap (((i + m : Nat) : Int) - 1) = ((i + m - 1 : Nat) : Int) := by rw [IntWalk.i64_in _ (by omega)]; omega
      (refine goes_skip ?_; refine fin_seq ?_; refine goes_seq ?_; refine goes_block ?_; refine goes_seq ?_)
      apply goes_draw 16 [] [[], [], [0, 1], [], [3], [], [3, 4, 5], [], [], [7, 8], [7, 8, 9], [], [7, 8, 9, 10, 11], [0, 1, 2], [0, 1, 2, 3, 4, 5, 6, 13], [0, 1, 2, 3, 4, 5, 6, 7, 8, 9, 10, 11, 12, 13, 14]] [42, 43, 44, 45, 46, 47, 48, 49, 50, 51, 52, 53, 54, 13, 14, 15] [] (by kernel_rfl) (by kernel_rfl)
      · (apply draw_put rfl; (intro S1 hS; exact stp_move rfl (hS.op rfl)))
        (apply draw_put rfl; (intro S1 hS; exact stp_move rfl (hS.op rfl)))
        (apply draw_put rfl; (intro S1 hS; exact stp_add rfl (hS.op rfl) (hS.op rfl) e1))
        (apply draw_put rfl; (intro S1 hS; exact stp_move rfl (hS.op rfl)))
        (apply draw_put rfl; (intro S1 hS; exact stp_add rfl (hS.op rfl) (hS.op rfl) e2))
        (apply draw_put rfl; (intro S1 hS; exact stp_move rfl (hS.op rfl)))
        (apply draw_put rfl; (intro S1 hS; exact stp_remN (b := m) rfl (hS.op rfl) (hS.op rfl) h0m hi12))
        (apply draw_put rfl; (intro S1 hS; exact stp_move rfl (hS.op rfl)))
        (apply draw_put rfl; (intro S1 hS; exact stp_move rfl (hS.op rfl)))
        (apply draw_put rfl; (intro S1 hS; exact stp_add rfl (hS.op rfl) (hS.op rfl) e3))
        (apply draw_put rfl; (intro S1 hS; exact stp_sub rfl (hS.op rfl) (hS.op rfl) e4))
        (apply draw_put rfl; (intro S1 hS; exact stp_move rfl (hS.op rfl)))
        (apply draw_put rfl; (intro S1 hS; exact stp_remN (b := m) rfl (hS.op rfl) (hS.op rfl) h0m hi13))
        (apply draw_put rfl; (intro S1 hS; exact stp_assign rfl (hS.op rfl)))
        (apply draw_put rfl; (intro S1 hS; exact stp_assign rfl (hS.op rfl)))
        (apply draw_put rfl; (intro S1 hS; exact stp_assign rfl (hS.op rfl)))
        exact Draw.nil
      · rfl
      ((refine rest_done (by as_aux_lemma => kernel_rfl) ?_; skip))
      generalize (i + 1) % m = p at *
      generalize (i + m - 1) % m = q at *
      (refine fin_seq ?_; refine goes_seq ?_)
      apply goes_draw 10 [] [[], [], [], [1, 2], [1, 2, 3], [], [], [5, 6], [5, 6, 7], [1, 2, 3, 4, 5, 6, 7, 8], [0, 1, 2, 3, 4, 5, 6, 7, 8, 9], [0, 1, 2, 3, 4, 5, 6, 7, 8, 9, 10]] [55, 56, 57, 58, 59, 60, 61, 62, 63, 64] [64] (by kernel_rfl) (by kernel_rfl)
      · (apply draw_put rfl; (intro S1 hS; exact stp_move rfl (hS.op rfl)); apply draw_put rfl; (intro S1 hS; exact stp_move rfl (hS.op rfl)); apply draw_put rfl; (intro S1 hS; exact stp_move rfl (hS.op rfl)); apply draw_put rfl; (intro S1 hS; exact stp_ixE rfl (hS.op rfl) (hS.op rfl) (hS.ch _ _ rfl) rfl (by as_aux_lemma => kernel_rfl) (by first | assumption | exact ivals_get (by assumption) | exact irows_get (by assumption) | exact ivals_get (by omega) | exact irows_get (by omega) | rfl) (by first | rfl | exact (Int.toNat_of_nonneg (by omega)).symm) (by first | assumption | omega | (simp; omega)) (by first | exact Nat.le_refl _ | exact Nat.le_of_eq (ivals_len _).symm | exact Nat.le_of_eq (irows_len _).symm | (refine Nat.le_trans ?_ (Nat.le_of_eq (ivals_len _).symm); (first | omega | (simp; done) | (simp; omega))) | (refine Nat.le_trans ?_ (Nat.le_of_eq (irows_len _).symm); (first | omega | (simp; done) | (simp; omega))))); apply draw_put rfl; (intro S1 hS; exact stp_loadE' rfl (by as_aux_lemma => kernel_rfl) (hS.op rfl) (hS.ch _ _ rfl) rfl (by first | assumption | exact ivals_get (by assumption) | exact irows_get (by assumption) | exact ivals_get (by omega) | exact irows_get (by omega) | rfl) (by first | assumption | exact ivals_get (by assumption) | exact irows_get (by assumption) | exact ivals_get (by omega) | exact irows_get (by omega) | rfl)); apply draw_put rfl; (intro S1 hS; exact stp_move rfl (hS.op rfl)); apply draw_put rfl; (intro S1 hS; exact stp_move rfl (hS.op rfl)); apply draw_put rfl; (intro S1 hS; exact stp_ixE rfl (hS.op rfl) (hS.op rfl) (hS.ch _ _ rfl) rfl (by as_aux_lemma => kernel_rfl) (by first | assumption | exact ivals_get (by assumption) | exact irows_get (by assumption) | exact ivals_get (by omega) | exact irows_get (by omega) | rfl) (by first | rfl | exact (Int.toNat_of_nonneg (by omega)).symm) (by first | assumption | omega | (simp; omega)) (by first | exact Nat.le_refl _ | exact Nat.le_of_eq (ivals_len _).symm | exact Nat.le_of_eq (irows_len _).symm | (refine Nat.le_trans ?_ (Nat.le_of_eq (ivals_len _).symm); (first | omega | (simp; done) | (simp; omega))) | (refine Nat.le_trans ?_ (Nat.le_of_eq (irows_len _).symm); (first | omega | (simp; done) | (simp; omega))))); apply draw_put rfl; (intro S1 hS; exact stp_loadE' rfl (by as_aux_lemma => kernel_rfl) (hS.op rfl) (hS.ch _ _ rfl) rfl (by first | assumption | exact ivals_get (by assumption) | exact irows_get (by assumption) | exact ivals_get (by omega) | exact irows_get (by omega) | rfl) (by first | assumption | exact ivals_get (by assumption) | exact irows_get (by assumption) | exact ivals_get (by omega) | exact irows_get (by omega) | rfl)); apply draw_new rfl; (intro S1 hS; exact stp_lit2I (E := 2) rfl (by as_aux_lemma => kernel_rfl) (hS.op rfl) (hS.op rfl)); exact Draw.nil)
      · rfl
      ((apply rest_one 10 rfl (by as_aux_lemma => kernel_rfl) rfl rfl; ((first | exact stp_app2I (E := 2) rfl (by as_aux_lemma => kernel_rfl) rfl rfl rfl (by assumption) rfl rfl (by omega)))); (apply rest_one 11 rfl (by as_aux_lemma => kernel_rfl) rfl rfl; (exact stp_assign rfl rfl)); (refine rest_done (by as_aux_lemma => kernel_rfl) ?_; skip))
      (refine fin_seq ?_; refine goes_seq ?_)
      apply goes_draw 10 [] [[], [], [], [1, 2], [1, 2, 3], [], [], [5, 6], [5, 6, 7], [1, 2, 3, 4, 5, 6, 7, 8], [0, 1, 2, 3, 4, 5, 6, 7, 8, 9], [0, 1, 2, 3, 4, 5, 6, 7, 8, 9, 10]] [66, 67, 68, 69, 70, 71, 72, 73, 74, 75] [75] (by kernel_rfl) (by kernel_rfl)
      · (apply draw_put rfl; (intro S1 hS; exact stp_move rfl (hS.op rfl)); apply draw_put rfl; (intro S1 hS; exact stp_move rfl (hS.op rfl)); apply draw_put rfl; (intro S1 hS; exact stp_move rfl (hS.op rfl)); apply draw_put rfl; (intro S1 hS; exact stp_ixE rfl (hS.op rfl) (hS.op rfl) (hS.ch _ _ rfl) rfl (by as_aux_lemma => kernel_rfl) (by first | assumption | exact ivals_get (by assumption) | exact irows_get (by assumption) | exact ivals_get (by omega) | exact irows_get (by omega) | rfl) (by first | rfl | exact (Int.toNat_of_nonneg (by omega)).symm) (by first | assumption | omega | (simp; omega)) (by first | exact Nat.le_refl _ | exact Nat.le_of_eq (ivals_len _).symm | exact Nat.le_of_eq (irows_len _).symm | (refine Nat.le_trans ?_ (Nat.le_of_eq (ivals_len _).symm); (first | omega | (simp; done) | (simp; omega))) | (refine Nat.le_trans ?_ (Nat.le_of_eq (irows_len _).symm); (first | omega | (simp; done) | (simp; omega))))); apply draw_put rfl; (intro S1 hS; exact stp_loadE' rfl (by as_aux_lemma => kernel_rfl) (hS.op rfl) (hS.ch _ _ rfl) rfl (by first | assumption | exact ivals_get (by assumption) | exact irows_get (by assumption) | exact ivals_get (by omega) | exact irows_get (by omega) | rfl) (by first | assumption | exact ivals_get (by assumption) | exact irows_get (by assumption) | exact ivals_get (by omega) | exact irows_get (by omega) | rfl)); apply draw_put rfl; (intro S1 hS; exact stp_move rfl (hS.op rfl)); apply draw_put rfl; (intro S1 hS; exact stp_move rfl (hS.op rfl)); apply draw_put rfl; (intro S1 hS; exact stp_ixE rfl (hS.op rfl) (hS.op rfl) (hS.ch _ _ rfl) rfl (by as_aux_lemma => kernel_rfl) (by first | assumption | exact ivals_get (by assumption) | exact irows_get (by assumption) | exact ivals_get (by omega) | exact irows_get (by omega) | rfl) (by first | rfl | exact (Int.toNat_of_nonneg (by omega)).symm) (by first | assumption | omega | (simp; omega)) (by first | exact Nat.le_refl _ | exact Nat.le_of_eq (ivals_len _).symm | exact Nat.le_of_eq (irows_len _).symm | (refine Nat.le_trans ?_ (Nat.le_of_eq (ivals_len _).symm); (first | omega | (simp; done) | (simp; omega))) | (refine Nat.le_trans ?_ (Nat.le_of_eq (irows_len _).symm); (first | omega | (simp; done) | (simp; omega))))); apply draw_put rfl; (intro S1 hS; exact stp_loadE' rfl (by as_aux_lemma => kernel_rfl) (hS.op rfl) (hS.ch _ _ rfl) rfl (by first | assumption | exact ivals_get (by assumption) | exact irows_get (by assumption) | exact ivals_get (by omega) | exact irows_get (by omega) | rfl) (by first | assumption | exact ivals_get (by assumption) | exact irows_get (by assumption) | exact ivals_get (by omega) | exact irows_get (by omega) | rfl)); apply draw_new rfl; (intro S1 hS; exact stp_lit2I (E := 2) rfl (by as_aux_lemma => kernel_rfl) (hS.op rfl) (hS.op rfl)); exact Draw.nil)
      · rfl
      ((apply rest_one 10 rfl (by as_aux_lemma => kernel_rfl) rfl rfl; ((first | exact stp_app2I (E := 2) rfl (by as_aux_lemma => kernel_rfl) rfl rfl rfl (by assumption) rfl rfl (by omega)))); (apply rest_one 11 rfl (by as_aux_lemma => kernel_rfl) rfl rfl; (exact stp_assign rfl rfl)); (refine rest_done (by as_aux_lemma => kernel_rfl) ?_; skip))
      have f1 : IntKind.i64.wrap ((b0 : Int) + (p : Int)) = ((b0 + p : Nat) : Int) := by rw [IntWalk.i64_in _ (by omega)]; omega
      have f2 : IntKind.i64.wrap (2 * ((b0 + p : Nat) : Int)) = ((2 * (b0 + p) : Nat) : Int) := by rw [IntWalk.i64_in _ (by omega)]; omega
      have f3 : IntKind.i64.wrap (((2 * (b0 + p) : Nat) : Int) + 1) = ((2 * (b0 + p) + 1 : Nat) : Int) := by rw [IntWalk.i64_in _ (by omega)]; omega
      have f4 : IntKind.i64.wrap ((b0 : Int) + (q : Int)) = ((b0 + q : Nat) : Int) := by rw [IntWalk.i64_in _ (by omega)]; omega
      have f5 : IntKind.i64.wrap (2 * ((b0 + q : Nat) : Int)) = ((2 * (b0 + q) : Nat) : Int) := by rw [IntWalk.i64_in _ (by omega)]; omega
      have f6 : IntKind.i64.wrap (2 * ((b0 + i : Nat) : Int)) = ((2 * (b0 + i) : Nat) : Int) := by rw [IntWalk.i64_in _ (by omega)]; omega
      have f7 : IntKind.i64.wrap (((2 * (b0 + i) : Nat) : Int) + 1) = ((2 * (b0 + i) + 1 : Nat) : Int) := by rw [IntWalk.i64_in _ (by omega)]; omega
      (refine fin_seq ?_; refine goes_seq ?_; refine goes_region ?_; apply run_step rfl; (exact stp_move rfl rfl); apply run_step rfl; (exact stp_move rfl rfl); apply run_step rfl; (exact stp_move rfl rfl); apply run_step rfl; (first | exact stp_add rfl rfl rfl f1 | exact stp_mul rfl rfl rfl f2 | exact stp_add rfl rfl rfl f3 | exact stp_add rfl rfl rfl f4 | exact stp_mul rfl rfl rfl f5 | exact stp_mul rfl rfl rfl f6 | exact stp_add rfl rfl rfl f7 | exact stp_add rfl rfl rfl e2 | exact stp_app2I (E := 2) rfl (by as_aux_lemma => kernel_rfl) rfl rfl rfl (by assumption) rfl rfl (by omega)); apply run_step rfl; (first | exact stp_add rfl rfl rfl f1 | exact stp_mul rfl rfl rfl f2 | exact stp_add rfl rfl rfl f3 | exact stp_add rfl rfl rfl f4 | exact stp_mul rfl rfl rfl f5 | exact stp_mul rfl rfl rfl f6 | exact stp_add rfl rfl rfl f7 | exact stp_add rfl rfl rfl e2 | exact stp_app2I (E := 2) rfl (by as_aux_lemma => kernel_rfl) rfl rfl rfl (by assumption) rfl rfl (by omega)); apply run_step rfl; (first | exact stp_add rfl rfl rfl f1 | exact stp_mul rfl rfl rfl f2 | exact stp_add rfl rfl rfl f3 | exact stp_add rfl rfl rfl f4 | exact stp_mul rfl rfl rfl f5 | exact stp_mul rfl rfl rfl f6 | exact stp_add rfl rfl rfl f7 | exact stp_add rfl rfl rfl e2 | exact stp_app2I (E := 2) rfl (by as_aux_lemma => kernel_rfl) rfl rfl rfl (by assumption) rfl rfl (by omega)); apply run_step rfl; (exact stp_move rfl rfl); apply run_step rfl; (exact stp_move rfl rfl); apply run_step rfl; (first | exact stp_add rfl rfl rfl f1 | exact stp_mul rfl rfl rfl f2 | exact stp_add rfl rfl rfl f3 | exact stp_add rfl rfl rfl f4 | exact stp_mul rfl rfl rfl f5 | exact stp_mul rfl rfl rfl f6 | exact stp_add rfl rfl rfl f7 | exact stp_add rfl rfl rfl e2 | exact stp_app2I (E := 2) rfl (by as_aux_lemma => kernel_rfl) rfl rfl rfl (by assumption) rfl rfl (by omega)); apply run_step rfl; (first | exact stp_add rfl rfl rfl f1 | exact stp_mul rfl rfl rfl f2 | exact stp_add rfl rfl rfl f3 | exact stp_add rfl rfl rfl f4 | exact stp_mul rfl rfl rfl f5 | exact stp_mul rfl rfl rfl f6 | exact stp_add rfl rfl rfl f7 | exact stp_add rfl rfl rfl e2 | exact stp_app2I (E := 2) rfl (by as_aux_lemma => kernel_rfl) rfl rfl rfl (by assumption) rfl rfl (by omega)); apply run_step rfl; (exact stp_lit2I (E := 2) rfl (by as_aux_lemma => kernel_rfl) rfl rfl); apply run_step rfl; (first | exact stp_add rfl rfl rfl f1 | exact stp_mul rfl rfl rfl f2 | exact stp_add rfl rfl rfl f3 | exact stp_add rfl rfl rfl f4 | exact stp_mul rfl rfl rfl f5 | exact stp_mul rfl rfl rfl f6 | exact stp_add rfl rfl rfl f7 | exact stp_add rfl rfl rfl e2 | exact stp_app2I (E := 2) rfl (by as_aux_lemma => kernel_rfl) rfl rfl rfl (by assumption) rfl rfl (by omega)); apply run_step rfl; (exact stp_assign rfl rfl); refine run_nil ?_; refine fin_seq ?_; refine goes_region ?_; apply run_step rfl; (exact stp_move rfl rfl); apply run_step rfl; (exact stp_move rfl rfl); apply run_step rfl; (first | exact stp_add rfl rfl rfl f1 | exact stp_mul rfl rfl rfl f2 | exact stp_add rfl rfl rfl f3 | exact stp_add rfl rfl rfl f4 | exact stp_mul rfl rfl rfl f5 | exact stp_mul rfl rfl rfl f6 | exact stp_add rfl rfl rfl f7 | exact stp_add rfl rfl rfl e2 | exact stp_app2I (E := 2) rfl (by as_aux_lemma => kernel_rfl) rfl rfl rfl (by assumption) rfl rfl (by omega)); apply run_step rfl; (first | exact stp_add rfl rfl rfl f1 | exact stp_mul rfl rfl rfl f2 | exact stp_add rfl rfl rfl f3 | exact stp_add rfl rfl rfl f4 | exact stp_mul rfl rfl rfl f5 | exact stp_mul rfl rfl rfl f6 | exact stp_add rfl rfl rfl f7 | exact stp_add rfl rfl rfl e2 | exact stp_app2I (E := 2) rfl (by as_aux_lemma => kernel_rfl) rfl rfl rfl (by assumption) rfl rfl (by omega)); apply run_step rfl; (exact stp_move rfl rfl); apply run_step rfl; (first | exact stp_add rfl rfl rfl f1 | exact stp_mul rfl rfl rfl f2 | exact stp_add rfl rfl rfl f3 | exact stp_add rfl rfl rfl f4 | exact stp_mul rfl rfl rfl f5 | exact stp_mul rfl rfl rfl f6 | exact stp_add rfl rfl rfl f7 | exact stp_add rfl rfl rfl e2 | exact stp_app2I (E := 2) rfl (by as_aux_lemma => kernel_rfl) rfl rfl rfl (by assumption) rfl rfl (by omega)); apply run_step rfl; (exact stp_lit2I (E := 2) rfl (by as_aux_lemma => kernel_rfl) rfl rfl); apply run_step rfl; (first | exact stp_add rfl rfl rfl f1 | exact stp_mul rfl rfl rfl f2 | exact stp_add rfl rfl rfl f3 | exact stp_add rfl rfl rfl f4 | exact stp_mul rfl rfl rfl f5 | exact stp_mul rfl rfl rfl f6 | exact stp_add rfl rfl rfl f7 | exact stp_add rfl rfl rfl e2 | exact stp_app2I (E := 2) rfl (by as_aux_lemma => kernel_rfl) rfl rfl rfl (by assumption) rfl rfl (by omega)); apply run_step rfl; (exact stp_assign rfl rfl); refine run_nil ?_; refine fin_block ?_; refine fin_seq ?_; refine goes_region ?_; apply run_step rfl; (exact stp_move rfl rfl); apply run_step rfl; (first | exact stp_add rfl rfl rfl f1 | exact stp_mul rfl rfl rfl f2 | exact stp_add rfl rfl rfl f3 | exact stp_add rfl rfl rfl f4 | exact stp_mul rfl rfl rfl f5 | exact stp_mul rfl rfl rfl f6 | exact stp_add rfl rfl rfl f7 | exact stp_add rfl rfl rfl e2 | exact stp_app2I (E := 2) rfl (by as_aux_lemma => kernel_rfl) rfl rfl rfl (by assumption) rfl rfl (by omega)); apply run_step rfl; (exact stp_assign rfl rfl); refine run_nil ?_)
      exact fin_round (i + 1) (by omega) (by omega) (Wk.of ⟨rfl, rfl, rfl, rfl, rfl, rfl, rfl, rfl, rfl, rfl, rfl, trivial⟩ ⟨rfl, rfl, congrArg (fun z => some (leOw z)) s1.symm, congrArg (fun z => some (leOw z)) s2.symm, congrArg (fun z => some (leOw z)) s3.symm, congrArg (fun z => some (leOw z)) s4.symm, trivial⟩ trivial)
    · obtain rfl : i = m := by omega
      have g1 : IntKind.i64.wrap ((b0 : Int) + (i : Int)) = ((b0 + i : Nat) : Int) := by rw [IntWalk.i64_in _ (by omega)]; omega
      have g2 : IntKind.i64.wrap ((j : Int) + 1) = ((j + 1 : Nat) : Int) := by rw [IntWalk.i64_in _ (by omega)]; omega
      (refine goes_exit ?_; refine fin_exit_then ?_; refine fin_exit_then ?_; refine fin_exit_eq ?_; refine fin_seq ?_; refine goes_region ?_; apply run_step rfl; (exact stp_move rfl rfl); apply run_step rfl; (exact stp_move rfl rfl); apply run_step rfl; (first | exact stp_add rfl rfl rfl g1 | exact stp_add rfl rfl rfl g2); apply run_step rfl; (exact stp_assign rfl rfl); refine run_nil ?_; refine fin_block ?_; refine fin_seq ?_; refine goes_region ?_; apply run_step rfl; (exact stp_move rfl rfl); apply run_step rfl; (first | exact stp_add rfl rfl rfl g1 | exact stp_add rfl rfl rfl g2); apply run_step rfl; (exact stp_assign rfl rfl); refine run_nil ?_)
      exact fin_round (j + 1) (by omega) (by omega) (Wk.of ⟨rfl, rfl, congrArg (fun z => some (o1 (.sl 21 0 (2 * z)))) hbs.symm, congrArg (fun z => some (o1 (.sl 22 0 (2 * z)))) hbs.symm, congrArg (fun z => some (o1 (.sl 23 0 (2 * z)))) hbs.symm, congrArg (fun z => some (o1 (.sl 24 0 (2 * z)))) hbs.symm, congrArg (fun z : Nat => some (vv (I6 (z : Int)))) hbs.symm, rfl, trivial⟩ ⟨rfl, rfl, congrArg (fun z => some (leOw (ownL ps z))) hbs.symm, congrArg (fun z => some (leOw (othL ps z))) hbs.symm, congrArg (fun z => some (leOw (zerL ps z))) hbs.symm, congrArg (fun z => some (leOw (oneL z))) hbs.symm, trivial⟩ trivial)
  · obtain rfl : j = ps.length := by omega
    have hall : begP ps ps.length = N := by rw [begP_all, hN]
    (refine goes_exit ?_; refine fin_exit_then ?_; refine fin_exit_then ?_; refine fin_exit_eq ?_; refine fin_seq ?_; refine goes_seq ?_; refine goes_region ?_; apply run_step rfl; (exact stp_lit0 (E := 2) (k := 1) rfl (by as_aux_lemma => kernel_rfl)); apply run_step rfl; (exact stp_assign rfl rfl); refine run_nil ?_; refine fin_seq ?_; refine goes_seq ?_; refine goes_seq ?_; refine goes_region ?_; apply run_step rfl; (exact stp_assign rfl rfl); refine run_nil ?_; refine fin_seq ?_; refine goes_block ?_)
    have hgN : mpGood ps = goodUp ps N (2 * N) := by unfold mpGood; rw [hN]
    have hlO : (ownL ps N).length = 2 * N := dupL_len _ _ _
    have hlT : (othL ps N).length = 2 * N := dupL_len _ _ _
    refine goes_loop (fun f : Nat => St.of [(0, o1 (.sl 1003 0 ps.length)), (2, o1 (.ptr 2 0)), (4, o1 (.sl 21 0 (2 * N))), (5, o1 (.sl 22 0 (2 * N))), (6, o1 (.sl 23 0 (2 * N))), (7, o1 (.sl 24 0 (2 * N))), (16, o1 (.sl 100 0 f)), (17, vv (I6 f))] [(1003, rowsRo ps), (2, mBox), (21, leOw (ownL ps N)), (22, leOw (othL ps N)), (23, leOw (zerL ps N)), (24, leOw (oneL N)), (100, leOw (twoL ps N f))]) (fun f => f ≤ 2 * N ∧ goodUp ps N f = true) (fun f => 2 * N - f) 0 ⟨Nat.zero_le _, rfl⟩ (Wk.of ⟨rfl, rfl, congrArg (fun z => some (o1 (.sl 21 0 (2 * z)))) hall, congrArg (fun z => some (o1 (.sl 22 0 (2 * z)))) hall, congrArg (fun z => some (o1 (.sl 23 0 (2 * z)))) hall, congrArg (fun z => some (o1 (.sl 24 0 (2 * z)))) hall, rfl, rfl, trivial⟩ ⟨rfl, rfl, congrArg (fun z => some (leOw (ownL ps z))) hall, congrArg (fun z => some (leOw (othL ps z))) hall, congrArg (fun z => some (leOw (zerL ps z))) hall, congrArg (fun z => some (leOw (oneL z))) hall, rfl, trivial⟩ trivial) ?_
    rintro f ⟨hf, hgu⟩
    have hc2 : ((2 * N : Nat) : Int) = ((2 * N : Nat) : Int) := rfl
    (refine goes_seq ?_; refine goes_seq ?_; refine goes_region ?_; apply run_step rfl; (exact stp_move rfl rfl); apply run_step rfl; (exact stp_move rfl rfl); apply run_step rfl; (exact stp_len rfl rfl rfl (by as_aux_lemma => kernel_rfl)); apply run_step rfl; (exact stp_bin rfl rfl rfl rfl); refine run_nil ?_; refine fin_seq ?_)
    refine goes_if rfl (fun hlt2 => ?_) (fun hlt2 => ?_)
    · have hf2 : f < 2 * N := by omega
      (refine goes_skip ?_; refine fin_seq ?_; refine goes_seq ?_; refine goes_block ?_; refine goes_seq ?_; refine goes_region ?_; apply run_step rfl; (exact stp_lit0 (E := 2) (k := 1) rfl (by as_aux_lemma => kernel_rfl)); apply run_step rfl; (exact stp_assign rfl rfl); refine run_nil ?_; refine fin_seq ?_; refine goes_seq ?_; refine goes_seq ?_; refine goes_region ?_; apply run_step rfl; (exact stp_assign rfl rfl); refine run_nil ?_; refine fin_seq ?_; refine goes_block ?_)
      refine goes_loop (fun g : Nat => St.of [(0, o1 (.sl 1003 0 ps.length)), (2, o1 (.ptr 2 0)), (4, o1 (.sl 21 0 (2 * N))), (5, o1 (.sl 22 0 (2 * N))), (6, o1 (.sl 23 0 (2 * N))), (7, o1 (.sl 24 0 (2 * N))), (16, o1 (.sl 100 0 f)), (17, vv (I6 f)), (18, o1 (.sl 107 0 (fndL ps N f g).length)), (19, vv (I6 g))] [(1003, rowsRo ps), (2, mBox), (21, leOw (ownL ps N)), (22, leOw (othL ps N)), (23, leOw (zerL ps N)), (24, leOw (oneL N)), (100, leOw (twoL ps N f)), (107, leOw (fndL ps N f g))]) (fun g => g ≤ 2 * N) (fun g => 2 * N - g) 0 (Nat.zero_le _) (Wk.of ⟨rfl, rfl, rfl, rfl, rfl, rfl, rfl, rfl, rfl, rfl, trivial⟩ ⟨rfl, rfl, rfl, rfl, rfl, rfl, rfl, rfl, trivial⟩ trivial) ?_
      rintro g hg2
      (refine goes_seq ?_; refine goes_seq ?_; refine goes_region ?_; apply run_step rfl; (exact stp_move rfl rfl); apply run_step rfl; (exact stp_move rfl rfl); apply run_step rfl; (exact stp_len rfl rfl rfl (by as_aux_lemma => kernel_rfl)); apply run_step rfl; (exact stp_bin rfl rfl rfl rfl); refine run_nil ?_; refine fin_seq ?_)
      refine goes_if rfl (fun hlt3 => ?_) (fun hlt3 => ?_)
      · have hg3 : g < 2 * N := by omega
        have hfl := fndL_len ps N f g
        have e1 : IntKind.i64.wrap ((g : Int) + 1) = ((g + 1 : Nat) : Int) := by rw [IntWalk.i64_in _ (by omega)]; omega
        have hst : fndL ps N f (g + 1) = if fndB ps N f g = true then fndL ps N f g ++ [(g : Int)] else fndL ps N f g := rfl
        (refine goes_skip ?_; refine fin_seq ?_; refine goes_seq ?_; refine goes_block ?_; refine goes_seq ?_)
        by_cases c1 : (g : Int) = (f : Int)
        · have hB : fndB ps N f g = false := by unfold fndB; rw [c1]; simp
          rw [hB, if_neg (by simp)] at hst
          apply goes_drawG 25 [] [[], [], [0, 1], [0, 1, 2], [0, 1, 2, 3], [0, 1, 2, 3], [0, 1, 2, 3, 4, 5], [0, 1, 2, 3, 4, 5, 6], [0, 1, 2, 3], [0, 1, 2, 3], [0, 1, 2, 3, 8, 9], [0, 1, 2, 3, 8, 9, 10], [0, 1, 2, 3, 4, 5, 6, 7, 8, 9, 10, 11], [0, 1, 2, 3, 4, 5, 6, 7, 8, 9, 10, 11, 12], [0, 1, 2, 3, 4, 5, 6, 7, 8, 9, 10, 11, 12, 13], [0, 1, 2, 3, 4, 5, 6, 7, 8, 9, 10, 11, 12, 13, 14], [0, 1, 2, 3, 4, 5, 6, 7, 8, 9, 10, 11, 12, 13, 14], [0, 1, 2, 3, 4, 5, 6, 7, 8, 9, 10, 11, 12, 13, 14, 15, 16], [0, 1, 2, 3, 4, 5, 6, 7, 8, 9, 10, 11, 12, 13, 14, 15, 16, 17], [0, 1, 2, 3, 4, 5, 6, 7, 8, 9, 10, 11, 12, 13, 14], [0, 1, 2, 3, 4, 5, 6, 7, 8, 9, 10, 11, 12, 13, 14], [0, 1, 2, 3, 4, 5, 6, 7, 8, 9, 10, 11, 12, 13, 14, 19, 20], [0, 1, 2, 3, 4, 5, 6, 7, 8, 9, 10, 11, 12, 13, 14, 19, 20, 21], [0, 1, 2, 3, 4, 5, 6, 7, 8, 9, 10, 11, 12, 13, 14, 15, 16, 17, 18, 19, 20, 21, 22], [0, 1, 2, 3, 4, 5, 6, 7, 8, 9, 10, 11, 12, 13, 14, 15, 16, 17, 18, 19, 20, 21, 22, 23]] [114, 115, 116, 117, 118, 119, 120, 121, 122, 123, 124, 125, 126, 127, 128, 129, 130, 131, 132, 133, 134, 135, 136, 137, 138] [] (by kernel_rfl) (by kernel_rfl)
          · (apply drawG_put rfl; (intro S1 hS; exact stp_move rfl (hS.op rfl)); apply drawG_put rfl; (intro S1 hS; exact stp_move rfl (hS.op rfl)); (first | (apply drawG_put rfl; (focus (intro S1 hS; exact stp_bin rfl (hS.op rfl) (hS.op rfl) (binNeq' c1)))) | (apply drawG_yes rfl rfl rfl; (focus (intro S1 hS; exact stp_bin rfl (hS.op rfl) (hS.op rfl) (binNeq' c1))))); apply drawG_put rfl; (intro S1 hS; exact stp_move rfl (hS.op rfl)); apply drawG_no rfl rfl rfl rfl rfl; apply drawG_no rfl rfl rfl rfl rfl; apply drawG_no rfl rfl rfl rfl rfl; apply drawG_no rfl rfl rfl rfl rfl; apply drawG_no rfl rfl rfl rfl rfl; apply drawG_no rfl rfl rfl rfl rfl; apply drawG_no rfl rfl rfl rfl rfl; apply drawG_no rfl rfl rfl rfl rfl; apply drawG_no rfl rfl rfl rfl rfl; apply drawG_put rfl; (intro S1 hS; exact stp_pickF rfl (hS.op rfl) (hS.op rfl)); apply drawG_put rfl; (intro S1 hS; exact stp_move rfl (hS.op rfl)); apply drawG_no rfl rfl rfl rfl rfl; apply drawG_no rfl rfl rfl rfl rfl; apply drawG_no rfl rfl rfl rfl rfl; apply drawG_no rfl rfl rfl rfl rfl; apply drawG_no rfl rfl rfl rfl rfl; apply drawG_no rfl rfl rfl rfl rfl; apply drawG_no rfl rfl rfl rfl rfl; apply drawG_no rfl rfl rfl rfl rfl; apply drawG_no rfl rfl rfl rfl rfl; apply drawG_put rfl; (intro S1 hS; exact stp_pickF rfl (hS.op rfl) (hS.op rfl)); exact DrawG.nil)
          · rfl
          ((refine rest_done (by as_aux_lemma => kernel_rfl) ?_; skip))
          (refine fin_seq ?_)
          refine goes_cond rfl (fun e => by cases e) (fun _ => ?_)
          (refine goes_skip ?_; refine fin_block ?_; refine fin_seq ?_; refine goes_region ?_; apply run_step rfl; (exact stp_move rfl rfl); apply run_step rfl; (exact stp_add rfl rfl rfl e1); apply run_step rfl; (exact stp_assign rfl rfl); refine run_nil ?_)
          exact fin_round (g + 1) (by omega) (by omega) (Wk.of ⟨rfl, rfl, rfl, rfl, rfl, rfl, rfl, rfl, congrArg (fun z => some (o1 (.sl 107 0 (List.length z)))) hst.symm, rfl, trivial⟩ ⟨rfl, rfl, rfl, rfl, rfl, rfl, rfl, congrArg (fun z => some (leOw z)) hst.symm, trivial⟩ trivial)
        · by_cases c2 : iget (ownL ps N) g = iget (ownL ps N) f
          · by_cases c3 : iget (othL ps N) g = iget (othL ps N) f
            · have hB : fndB ps N f g = true := by unfold fndB; rw [c2, c3]; simpa using c1
              rw [hB, if_pos rfl] at hst
              have hsl : (fndL ps N f (g + 1)).length = (fndL ps N f g).length + 1 := by rw [hst]; simp
              apply goes_drawG 25 [] [[], [], [0, 1], [0, 1, 2], [0, 1, 2, 3], [0, 1, 2, 3], [0, 1, 2, 3, 4, 5], [0, 1, 2, 3, 4, 5, 6], [0, 1, 2, 3], [0, 1, 2, 3], [0, 1, 2, 3, 8, 9], [0, 1, 2, 3, 8, 9, 10], [0, 1, 2, 3, 4, 5, 6, 7, 8, 9, 10, 11], [0, 1, 2, 3, 4, 5, 6, 7, 8, 9, 10, 11, 12], [0, 1, 2, 3, 4, 5, 6, 7, 8, 9, 10, 11, 12, 13], [0, 1, 2, 3, 4, 5, 6, 7, 8, 9, 10, 11, 12, 13, 14], [0, 1, 2, 3, 4, 5, 6, 7, 8, 9, 10, 11, 12, 13, 14], [0, 1, 2, 3, 4, 5, 6, 7, 8, 9, 10, 11, 12, 13, 14, 15, 16], [0, 1, 2, 3, 4, 5, 6, 7, 8, 9, 10, 11, 12, 13, 14, 15, 16, 17], [0, 1, 2, 3, 4, 5, 6, 7, 8, 9, 10, 11, 12, 13, 14], [0, 1, 2, 3, 4, 5, 6, 7, 8, 9, 10, 11, 12, 13, 14], [0, 1, 2, 3, 4, 5, 6, 7, 8, 9, 10, 11, 12, 13, 14, 19, 20], [0, 1, 2, 3, 4, 5, 6, 7, 8, 9, 10, 11, 12, 13, 14, 19, 20, 21], [0, 1, 2, 3, 4, 5, 6, 7, 8, 9, 10, 11, 12, 13, 14, 15, 16, 17, 18, 19, 20, 21, 22], [0, 1, 2, 3, 4, 5, 6, 7, 8, 9, 10, 11, 12, 13, 14, 15, 16, 17, 18, 19, 20, 21, 22, 23]] [114, 115, 116, 117, 118, 119, 120, 121, 122, 123, 124, 125, 126, 127, 128, 129, 130, 131, 132, 133, 134, 135, 136, 137, 138] [] (by kernel_rfl) (by kernel_rfl)
              · (apply drawG_put rfl; (intro S1 hS; exact stp_move rfl (hS.op rfl)); apply drawG_put rfl; (intro S1 hS; exact stp_move rfl (hS.op rfl)); (first | (apply drawG_put rfl; (focus (intro S1 hS; first | exact stp_bin rfl (hS.op rfl) (hS.op rfl) (binNeq c1) | exact stp_bin rfl (hS.op rfl) (hS.op rfl) (binEql c2) | exact stp_bin rfl (hS.op rfl) (hS.op rfl) (binEql c3)))) | (apply drawG_yes rfl rfl rfl; (focus (intro S1 hS; first | exact stp_bin rfl (hS.op rfl) (hS.op rfl) (binNeq c1) | exact stp_bin rfl (hS.op rfl) (hS.op rfl) (binEql c2) | exact stp_bin rfl (hS.op rfl) (hS.op rfl) (binEql c3))))); apply drawG_put rfl; (intro S1 hS; exact stp_move rfl (hS.op rfl)); apply drawG_yes rfl rfl rfl; (intro S1 hS; exact stp_move rfl (hS.op rfl)); apply drawG_yes rfl rfl rfl; (intro S1 hS; exact stp_move rfl (hS.op rfl)); apply drawG_yes rfl rfl rfl; (intro S1 hS; exact stp_ix rfl (hS.op rfl) (hS.op rfl) (hS.ch _ _ rfl) rfl (by as_aux_lemma => kernel_rfl) (by first | rfl | exact (Int.toNat_of_nonneg (by omega)).symm) (by first | assumption | omega | (simp; omega)) (by first | exact Nat.le_refl _ | exact Nat.le_of_eq (ivals_len _).symm | exact Nat.le_of_eq (irows_len _).symm | (refine Nat.le_trans ?_ (Nat.le_of_eq (ivals_len _).symm); (first | omega | (simp; done) | (simp; omega))) | (refine Nat.le_trans ?_ (Nat.le_of_eq (irows_len _).symm); (first | omega | (simp; done) | (simp; omega))))); apply drawG_yes rfl rfl rfl; (intro S1 hS; exact stp_loadV rfl (by as_aux_lemma => kernel_rfl) (hS.op rfl) (hS.ch _ _ rfl) rfl (by first | assumption | exact ivals_get (by assumption) | exact irows_get (by assumption) | exact ivals_get (by omega) | exact irows_get (by omega) | rfl)); apply drawG_yes rfl rfl rfl; (intro S1 hS; exact stp_move rfl (hS.op rfl)); apply drawG_yes rfl rfl rfl; (intro S1 hS; exact stp_move rfl (hS.op rfl)); apply drawG_yes rfl rfl rfl; (intro S1 hS; exact stp_ix rfl (hS.op rfl) (hS.op rfl) (hS.ch _ _ rfl) rfl (by as_aux_lemma => kernel_rfl) (by first | rfl | exact (Int.toNat_of_nonneg (by omega)).symm) (by first | assumption | omega | (simp; omega)) (by first | exact Nat.le_refl _ | exact Nat.le_of_eq (ivals_len _).symm | exact Nat.le_of_eq (irows_len _).symm | (refine Nat.le_trans ?_ (Nat.le_of_eq (ivals_len _).symm); (first | omega | (simp; done) | (simp; omega))) | (refine Nat.le_trans ?_ (Nat.le_of_eq (irows_len _).symm); (first | omega | (simp; done) | (simp; omega))))); apply drawG_yes rfl rfl rfl; (intro S1 hS; exact stp_loadV rfl (by as_aux_lemma => kernel_rfl) (hS.op rfl) (hS.ch _ _ rfl) rfl (by first | assumption | exact ivals_get (by assumption) | exact irows_get (by assumption) | exact ivals_get (by omega) | exact irows_get (by omega) | rfl)); (first | (apply drawG_put rfl; (focus (intro S1 hS; first | exact stp_bin rfl (hS.op rfl) (hS.op rfl) (binNeq c1) | exact stp_bin rfl (hS.op rfl) (hS.op rfl) (binEql c2) | exact stp_bin rfl (hS.op rfl) (hS.op rfl) (binEql c3)))) | (apply drawG_yes rfl rfl rfl; (focus (intro S1 hS; first | exact stp_bin rfl (hS.op rfl) (hS.op rfl) (binNeq c1) | exact stp_bin rfl (hS.op rfl) (hS.op rfl) (binEql c2) | exact stp_bin rfl (hS.op rfl) (hS.op rfl) (binEql c3))))); apply drawG_put rfl; (intro S1 hS; exact stp_pickT rfl (hS.op rfl) (hS.op rfl)); apply drawG_put rfl; (intro S1 hS; exact stp_move rfl (hS.op rfl)); apply drawG_yes rfl rfl rfl; (intro S1 hS; exact stp_move rfl (hS.op rfl)); apply drawG_yes rfl rfl rfl; (intro S1 hS; exact stp_move rfl (hS.op rfl)); apply drawG_yes rfl rfl rfl; (intro S1 hS; exact stp_ix rfl (hS.op rfl) (hS.op rfl) (hS.ch _ _ rfl) rfl (by as_aux_lemma => kernel_rfl) (by first | rfl | exact (Int.toNat_of_nonneg (by omega)).symm) (by first | assumption | omega | (simp; omega)) (by first | exact Nat.le_refl _ | exact Nat.le_of_eq (ivals_len _).symm | exact Nat.le_of_eq (irows_len _).symm | (refine Nat.le_trans ?_ (Nat.le_of_eq (ivals_len _).symm); (first | omega | (simp; done) | (simp; omega))) | (refine Nat.le_trans ?_ (Nat.le_of_eq (irows_len _).symm); (first | omega | (simp; done) | (simp; omega))))); apply drawG_yes rfl rfl rfl; (intro S1 hS; exact stp_loadV rfl (by as_aux_lemma => kernel_rfl) (hS.op rfl) (hS.ch _ _ rfl) rfl (by first | assumption | exact ivals_get (by assumption) | exact irows_get (by assumption) | exact ivals_get (by omega) | exact irows_get (by omega) | rfl)); apply drawG_yes rfl rfl rfl; (intro S1 hS; exact stp_move rfl (hS.op rfl)); apply drawG_yes rfl rfl rfl; (intro S1 hS; exact stp_move rfl (hS.op rfl)); apply drawG_yes rfl rfl rfl; (intro S1 hS; exact stp_ix rfl (hS.op rfl) (hS.op rfl) (hS.ch _ _ rfl) rfl (by as_aux_lemma => kernel_rfl) (by first | rfl | exact (Int.toNat_of_nonneg (by omega)).symm) (by first | assumption | omega | (simp; omega)) (by first | exact Nat.le_refl _ | exact Nat.le_of_eq (ivals_len _).symm | exact Nat.le_of_eq (irows_len _).symm | (refine Nat.le_trans ?_ (Nat.le_of_eq (ivals_len _).symm); (first | omega | (simp; done) | (simp; omega))) | (refine Nat.le_trans ?_ (Nat.le_of_eq (irows_len _).symm); (first | omega | (simp; done) | (simp; omega))))); apply drawG_yes rfl rfl rfl; (intro S1 hS; exact stp_loadV rfl (by as_aux_lemma => kernel_rfl) (hS.op rfl) (hS.ch _ _ rfl) rfl (by first | assumption | exact ivals_get (by assumption) | exact irows_get (by assumption) | exact ivals_get (by omega) | exact irows_get (by omega) | rfl)); (first | (apply drawG_put rfl; (focus (intro S1 hS; first | exact stp_bin rfl (hS.op rfl) (hS.op rfl) (binNeq c1) | exact stp_bin rfl (hS.op rfl) (hS.op rfl) (binEql c2) | exact stp_bin rfl (hS.op rfl) (hS.op rfl) (binEql c3)))) | (apply drawG_yes rfl rfl rfl; (focus (intro S1 hS; first | exact stp_bin rfl (hS.op rfl) (hS.op rfl) (binNeq c1) | exact stp_bin rfl (hS.op rfl) (hS.op rfl) (binEql c2) | exact stp_bin rfl (hS.op rfl) (hS.op rfl) (binEql c3))))); apply drawG_put rfl; (intro S1 hS; exact stp_pickT rfl (hS.op rfl) (hS.op rfl)); exact DrawG.nil)
              · rfl
              ((refine rest_done (by as_aux_lemma => kernel_rfl) ?_; skip))
              (refine fin_seq ?_)
              refine goes_cond rfl (fun _ => ?_) (fun e => by cases e)
              (refine goes_region ?_; apply run_step rfl; (exact stp_move rfl rfl); apply run_step rfl; (exact stp_move rfl rfl); apply run_step rfl; (exact stp_lit1I (E := 2) rfl (by as_aux_lemma => kernel_rfl) rfl); apply run_step rfl; (exact stp_appI rfl (by as_aux_lemma => kernel_rfl) rfl rfl rfl (by first | rfl | assumption | (simp; done)) rfl rfl (by omega)); apply run_step rfl; (exact stp_assign rfl rfl); refine run_nil ?_; refine fin_block ?_; refine fin_seq ?_; refine goes_region ?_; apply run_step rfl; (exact stp_move rfl rfl); apply run_step rfl; (exact stp_add rfl rfl rfl e1); apply run_step rfl; (exact stp_assign rfl rfl); refine run_nil ?_)
              exact fin_round (g + 1) (by omega) (by omega) (Wk.of ⟨rfl, rfl, rfl, rfl, rfl, rfl, rfl, rfl, congrArg (fun z => some (o1 (.sl 107 0 z))) hsl.symm, rfl, trivial⟩ ⟨rfl, rfl, rfl, rfl, rfl, rfl, rfl, congrArg (fun z => some (leOw z)) hst.symm, trivial⟩ trivial)
            · have hB : fndB ps N f g = false := by unfold fndB; rw [show (iget (othL ps N) g == iget (othL ps N) f) = false by simpa using c3]; simp
              rw [hB, if_neg (by simp)] at hst
              apply goes_drawG 25 [] [[], [], [0, 1], [0, 1, 2], [0, 1, 2, 3], [0, 1, 2, 3], [0, 1, 2, 3, 4, 5], [0, 1, 2, 3, 4, 5, 6], [0, 1, 2, 3], [0, 1, 2, 3], [0, 1, 2, 3, 8, 9], [0, 1, 2, 3, 8, 9, 10], [0, 1, 2, 3, 4, 5, 6, 7, 8, 9, 10, 11], [0, 1, 2, 3, 4, 5, 6, 7, 8, 9, 10, 11, 12], [0, 1, 2, 3, 4, 5, 6, 7, 8, 9, 10, 11, 12, 13], [0, 1, 2, 3, 4, 5, 6, 7, 8, 9, 10, 11, 12, 13, 14], [0, 1, 2, 3, 4, 5, 6, 7, 8, 9, 10, 11, 12, 13, 14], [0, 1, 2, 3, 4, 5, 6, 7, 8, 9, 10, 11, 12, 13, 14, 15, 16], [0, 1, 2, 3, 4, 5, 6, 7, 8, 9, 10, 11, 12, 13, 14, 15, 16, 17], [0, 1, 2, 3, 4, 5, 6, 7, 8, 9, 10, 11, 12, 13, 14], [0, 1, 2, 3, 4, 5, 6, 7, 8, 9, 10, 11, 12, 13, 14], [0, 1, 2, 3, 4, 5, 6, 7, 8, 9, 10, 11, 12, 13, 14, 19, 20], [0, 1, 2, 3, 4, 5, 6, 7, 8, 9, 10, 11, 12, 13, 14, 19, 20, 21], [0, 1, 2, 3, 4, 5, 6, 7, 8, 9, 10, 11, 12, 13, 14, 15, 16, 17, 18, 19, 20, 21, 22], [0, 1, 2, 3, 4, 5, 6, 7, 8, 9, 10, 11, 12, 13, 14, 15, 16, 17, 18, 19, 20, 21, 22, 23]] [114, 115, 116, 117, 118, 119, 120, 121, 122, 123, 124, 125, 126, 127, 128, 129, 130, 131, 132, 133, 134, 135, 136, 137, 138] [] (by kernel_rfl) (by kernel_rfl)
              · (apply drawG_put rfl; (intro S1 hS; exact stp_move rfl (hS.op rfl)); apply drawG_put rfl; (intro S1 hS; exact stp_move rfl (hS.op rfl)); (first | (apply drawG_put rfl; (focus (intro S1 hS; first | exact stp_bin rfl (hS.op rfl) (hS.op rfl) (binNeq c1) | exact stp_bin rfl (hS.op rfl) (hS.op rfl) (binEql c2) | exact stp_bin rfl (hS.op rfl) (hS.op rfl) (binEql' c3)))) | (apply drawG_yes rfl rfl rfl; (focus (intro S1 hS; first | exact stp_bin rfl (hS.op rfl) (hS.op rfl) (binNeq c1) | exact stp_bin rfl (hS.op rfl) (hS.op rfl) (binEql c2) | exact stp_bin rfl (hS.op rfl) (hS.op rfl) (binEql' c3))))); apply drawG_put rfl; (intro S1 hS; exact stp_move rfl (hS.op rfl)); apply drawG_yes rfl rfl rfl; (intro S1 hS; exact stp_move rfl (hS.op rfl)); apply drawG_yes rfl rfl rfl; (intro S1 hS; exact stp_move rfl (hS.op rfl)); apply drawG_yes rfl rfl rfl; (intro S1 hS; exact stp_ix rfl (hS.op rfl) (hS.op rfl) (hS.ch _ _ rfl) rfl (by as_aux_lemma => kernel_rfl) (by first | rfl | exact (Int.toNat_of_nonneg (by omega)).symm) (by first | assumption | omega | (simp; omega)) (by first | exact Nat.le_refl _ | exact Nat.le_of_eq (ivals_len _).symm | exact Nat.le_of_eq (irows_len _).symm | (refine Nat.le_trans ?_ (Nat.le_of_eq (ivals_len _).symm); (first | omega | (simp; done) | (simp; omega))) | (refine Nat.le_trans ?_ (Nat.le_of_eq (irows_len _).symm); (first | omega | (simp; done) | (simp; omega))))); apply drawG_yes rfl rfl rfl; (intro S1 hS; exact stp_loadV rfl (by as_aux_lemma => kernel_rfl) (hS.op rfl) (hS.ch _ _ rfl) rfl (by first | assumption | exact ivals_get (by assumption) | exact irows_get (by assumption) | exact ivals_get (by omega) | exact irows_get (by omega) | rfl)); apply drawG_yes rfl rfl rfl; (intro S1 hS; exact stp_move rfl (hS.op rfl)); apply drawG_yes rfl rfl rfl; (intro S1 hS; exact stp_move rfl (hS.op rfl)); apply drawG_yes rfl rfl rfl; (intro S1 hS; exact stp_ix rfl (hS.op rfl) (hS.op rfl) (hS.ch _ _ rfl) rfl (by as_aux_lemma => kernel_rfl) (by first | rfl | exact (Int.toNat_of_nonneg (by omega)).symm) (by first | assumption | omega | (simp; omega)) (by first | exact Nat.le_refl _ | exact Nat.le_of_eq (ivals_len _).symm | exact Nat.le_of_eq (irows_len _).symm | (refine Nat.le_trans ?_ (Nat.le_of_eq (ivals_len _).symm); (first | omega | (simp; done) | (simp; omega))) | (refine Nat.le_trans ?_ (Nat.le_of_eq (irows_len _).symm); (first | omega | (simp; done) | (simp; omega))))); apply drawG_yes rfl rfl rfl; (intro S1 hS; exact stp_loadV rfl (by as_aux_lemma => kernel_rfl) (hS.op rfl) (hS.ch _ _ rfl) rfl (by first | assumption | exact ivals_get (by assumption) | exact irows_get (by assumption) | exact ivals_get (by omega) | exact irows_get (by omega) | rfl)); (first | (apply drawG_put rfl; (focus (intro S1 hS; first | exact stp_bin rfl (hS.op rfl) (hS.op rfl) (binNeq c1) | exact stp_bin rfl (hS.op rfl) (hS.op rfl) (binEql c2) | exact stp_bin rfl (hS.op rfl) (hS.op rfl) (binEql' c3)))) | (apply drawG_yes rfl rfl rfl; (focus (intro S1 hS; first | exact stp_bin rfl (hS.op rfl) (hS.op rfl) (binNeq c1) | exact stp_bin rfl (hS.op rfl) (hS.op rfl) (binEql c2) | exact stp_bin rfl (hS.op rfl) (hS.op rfl) (binEql' c3))))); apply drawG_put rfl; (intro S1 hS; exact stp_pickT rfl (hS.op rfl) (hS.op rfl)); apply drawG_put rfl; (intro S1 hS; exact stp_move rfl (hS.op rfl)); apply drawG_yes rfl rfl rfl; (intro S1 hS; exact stp_move rfl (hS.op rfl)); apply drawG_yes rfl rfl rfl; (intro S1 hS; exact stp_move rfl (hS.op rfl)); apply drawG_yes rfl rfl rfl; (intro S1 hS; exact stp_ix rfl (hS.op rfl) (hS.op rfl) (hS.ch _ _ rfl) rfl (by as_aux_lemma => kernel_rfl) (by first | rfl | exact (Int.toNat_of_nonneg (by omega)).symm) (by first | assumption | omega | (simp; omega)) (by first | exact Nat.le_refl _ | exact Nat.le_of_eq (ivals_len _).symm | exact Nat.le_of_eq (irows_len _).symm | (refine Nat.le_trans ?_ (Nat.le_of_eq (ivals_len _).symm); (first | omega | (simp; done) | (simp; omega))) | (refine Nat.le_trans ?_ (Nat.le_of_eq (irows_len _).symm); (first | omega | (simp; done) | (simp; omega))))); apply drawG_yes rfl rfl rfl; (intro S1 hS; exact stp_loadV rfl (by as_aux_lemma => kernel_rfl) (hS.op rfl) (hS.ch _ _ rfl) rfl (by first | assumption | exact ivals_get (by assumption) | exact irows_get (by assumption) | exact ivals_get (by omega) | exact irows_get (by omega) | rfl)); apply drawG_yes rfl rfl rfl; (intro S1 hS; exact stp_move rfl (hS.op rfl)); apply drawG_yes rfl rfl rfl; (intro S1 hS; exact stp_move rfl (hS.op rfl)); apply drawG_yes rfl rfl rfl; (intro S1 hS; exact stp_ix rfl (hS.op rfl) (hS.op rfl) (hS.ch _ _ rfl) rfl (by as_aux_lemma => kernel_rfl) (by first | rfl | exact (Int.toNat_of_nonneg (by omega)).symm) (by first | assumption | omega | (simp; omega)) (by first | exact Nat.le_refl _ | exact Nat.le_of_eq (ivals_len _).symm | exact Nat.le_of_eq (irows_len _).symm | (refine Nat.le_trans ?_ (Nat.le_of_eq (ivals_len _).symm); (first | omega | (simp; done) | (simp; omega))) | (refine Nat.le_trans ?_ (Nat.le_of_eq (irows_len _).symm); (first | omega | (simp; done) | (simp; omega))))); apply drawG_yes rfl rfl rfl; (intro S1 hS; exact stp_loadV rfl (by as_aux_lemma => kernel_rfl) (hS.op rfl) (hS.ch _ _ rfl) rfl (by first | assumption | exact ivals_get (by assumption) | exact irows_get (by assumption) | exact ivals_get (by omega) | exact irows_get (by omega) | rfl)); (first | (apply drawG_put rfl; (focus (intro S1 hS; first | exact stp_bin rfl (hS.op rfl) (hS.op rfl) (binNeq c1) | exact stp_bin rfl (hS.op rfl) (hS.op rfl) (binEql c2) | exact stp_bin rfl (hS.op rfl) (hS.op rfl) (binEql' c3)))) | (apply drawG_yes rfl rfl rfl; (focus (intro S1 hS; first | exact stp_bin rfl (hS.op rfl) (hS.op rfl) (binNeq c1) | exact stp_bin rfl (hS.op rfl) (hS.op rfl) (binEql c2) | exact stp_bin rfl (hS.op rfl) (hS.op rfl) (binEql' c3))))); apply drawG_put rfl; (intro S1 hS; exact stp_pickT rfl (hS.op rfl) (hS.op rfl)); exact DrawG.nil)
              · rfl
              ((refine rest_done (by as_aux_lemma => kernel_rfl) ?_; skip))
              (refine fin_seq ?_)
              refine goes_cond rfl (fun e => by cases e) (fun _ => ?_)
              (refine goes_skip ?_; refine fin_block ?_; refine fin_seq ?_; refine goes_region ?_; apply run_step rfl; (exact stp_move rfl rfl); apply run_step rfl; (exact stp_add rfl rfl rfl e1); apply run_step rfl; (exact stp_assign rfl rfl); refine run_nil ?_)
              exact fin_round (g + 1) (by omega) (by omega) (Wk.of ⟨rfl, rfl, rfl, rfl, rfl, rfl, rfl, rfl, congrArg (fun z => some (o1 (.sl 107 0 (List.length z)))) hst.symm, rfl, trivial⟩ ⟨rfl, rfl, rfl, rfl, rfl, rfl, rfl, congrArg (fun z => some (leOw z)) hst.symm, trivial⟩ trivial)
          · have hB : fndB ps N f g = false := by unfold fndB; rw [show (iget (ownL ps N) g == iget (ownL ps N) f) = false by simpa using c2]; simp
            rw [hB, if_neg (by simp)] at hst
            apply goes_drawG 25 [] [[], [], [0, 1], [0, 1, 2], [0, 1, 2, 3], [0, 1, 2, 3], [0, 1, 2, 3, 4, 5], [0, 1, 2, 3, 4, 5, 6], [0, 1, 2, 3], [0, 1, 2, 3], [0, 1, 2, 3, 8, 9], [0, 1, 2, 3, 8, 9, 10], [0, 1, 2, 3, 4, 5, 6, 7, 8, 9, 10, 11], [0, 1, 2, 3, 4, 5, 6, 7, 8, 9, 10, 11, 12], [0, 1, 2, 3, 4, 5, 6, 7, 8, 9, 10, 11, 12, 13], [0, 1, 2, 3, 4, 5, 6, 7, 8, 9, 10, 11, 12, 13, 14], [0, 1, 2, 3, 4, 5, 6, 7, 8, 9, 10, 11, 12, 13, 14], [0, 1, 2, 3, 4, 5, 6, 7, 8, 9, 10, 11, 12, 13, 14, 15, 16], [0, 1, 2, 3, 4, 5, 6, 7, 8, 9, 10, 11, 12, 13, 14, 15, 16, 17], [0, 1, 2, 3, 4, 5, 6, 7, 8, 9, 10, 11, 12, 13, 14], [0, 1, 2, 3, 4, 5, 6, 7, 8, 9, 10, 11, 12, 13, 14], [0, 1, 2, 3, 4, 5, 6, 7, 8, 9, 10, 11, 12, 13, 14, 19, 20], [0, 1, 2, 3, 4, 5, 6, 7, 8, 9, 10, 11, 12, 13, 14, 19, 20, 21], [0, 1, 2, 3, 4, 5, 6, 7, 8, 9, 10, 11, 12, 13, 14, 15, 16, 17, 18, 19, 20, 21, 22], [0, 1, 2, 3, 4, 5, 6, 7, 8, 9, 10, 11, 12, 13, 14, 15, 16, 17, 18, 19, 20, 21, 22, 23]] [114, 115, 116, 117, 118, 119, 120, 121, 122, 123, 124, 125, 126, 127, 128, 129, 130, 131, 132, 133, 134, 135, 136, 137, 138] [] (by kernel_rfl) (by kernel_rfl)
            · (apply drawG_put rfl; (intro S1 hS; exact stp_move rfl (hS.op rfl)); apply drawG_put rfl; (intro S1 hS; exact stp_move rfl (hS.op rfl)); (first | (apply drawG_put rfl; (focus (intro S1 hS; first | exact stp_bin rfl (hS.op rfl) (hS.op rfl) (binNeq c1) | exact stp_bin rfl (hS.op rfl) (hS.op rfl) (binEql' c2)))) | (apply drawG_yes rfl rfl rfl; (focus (intro S1 hS; first | exact stp_bin rfl (hS.op rfl) (hS.op rfl) (binNeq c1) | exact stp_bin rfl (hS.op rfl) (hS.op rfl) (binEql' c2))))); apply drawG_put rfl; (intro S1 hS; exact stp_move rfl (hS.op rfl)); apply drawG_yes rfl rfl rfl; (intro S1 hS; exact stp_move rfl (hS.op rfl)); apply drawG_yes rfl rfl rfl; (intro S1 hS; exact stp_move rfl (hS.op rfl)); apply drawG_yes rfl rfl rfl; (intro S1 hS; exact stp_ix rfl (hS.op rfl) (hS.op rfl) (hS.ch _ _ rfl) rfl (by as_aux_lemma => kernel_rfl) (by first | rfl | exact (Int.toNat_of_nonneg (by omega)).symm) (by first | assumption | omega | (simp; omega)) (by first | exact Nat.le_refl _ | exact Nat.le_of_eq (ivals_len _).symm | exact Nat.le_of_eq (irows_len _).symm | (refine Nat.le_trans ?_ (Nat.le_of_eq (ivals_len _).symm); (first | omega | (simp; done) | (simp; omega))) | (refine Nat.le_trans ?_ (Nat.le_of_eq (irows_len _).symm); (first | omega | (simp; done) | (simp; omega))))); apply drawG_yes rfl rfl rfl; (intro S1 hS; exact stp_loadV rfl (by as_aux_lemma => kernel_rfl) (hS.op rfl) (hS.ch _ _ rfl) rfl (by first | assumption | exact ivals_get (by assumption) | exact irows_get (by assumption) | exact ivals_get (by omega) | exact irows_get (by omega) | rfl)); apply drawG_yes rfl rfl rfl; (intro S1 hS; exact stp_move rfl (hS.op rfl)); apply drawG_yes rfl rfl rfl; (intro S1 hS; exact stp_move rfl (hS.op rfl)); apply drawG_yes rfl rfl rfl; (intro S1 hS; exact stp_ix rfl (hS.op rfl) (hS.op rfl) (hS.ch _ _ rfl) rfl (by as_aux_lemma => kernel_rfl) (by first | rfl | exact (Int.toNat_of_nonneg (by omega)).symm) (by first | assumption | omega | (simp; omega)) (by first | exact Nat.le_refl _ | exact Nat.le_of_eq (ivals_len _).symm | exact Nat.le_of_eq (irows_len _).symm | (refine Nat.le_trans ?_ (Nat.le_of_eq (ivals_len _).symm); (first | omega | (simp; done) | (simp; omega))) | (refine Nat.le_trans ?_ (Nat.le_of_eq (irows_len _).symm); (first | omega | (simp; done) | (simp; omega))))); apply drawG_yes rfl rfl rfl; (intro S1 hS; exact stp_loadV rfl (by as_aux_lemma => kernel_rfl) (hS.op rfl) (hS.ch _ _ rfl) rfl (by first | assumption | exact ivals_get (by assumption) | exact irows_get (by assumption) | exact ivals_get (by omega) | exact irows_get (by omega) | rfl)); (first | (apply drawG_put rfl; (focus (intro S1 hS; first | exact stp_bin rfl (hS.op rfl) (hS.op rfl) (binNeq c1) | exact stp_bin rfl (hS.op rfl) (hS.op rfl) (binEql' c2)))) | (apply drawG_yes rfl rfl rfl; (focus (intro S1 hS; first | exact stp_bin rfl (hS.op rfl) (hS.op rfl) (binNeq c1) | exact stp_bin rfl (hS.op rfl) (hS.op rfl) (binEql' c2))))); apply drawG_put rfl; (intro S1 hS; exact stp_pickT rfl (hS.op rfl) (hS.op rfl)); apply drawG_put rfl; (intro S1 hS; exact stp_move rfl (hS.op rfl)); apply drawG_no rfl rfl rfl rfl rfl; apply drawG_no rfl rfl rfl rfl rfl; apply drawG_no rfl rfl rfl rfl rfl; apply drawG_no rfl rfl rfl rfl rfl; apply drawG_no rfl rfl rfl rfl rfl; apply drawG_no rfl rfl rfl rfl rfl; apply drawG_no rfl rfl rfl rfl rfl; apply drawG_no rfl rfl rfl rfl rfl; apply drawG_no rfl rfl rfl rfl rfl; apply drawG_put rfl; (intro S1 hS; exact stp_pickF rfl (hS.op rfl) (hS.op rfl)); exact DrawG.nil)
            · rfl
            ((refine rest_done (by as_aux_lemma => kernel_rfl) ?_; skip))
            (refine fin_seq ?_)
            refine goes_cond rfl (fun e => by cases e) (fun _ => ?_)
            (refine goes_skip ?_; refine fin_block ?_; refine fin_seq ?_; refine goes_region ?_; apply run_step rfl; (exact stp_move rfl rfl); apply run_step rfl; (exact stp_add rfl rfl rfl e1); apply run_step rfl; (exact stp_assign rfl rfl); refine run_nil ?_)
            exact fin_round (g + 1) (by omega) (by omega) (Wk.of ⟨rfl, rfl, rfl, rfl, rfl, rfl, rfl, rfl, congrArg (fun z => some (o1 (.sl 107 0 (List.length z)))) hst.symm, rfl, trivial⟩ ⟨rfl, rfl, rfl, rfl, rfl, rfl, rfl, congrArg (fun z => some (leOw z)) hst.symm, trivial⟩ trivial)
      · obtain rfl : g = 2 * N := by omega
        have hfl := fndL_len ps N f (2 * N)
        have hs2 : twoL ps N (f + 1) = twoL ps N f ++ [iget (fndL ps N f (2 * N)) 0] := rfl
        have hl2 := twoL_len ps N f
        by_cases c1 : ((fndL ps N f (2 * N)).length : Int) = 1
        · have hgu2 : goodUp ps N (f + 1) = true := by rw [goodUp_succ, hgu]; simp; omega
          generalize fndL ps N f (2 * N) = W at *
          have h01 : 0 < W.length := by omega
          have e1 : IntKind.i64.wrap ((f : Int) + 1) = ((f + 1 : Nat) : Int) := by rw [IntWalk.i64_in _ (by omega)]; omega
          (refine goes_exit ?_; refine fin_exit_then ?_; refine fin_exit_then ?_; refine fin_exit_eq ?_; refine fin_seq ?_; refine goes_seq ?_; refine goes_seq ?_; refine goes_region ?_; apply run_step rfl; (exact stp_move rfl rfl); apply run_step rfl; (exact stp_len rfl rfl rfl (by as_aux_lemma => kernel_rfl)); apply run_step rfl; (exact stp_bin rfl rfl rfl (binNeq' c1)); refine run_nil ?_; refine fin_seq ?_)
          refine goes_cond rfl (fun e => by cases e) (fun _ => ?_)
          (refine goes_skip ?_; refine fin_seq ?_; refine goes_region ?_; apply run_step rfl; (exact stp_move rfl rfl); apply run_step rfl; (exact stp_move rfl rfl); apply run_step rfl; (first | exact stp_add rfl rfl rfl e1 | exact stp_ix (j := 0) rfl rfl rfl rfl rfl (by as_aux_lemma => kernel_rfl) rfl h01 (Nat.le_of_eq (ivals_len _).symm) | exact stp_loadV rfl (by as_aux_lemma => kernel_rfl) rfl rfl rfl (ivals_get h01)); apply run_step rfl; (first | exact stp_add rfl rfl rfl e1 | exact stp_ix (j := 0) rfl rfl rfl rfl rfl (by as_aux_lemma => kernel_rfl) rfl h01 (Nat.le_of_eq (ivals_len _).symm) | exact stp_loadV rfl (by as_aux_lemma => kernel_rfl) rfl rfl rfl (ivals_get h01)); apply run_step rfl; (exact stp_lit1I (E := 2) rfl (by as_aux_lemma => kernel_rfl) rfl); apply run_step rfl; (exact stp_appI rfl (by as_aux_lemma => kernel_rfl) rfl rfl rfl (by first | rfl | assumption | (simp; done)) rfl rfl (by omega)); apply run_step rfl; (exact stp_assign rfl rfl); refine run_nil ?_; refine fin_block ?_; refine fin_seq ?_; refine goes_region ?_; apply run_step rfl; (exact stp_move rfl rfl); apply run_step rfl; (first | exact stp_add rfl rfl rfl e1 | exact stp_ix (j := 0) rfl rfl rfl rfl rfl (by as_aux_lemma => kernel_rfl) rfl h01 (Nat.le_of_eq (ivals_len _).symm) | exact stp_loadV rfl (by as_aux_lemma => kernel_rfl) rfl rfl rfl (ivals_get h01)); apply run_step rfl; (exact stp_assign rfl rfl); refine run_nil ?_)
          exact fin_round (f + 1) ⟨by omega, hgu2⟩ (by omega) (Wk.of ⟨rfl, rfl, rfl, rfl, rfl, rfl, rfl, rfl, trivial⟩ ⟨rfl, rfl, rfl, rfl, rfl, rfl, congrArg (fun z => some (leOw z)) hs2.symm, trivial⟩ trivial)
        · have hno : b = false := by rw [← hg, hgN]; exact goodUp_no hf2 (by omega)
          subst hno
          rw [if_neg (by simp)] at ho
          obtain ⟨rfl, rfl⟩ := Prod.mk.inj ho
          (refine goes_exit ?_; refine fin_exit_then ?_; refine fin_exit_then ?_; refine fin_exit_eq ?_; refine fin_seq ?_; refine goes_seq ?_; refine goes_seq ?_; refine goes_region ?_; apply run_step rfl; (exact stp_move rfl rfl); apply run_step rfl; (exact stp_len rfl rfl rfl (by as_aux_lemma => kernel_rfl)); apply run_step rfl; (exact stp_bin rfl rfl rfl (binNeq c1)); refine run_nil ?_; refine fin_seq ?_)
          refine goes_cond rfl (fun _ => ?_) (fun e => by cases e)
          (refine goes_seq ?_; refine goes_region ?_; apply run_step rfl; (exact stp_buildZ [.slice none 0 0] rfl (by as_aux_lemma => kernel_rfl)); apply run_step rfl; (exact stp_storeAgg rfl rfl rfl rfl rfl rfl rfl rfl (by as_aux_lemma => kernel_rfl) rfl); apply run_step rfl; (exact stp_assign rfl rfl); refine run_nil ?_; refine fin_seq ?_; refine goes_ret ?_; refine fin_ret_then ?_; refine fin_ret_block ?_; refine fin_ret_then ?_; refine fin_ret_then ?_; refine fin_ret_block ?_; refine fin_ret_then ?_)
          exact fin_ret2 (.inl rfl) rfl (.cell rfl rfl rfl rfl rfl (by as_aux_lemma => kernel_rfl)) (.tmp rfl) trivial trivial
    · obtain rfl : f = 2 * N := by omega
      have hyes : b = true := by rw [← hg, hgN]; exact hgu
      subst hyes
      rw [if_pos rfl] at ho
      obtain ⟨rfl, rfl⟩ := Prod.mk.inj ho
      have l3 : (ivals (zerL ps N)).length = 2 * N := by rw [ivals_len]; exact dupL_len _ _ _
      have l4 : (ivals (oneL N)).length = 2 * N := by rw [ivals_len]; exact dupL_len _ _ _
      have l5 : (ivals (twoL ps N (2 * N))).length = 2 * N := by rw [ivals_len]; exact twoL_len _ _ _
      have hmp : irows (mpM ps) = [ivals (zerL ps N), ivals (oneL N), ivals (twoL ps N (2 * N))] := by rw [← hN]; rfl
      rw [show rowsRo (mpM ps) = ⟨false, 49, 1, .rows 2 [ivals (zerL ps N), ivals (oneL N), ivals (twoL ps N (2 * N))] []⟩ from congrArg (fun z => (⟨false, 49, 1, .rows 2 z []⟩ : Ch)) hmp] at hM
      rw [show imOw (mpM ps) = ⟨true, 49, 1, .rows 2 [ivals (zerL ps N), ivals (oneL N), ivals (twoL ps N (2 * N))] []⟩ from congrArg (fun z => (⟨true, 49, 1, .rows 2 z []⟩ : Ch)) hmp]
      generalize manB (mpM ps) = mb at *
      (refine goes_exit ?_; refine fin_exit_then ?_; refine fin_exit_then ?_; refine fin_exit_eq ?_; refine fin_seq ?_; refine goes_seq ?_; refine goes_region ?_; apply run_step rfl; (exact stp_move rfl rfl); apply run_step rfl; (exact stp_move rfl rfl); apply run_step rfl; (exact stp_move rfl rfl); apply run_step rfl; (first | exact stp_lit3R (E := 49) (F := 2) rfl (by as_aux_lemma => kernel_rfl) rfl rfl rfl rfl rfl rfl l3 l4 l5 rfl rfl rfl rfl | exact stp_buildS1 (n0 := 3) rfl rfl rfl (fun _ _ _ => by kernel_rfl)); apply run_step rfl; (first | exact stp_lit3R (E := 49) (F := 2) rfl (by as_aux_lemma => kernel_rfl) rfl rfl rfl rfl rfl rfl l3 l4 l5 rfl rfl rfl rfl | exact stp_buildS1 (n0 := 3) rfl rfl rfl (fun _ _ _ => by kernel_rfl)); apply run_step rfl; (exact stp_allocZ [.slice none 0 0] rfl (by as_aux_lemma => kernel_rfl)); apply run_step rfl; (exact stp_storeAgg rfl rfl rfl rfl rfl rfl rfl rfl (by as_aux_lemma => kernel_rfl) rfl); refine run_nil ?_; refine fin_seq ?_; refine goes_seq ?_)
      apply goes_draw 3 [] [[], [], [1], [0, 1, 2], [0, 1, 2, 3]] [158, 159, 160] [] (by kernel_rfl) (by kernel_rfl)
      · (apply draw_put rfl; (intro S1 hS; exact stp_loadAgg rfl (hS.op rfl) (hS.ch _ _ rfl) rfl rfl rfl (by as_aux_lemma => kernel_rfl)))
        (apply draw_put rfl; (intro S1 hS; exact stp_loadAgg rfl (hS.op rfl) (hS.ch _ _ rfl) rfl rfl rfl (by as_aux_lemma => kernel_rfl)))
        (apply draw_put rfl; (intro S1 hS; apply call_gate 108; exact stp_callR hM (by as_aux_lemma => kernel_rfl) rfl (opL_le hS rfl) ⟨⟨.inl rfl, trivial⟩, trivial⟩ (allIn_le hS ⟨⟨_, rfl, .inr rfl⟩, trivial⟩) rfl rfl))
        exact Draw.nil
      · rfl
      ((apply rest_one 3 rfl (by as_aux_lemma => kernel_rfl) rfl rfl; (exact stp_storeAgg rfl rfl rfl rfl rfl rfl rfl rfl (by as_aux_lemma => kernel_rfl) rfl)); (apply rest_one 4 rfl (by as_aux_lemma => kernel_rfl) rfl rfl; (exact stp_assign rfl rfl)); (refine rest_done (by as_aux_lemma => kernel_rfl) ?_; skip))
      (refine fin_seq ?_; refine goes_ret ?_)
      exact fin_ret2 (.inl rfl) rfl (.cell rfl rfl rfl rfl rfl (by as_aux_lemma => kernel_rfl)) (.tmp rfl) ⟨rfl, trivial⟩ trivial
end Go.Proofs.Ytpognnifgcacnaa

/- Maps of polygons: the reference's contract in words. -/
namespace Go.Proofs.Ytpognnifgcacnaa
open Go.RowKit

/-- what a list of polygons must be -/
structure PsOk (n : Int) (ps : List (List Int)) : Prop where
  few : lenSS ps ≤ 200
  len : ps.length ≤ 1000
  poly : ∀ j, j < ps.length → polyOk n (lget ps j) = true
  some_ : 0 < ps.length
theorem PsOk.three {n : Int} {ps : List (List Int)} (h : PsOk n ps) {j : Nat} (hj : j < ps.length) : 3 ≤ (lget ps j).length := by
  have := h.poly j hj
  unfold polyOk at this
  simp only [Bool.and_eq_true, decide_eq_true_eq] at this
  exact this.1
theorem len_le_len {ps : List (List Int)} (h : ∀ j, j < ps.length → 1 ≤ (lget ps j).length) : ∀ k, k ≤ ps.length → k ≤ lenSS (ps.take k)
  | 0, _ => Nat.zero_le _
  | k + 1, hk => by
    have := len_le_len h k (by omega)
    rw [lenSS_take (by omega)]
    have := h k (by omega)
    omega
theorem psOk_of {n : Int} {ps : List (List Int)} (h : polys n ps = true) : PsOk n ps := by
  unfold polys at h
  simp only [Bool.and_eq_true, decide_eq_true_eq] at h
  have h2 := polysUp_le (Nat.le_refl _) h.2
  rw [List.take_length] at h2
  have hp : ∀ j, j < ps.length → polyOk n (lget ps j) = true := fun j hj => by
    have := h.2
    unfold polysUp at this
    simp only [List.all_eq_true, List.mem_range, Bool.and_eq_true] at this
    exact (this j hj).1
  refine ⟨h2, ?_, hp, h.1⟩
  have := len_le_len (ps := ps) (fun j hj => by
    have := hp j hj
    unfold polyOk at this
    simp only [Bool.and_eq_true, decide_eq_true_eq] at this
    omega) ps.length (Nat.le_refl _)
  rw [List.take_length] at this
  omega
/-- is it a map -/
noncomputable def mpOk (ps : List (List Int)) : Bool := mpGood ps && manB (mpM ps)
/-- what both of the inner functions answer -/
def MpAns (ps : List (List Int)) (w : World) (e : Ending) (w' : World) : Prop :=
  ∃ r R, e = .returned (.tuple #[r, .bool (mpOk ps)]) ∧ OwM 2 49 w' w.heap.size w'.heap.size r R ∧ (mpOk ps = true → R = mpM ps) ∧ Below w.heap.size w w'
theorem callSSc {f : FuncId} {outs : List (Nm × Ch)} {res : AV} {d : List (List Int)} (hf : FC Try.prog f [(1003, rowsRo d)] [o1 (.sl 1003 0 d.length)] outs res []) {w : World} {v : Value} (h : RdSSc w v d) :
    Calls Try.prog f #[v] w fun e w' => ∃ v η ω, e = .returned v ∧ Den η res v ∧ Mem η ω w' (fun x => lk x outs) ∧ Below w.heap.size w w' ∧ ∀ b, b < w.heap.size → ω b = none := by
  obtain ⟨hd, r, rfl, hv⟩ := ofSSc 1003 49 2 h
  exact hf.call (l := [(1003, (rowsRo d, hd, r))]) (us := [_]) (fun p hp => by simp at hp; subst hp; exact hv) rfl (denL1 (den_sl (q := (rowsRo d, hd, r)) rfl))
theorem mpM_rows {ps : List (List Int)} : ∀ r ∈ mpM ps, r.length = 2 * lenSS ps := fun r hr => by
  unfold mpM at hr
  simp at hr
  rcases hr with rfl | rfl | rfl
  · exact dupL_len _ _ _
  · exact dupL_len _ _ _
  · exact twoL_len _ _ _
theorem specMap_any {n : Int} {v : Value} {ps : List (List Int)} (ok : PsOk n ps) (w : World) (h : RdSSc w v ps) : Calls Try.prog 116 #[v] w (MpAns ps w) := by
  unfold MpAns
  have h3 := ok.few
  cases hg : mpGood ps with
  | true =>
    have hF := mapS_fc ps _ rfl ok.few (fun j hj => ok.three hj) ok.len true hg _ _ rfl
    refine (callSSc hF h).mono ?_
    rintro e w' ⟨v, η, ω, rfl, hd, hm, hb, hn⟩
    obtain ⟨us, rfl, hus, ha⟩ : Den η (mpYes (manB (mpM ps))) v := hd
    obtain ⟨u0, g0, us0, rfl, hs0, ha0⟩ := ha 0 _ rfl
    obtain ⟨u1, g1, h2⟩ := ha 1 _ rfl
    have h2 : u1 = .bool (manB (mpM ps)) := h2
    subst h2
    obtain ⟨s0, k0, d0⟩ := ha0 0 _ rfl
    have e0 : us0 = #[s0] := by
      have hs0 : us0.size = 1 := hs0
      apply Array.ext (by simpa using hs0)
      intro i q1 q2
      obtain rfl : i = 0 := by simp at q2; omega
      rw [Array.getElem?_eq_getElem q1] at k0
      simpa using k0
    have eu : us = #[.agg us0, .bool (manB (mpM ps))] := by
      have hus : us.size = 2 := hus
      apply Array.ext (by simpa using hus)
      intro i q1 q2
      match i, q2 with
      | 0, _ => rw [Array.getElem?_eq_getElem q1] at g0; simpa using g0
      | 1, _ => rw [Array.getElem?_eq_getElem q1] at g1; simpa using g1
    subst e0 eu
    obtain ⟨ao, n, c, us', rfl, hor⟩ := toSS (zss := mpM ps) (x := 156) (E := 49) (F := 2) hm hn (by simp [lk]) d0 (by show 3 ≤ _; omega) (fun r hr => by rw [mpM_rows r hr]; omega)
    exact ⟨_, mpM ps, by unfold mpOk; rw [hg]; rfl, ⟨ao, n, c, us', rfl, hor⟩, fun _ => rfl, hb⟩
  | false =>
    have hF := mapS_fc ps _ rfl ok.few (fun j hj => ok.three hj) ok.len false hg _ _ rfl
    refine (callSSc hF h).mono ?_
    rintro e w' ⟨v, η, ω, rfl, hd, hm, hb, hn⟩
    obtain ⟨us, rfl, hus, ha⟩ : Den η mpNo v := hd
    obtain ⟨u0, g0, us0, rfl, hs0, ha0⟩ := ha 0 _ rfl
    obtain ⟨u1, g1, h2⟩ := ha 1 _ rfl
    have h2 : u1 = .bool false := h2
    subst h2
    obtain ⟨s0, k0, d0⟩ := ha0 0 _ rfl
    have d0 : s0 = .slice none 0 0 := d0
    subst d0
    have e0 : us0 = #[.slice none 0 0] := by
      have hs0 : us0.size = 1 := hs0
      apply Array.ext (by simpa using hs0)
      intro i q1 q2
      obtain rfl : i = 0 := by simp at q2; omega
      rw [Array.getElem?_eq_getElem q1] at k0
      simpa using k0
    have eu : us = #[.agg us0, .bool false] := by
      have hus : us.size = 2 := hus
      apply Array.ext (by simpa using hus)
      intro i q1 q2
      match i, q2 with
      | 0, _ => rw [Array.getElem?_eq_getElem q1] at g0; simpa using g0
      | 1, _ => rw [Array.getElem?_eq_getElem q1] at g1; simpa using g1
    subst e0 eu
    have hno : mpOk ps = false := by unfold mpOk; rw [hg]; rfl
    exact ⟨_, [], by rw [hno], ⟨none, 0, 0, [], rfl, OwR.empty_ (Own.nil_ _ _ _) (fun g hg => nomatch hg)⟩, fun e => absurd (hno.symm.trans e) (by simp), hb⟩
/-- the answer of both -/
noncomputable def mpC (n : Int) (ps : List (List Int)) : Int := if inB n 1 100 && polys n ps then (if mpOk ps then 0 else 5) else 2
noncomputable def mpR (n : Int) (ps : List (List Int)) : List (List Int) := if inB n 1 100 && polys n ps && mpOk ps then mpM ps else []
theorem inB_100 {n : Int} (h : inB n 1 100 = true) : 0 ≤ n ∧ n ≤ 1000 := by simp [inB] at h; omega
theorem own_nilM {w : World} {lo hi : Nat} : OwM 2 49 w lo hi (.agg #[.slice none 0 0]) [] := ⟨none, 0, 0, [], rfl, OwR.empty_ (Own.nil_ _ _ _) (fun g hg => nomatch hg)⟩
set_option maxRecDepth 100000 in
set_option maxHeartbeats 1600000 in
theorem api_specMp {v : Value} {ps : List (List Int)} (n : Int) (w : World) (h : RdSSc w v ps) :
    Calls Try.prog 45 #[.int .i64 n, v] w fun e w' => ∃ r, e = .returned (.tuple #[r, .int .i64 (mpC n ps)]) ∧ OwM 2 49 w' w.heap.size w'.heap.size r (mpR n ps) ∧ Below w.heap.size w w' := by
  obtain ⟨ao, m, c, rfl, hi⟩ := h.rd
  have kb := below_alloc1 w (.cells #[.slice none 0 0] 41)
  have k1 : Blk (w.alloc (.cells #[.slice none 0 0] 41)) w.heap.size 41 #[.slice none 0 0] := blk_at rfl
  have h1 := h.below kb
  have hi1 := hi.below kb
  have x0 := k1.cell 0
  have f0 := k1.frozen 0
  cases hn : inB n 1 100 with
  | false =>
    have hC : mpC n ps = 2 := by unfold mpC; rw [hn]; rfl
    have hR : mpR n ps = [] := by unfold mpR; rw [hn]; rfl
    rw [hC, hR]
    have HN := Lib.hid hn
    clear hn hC hR h1 hi1
    go_enter Try.func45, Try.ntmps45
    go_wp2_with (go_at_call 95; refine (specIn_any _ _ _ _).mono ?_; rintro e w' ⟨rfl, rfl⟩; rw [HN.out])
    exact bodyPost_ret (v := .tuple #[.agg #[.slice none 0 0], .int .i64 2]) (by simp [results, Try.f45, go_sem]) rfl ⟨_, rfl, own_nilM, kb⟩
  | true =>
    obtain ⟨hn0, hn1⟩ := inB_100 hn
    cases hp : polys n ps with
    | false =>
      have hC : mpC n ps = 2 := by unfold mpC; rw [hn, hp]; rfl
      have hR : mpR n ps = [] := by unfold mpR; rw [hn, hp]; rfl
      rw [hC, hR]
      have HN := Lib.hid hn
      have HP := Lib.hid hp
      clear hn hp hC hR h1
      go_enter Try.func45, Try.ntmps45
      go_wp2_with (first | (go_at_call 95; refine (specIn_any _ _ _ _).mono ?_; rintro e w' ⟨rfl, rfl⟩; rw [HN.out]) | (go_at_call 115; refine (specPolys_any n hn0 hn1 ao m c ps _ hi1).mono ?_; rintro e w2 ⟨rfl, b2⟩; rw [HP.out]; have x2 := (k1.belowS b2).cell 0; have f2 := (k1.belowS b2).frozen 0))
      exact bodyPost_ret (v := .tuple #[.agg #[.slice none 0 0], .int .i64 2]) (by simp [results, Try.f45, go_sem, x2]) rfl ⟨_, rfl, own_nilM, (below_tr b2 kb).setCell (Nat.le_refl _) _⟩
    | true =>
      have ok := psOk_of hp
      have HN := Lib.hid hn
      have HP := Lib.hid hp
      cases hk : mpOk ps with
      | false =>
        have hC : mpC n ps = 5 := by unfold mpC; rw [hn, hp, hk]; rfl
        have hR : mpR n ps = [] := by unfold mpR; rw [hn, hp, hk]; rfl
        rw [hC, hR]
        have HK := Lib.hid hk
        clear hn hp hC hR hk
        go_enter Try.func45, Try.ntmps45
        go_wp2_with (first | (go_at_call 95; refine (specIn_any _ _ _ _).mono ?_; rintro e w' ⟨rfl, rfl⟩; rw [HN.out]) | (go_at_call 115; refine (specPolys_any n hn0 hn1 ao m c ps _ hi1).mono ?_; rintro e w2 ⟨rfl, b2⟩; rw [HP.out]; have k2 := k1.belowS b2) | (go_at_call 116; refine (specMap_any ok w2 (h1.below b2)).mono ?_; rintro e w3 ⟨r, R, rfl, ho, hR3, b3⟩; rw [HK.out]; obtain ⟨a5, n5, c5, rfl⟩ := ho.form; have x3 := ((k2.belowS b3).alloc (.cells #[.slice a5 n5 c5] 41)).cell 0; have f3 := ((k2.belowS b3).alloc (.cells #[.slice a5 n5 c5] 41)).frozen 0; have k4 := (k2.belowS b3).alloc (.cells #[.slice a5 n5 c5] 41); have b4 := (below_tr b3 (below_tr b2 kb)).alloc (below_tr b3 (below_tr b2 kb)).size (.cells #[.slice a5 n5 c5] 41); have o4 := ho.below (below_alloc1 w3 (.cells #[.slice a5 n5 c5] 41)); have s3 := b3.size; have s2 := b2.size))
        exact bodyPost_ret (v := .tuple #[.agg #[.slice none 0 0], .int .i64 5]) (by simp [results, Try.f45, go_sem, x3]) rfl ⟨_, rfl, own_nilM, b4.setCell (Nat.le_refl _) _⟩
      | true =>
        have hC : mpC n ps = 0 := by unfold mpC; rw [hn, hp, hk]; rfl
        have hR : mpR n ps = mpM ps := by unfold mpR; rw [hn, hp, hk]; rfl
        rw [hC, hR]
        have HK := Lib.hid hk
        clear hn hp hC hR hk
        go_enter Try.func45, Try.ntmps45
        go_wp2_with (first | (go_at_call 95; refine (specIn_any _ _ _ _).mono ?_; rintro e w' ⟨rfl, rfl⟩; rw [HN.out]) | (go_at_call 115; refine (specPolys_any n hn0 hn1 ao m c ps _ hi1).mono ?_; rintro e w2 ⟨rfl, b2⟩; rw [HP.out]; have k2 := k1.belowS b2) | (go_at_call 116; refine (specMap_any ok w2 (h1.below b2)).mono ?_; rintro e w3 ⟨r, R, rfl, ho, hR3, b3⟩; rw [HK.out]; obtain ⟨a5, n5, c5, rfl⟩ := ho.form; have x3 := ((k2.belowS b3).alloc (.cells #[.slice a5 n5 c5] 41)).cell 0; have f3 := ((k2.belowS b3).alloc (.cells #[.slice a5 n5 c5] 41)).frozen 0; have k4 := (k2.belowS b3).alloc (.cells #[.slice a5 n5 c5] 41); have b4 := (below_tr b3 (below_tr b2 kb)).alloc (below_tr b3 (below_tr b2 kb)).size (.cells #[.slice a5 n5 c5] 41); have o4 := ho.below (below_alloc1 w3 (.cells #[.slice a5 n5 c5] 41)); have s3 := b3.size; have s2 := b2.size))
        obtain rfl := hR3 HK.out
        have e0 : ((w3.alloc (.cells #[.slice a5 n5 c5] 41)).setCell ⟨w.heap.size, 0, none⟩ (.slice a5 n5 c5)).cell? ⟨w.heap.size, 0, none⟩ = some (.slice a5 n5 c5) := (k4.set_ 0 _).cell 0
        have o5 : OwM 2 49 ((w3.alloc (.cells #[.slice a5 n5 c5] 41)).setCell ⟨w.heap.size, 0, none⟩ (.slice a5 n5 c5)) w2.heap.size w3.heap.size (.agg #[.slice a5 n5 c5]) (mpM ps) := by
          obtain ⟨a6, n6, c6, us, e6, ho6⟩ := o4
          exact ⟨a6, n6, c6, us, e6, ho6.same (innerS _) fun g hg _ _ => Below.heap_setCell _ _ _ g (by have := k1.lt; show g ≠ w.heap.size; omega)⟩
        exact bodyPost_ret (v := .tuple #[.agg #[.slice a5 n5 c5], .int .i64 0]) (by simp [results, Try.f45, go_sem, e0]) rfl ⟨_, rfl, o5.mono (by have := k1.lt; omega) (by simp [World.setCell]), b4.setCell (Nat.le_refl _) _⟩
end Go.Proofs.Ytpognnifgcacnaa

/- Maps of polygons: the program's contract, given that of its inner function. -/
namespace Go.Proofs.Ytpognnifgcacnaa
open Go.RowKit

/-- the contract of the inner function -/
def InnerMp : Prop := ∀ {n : Int} {v : Value} {ps : List (List Int)} (_ : PsOk n ps) (w : World) (_ : RdSSc w v ps), Calls Try.prog 118 #[v] w (MpAns ps w)
set_option maxRecDepth 100000 in
set_option maxHeartbeats 1600000 in
theorem implMp_of (hI : InnerMp) {v : Value} {ps : List (List Int)} (n : Int) (w : World) (h : RdSSc w v ps) :
    Calls Try.prog 46 #[.int .i64 n, v] w fun e w' => ∃ r, e = .returned (.tuple #[r, .int .i64 (mpC n ps)]) ∧ OwM 2 49 w' w.heap.size w'.heap.size r (mpR n ps) ∧ Below w.heap.size w w' := by
  obtain ⟨ao, m, c, rfl, hi⟩ := h.rd
  have hm := hi.2.1
  have HL := Lib.hid hi.1
  have kb := below_alloc1 w (.cells #[.slice none 0 0] 41)
  have k1 : Blk (w.alloc (.cells #[.slice none 0 0] 41)) w.heap.size 41 #[.slice none 0 0] := blk_at rfl
  have h1 := h.below kb
  have hi1 := hi.below kb
  cases hn : inB n 1 100 with
  | false =>
    have hC : mpC n ps = 2 := by unfold mpC; rw [hn]; rfl
    have hR : mpR n ps = [] := by unfold mpR; rw [hn]; rfl
    rw [hC, hR]
    have HN := Lib.hid hn
    clear hn hC hR h1
    go_enter Try.func46, Try.ntmps46
    go_wp2_with (go_at_call 97; refine (within_any _ _ _ _).mono ?_; rintro e w' ⟨rfl, rfl⟩; rw [HN.out])
    exact bodyPost_ret (v := .tuple #[.agg #[.slice none 0 0], .int .i64 2]) (by simp [results, Try.f46, go_sem]) rfl ⟨_, rfl, own_nilM, kb⟩
  | true =>
    obtain ⟨hn0, hn1⟩ := inB_100 hn
    have HN := Lib.hid hn
    by_cases hm0 : m = 0
    · subst hm0
      have hp : polys n ps = false := by unfold polys; rw [HL.out]; rfl
      have hC : mpC n ps = 2 := by unfold mpC; rw [hn, hp]; rfl
      have hR : mpR n ps = [] := by unfold mpR; rw [hn, hp]; rfl
      rw [hC, hR]
      clear hn hC hR h1 hp
      go_enter Try.func46, Try.ntmps46
      go_wp2_with (go_at_call 97; refine (within_any _ _ _ _).mono ?_; rintro e w' ⟨rfl, rfl⟩; rw [HN.out])
      exact bodyPost_ret (v := .tuple #[.agg #[.slice none 0 0], .int .i64 2]) (by simp [results, Try.f46, go_sem]) rfl ⟨_, rfl, own_nilM, kb⟩
    · have hz : ((m : Int) == 0) = false := by simp; omega
      obtain ⟨C, hC⟩ : ∃ C, C = mpC n ps := ⟨_, rfl⟩
      obtain ⟨R, hR⟩ : ∃ R, R = mpR n ps := ⟨_, rfl⟩
      have HC := Lib.hid hC
      have HR := Lib.hid hR
      rw [← hC, ← hR]
      clear hC hR hn
      have hno : polys n ps = false → C = 2 ∧ R = [] := fun hp => by rw [HC.out, HR.out]; unfold mpC mpR; rw [hp]; simp
      have HNO := Lib.hid hno
      clear hno
      go_enter Try.func46, Try.ntmps46
      go_wp2_with (go_at_call 97; refine (within_any _ _ _ _).mono ?_; rintro e w' ⟨rfl, hw⟩; rw [hw, HN.out]; clear hw w')
      generalize hw1 : w.alloc (.cells #[.slice none 0 0] 41) = w1 at *
      go_loopw [6, 22] (fun cv iv wr => ∃ k s : Nat, k ≤ m ∧ cv = .int .i64 s ∧ iv = .int .i64 k ∧ s ≤ 200 ∧ s = lenSS (ps.take k) ∧ polysUp n ps k = true ∧ Below w1.heap.size w1 wr) (fun _ i _ => m - (intOf i).toNat)
      case atStart => exact ⟨0, 0, Nat.zero_le _, rfl, rfl, by omega, by simp [lenSS], by simp [polysUp], Below.refl _ _⟩
      case round =>
        obtain ⟨k, s, hk, rfl, rfl, hs2, hs, hpre, hb⟩ := hrel
        have HS := Lib.hid hs
        have HP := Lib.hid hpre
        have hbw := below_tr hb kb
        clear hpre hs
        by_cases hlt : k < m
        · obtain ⟨b, off, a1, n1, c1, rfl, hc, hin⟩ := (hi1.below hb).at_ hlt
          have hn1' := hin.2.1
          have HN1 := Lib.hid hin.1
          have hkl : k < ps.length := by rw [HL.out]; exact hlt
          have HM := Lib.hid (show lenSS (ps.take (k + 1)) = s + n1 by rw [lenSS_take hkl, HN1.out, HS.out])
          cases hpk : polyOk n (lget ps k) with
          | false =>
            obtain ⟨rfl, rfl⟩ := HNO.out (polys_no hkl (by rw [hpk]; rfl))
            have HK := Lib.hid hpk
            clear hpk
            go_wp2_with (go_at_call 117; refine (isPoly_any n hn0 hn1 a1 n1 c1 _ _ hin).mono ?_; rintro e w2 ⟨rfl, b2⟩; rw [HK.out]; have x2 := (k1.belowS (below_tr b2 hb)).cell 0; have f2 := (k1.belowS (below_tr b2 hb)).frozen 0)
            exact bodyPost_ret (v := .tuple #[.agg #[.slice none 0 0], .int .i64 2]) (by simp [results, Try.f46, go_sem, x2]) rfl ⟨_, rfl, own_nilM, (below_tr b2 hbw).setCell (Nat.le_refl _) _⟩
          | true =>
            have HK := Lib.hid hpk
            clear hpk
            by_cases h200 : 200 < s + n1
            · obtain ⟨rfl, rfl⟩ := HNO.out (polys_no hkl (by rw [HM.out]; simp; omega))
              go_wp2_with (go_at_call 117; refine (isPoly_any n hn0 hn1 a1 n1 c1 _ _ hin).mono ?_; rintro e w2 ⟨rfl, b2⟩; rw [HK.out]; have x2 := (k1.belowS (below_tr b2 hb)).cell 0; have f2 := (k1.belowS (below_tr b2 hb)).frozen 0)
              exact bodyPost_ret (v := .tuple #[.agg #[.slice none 0 0], .int .i64 2]) (by simp [results, Try.f46, go_sem, x2]) rfl ⟨_, rfl, own_nilM, (below_tr b2 hbw).setCell (Nat.le_refl _) _⟩
            · go_wp2_with (go_at_call 117; refine (isPoly_any n hn0 hn1 a1 n1 c1 _ _ hin).mono ?_; rintro e w2 ⟨rfl, b2⟩; rw [HK.out])
              go_roundw
              case rel => exact ⟨k + 1, s + n1, by omega, by go_num, by go_num, by omega, HM.out.symm, by rw [polysUp_succ, HP.out, HK.out, HM.out]; simp; omega, below_tr b2 hb⟩
              case measure => simp [intOf]; omega
        · obtain rfl : k = m := by omega
          have hpp : polys n ps = true := by unfold polys; rw [HL.out, HP.out]; simp; omega
          have ok := psOk_of hpp
          have k2 := k1.belowS hb
          cases hkk : mpOk ps with
          | false =>
            obtain rfl : C = 5 := by rw [HC.out]; unfold mpC; rw [HN.out, hpp, hkk]; rfl
            obtain rfl : R = [] := by rw [HR.out]; unfold mpR; rw [HN.out, hpp, hkk]; rfl
            have HK := Lib.hid hkk
            clear hkk hpp
            go_wp2_with (go_at_call 118; refine (hI ok wr (h1.below hb)).mono ?_; rintro e w3 ⟨r, R3, rfl, ho, hR3, b3⟩; rw [HK.out]; obtain ⟨a5, n5, c5, rfl⟩ := ho.form; have x3 := ((k2.belowS b3).alloc (.cells #[.slice a5 n5 c5] 41)).cell 0; have f3 := ((k2.belowS b3).alloc (.cells #[.slice a5 n5 c5] 41)).frozen 0; have k4 := (k2.belowS b3).alloc (.cells #[.slice a5 n5 c5] 41); have b4 := (below_tr b3 hbw).alloc (below_tr b3 hbw).size (.cells #[.slice a5 n5 c5] 41); have o4 := ho.below (below_alloc1 w3 (.cells #[.slice a5 n5 c5] 41)); have s3 := b3.size; have s2 := hbw.size)
            exact bodyPost_ret (v := .tuple #[.agg #[.slice none 0 0], .int .i64 5]) (by simp [results, Try.f46, go_sem, x3]) rfl ⟨_, rfl, own_nilM, b4.setCell (Nat.le_refl _) _⟩
          | true =>
            obtain rfl : C = 0 := by rw [HC.out]; unfold mpC; rw [HN.out, hpp, hkk]; rfl
            obtain rfl : R = mpM ps := by rw [HR.out]; unfold mpR; rw [HN.out, hpp, hkk]; rfl
            have HK := Lib.hid hkk
            clear hkk hpp
            go_wp2_with (go_at_call 118; refine (hI ok wr (h1.below hb)).mono ?_; rintro e w3 ⟨r, R3, rfl, ho, hR3, b3⟩; rw [HK.out]; obtain ⟨a5, n5, c5, rfl⟩ := ho.form; have x3 := ((k2.belowS b3).alloc (.cells #[.slice a5 n5 c5] 41)).cell 0; have f3 := ((k2.belowS b3).alloc (.cells #[.slice a5 n5 c5] 41)).frozen 0; have k4 := (k2.belowS b3).alloc (.cells #[.slice a5 n5 c5] 41); have b4 := (below_tr b3 hbw).alloc (below_tr b3 hbw).size (.cells #[.slice a5 n5 c5] 41); have o4 := ho.below (below_alloc1 w3 (.cells #[.slice a5 n5 c5] 41)); have s3 := b3.size; have s2 := hbw.size)
            obtain rfl := hR3 HK.out
            have e0 : ((w3.alloc (.cells #[.slice a5 n5 c5] 41)).setCell ⟨w.heap.size, 0, none⟩ (.slice a5 n5 c5)).cell? ⟨w.heap.size, 0, none⟩ = some (.slice a5 n5 c5) := (k4.set_ 0 _).cell 0
            have hlt2 := k2.lt
            have o5 : OwM 2 49 ((w3.alloc (.cells #[.slice a5 n5 c5] 41)).setCell ⟨w.heap.size, 0, none⟩ (.slice a5 n5 c5)) wr.heap.size w3.heap.size (.agg #[.slice a5 n5 c5]) (mpM ps) := by
              obtain ⟨a6, n6, c6, us, e6, ho6⟩ := o4
              exact ⟨a6, n6, c6, us, e6, ho6.same (innerS _) fun g hg _ _ => Below.heap_setCell _ _ _ g (by show g ≠ w.heap.size; omega)⟩
            exact bodyPost_ret (v := .tuple #[.agg #[.slice a5 n5 c5], .int .i64 0]) (by simp [results, Try.f46, go_sem, e0]) rfl ⟨_, rfl, o5.mono (by omega) (by simp [World.setCell]), b4.setCell (Nat.le_refl _) _⟩
end Go.Proofs.Ytpognnifgcacnaa

/- A memory of names: append behind the front of a vector (a queue): in place, or to new memory; arrays of two integers. No program in sight. -/
namespace Go.Proofs.Ytpognnifgcacnaa
open Go.RowKit

section
variable {P : Program} {nt : Nat} {S S1 S2 : St} {w0 w : World} {ω0 : Beg} {ω : Own?} {η : Env} {a : Act} {Q : Exit → Act → World → Prop} {ops : Array Oper} {rest : List Oper}
variable {t : Nat} {ty : TypeId} {ps : String} {af : Array Edge} {gd : Option (Nat × Bool)} {x y : Operand} {av : AV} {o : Oper}
/-- a step that ends in one of two states -/
structure StpOr (P : Program) (nt : Nat) (o : Oper) (S S1 S2 : St) : Prop where
  go : ∀ w0 ω0 a w Q, Sat w0 ω0 nt S a w → o.wp P a w (fun a w => Sat w0 ω0 nt S1 a w ∨ Sat w0 ω0 nt S2 a w) Q
theorem StpOr.fin {w' : World} {v : Value} (h : (execOp a.eval o).run P w = .ok (.value v) w') (k : Sat w0 ω0 nt S1 (a.put o.dst v) w' ∨ Sat w0 ω0 nt S2 (a.put o.dst v) w') : o.wp P a w (fun a w => Sat w0 ω0 nt S1 a w ∨ Sat w0 ω0 nt S2 a w) Q := by
  unfold Oper.wp
  rw [h]
  exact k
def pflat (q : List (Int × Int)) : List Int := q.flatMap fun p => [p.1, p.2]
theorem pflat_len : ∀ q : List (Int × Int), (pflat q).length = 2 * q.length
  | [] => rfl
  | p :: r => by have := pflat_len r; simp [pflat] at this ⊢; omega
end
end Go.Proofs.Ytpognnifgcacnaa

/- Lists of structs of two integers: words, the laws' helpers on []Kind. -/
namespace Go.Proofs.Ytpognnifgcacnaa
open Go.RowKit

/-- the cell of the j-th struct -/
def kA (ks : List (Int × Int)) (j : Nat) : Int := (ks.getD j (0, 0)).1
def kB (ks : List (Int × Int)) (j : Nat) : Int := (ks.getD j (0, 0)).2
theorem pflat_get : ∀ (ks : List (Int × Int)) (j : Nat), j < ks.length → (ivals (pflat ks))[j * 2]? = some (.int .i64 (kA ks j)) ∧ (ivals (pflat ks))[j * 2 + 1]? = some (.int .i64 (kB ks j))
  | [], j, h => absurd h (by simp)
  | p :: ks, 0, _ => by simp [pflat, ivals, kA, kB]
  | p :: ks, j + 1, h => by
    have ih := pflat_get ks j (by simpa using h)
    have e : ivals (pflat (p :: ks)) = .int .i64 p.1 :: .int .i64 p.2 :: ivals (pflat ks) := by simp [pflat, ivals]
    rw [e, show (j + 1) * 2 = j * 2 + 1 + 1 by omega]
    simp only [List.getElem?_cons_succ]
    exact ⟨by rw [ih.1]; simp [kA], by rw [ih.2]; simp [kB]⟩
theorem pflat_set : ∀ (A : List (Int × Int)) (p : Int × Int) (B : List (Int × Int)) (x y : Int), ((ivals (pflat (A ++ p :: B))).set (A.length * 2) (.int .i64 x)).set (A.length * 2 + 1) (.int .i64 y) = ivals (pflat (A ++ (x, y) :: B))
  | [], p, B, x, y => by simp [pflat, ivals]
  | q :: A, p, B, x, y => by
    have ih := pflat_set A p B x y
    have e : ∀ L, ivals (pflat (q :: L)) = .int .i64 q.1 :: .int .i64 q.2 :: ivals (pflat L) := fun L => by simp [pflat, ivals]
    rw [List.cons_append, e, List.length_cons, show (A.length + 1) * 2 = A.length * 2 + 1 + 1 by omega]
    simp only [List.set_cons_succ]
    rw [ih, List.cons_append, e]
/-- the slice at ao, of n structs, is a row of the call's own -/
def Own2 (w : World) (base E : Nat) (ao : Option Addr) (n c : Nat) (ks : List (Int × Int)) : Prop :=
  w.ownsRow base E 2 (.slice ao n c) n (ivals (pflat ks)) ∧ n ≤ 4398046511104
section
variable {w w' : World} {base E : Nat} {ao : Option Addr} {n c : Nat} {ks : List (Int × Int)}
theorem Own2.len (h : Own2 w base E ao n c ks) : ks.length = n := by
  have := h.1.1; rw [ivals_len, pflat_len] at this; omega
theorem Own2.lt (h : Own2 w base E ao n c ks) : ∀ g, bk ao = some g → base ≤ g ∧ g < w.heap.size := by
  have := h.1.lt
  rw [ownBlock_slice] at this; exact this
theorem Own2.same (h : Own2 w base E ao n c ks) (hs : ∀ g, bk ao = some g → w'.heap[g]? = w.heap[g]?) : Own2 w' base E ao n c ks := by
  refine ⟨⟨h.1.1, ?_⟩, h.2⟩
  rcases h.1.2 with h2 | ⟨g, cap, cur, hv, hg, hh, r⟩
  · exact Or.inl h2
  · refine Or.inr ⟨g, cap, cur, hv, hg, ?_, r⟩
    have : bk ao = some g := by injection hv with h1; subst h1; rfl
    rw [hs g this]; exact hh
theorem Own2.form (h : Own2 w base E ao n c ks) (hn : 0 < n) : ∃ g, ao = some ⟨g, 0, none⟩ ∧ base ≤ g ∧ g < w.heap.size ∧ n ≤ c ∧ (∀ j, j < n → w.cell? ⟨g, j * 2, none⟩ = some (.int .i64 (kA ks j)) ∧ w.cell? ⟨g, j * 2 + 1, none⟩ = some (.int .i64 (kB ks j))) ∧ (∀ j, w.frozen? ⟨g, j, none⟩ = false) := by
  have hl := h.len
  obtain ⟨g, cap, hv, hb, hlt⟩ := h.1.form (by omega)
  injection hv with h1 _ h2
  subst h1 h2
  refine ⟨g, rfl, hb, hlt, ?_, fun j hj => ?_, fun j => h.1.frozenAt j⟩
  · rcases h.1.2 with ⟨h2, _⟩ | ⟨g', cap', cur, hv, _, _, hnc, _⟩
    · cases h2
    · injection hv with _ _ h3; subst h3; exact hnc
  · have := pflat_get ks j (by omega)
    exact ⟨(h.1.cellAt (j * 2) (by omega)).trans this.1, (h.1.cellAt (j * 2 + 1) (by omega)).trans this.2⟩
end
def RdK (w : World) (v : Value) (ks : List (Int × Int)) : Prop := ∃ ao n c, v = .slice ao n c ∧ ks.length = n ∧ n ≤ 4398046511104 ∧ (0 < n → ∃ g, ao = some ⟨g, 0, none⟩ ∧ g < w.heap.size ∧ ∀ j, j < n → w.cell? ⟨g, j * 2, none⟩ = some (.int .i64 (kA ks j)) ∧ w.cell? ⟨g, j * 2 + 1, none⟩ = some (.int .i64 (kB ks j)))
theorem RdK.below {w w' : World} {v : Value} {ks : List (Int × Int)} (h : RdK w v ks) (hb : Below w.heap.size w w') : RdK w' v ks := by
  obtain ⟨ao, n, c, rfl, hl, hn, hc⟩ := h
  refine ⟨ao, n, c, rfl, hl, hn, fun h0 => ?_⟩
  obtain ⟨g, rfl, hg, hc⟩ := hc h0
  exact ⟨g, rfl, Nat.lt_of_lt_of_le hg hb.size, fun j hj => ⟨(World.cell?_of_block (hb.block g hg)).trans (hc j hj).1, (World.cell?_of_block (hb.block g hg)).trans (hc j hj).2⟩⟩
def OwnK (E : Nat) (w : World) (lo hi : Nat) (v : Value) (ks : List (Int × Int)) : Prop := ∃ ao n c, v = .slice ao n c ∧ Own2 w 0 E ao n c ks ∧ ∀ g, bk ao = some g → lo ≤ g ∧ g < hi
theorem OwnK.rd {E : Nat} {w : World} {lo hi : Nat} {v : Value} {ks : List (Int × Int)} (h : OwnK E w lo hi v ks) : RdK w v ks := by
  obtain ⟨ao, n, c, rfl, ho, _⟩ := h
  refine ⟨ao, n, c, rfl, ho.len, ho.2, fun h0 => ?_⟩
  obtain ⟨g, rfl, _, hg, _, hc, _⟩ := ho.form h0
  exact ⟨g, rfl, hg, hc⟩
theorem OwnK.below {E : Nat} {w w' : World} {lo hi : Nat} {v : Value} {ks : List (Int × Int)} (h : OwnK E w lo hi v ks) (hb : Below w.heap.size w w') : OwnK E w' lo hi v ks := by
  obtain ⟨ao, n, c, rfl, ho, h1⟩ := h
  exact ⟨ao, n, c, rfl, ho.same fun g hg => hb.block g (ho.lt g hg).2, h1⟩
theorem OwnK.only {E : Nat} {w w' : World} {lo hi : Nat} {v : Value} {ks : List (Int × Int)} (h : OwnK E w lo hi v ks) {l k : Nat} (hq : Only l k w w') (hd : hi ≤ l ∨ k ≤ lo) : OwnK E w' lo hi v ks := by
  obtain ⟨ao, n, c, rfl, ho, h1⟩ := h
  exact ⟨ao, n, c, rfl, ho.same fun g hg => hq.block g (ho.lt g hg).2 (by have := h1 g hg; omega), h1⟩
theorem Own2.stored {w : World} {base E g n c : Nat} {A B : List (Int × Int)} {p : Int × Int} (h : Own2 w base E (some ⟨g, 0, none⟩) n c (A ++ p :: B)) (x y : Int) :
    Own2 ((w.setCell ⟨g, A.length * 2, none⟩ (.int .i64 x)).setCell ⟨g, A.length * 2 + 1, none⟩ (.int .i64 y)) base E (some ⟨g, 0, none⟩) n c (A ++ (x, y) :: B) ∧ w.grownBy ((w.setCell ⟨g, A.length * 2, none⟩ (.int .i64 x)).setCell ⟨g, A.length * 2 + 1, none⟩ (.int .i64 y)) (some g) := by
  have h1 := h.1.stored (A.length * 2) (.int .i64 x)
  have h2 := h1.1.stored (A.length * 2 + 1) (.int .i64 y)
  refine ⟨⟨?_, h.2⟩, grown_tr h1.2 h2.2⟩
  have := h2.1
  rw [pflat_set] at this
  exact this
end Go.Proofs.Ytpognnifgcacnaa

/- Lists of lists of structs of two integers: words. -/
namespace Go.Proofs.Ytpognnifgcacnaa
open Go.RowKit

/-- the slice type S has elements of type E: structs of two integers -/
structure ET2 (P : Program) (S E : TypeId) (bytes : Nat) : Prop where
  und : P.underlying S = some (.slice E)
  info : (P.info? E).map (fun i => (i.zero, i.size, i.bytes)) = some (some (.agg #[.int .i64 0, .int .i64 0]), 2, bytes)
  small : bytes ≤ 32
section
variable {P : Program} {ops : Array Oper} {o : Oper} {rest : List Oper} {a : Act} {Q : Exit → Act → World → Prop}
end

/-- the slice at ao, of n structs, reads as ks -/
def Tgts (w : World) (ao : Option Addr) (n : Nat) (ks : List (Int × Int)) : Prop :=
  ks.length = n ∧ n ≤ 17592186044416 ∧ (0 < n → ∃ b off, ao = some ⟨b, off, none⟩ ∧ ∀ j, j < n → w.cell? ⟨b, off + j * 2, none⟩ = some (.int .i64 (kA ks j)) ∧ w.cell? ⟨b, off + j * 2 + 1, none⟩ = some (.int .i64 (kB ks j)))
theorem Tgts.below {w w' : World} {ao : Option Addr} {n : Nat} {ks : List (Int × Int)} (h : Tgts w ao n ks) (hb : Below w.heap.size w w') : Tgts w' ao n ks := by
  refine ⟨h.1, h.2.1, fun hn => ?_⟩
  obtain ⟨b, off, rfl, hc⟩ := h.2.2 hn
  exact ⟨b, off, rfl, fun j hj => ⟨(hb.cell (p := ⟨b, off + j * 2, none⟩) (World.block_lt_of_cell? w _ (hc j hj).1)).trans (hc j hj).1, (hb.cell (p := ⟨b, off + j * 2 + 1, none⟩) (World.block_lt_of_cell? w _ (hc j hj).2)).trans (hc j hj).2⟩⟩
theorem Tgts.at_ {w : World} {ao : Option Addr} {n : Nat} {ks : List (Int × Int)} (h : Tgts w ao n ks) {k : Nat} (hk : k < n) : ∃ b off, ao = some ⟨b, off, none⟩ ∧ w.cell? ⟨b, off + k * 2, none⟩ = some (.int .i64 (kA ks k)) ∧ w.cell? ⟨b, off + k * 2 + 1, none⟩ = some (.int .i64 (kB ks k)) := by
  obtain ⟨b, off, rfl, hc⟩ := h.2.2 (by omega)
  exact ⟨b, off, rfl, hc k hk⟩
theorem Tgts.nil_ (w : World) (ao : Option Addr) : Tgts w ao 0 [] := ⟨rfl, by omega, fun h => absurd h (by omega)⟩
def RdTs (w : World) (v : Value) (ks : List (Int × Int)) : Prop := ∃ ao n c, v = .slice ao n c ∧ Tgts w ao n ks
theorem RdTs.below {w w' : World} {v : Value} {ks : List (Int × Int)} (h : RdTs w v ks) (hb : Below w.heap.size w w') : RdTs w' v ks := by
  obtain ⟨ao, n, c, rfl, hi⟩ := h
  exact ⟨ao, n, c, rfl, hi.below hb⟩
/-- v is a slice that owns its structs -/
def OwTs (E : Nat) (w : World) (v : Value) (ks : List (Int × Int)) : Prop := ∃ ao n c, v = .slice ao n c ∧ Own2 w 0 E ao n c ks
theorem Own2.tgts {w : World} {base E : Nat} {ao : Option Addr} {n c : Nat} {ks : List (Int × Int)} (h : Own2 w base E ao n c ks) : Tgts w ao n ks := by
  refine ⟨h.len, by have := h.2; omega, fun h0 => ?_⟩
  obtain ⟨g, rfl, _, _, _, hc, _⟩ := h.form h0
  exact ⟨g, 0, rfl, fun j hj => by rw [Nat.zero_add]; exact hc j hj⟩
theorem Own2.mono {w : World} {base base' E : Nat} {ao : Option Addr} {n c : Nat} {ks : List (Int × Int)} (h : Own2 w base E ao n c ks) (hb : base' ≤ base) : Own2 w base' E ao n c ks := by
  refine ⟨⟨h.1.1, ?_⟩, h.2⟩
  rcases h.1.2 with h2 | ⟨g, cap, cur, hv, hg, r⟩
  · exact Or.inl h2
  · exact Or.inr ⟨g, cap, cur, hv, Nat.le_trans hb hg, r⟩
theorem OwTs.rd {E : Nat} {w : World} {v : Value} {ks : List (Int × Int)} (h : OwTs E w v ks) : RdTs w v ks := by
  obtain ⟨ao, n, c, rfl, ho⟩ := h
  exact ⟨ao, n, c, rfl, ho.tgts⟩
theorem innerTs (E : Nat) : Inner (OwTs E) :=
  { loc := fun {w w' u d} h hs => by
      obtain ⟨ao, n, c, rfl, ho⟩ := h
      exact ⟨ao, n, c, rfl, ho.same fun g hg => hs g (by rw [ownBlock_slice]; exact hg)⟩
    lt := fun {w u d} h g hg => by
      obtain ⟨ao, n, c, rfl, ho⟩ := h
      rw [ownBlock_slice] at hg
      exact (ho.lt g hg).2
    one := fun {w u d} h => by obtain ⟨ao, n, c, rfl, _⟩ := h; rfl }

/-- the slice at ao, of n slices of structs, reads as d -/
def Tgtss (w : World) (ao : Option Addr) (n : Nat) (d : List (List (Int × Int))) : Prop :=
  d.length = n ∧ n ≤ 17592186044416 ∧ (0 < n → ∃ b off, ao = some ⟨b, off, none⟩ ∧ ∀ j, j < n → ∃ u, w.cell? ⟨b, off + j, none⟩ = some u ∧ RdTs w u (lget d j))
theorem Tgtss.at_ {w : World} {ao : Option Addr} {n : Nat} {d : List (List (Int × Int))} (h : Tgtss w ao n d) {k : Nat} (hk : k < n) :
    ∃ b off a' n' c', ao = some ⟨b, off, none⟩ ∧ w.cell? ⟨b, off + k, none⟩ = some (.slice a' n' c') ∧ Tgts w a' n' (lget d k) := by
  obtain ⟨b, off, e, hc⟩ := h.2.2 (by omega)
  obtain ⟨u, h1, a', n', c', rfl, h2⟩ := hc k hk
  exact ⟨b, off, a', n', c', e, h1, h2⟩
theorem Tgtss.below {w w' : World} {ao : Option Addr} {n : Nat} {d : List (List (Int × Int))} (h : Tgtss w ao n d) (hb : Below w.heap.size w w') : Tgtss w' ao n d := by
  refine ⟨h.1, h.2.1, fun hn => ?_⟩
  obtain ⟨b, off, rfl, hc⟩ := h.2.2 hn
  refine ⟨b, off, rfl, fun j hj => ?_⟩
  obtain ⟨u, h1, h2⟩ := hc j hj
  exact ⟨u, (hb.cell (p := ⟨b, off + j, none⟩) (World.block_lt_of_cell? w _ h1)).trans h1, h2.below hb⟩
theorem Tgtss.nil_ (w : World) (ao : Option Addr) : Tgtss w ao 0 [] := ⟨rfl, by omega, fun h => absurd h (by omega)⟩
theorem OwR.tgtss {E1 : Nat} {w : World} {lo hi E : Nat} {ao : Option Addr} {n c : Nat} {us : List Value} {d : List (List (Int × Int))} (h : OwR (OwTs E1) w lo hi E ao n c us d) : Tgtss w ao n d := by
  refine ⟨h.len, by have := h.own.2; omega, fun hn => ?_⟩
  obtain ⟨g, rfl, _, _, _, _, _⟩ := h.own.form hn
  refine ⟨g, 0, rfl, fun j hj => ?_⟩
  obtain ⟨u, d', hu, hd, h1, _⟩ := h.get hj
  refine ⟨u, by rw [Nat.zero_add]; exact h.cell hu, ?_⟩
  rw [lget_get? hd]; exact h1.rd
def RdTT (w : World) (v : Value) (d : List (List (Int × Int))) : Prop := ∃ ao n c, v = .slice ao n c ∧ Tgtss w ao n d
theorem RdTT.below {w w' : World} {v : Value} {d : List (List (Int × Int))} (h : RdTT w v d) (hb : Below w.heap.size w w') : RdTT w' v d := by
  obtain ⟨ao, n, c, rfl, hi⟩ := h
  exact ⟨ao, n, c, rfl, hi.below hb⟩
/-- a struct of one such slice -/
def RdT (w : World) (v : Value) (d : List (List (Int × Int))) : Prop := ∃ ao n c, v = .agg #[.slice ao n c] ∧ Tgtss w ao n d
theorem RdT.below {w w' : World} {v : Value} {d : List (List (Int × Int))} (h : RdT w v d) (hb : Below w.heap.size w w') : RdT w' v d := by
  obtain ⟨ao, n, c, rfl, hi⟩ := h
  exact ⟨ao, n, c, rfl, hi.below hb⟩
def OwTT (E1 E : Nat) (w : World) (lo hi : Nat) (v : Value) (d : List (List (Int × Int))) : Prop := ∃ ao n c us, v = .slice ao n c ∧ OwR (OwTs E1) w lo hi E ao n c us d
def OwT (E1 E : Nat) (w : World) (lo hi : Nat) (v : Value) (d : List (List (Int × Int))) : Prop := ∃ ao n c us, v = .agg #[.slice ao n c] ∧ OwR (OwTs E1) w lo hi E ao n c us d
theorem OwTT.rd {E1 E : Nat} {w : World} {lo hi : Nat} {v : Value} {d : List (List (Int × Int))} (h : OwTT E1 E w lo hi v d) : RdTT w v d := by
  obtain ⟨ao, n, c, us, rfl, ho⟩ := h
  exact ⟨ao, n, c, rfl, ho.tgtss⟩
theorem OwT.rd {E1 E : Nat} {w : World} {lo hi : Nat} {v : Value} {d : List (List (Int × Int))} (h : OwT E1 E w lo hi v d) : RdT w v d := by
  obtain ⟨ao, n, c, us, rfl, ho⟩ := h
  exact ⟨ao, n, c, rfl, ho.tgtss⟩
theorem OwT.below {E1 E : Nat} {w w' : World} {lo hi : Nat} {v : Value} {d : List (List (Int × Int))} (h : OwT E1 E w lo hi v d) (hb : Below w.heap.size w w') : OwT E1 E w' lo hi v d := by
  obtain ⟨ao, n, c, us, rfl, ho⟩ := h
  exact ⟨ao, n, c, us, rfl, ho.below (innerTs E1) hb⟩
theorem OwT.only {E1 E : Nat} {w w' : World} {lo hi : Nat} {v : Value} {d : List (List (Int × Int))} (h : OwT E1 E w lo hi v d) {l k : Nat} (ho : Only l k w w') (hd : hi ≤ l ∨ k ≤ lo) : OwT E1 E w' lo hi v d := by
  obtain ⟨ao, n, c, us, rfl, h1⟩ := h
  exact ⟨ao, n, c, us, rfl, h1.only (innerTs E1) ho hd⟩
theorem OwT.mono {E1 E : Nat} {w : World} {lo hi lo' hi' : Nat} {v : Value} {d : List (List (Int × Int))} (h : OwT E1 E w lo hi v d) (h1 : lo' ≤ lo) (h2 : hi ≤ hi') : OwT E1 E w lo' hi' v d := by
  obtain ⟨ao, n, c, us, rfl, ho⟩ := h
  exact ⟨ao, n, c, us, rfl, ho.mono h1 h2⟩
theorem OwT.form {E1 E : Nat} {w : World} {lo hi : Nat} {v : Value} {d : List (List (Int × Int))} (h : OwT E1 E w lo hi v d) : ∃ ao n c, v = .agg #[.slice ao n c] := by
  obtain ⟨ao, n, c, us, rfl, _⟩ := h
  exact ⟨ao, n, c, rfl⟩
end Go.Proofs.Ytpognnifgcacnaa

/- The laws' helpers on Template: sizes, copies, comparison. -/
namespace Go.Proofs.Ytpognnifgcacnaa
open Go.RowKit

end Go.Proofs.Ytpognnifgcacnaa

/- Templates: what a template is; the reference's test. -/
namespace Go.Proofs.Ytpognnifgcacnaa
open Go.RowKit

/-- the piece and the move that are kept for piece j and index i -/
def tP (d : List (List (Int × Int))) (j i : Nat) : Int := kA (lget d j) i
def tM (d : List (List (Int × Int))) (j i : Nat) : Int := kB (lget d j) i
/-- moves x and y commute -/
def cmM (x y : Int) : Bool := decide (x = y ∨ x < 0 ∨ y < 0 ∨ (x + y = 2 ∧ x ≠ 1))
/-- index 0 and index 2 commute at piece j -/
def CmT (d : List (List (Int × Int))) (j : Nat) : Prop :=
  tP d (tP d j 0).toNat 2 = tP d (tP d j 2).toNat 0 ∧ tM d (tP d j 0).toNat 2 = tM d j 2 ∧ tM d (tP d j 2).toNat 0 = tM d j 0 ∧ cmM (tM d j 0) (tM d j 2) = true ∧ ¬ (tM d j 0 = tM d j 2 ∧ tP d (tP d j 0).toNat 2 = j)
def RgT (d : List (List (Int × Int))) (j i : Nat) : Prop := (0 ≤ tP d j i ∧ tP d j i ≤ (d.length : Int) - 1) ∧ -1 ≤ tM d j i ∧ tM d j i ≤ 2
def FxT (d : List (List (Int × Int))) (j i : Nat) : Prop := tP d j i = j ∧ tM d j i < 0
def BkT (d : List (List (Int × Int))) (j i : Nat) : Prop := tP d (tP d j i).toNat i = j ∧ tM d (tP d j i).toNat i = tM d j i
structure Tmp (d : List (List (Int × Int))) : Prop where
  one : 1 ≤ d.length
  few : d.length ≤ 12
  three : ∀ j, j < d.length → (lget d j).length = 3
  rng : ∀ j, j < d.length → ∀ i, i < 3 → RgT d j i
  fix : ∀ j, j < d.length → ∀ i, i < 3 → ¬ FxT d j i
  back : ∀ j, j < d.length → ∀ i, i < 3 → BkT d j i
  comm : ∀ j, j < d.length → CmT d j
end Go.Proofs.Ytpognnifgcacnaa

/- The composition of two templates: what it is; the state of both walks. -/
namespace Go.Proofs.Ytpognnifgcacnaa
open Go.RowKit

section
variable {P : Program} {ops : Array Oper} {rest : List Oper} {o : Oper} {a : Act} {Q : Exit → Act → World → Prop}
/-- append(s, x) of one struct: x lies in a block of its own, just laid -/
theorem wpList_ap2 {S E : TypeId} {bytes : Nat} (et : ET2 P S E bytes) (w : World) (hg : o.guard = none) (s x : Operand) (ho : o.op = .call { callee := .builtin .append, args := #[s, x], argTypes := #[S, S] })
    (base : Nat) (ao : Option Addr) (n c : Nat) (ks : List (Int × Int)) (hs : a.eval s = .slice ao n c) (hown : Own2 w base E ao n c ks) (u v : Int)
    (hx : a.eval x = .slice (some ⟨w.heap.size, 0, none⟩) 1 1) (hn : n + 1 ≤ 4398046511104) (hbase : base ≤ w.heap.size)
    (hK : ∀ ao' c' w', Own2 w' base E ao' (n + 1) c' (ks ++ [(u, v)]) → w.grownBy w' (bk ao) → (bk ao' = bk ao ∨ bk ao' = some (w.heap.size + 1)) → wpList P ops Q rest (a.put o.dst (.slice ao' (n + 1) c')) w') :
    wpList P ops Q (o :: rest) a (w.alloc (.cells #[.int .i64 u, .int .i64 v] E)) := by
  obtain ⟨i, hi, hz, hsz, hby⟩ := info_parts et.info
  refine wpList_append_own_at _ hg s x S ho base E i (.agg #[.int .i64 0, .int .i64 0]) 2 bytes et.und hi hz hsz hby rfl (by omega) (.slice ao n c) n (ivals (pflat ks)) hs (hown.1.alloc _) ⟨w.heap.size, 0, none⟩ 1 1 [.int .i64 u, .int .i64 v] hx rfl (by
      intro j y hj
      match j, hj with
      | 0, hj => simp at hj; subst hj; simp [Addr.add]
      | 1, hj => simp at hj; subst hj; simp [Addr.add]
      | j + 2, hj => simp at hj)
    (by intro y hy; simp at hy; rcases hy with rfl | rfl <;> rfl) (by simp [maxLen]; omega) (by have := et.small; have : (n + 1) * bytes ≤ (n + 1) * 32 := Nat.mul_le_mul_left _ this; omega) (by simp; omega) ?_
  intro v' w' h1 h2 _ h4
  rw [ownBlock_slice] at h2 h4
  have e : ivals (pflat ks) ++ [.int .i64 u, .int .i64 v] = ivals (pflat (ks ++ [(u, v)])) := by simp [pflat, ivals]
  rw [e] at h1
  have hl : ks.length = n := hown.len
  obtain ⟨g, cap, rfl, hb, hlt⟩ := h1.form (by omega)
  refine hK _ _ _ ⟨h1, hn⟩ (grown_tr (World.grownBy_alloc w _ _) h2) ?_
  rw [ownBlock_slice] at h4
  simpa using h4
end
theorem Own2.empty_ (w : World) {base E : Nat} (hb : base ≤ w.heap.size) : Own2 (w.alloc (.cells #[] E)) base E (some ⟨w.heap.size, 0, none⟩) 0 0 [] := by
  refine ⟨?_, by omega⟩
  have := World.ownsRow_lit (e := E) (size := 2) w #[] 0 hb (by simp [maxLen]) (by simp)
  simpa [pflat, ivals] using this
theorem Own2.nil_ (w : World) (base E : Nat) : Own2 w base E none 0 0 [] := ⟨World.ownsRow_nil _ _ _ _, by omega⟩
theorem Own2.below {w w' : World} {base E : Nat} {ao : Option Addr} {n c : Nat} {ks : List (Int × Int)} (h : Own2 w base E ao n c ks) (hb : Below w.heap.size w w') : Own2 w' base E ao n c ks := h.same fun g hg => hb.block g (h.lt g hg).2

/-- pushing a row of structs -/
theorem trows_push {T1 E lo : Nat} {wr w2 w3 w4 : World} {ao ao' ao2 : Option Addr} {m c n' c' c2 : Nat} {us : List Value} {ds : List (List (Int × Int))} {ks : List (Int × Int)}
    (hR : OwR (OwTs T1) wr lo wr.heap.size E ao m c us ds) (hlo : lo ≤ wr.heap.size) (hb : Below wr.heap.size wr w2) (hu : Own2 w2 wr.heap.size T1 ao' n' c' ks) (hb3 : Below w2.heap.size w2 w3)
    (hown : Own w4 lo E ao2 (m + 1) c2 (us ++ [.slice ao' n' c'])) (hg : w3.grownBy w4 (bk ao)) (hat : bk ao2 = bk ao ∨ ∃ g, bk ao2 = some g ∧ w2.heap.size ≤ g) :
    OwR (OwTs T1) w4 lo w4.heap.size E ao2 (m + 1) c2 (us ++ [.slice ao' n' c']) (ds ++ [ks]) := by
  have hR3 : OwR (OwTs T1) w3 lo wr.heap.size E ao m c us ds := hR.below (innerTs _) (hb.trans (hb3.mono hb.size))
  have s1 := hb.size
  have s2 := hb3.size
  have s3 := hg.size
  have hub : ∀ g, bk ao' = some g → wr.heap.size ≤ g ∧ g < w2.heap.size := hu.lt
  have hne : ∀ g, bk ao' = some g → bk ao ≠ some g := fun g h1 h2 => by have := hub g h1; have := hR.top g h2; omega
  have hu4 : OwTs T1 w4 (.slice ao' n' c') ks := (innerTs T1).loc (w := w2) ⟨ao', n', c', rfl, hu.mono (Nat.zero_le _)⟩ fun g h => by
    rw [ownBlock_slice] at h
    have := hub g h
    rw [hg.block g (by omega) (fun e => hne g h e.symm)]
    exact hb3.block g this.2
  refine hR3.push (innerTs _) hown hg hu4 (in_slice fun g h => ⟨by have := hub g h; omega, by have := hub g h; omega⟩) (fun g h => (hown.lt g h).2) (by omega) ?_ ?_
  · intro g h
    rcases hat with h1 | ⟨g1, h1, h5⟩
    · exact .inl (h1 ▸ h)
    · refine .inr fun j u hj e => ?_
      rw [h1] at h; obtain rfl := Option.some.inj h
      have := (hR3.rng j u hj _ e).2
      omega
  · intro g h
    rw [ownBlock_slice] at h
    have hh := hub g h
    refine ⟨fun e => ?_, fun j v hj e => ?_⟩
    · rcases hat with h1 | ⟨g1, h1, h5⟩
      · exact hne g h (h1 ▸ e)
      · rw [h1] at e; have := Option.some.inj e; omega
    · have := (hR3.rng j v hj _ e).2; omega

/-- the boxes of the arguments, of the result, of out; the rows of out -/
structure CmpSt (w wr : World) (va vb : Value) (ao : Option Addr) (m c : Nat) (us : List Value) (ds : List (List (Int × Int))) : Prop where
  tt : Blk wr w.heap.size 29 #[va]
  uu : Blk wr (w.heap.size + 1) 29 #[vb]
  res : Blk wr (w.heap.size + 2) 29 #[.slice none 0 0]
  box : Blk wr (w.heap.size + 3) 29 #[.slice ao m c]
  row : OwR (OwTs 143) wr (w.heap.size + 4) wr.heap.size 100 ao m c us ds
  size : w.heap.size + 4 ≤ wr.heap.size
  below : Below w.heap.size w wr
theorem CmpSt.push {w wr w2 w3 w4 : World} {va vb : Value} {m c' n1 c1 c2 : Nat} {ao' a1 ao2 : Option Addr} {us : List Value} {ds : List (List (Int × Int))} {ks : List (Int × Int)} (st : CmpSt w wr va vb ao' m c' us ds)
    (b2 : Below wr.heap.size wr w2) (o1 : Own2 w2 wr.heap.size 143 a1 n1 c1 ks) (b3 : Below w2.heap.size w2 w3) (o4 : Own w4 (w.heap.size + 4) 100 ao2 (m + 1) c2 (us ++ [.slice a1 n1 c1]))
    (g4 : w3.grownBy w4 (bk ao')) (hat : bk ao2 = bk ao' ∨ ∃ g, bk ao2 = some g ∧ w2.heap.size ≤ g) :
    CmpSt w (w4.setCell ⟨w.heap.size + 3, 0, none⟩ (.slice ao2 (m + 1) c2)) va vb ao2 (m + 1) c2 (us ++ [.slice a1 n1 c1]) (ds ++ [ks]) := by
  have hR := trows_push st.row (by have := st.size; omega) b2 o1 b3 o4 g4 hat
  have hsz := st.size
  have s2 := b2.size
  have s3 := b3.size
  have s4 := g4.size
  have B4 : Below (w.heap.size + 4) wr w4 := ((b2.trans (b3.mono s2)).mono hsz).grown g4 (by omega) (fun g hg => (st.row.own.lt g hg).1)
  have hh : (w4.setCell ⟨w.heap.size + 3, 0, none⟩ (.slice ao2 (m + 1) c2)).heap.size = w4.heap.size := by simp [World.setCell]
  refine ⟨(st.tt.below B4 (by omega)).far (by simp) _, (st.uu.below B4 (by omega)).far (by simp) _, (st.res.below B4 (by omega)).far (by simp) _, ?_, ?_, by rw [hh]; omega, (st.below.trans (B4.mono (by omega))).setCell (by simp) _⟩
  · have := (st.box.below B4 (by omega)).set_ 0 (.slice ao2 (m + 1) c2)
    simpa using this
  · rw [hh]
    exact hR.same (innerTs _) fun g h1 _ _ => Below.heap_setCell _ _ _ _ (by simp; omega)
theorem CmpSt.done {w wr : World} {va vb : Value} {m c' : Nat} {ao' : Option Addr} {us : List Value} {ds : List (List (Int × Int))} (st : CmpSt w wr va vb ao' m c' us ds) :
    Blk (wr.setCell ⟨w.heap.size + 2, 0, none⟩ (.slice ao' m c')) (w.heap.size + 2) 29 #[.slice ao' m c'] ∧
    OwR (OwTs 143) (wr.setCell ⟨w.heap.size + 2, 0, none⟩ (.slice ao' m c')) (w.heap.size + 4) (wr.setCell ⟨w.heap.size + 2, 0, none⟩ (.slice ao' m c')).heap.size 100 ao' m c' us ds ∧
    Below w.heap.size w (wr.setCell ⟨w.heap.size + 2, 0, none⟩ (.slice ao' m c')) := by
  have hh : (wr.setCell ⟨w.heap.size + 2, 0, none⟩ (.slice ao' m c')).heap.size = wr.heap.size := by simp [World.setCell]
  refine ⟨?_, ?_, st.below.setCell (by simp) _⟩
  · have := st.res.set_ 0 (.slice ao' m c')
    simpa using this
  · rw [hh]
    exact st.row.same (innerTs _) fun g h1 _ _ => Below.heap_setCell _ _ _ _ (by simp; omega)
theorem CmpSt.start {w w' : World} {va vb : Value} (hb : Below w.heap.size w w') (h1 : Blk w' w.heap.size 29 #[va]) (h2 : Blk w' (w.heap.size + 1) 29 #[vb]) (h3 : Blk w' (w.heap.size + 2) 29 #[.slice none 0 0]) (h4 : Blk w' (w.heap.size + 3) 29 #[.slice none 0 0]) (hs : w.heap.size + 4 ≤ w'.heap.size) :
    CmpSt w w' va vb none 0 0 [] [] := ⟨h1, h2, h3, h4, OwR.empty_ (Own.nil_ _ _ _) (fun g hg => by cases hg), hs, hb⟩
end Go.Proofs.Ytpognnifgcacnaa

/- Values that each own a block, all blocks different: lists of a call that grow side by side. No program in sight. -/
namespace Go.Proofs.Ytpognnifgcacnaa
open Go.RowKit

structure OwL {D : Type} (Ow1 : World → Value → D → Prop) (w : World) (lo : Nat) (us : List Value) (ds : List D) : Prop where
  len : ds.length = us.length
  el : ∀ (j : Nat) (u : Value) (d : D), us[j]? = some u → ds[j]? = some d → Ow1 w u d
  low : ∀ (j : Nat) (u : Value) (g : Nat), us[j]? = some u → u.ownBlock = some g → lo ≤ g
  apart : ∀ (i j : Nat) (u u' : Value) (g : Nat), i ≠ j → us[i]? = some u → us[j]? = some u' → u.ownBlock = some g → u'.ownBlock ≠ some g
section
variable {D : Type} {Ow1 : World → Value → D → Prop} {w w' : World} {lo : Nat} {us : List Value} {ds : List D}
theorem OwL.nil_ : OwL Ow1 w lo [] [] := ⟨rfl, fun _ _ _ h => by simp at h, fun _ _ _ h => by simp at h, fun _ _ _ _ _ _ h => by simp at h⟩
theorem OwL.get (h : OwL Ow1 w lo us ds) {j : Nat} (hj : j < us.length) : ∃ u d, us[j]? = some u ∧ ds[j]? = some d ∧ Ow1 w u d := by
  have h2 : j < ds.length := by rw [h.len]; exact hj
  exact ⟨_, _, List.getElem?_eq_getElem hj, List.getElem?_eq_getElem h2, h.el j _ _ (List.getElem?_eq_getElem hj) (List.getElem?_eq_getElem h2)⟩
theorem OwL.some_ (h : OwL Ow1 w lo us ds) {j : Nat} {u : Value} (hu : us[j]? = some u) : ∃ d, ds[j]? = some d ∧ Ow1 w u d := by
  have hj : j < us.length := (List.getElem?_eq_some_iff.1 hu).1
  have h2 : j < ds.length := by rw [h.len]; exact hj
  exact ⟨_, List.getElem?_eq_getElem h2, h.el j _ _ hu (List.getElem?_eq_getElem h2)⟩
theorem OwL.lt (I : Inner Ow1) (h : OwL Ow1 w lo us ds) {j : Nat} {u : Value} {g : Nat} (hu : us[j]? = some u) (hg : u.ownBlock = some g) : g < w.heap.size := by
  obtain ⟨d, _, h1⟩ := h.some_ hu
  exact I.lt h1 g hg
/-- none of the blocks has turned -/
theorem OwL.same (I : Inner Ow1) (h : OwL Ow1 w lo us ds) (hs : ∀ (j : Nat) (u : Value) (g : Nat), us[j]? = some u → u.ownBlock = some g → w'.heap[g]? = w.heap[g]?) : OwL Ow1 w' lo us ds :=
  ⟨h.len, fun j u d hu hd => I.loc (h.el j u d hu hd) fun g hg => hs j u g hu hg, h.low, h.apart⟩
theorem OwL.below (I : Inner Ow1) (h : OwL Ow1 w lo us ds) (hb : Below w.heap.size w w') : OwL Ow1 w' lo us ds := h.same I fun j u g hu hg => hb.block g (h.lt I hu hg)
theorem OwL.mono (h : OwL Ow1 w lo us ds) {lo' : Nat} (hl : lo' ≤ lo) : OwL Ow1 w lo' us ds := ⟨h.len, h.el, fun j u g hu hg => Nat.le_trans hl (h.low j u g hu hg), h.apart⟩
/-- element j has grown: its value is u' now, in its block or in a new one -/
theorem OwL.upd (I : Inner Ow1) (h : OwL Ow1 w lo us ds) {j : Nat} {u u' : Value} {d' : D} (hu : us[j]? = some u) (hg : w.grownBy w' u.ownBlock) (h' : Ow1 w' u' d')
    (hnew : u'.ownBlock = none ∨ u'.ownBlock = u.ownBlock ∨ ∃ g, u'.ownBlock = some g ∧ w.heap.size ≤ g) (hlo : lo ≤ w.heap.size) : OwL Ow1 w' lo (us.set j u') (ds.set j d') := by
  have hjl : j < us.length := (List.getElem?_eq_some_iff.1 hu).1
  have ap : ∀ (i : Nat) (v : Value) (g : Nat), i ≠ j → us[i]? = some v → v.ownBlock = some g → u'.ownBlock ≠ some g := fun i v g hij hv hgv e => by
    rcases hnew with hn | hn | ⟨g', hn, hge⟩
    · rw [hn] at e; cases e
    · rw [hn] at e; exact h.apart i j v u g hij hv hu hgv e
    · rw [hn] at e; obtain rfl := Option.some.inj e
      have := h.lt I hv hgv
      omega
  refine ⟨by rw [List.length_set, List.length_set]; exact h.len, fun i v d hv hd => ?_, fun i v g hv hgv => ?_, fun i k v v' g hik hv hv' hgv => ?_⟩
  · by_cases hij : j = i
    · subst hij
      rw [List.getElem?_set_self hjl] at hv
      obtain rfl := Option.some.inj hv
      rw [List.getElem?_set_self'] at hd
      cases hdd : ds[j]? with
      | none => rw [hdd] at hd; cases hd
      | some x => rw [hdd] at hd; simp at hd; subst hd; exact h'
    · rw [List.getElem?_set_ne hij] at hd hv
      exact I.loc (h.el i v d hv hd) fun g hgg => hg.block g (I.lt (h.el i v d hv hd) g hgg) fun e => h.apart i j v u g (fun e => hij e.symm) hv hu hgg e.symm
  · by_cases hij : j = i
    · subst hij
      rw [List.getElem?_set_self hjl] at hv
      obtain rfl := Option.some.inj hv
      rcases hnew with hn | hn | ⟨g', hn, hge⟩
      · rw [hn] at hgv; cases hgv
      · rw [hn] at hgv; exact h.low j u g hu hgv
      · rw [hn] at hgv; obtain rfl := Option.some.inj hgv; omega
    · rw [List.getElem?_set_ne hij] at hv
      exact h.low i v g hv hgv
  · by_cases hij : j = i
    · subst hij
      rw [List.getElem?_set_self hjl] at hv
      obtain rfl := Option.some.inj hv
      rw [List.getElem?_set_ne hik] at hv'
      intro e
      exact ap k v' g (fun e => hik e.symm) hv' e hgv
    · rw [List.getElem?_set_ne hij] at hv
      by_cases hkj : j = k
      · subst hkj
        rw [List.getElem?_set_self hjl] at hv'
        obtain rfl := Option.some.inj hv'
        exact ap i v g (fun e => hij e.symm) hv hgv
      · rw [List.getElem?_set_ne hkj] at hv'
        exact h.apart i k v v' g hik hv hv' hgv
/-- a new element in a new block -/
theorem OwL.push (I : Inner Ow1) (h : OwL Ow1 w lo us ds) (hb : Below w.heap.size w w') {u' : Value} {d' : D} (h' : Ow1 w' u' d') (hnew : ∀ g, u'.ownBlock = some g → w.heap.size ≤ g) (hlo : lo ≤ w.heap.size) : OwL Ow1 w' lo (us ++ [u']) (ds ++ [d']) := by
  have h2 := h.below I hb
  have hl := h.len
  have key : ∀ (i : Nat) (v : Value), (us ++ [u'])[i]? = some v → (us[i]? = some v) ∨ (i = us.length ∧ v = u') := fun i v hv => by
    rw [List.getElem?_append] at hv
    split at hv
    · exact .inl hv
    · rename_i hi
      have : i - us.length = 0 := by
        rcases Nat.eq_zero_or_pos (i - us.length) with h | h
        · exact h
        · rw [List.getElem?_eq_none (by simp; omega)] at hv; cases hv
      rw [this] at hv
      exact .inr ⟨by omega, by simpa using hv.symm⟩
  refine ⟨by simp [hl], fun i v d hv hd => ?_, fun i v g hv hgv => ?_, fun i k v v' g hik hv hv' hgv e => ?_⟩
  · rcases key i v hv with hv | ⟨rfl, rfl⟩
    · have hi : i < us.length := (List.getElem?_eq_some_iff.1 hv).1
      rw [List.getElem?_append_left (by omega)] at hd
      exact h2.el i v d hv hd
    · rw [List.getElem?_append_right (by omega), hl, Nat.sub_self] at hd
      simp at hd; subst hd; exact h'
  · rcases key i v hv with hv | ⟨rfl, rfl⟩
    · exact h.low i v g hv hgv
    · have := hnew g hgv; omega
  · rcases key i v hv with hv1 | ⟨hi, hi2⟩
    · rcases key k v' hv' with hv2 | ⟨hk, hk2⟩
      · exact h.apart i k v v' g hik hv1 hv2 hgv e
      · rw [hk2] at e
        have := h.lt I hv1 hgv; have := hnew g e; omega
    · rcases key k v' hv' with hv2 | ⟨hk, hk2⟩
      · rw [hi2] at hgv
        have := h.lt I hv2 e; have := hnew g hgv; omega
      · exact hik (hi.trans hk.symm)
end
end Go.Proofs.Ytpognnifgcacnaa

/- PolygonOf: the flags of a polygon, by the reference and by the program. -/
namespace Go.Proofs.Ytpognnifgcacnaa
open Go.RowKit

end Go.Proofs.Ytpognnifgcacnaa
