/- What a maniplex is, the program's: isManiplex. guards: -/
import Derived.Test.YtnfkhgamnapgmaaPart4
import Derived.Test.YtnfkhgamnapgmaaPart3
import Derived.Lib.LazyBuf
import Derived.Lib.SliceRun
import Derived.Test.YtnfkhgamnapgmaaProg
import Derived.Test.YtnfkhgamnapgmaaPart1
import Derived.RegionTactic
namespace Go.Proofs.Ytnfkhgamnapgmaa
open Go.RowKit

abbrev mxV (R : Nat) : Ch := ⟨false, 25, 1, .flat [.sl 1003 0 R]⟩
theorem rank_fc (R : Nat) : FC Try.prog 126 [(1, mxV R)] [o1 (.ptr 1 0)] [] (vv (I6 R)) [] := by
  have hS := sizeR_fc 1003 R
  refine fc_enter (nt := 8) Try.func126 rfl rfl (by simp) fun w0 ω0 => ?_
  (refine goes_seq ?_; refine goes_region ?_; apply run_step rfl; (exact stp_assign rfl rfl); refine run_nil ?_; refine fin_seq ?_; refine goes_seq ?_; refine goes_region ?_; apply run_step rfl; (exact stp_move rfl rfl); apply run_step rfl; (exact stp_nilCheck rfl rfl rfl); apply run_step rfl; (exact stp_fieldAddr (d := 0) rfl rfl rfl (by as_aux_lemma => kernel_rfl)); apply run_step rfl; (exact stp_loadF rfl (by as_aux_lemma => kernel_rfl) rfl rfl rfl rfl); apply run_step rfl; (apply call_gate 172; exact stp_callR hS (by as_aux_lemma => kernel_rfl) rfl rfl ⟨rfl, trivial⟩ trivial rfl rfl); apply run_step rfl; (exact stp_assign rfl rfl); refine run_nil ?_; refine fin_seq ?_; refine goes_ret ?_)
  exact fin_ret1 (.inl rfl) rfl (.tmp rfl) trivial trivial
set_option maxRecDepth 100000 in
theorem flags_fc1 (zss : List (List Int)) (n : Nat) (hpos : 0 < zss.length) (hn : (lget zss 0).length = n) : FC Try.prog 127 [(1, mxV zss.length), (1003, rowsRo zss)] [o1 (.ptr 1 0)] [] (vv (I6 n)) [] := by
  have hlen : (irows zss).length = zss.length := irows_len _
  have hrow0 : (irows zss)[0]? = some (ivals (lget zss 0)) := irows_get hpos
  have hil : (ivals (lget zss 0)).length = n := by rw [ivals_len]; exact hn
  have hSz := sizeE_fc 1003 0 n
  refine fc_enter (nt := 10) Try.func127 rfl rfl (by simp) fun w0 ω0 => ?_
  (refine goes_seq ?_; refine goes_region ?_; apply run_step rfl; (exact stp_assign rfl rfl); refine run_nil ?_; refine fin_seq ?_; refine goes_seq ?_; refine goes_region ?_; apply run_step rfl; (exact stp_move rfl rfl); apply run_step rfl; (exact stp_nilCheck rfl rfl rfl); apply run_step rfl; (exact stp_fieldAddr (d := 0) rfl rfl rfl (by as_aux_lemma => kernel_rfl)); apply run_step rfl; (exact stp_loadF rfl (by as_aux_lemma => kernel_rfl) rfl rfl rfl rfl); apply run_step rfl; (first | exact stp_ix (j := 0) rfl rfl rfl rfl rfl (by as_aux_lemma => kernel_rfl) rfl hpos (Nat.le_of_eq hlen.symm) | exact stp_loadR rfl (by as_aux_lemma => kernel_rfl) rfl rfl rfl hrow0 hil | (apply call_gate 85; exact stp_callR hSz (by as_aux_lemma => kernel_rfl) rfl rfl ⟨rfl, trivial⟩ trivial rfl rfl)); apply run_step rfl; (first | exact stp_ix (j := 0) rfl rfl rfl rfl rfl (by as_aux_lemma => kernel_rfl) rfl hpos (Nat.le_of_eq hlen.symm) | exact stp_loadR rfl (by as_aux_lemma => kernel_rfl) rfl rfl rfl hrow0 hil | (apply call_gate 85; exact stp_callR hSz (by as_aux_lemma => kernel_rfl) rfl rfl ⟨rfl, trivial⟩ trivial rfl rfl)); apply run_step rfl; (first | exact stp_ix (j := 0) rfl rfl rfl rfl rfl (by as_aux_lemma => kernel_rfl) rfl hpos (Nat.le_of_eq hlen.symm) | exact stp_loadR rfl (by as_aux_lemma => kernel_rfl) rfl rfl rfl hrow0 hil | (apply call_gate 85; exact stp_callR hSz (by as_aux_lemma => kernel_rfl) rfl rfl ⟨rfl, trivial⟩ trivial rfl rfl)); apply run_step rfl; (exact stp_assign rfl rfl); refine run_nil ?_; refine fin_seq ?_; refine goes_ret ?_)
  exact fin_ret1 (.inl rfl) rfl (.tmp rfl) trivial trivial

set_option maxRecDepth 100000 in
set_option maxHeartbeats 4000000 in
theorem manI_fc (zss : List (List Int)) (hR : zss.length ≤ 1048576) (hl : ∀ i, i < zss.length → (lget zss i).length ≤ 1048576) :
    FC Try.prog 69 [(1003, rowsRo zss)] [mA zss.length] [] (vv (.bool (manB zss))) [] := by
  have hRk := rank_fc zss.length
  have hW1 := within_fc (zss.length : Int) 1 5
  refine fc_enter (nt := 101) Try.func69 rfl rfl (by simp) fun w0 ω0 => ?_
  have hlen : (irows zss).length = zss.length := irows_len _
  cases c1 : inB (zss.length : Int) 1 5 with
  | false =>
    rw [manB_no (fun h => by have h1 := h.n1; have h2 := h.n5; rw [inB_true.2 ⟨by omega, by omega⟩] at c1; cases c1)]
    rw [c1] at hW1
    (refine goes_seq ?_; refine goes_region ?_; apply run_step rfl; (exact stp_box rfl rfl rfl rfl); apply run_step rfl; (exact stp_assign rfl rfl); refine run_nil ?_; refine fin_seq ?_; refine goes_seq ?_; refine goes_seq ?_; refine goes_region ?_; apply run_step rfl; (first | (apply call_gate 126; exact stp_callR hRk (by as_aux_lemma => kernel_rfl) rfl rfl ⟨rfl, trivial⟩ ⟨⟨_, rfl, .inr rfl⟩, trivial⟩ rfl rfl) | (apply call_gate 84; exact stp_callR hW1 (by as_aux_lemma => kernel_rfl) rfl rfl ⟨rfl, rfl, rfl, trivial⟩ trivial rfl rfl)); apply run_step rfl; (first | (apply call_gate 126; exact stp_callR hRk (by as_aux_lemma => kernel_rfl) rfl rfl ⟨rfl, trivial⟩ ⟨⟨_, rfl, .inr rfl⟩, trivial⟩ rfl rfl) | (apply call_gate 84; exact stp_callR hW1 (by as_aux_lemma => kernel_rfl) rfl rfl ⟨rfl, rfl, rfl, trivial⟩ trivial rfl rfl)); apply run_step rfl; (exact stp_not rfl rfl); apply run_step rfl; (exact stp_move rfl rfl); apply run_gNo rfl rfl rfl rfl rfl; apply run_gNo rfl rfl rfl rfl rfl; apply run_gNo rfl rfl rfl rfl rfl; apply run_step rfl; (exact stp_pickT rfl rfl rfl); refine run_nil ?_; refine fin_seq ?_)
    refine goes_cond rfl (fun _ => ?_) (fun e => by cases e)
    (refine goes_seq ?_; refine goes_region ?_; apply run_step rfl; (exact stp_assign rfl rfl); refine run_nil ?_; refine fin_seq ?_; refine goes_ret ?_; refine fin_ret_then ?_)
    exact fin_ret1 (.inl rfl) rfl (.tmp rfl) trivial trivial
  | true =>
  rw [c1] at hW1
  have c1 := inB_true.1 c1
  have hpos : 0 < zss.length := by omega
  have hrow0 : (irows zss)[0]? = some (ivals (lget zss 0)) := irows_get hpos
  obtain ⟨n, hn⟩ : ∃ n, (lget zss 0).length = n := ⟨_, rfl⟩
  have hil : (ivals (lget zss 0)).length = n := by rw [ivals_len]; exact hn
  have hG := flags_fc1 zss n hpos hn
  have hW2 := within_fc (n : Int) 2 400
  cases c2 : inB (n : Int) 2 400 with
  | false =>
    rw [manB_no (fun h => by have h1 := h.f2; have h2 := h.f4; rw [inB_true.2 ⟨by omega, by omega⟩] at c2; cases c2)]
    rw [c2] at hW2
    (refine goes_seq ?_; refine goes_region ?_; apply run_step rfl; (exact stp_box rfl rfl rfl rfl); apply run_step rfl; (exact stp_assign rfl rfl); refine run_nil ?_; refine fin_seq ?_; refine goes_seq ?_; refine goes_seq ?_; refine goes_region ?_; apply run_step rfl; (first | (apply call_gate 126; exact stp_callR hRk (by as_aux_lemma => kernel_rfl) rfl rfl ⟨rfl, trivial⟩ ⟨⟨_, rfl, .inr rfl⟩, trivial⟩ rfl rfl) | (apply call_gate 84; exact stp_callR hW1 (by as_aux_lemma => kernel_rfl) rfl rfl ⟨rfl, rfl, rfl, trivial⟩ trivial rfl rfl) | (apply call_gate 84; exact stp_callR hW2 (by as_aux_lemma => kernel_rfl) rfl rfl ⟨rfl, rfl, rfl, trivial⟩ trivial rfl rfl) | (apply call_gate 127; exact stp_callR hG (by as_aux_lemma => kernel_rfl) rfl rfl ⟨rfl, trivial⟩ ⟨⟨_, rfl, .inr rfl⟩, ⟨_, rfl, .inl rfl⟩, trivial⟩ rfl rfl)); apply run_step rfl; (first | (apply call_gate 126; exact stp_callR hRk (by as_aux_lemma => kernel_rfl) rfl rfl ⟨rfl, trivial⟩ ⟨⟨_, rfl, .inr rfl⟩, trivial⟩ rfl rfl) | (apply call_gate 84; exact stp_callR hW1 (by as_aux_lemma => kernel_rfl) rfl rfl ⟨rfl, rfl, rfl, trivial⟩ trivial rfl rfl) | (apply call_gate 84; exact stp_callR hW2 (by as_aux_lemma => kernel_rfl) rfl rfl ⟨rfl, rfl, rfl, trivial⟩ trivial rfl rfl) | (apply call_gate 127; exact stp_callR hG (by as_aux_lemma => kernel_rfl) rfl rfl ⟨rfl, trivial⟩ ⟨⟨_, rfl, .inr rfl⟩, ⟨_, rfl, .inl rfl⟩, trivial⟩ rfl rfl)); apply run_step rfl; (exact stp_not rfl rfl); apply run_step rfl; (exact stp_move rfl rfl); apply run_gYes rfl rfl rfl; (first | (apply call_gate 126; exact stp_callR hRk (by as_aux_lemma => kernel_rfl) rfl rfl ⟨rfl, trivial⟩ ⟨⟨_, rfl, .inr rfl⟩, trivial⟩ rfl rfl) | (apply call_gate 84; exact stp_callR hW1 (by as_aux_lemma => kernel_rfl) rfl rfl ⟨rfl, rfl, rfl, trivial⟩ trivial rfl rfl) | (apply call_gate 84; exact stp_callR hW2 (by as_aux_lemma => kernel_rfl) rfl rfl ⟨rfl, rfl, rfl, trivial⟩ trivial rfl rfl) | (apply call_gate 127; exact stp_callR hG (by as_aux_lemma => kernel_rfl) rfl rfl ⟨rfl, trivial⟩ ⟨⟨_, rfl, .inr rfl⟩, ⟨_, rfl, .inl rfl⟩, trivial⟩ rfl rfl)); apply run_gYes rfl rfl rfl; (first | (apply call_gate 126; exact stp_callR hRk (by as_aux_lemma => kernel_rfl) rfl rfl ⟨rfl, trivial⟩ ⟨⟨_, rfl, .inr rfl⟩, trivial⟩ rfl rfl) | (apply call_gate 84; exact stp_callR hW1 (by as_aux_lemma => kernel_rfl) rfl rfl ⟨rfl, rfl, rfl, trivial⟩ trivial rfl rfl) | (apply call_gate 84; exact stp_callR hW2 (by as_aux_lemma => kernel_rfl) rfl rfl ⟨rfl, rfl, rfl, trivial⟩ trivial rfl rfl) | (apply call_gate 127; exact stp_callR hG (by as_aux_lemma => kernel_rfl) rfl rfl ⟨rfl, trivial⟩ ⟨⟨_, rfl, .inr rfl⟩, ⟨_, rfl, .inl rfl⟩, trivial⟩ rfl rfl)); apply run_gYes rfl rfl rfl; (exact stp_not rfl rfl); apply run_step rfl; (exact stp_pickF rfl rfl rfl); refine run_nil ?_; refine fin_seq ?_)
    refine goes_cond rfl (fun _ => ?_) (fun e => by cases e)
    (refine goes_seq ?_; refine goes_region ?_; apply run_step rfl; (exact stp_assign rfl rfl); refine run_nil ?_; refine fin_seq ?_; refine goes_ret ?_; refine fin_ret_then ?_)
    exact fin_ret1 (.inl rfl) rfl (.tmp rfl) trivial trivial
  | true =>
  rw [c2] at hW2
  have c2 := inB_true.1 c2
  (refine goes_seq ?_; refine goes_region ?_; apply run_step rfl; (exact stp_box rfl rfl rfl rfl); apply run_step rfl; (exact stp_assign rfl rfl); refine run_nil ?_; refine fin_seq ?_; refine goes_seq ?_; refine goes_seq ?_; refine goes_region ?_; apply run_step rfl; (first | (apply call_gate 126; exact stp_callR hRk (by as_aux_lemma => kernel_rfl) rfl rfl ⟨rfl, trivial⟩ ⟨⟨_, rfl, .inr rfl⟩, trivial⟩ rfl rfl) | (apply call_gate 84; exact stp_callR hW1 (by as_aux_lemma => kernel_rfl) rfl rfl ⟨rfl, rfl, rfl, trivial⟩ trivial rfl rfl) | (apply call_gate 84; exact stp_callR hW2 (by as_aux_lemma => kernel_rfl) rfl rfl ⟨rfl, rfl, rfl, trivial⟩ trivial rfl rfl) | (apply call_gate 127; exact stp_callR hG (by as_aux_lemma => kernel_rfl) rfl rfl ⟨rfl, trivial⟩ ⟨⟨_, rfl, .inr rfl⟩, ⟨_, rfl, .inl rfl⟩, trivial⟩ rfl rfl)); apply run_step rfl; (first | (apply call_gate 126; exact stp_callR hRk (by as_aux_lemma => kernel_rfl) rfl rfl ⟨rfl, trivial⟩ ⟨⟨_, rfl, .inr rfl⟩, trivial⟩ rfl rfl) | (apply call_gate 84; exact stp_callR hW1 (by as_aux_lemma => kernel_rfl) rfl rfl ⟨rfl, rfl, rfl, trivial⟩ trivial rfl rfl) | (apply call_gate 84; exact stp_callR hW2 (by as_aux_lemma => kernel_rfl) rfl rfl ⟨rfl, rfl, rfl, trivial⟩ trivial rfl rfl) | (apply call_gate 127; exact stp_callR hG (by as_aux_lemma => kernel_rfl) rfl rfl ⟨rfl, trivial⟩ ⟨⟨_, rfl, .inr rfl⟩, ⟨_, rfl, .inl rfl⟩, trivial⟩ rfl rfl)); apply run_step rfl; (exact stp_not rfl rfl); apply run_step rfl; (exact stp_move rfl rfl); apply run_gYes rfl rfl rfl; (first | (apply call_gate 126; exact stp_callR hRk (by as_aux_lemma => kernel_rfl) rfl rfl ⟨rfl, trivial⟩ ⟨⟨_, rfl, .inr rfl⟩, trivial⟩ rfl rfl) | (apply call_gate 84; exact stp_callR hW1 (by as_aux_lemma => kernel_rfl) rfl rfl ⟨rfl, rfl, rfl, trivial⟩ trivial rfl rfl) | (apply call_gate 84; exact stp_callR hW2 (by as_aux_lemma => kernel_rfl) rfl rfl ⟨rfl, rfl, rfl, trivial⟩ trivial rfl rfl) | (apply call_gate 127; exact stp_callR hG (by as_aux_lemma => kernel_rfl) rfl rfl ⟨rfl, trivial⟩ ⟨⟨_, rfl, .inr rfl⟩, ⟨_, rfl, .inl rfl⟩, trivial⟩ rfl rfl)); apply run_gYes rfl rfl rfl; (first | (apply call_gate 126; exact stp_callR hRk (by as_aux_lemma => kernel_rfl) rfl rfl ⟨rfl, trivial⟩ ⟨⟨_, rfl, .inr rfl⟩, trivial⟩ rfl rfl) | (apply call_gate 84; exact stp_callR hW1 (by as_aux_lemma => kernel_rfl) rfl rfl ⟨rfl, rfl, rfl, trivial⟩ trivial rfl rfl) | (apply call_gate 84; exact stp_callR hW2 (by as_aux_lemma => kernel_rfl) rfl rfl ⟨rfl, rfl, rfl, trivial⟩ trivial rfl rfl) | (apply call_gate 127; exact stp_callR hG (by as_aux_lemma => kernel_rfl) rfl rfl ⟨rfl, trivial⟩ ⟨⟨_, rfl, .inr rfl⟩, ⟨_, rfl, .inl rfl⟩, trivial⟩ rfl rfl)); apply run_gYes rfl rfl rfl; (exact stp_not rfl rfl); apply run_step rfl; (exact stp_pickF rfl rfl rfl); refine run_nil ?_; refine fin_seq ?_)
  refine goes_cond rfl (fun e => by cases e) (fun _ => ?_)
  (refine goes_skip ?_; refine fin_seq ?_; refine goes_seq ?_; refine goes_seq ?_; refine goes_region ?_; apply run_step rfl; (exact stp_fieldAddr (d := 0) rfl rfl rfl (by as_aux_lemma => kernel_rfl)); apply run_step rfl; (exact stp_loadF rfl (by as_aux_lemma => kernel_rfl) rfl rfl rfl rfl); apply run_step rfl; (exact stp_len rfl rfl rfl (by as_aux_lemma => kernel_rfl)); apply run_step rfl; (exact stp_move rfl rfl); refine run_nil ?_; refine fin_seq ?_; refine goes_block ?_)
  refine goes_loop (fun i : Nat => St.of [(1, o1 (.ptr 1 0)), (21, o1 (.sl 1003 0 zss.length)), (22, vv (I6 zss.length)), (23, vv (I6 i))] [(1003, rowsRo zss), (1, mxB zss.length)]) (fun i => i ≤ zss.length ∧ Rows zss n i) (fun i => zss.length - i) 0 ⟨Nat.zero_le _, fun j hj => absurd hj (by omega)⟩ (Wk.of ⟨rfl, rfl, rfl, rfl, trivial⟩ ⟨rfl, rfl, trivial⟩ trivial) ?_
  rintro i ⟨hi, hrows⟩
  (refine goes_seq ?_; refine goes_region ?_; apply run_step rfl; (exact stp_bin rfl rfl rfl rfl); refine run_nil ?_; refine fin_seq ?_; refine goes_seq ?_)
  refine goes_if rfl (fun hlt => ?_) (fun hlt => ?_)
  · have hiz : i < zss.length := by omega
    have hrowi : (irows zss)[i]? = some (ivals (lget zss i)) := irows_get hiz
    have hP := freeI_fc zss i hiz (hl i hiz)
    obtain ⟨m, hm⟩ : ∃ m, (lget zss i).length = m := ⟨_, rfl⟩
    have hilm : (ivals (lget zss i)).length = m := by rw [ivals_len]; exact hm
    rw [hm] at hP
    have hSz := sizeE_fc 1003 i m
    cases hf : freeInv (lget zss i) with
    | false =>
      rw [hf] at hP
      (refine goes_skip ?_; refine fin_seq ?_; refine goes_seq ?_; refine goes_block ?_; refine goes_seq ?_; refine goes_region ?_; apply run_step rfl; (first | exact stp_ix (j := i) rfl rfl rfl rfl rfl (by as_aux_lemma => kernel_rfl) rfl hiz (Nat.le_of_eq hlen.symm) | exact stp_loadR rfl (by as_aux_lemma => kernel_rfl) rfl rfl rfl hrowi hilm | (apply call_gate 128; exact stp_callR hP (by as_aux_lemma => kernel_rfl) rfl rfl ⟨rfl, trivial⟩ ⟨⟨_, rfl, .inl rfl⟩, trivial⟩ rfl rfl)); apply run_step rfl; (first | exact stp_ix (j := i) rfl rfl rfl rfl rfl (by as_aux_lemma => kernel_rfl) rfl hiz (Nat.le_of_eq hlen.symm) | exact stp_loadR rfl (by as_aux_lemma => kernel_rfl) rfl rfl rfl hrowi hilm | (apply call_gate 128; exact stp_callR hP (by as_aux_lemma => kernel_rfl) rfl rfl ⟨rfl, trivial⟩ ⟨⟨_, rfl, .inl rfl⟩, trivial⟩ rfl rfl)); apply run_step rfl; (exact stp_assign rfl rfl); refine run_nil ?_; refine fin_seq ?_; refine goes_seq ?_; refine goes_region ?_; apply run_step rfl; (exact stp_move rfl rfl); apply run_step rfl; (first | exact stp_ix (j := i) rfl rfl rfl rfl rfl (by as_aux_lemma => kernel_rfl) rfl hiz (Nat.le_of_eq hlen.symm) | exact stp_loadR rfl (by as_aux_lemma => kernel_rfl) rfl rfl rfl hrowi hilm | (apply call_gate 128; exact stp_callR hP (by as_aux_lemma => kernel_rfl) rfl rfl ⟨rfl, trivial⟩ ⟨⟨_, rfl, .inl rfl⟩, trivial⟩ rfl rfl)); apply run_step rfl; (exact stp_not rfl rfl); apply run_step rfl; (exact stp_move rfl rfl); apply run_gNo rfl rfl rfl rfl rfl; apply run_gNo rfl rfl rfl rfl rfl; apply run_gNo rfl rfl rfl rfl rfl; apply run_gNo rfl rfl rfl rfl rfl; apply run_step rfl; (exact stp_pickT rfl rfl rfl); refine run_nil ?_; refine fin_seq ?_)
      refine goes_cond rfl (fun _ => ?_) (fun e => by cases e)
      rw [manB_no (fun h => by have h1 := h.perm i hiz; have h2 := h.free i hiz; unfold freeInv at hf; rw [h1, h2] at hf; cases hf)]
      (refine goes_seq ?_; refine goes_region ?_; apply run_step rfl; (exact stp_assign rfl rfl); refine run_nil ?_; refine fin_seq ?_; refine goes_ret ?_; refine fin_ret_block ?_; refine fin_ret_then ?_; refine fin_ret_then ?_; refine fin_ret_block ?_; refine fin_ret_then ?_)
      exact fin_ret1 (.inl rfl) rfl (.tmp rfl) trivial trivial
    | true =>
      rw [hf] at hP
      unfold freeInv at hf
      rw [Bool.and_eq_true] at hf
      (refine goes_skip ?_; refine fin_seq ?_; refine goes_seq ?_; refine goes_block ?_; refine goes_seq ?_; refine goes_region ?_; apply run_step rfl; (first | exact stp_ix (j := i) rfl rfl rfl rfl rfl (by as_aux_lemma => kernel_rfl) rfl hiz (Nat.le_of_eq hlen.symm) | exact stp_loadR rfl (by as_aux_lemma => kernel_rfl) rfl rfl rfl hrowi hilm | (apply call_gate 128; exact stp_callR hP (by as_aux_lemma => kernel_rfl) rfl rfl ⟨rfl, trivial⟩ ⟨⟨_, rfl, .inl rfl⟩, trivial⟩ rfl rfl) | (apply call_gate 85; exact stp_callR hSz (by as_aux_lemma => kernel_rfl) rfl rfl ⟨rfl, trivial⟩ trivial rfl rfl) | (apply call_gate 127; exact stp_callR hG (by as_aux_lemma => kernel_rfl) rfl rfl ⟨rfl, trivial⟩ ⟨⟨_, rfl, .inr rfl⟩, ⟨_, rfl, .inl rfl⟩, trivial⟩ rfl rfl)); apply run_step rfl; (first | exact stp_ix (j := i) rfl rfl rfl rfl rfl (by as_aux_lemma => kernel_rfl) rfl hiz (Nat.le_of_eq hlen.symm) | exact stp_loadR rfl (by as_aux_lemma => kernel_rfl) rfl rfl rfl hrowi hilm | (apply call_gate 128; exact stp_callR hP (by as_aux_lemma => kernel_rfl) rfl rfl ⟨rfl, trivial⟩ ⟨⟨_, rfl, .inl rfl⟩, trivial⟩ rfl rfl) | (apply call_gate 85; exact stp_callR hSz (by as_aux_lemma => kernel_rfl) rfl rfl ⟨rfl, trivial⟩ trivial rfl rfl) | (apply call_gate 127; exact stp_callR hG (by as_aux_lemma => kernel_rfl) rfl rfl ⟨rfl, trivial⟩ ⟨⟨_, rfl, .inr rfl⟩, ⟨_, rfl, .inl rfl⟩, trivial⟩ rfl rfl)); apply run_step rfl; (exact stp_assign rfl rfl); refine run_nil ?_; refine fin_seq ?_; refine goes_seq ?_; refine goes_region ?_; apply run_step rfl; (exact stp_move rfl rfl); apply run_step rfl; (first | exact stp_ix (j := i) rfl rfl rfl rfl rfl (by as_aux_lemma => kernel_rfl) rfl hiz (Nat.le_of_eq hlen.symm) | exact stp_loadR rfl (by as_aux_lemma => kernel_rfl) rfl rfl rfl hrowi hilm | (apply call_gate 128; exact stp_callR hP (by as_aux_lemma => kernel_rfl) rfl rfl ⟨rfl, trivial⟩ ⟨⟨_, rfl, .inl rfl⟩, trivial⟩ rfl rfl) | (apply call_gate 85; exact stp_callR hSz (by as_aux_lemma => kernel_rfl) rfl rfl ⟨rfl, trivial⟩ trivial rfl rfl) | (apply call_gate 127; exact stp_callR hG (by as_aux_lemma => kernel_rfl) rfl rfl ⟨rfl, trivial⟩ ⟨⟨_, rfl, .inr rfl⟩, ⟨_, rfl, .inl rfl⟩, trivial⟩ rfl rfl)); apply run_step rfl; (exact stp_not rfl rfl); apply run_step rfl; (exact stp_move rfl rfl); apply run_gYes rfl rfl rfl; (exact stp_move rfl rfl); apply run_gYes rfl rfl rfl; (first | exact stp_ix (j := i) rfl rfl rfl rfl rfl (by as_aux_lemma => kernel_rfl) rfl hiz (Nat.le_of_eq hlen.symm) | exact stp_loadR rfl (by as_aux_lemma => kernel_rfl) rfl rfl rfl hrowi hilm | (apply call_gate 128; exact stp_callR hP (by as_aux_lemma => kernel_rfl) rfl rfl ⟨rfl, trivial⟩ ⟨⟨_, rfl, .inl rfl⟩, trivial⟩ rfl rfl) | (apply call_gate 85; exact stp_callR hSz (by as_aux_lemma => kernel_rfl) rfl rfl ⟨rfl, trivial⟩ trivial rfl rfl) | (apply call_gate 127; exact stp_callR hG (by as_aux_lemma => kernel_rfl) rfl rfl ⟨rfl, trivial⟩ ⟨⟨_, rfl, .inr rfl⟩, ⟨_, rfl, .inl rfl⟩, trivial⟩ rfl rfl)); apply run_gYes rfl rfl rfl; (first | exact stp_ix (j := i) rfl rfl rfl rfl rfl (by as_aux_lemma => kernel_rfl) rfl hiz (Nat.le_of_eq hlen.symm) | exact stp_loadR rfl (by as_aux_lemma => kernel_rfl) rfl rfl rfl hrowi hilm | (apply call_gate 128; exact stp_callR hP (by as_aux_lemma => kernel_rfl) rfl rfl ⟨rfl, trivial⟩ ⟨⟨_, rfl, .inl rfl⟩, trivial⟩ rfl rfl) | (apply call_gate 85; exact stp_callR hSz (by as_aux_lemma => kernel_rfl) rfl rfl ⟨rfl, trivial⟩ trivial rfl rfl) | (apply call_gate 127; exact stp_callR hG (by as_aux_lemma => kernel_rfl) rfl rfl ⟨rfl, trivial⟩ ⟨⟨_, rfl, .inr rfl⟩, ⟨_, rfl, .inl rfl⟩, trivial⟩ rfl rfl)); apply run_gYes rfl rfl rfl; (exact stp_bin rfl rfl rfl rfl); apply run_step rfl; (exact stp_pickF rfl rfl rfl); refine run_nil ?_; refine fin_seq ?_)
      refine goes_cond rfl (fun e1 => ?_) (fun e1 => ?_)
      · have e1 : (m : Int) ≠ n := by simpa using e1
        rw [manB_no (fun h => by have := h.len i hiz; omega)]
        (refine goes_seq ?_; refine goes_region ?_; apply run_step rfl; (exact stp_assign rfl rfl); refine run_nil ?_; refine fin_seq ?_; refine goes_ret ?_; refine fin_ret_block ?_; refine fin_ret_then ?_; refine fin_ret_then ?_; refine fin_ret_block ?_; refine fin_ret_then ?_)
        exact fin_ret1 (.inl rfl) rfl (.tmp rfl) trivial trivial
      · have e1 : (m : Int) = n := by simpa using e1
        (refine goes_skip ?_; refine fin_block ?_; refine fin_seq ?_; refine goes_region ?_; apply run_step rfl; (exact stp_add rfl rfl rfl (by first | exact IntWalk.i64_in _ (by omega) | rfl)); apply run_step rfl; (exact stp_move rfl rfl); refine run_nil ?_)
        exact fin_round (i + 1) ⟨hiz, fun j hj => by
          by_cases e : j = i
          · subst e; exact ⟨by omega, hf.1, hf.2⟩
          · exact hrows j (by omega)⟩ (by omega) (Wk.of ⟨rfl, rfl, rfl, rfl, trivial⟩ ⟨rfl, rfl, trivial⟩ trivial)
  obtain rfl : i = zss.length := by omega
  have hrn : Rows zss n zss.length := hrows
  have hT := rows_leads hrn
  have hB := rows_back hrn
  (refine goes_exit ?_; refine fin_exit_then ?_; refine fin_exit_then ?_; refine fin_exit_eq ?_; refine fin_seq ?_; refine goes_seq ?_; refine goes_seq ?_; refine goes_region ?_; apply run_step rfl; (exact stp_fieldAddr (d := 0) rfl rfl rfl (by as_aux_lemma => kernel_rfl)); apply run_step rfl; (exact stp_loadF rfl (by as_aux_lemma => kernel_rfl) rfl rfl rfl rfl); apply run_step rfl; (exact stp_len rfl rfl rfl (by as_aux_lemma => kernel_rfl)); apply run_step rfl; (exact stp_move rfl rfl); refine run_nil ?_; refine fin_seq ?_; refine goes_block ?_)
  refine goes_loop (fun i : Nat => St.of [(1, o1 (.ptr 1 0)), (38, o1 (.sl 1003 0 zss.length)), (39, vv (I6 zss.length)), (40, vv (I6 i))] [(1003, rowsRo zss), (1, mxB zss.length)]) (fun i => i ≤ zss.length ∧ ∀ i' k, i' < i → i' + 2 ≤ k → k < zss.length → ∀ f, f < n → commAt zss i' k f) (fun i => zss.length - i) 0 ⟨Nat.zero_le _, fun j k hj => absurd hj (by omega)⟩ (Wk.of ⟨rfl, rfl, rfl, rfl, trivial⟩ ⟨rfl, rfl, trivial⟩ trivial) ?_
  clear hi hrows hlt
  rintro i ⟨hi, hci⟩
  (refine goes_seq ?_; refine goes_region ?_; apply run_step rfl; (exact stp_bin rfl rfl rfl rfl); refine run_nil ?_; refine fin_seq ?_; refine goes_seq ?_)
  refine goes_if rfl (fun hlt => ?_) (fun hlt => ?_)
  · have hiz : i < zss.length := by omega
    have hrowi : (irows zss)[i]? = some (ivals (lget zss i)) := irows_get hiz
    have hilm : (ivals (lget zss i)).length = n := by rw [ivals_len]; exact (hrn i hiz).1
    obtain ⟨mm, hmm⟩ : ∃ mm, min (i + 2) zss.length = mm := ⟨_, rfl⟩
    have hmR : mm ≤ zss.length := by omega
    have hi2 : IntKind.i64.wrap ((i : Int) + 2) = ((i + 2 : Nat) : Int) := IntWalk.i64_in _ (by omega)
    (refine goes_skip ?_; refine fin_seq ?_; refine goes_seq ?_; refine goes_block ?_; refine goes_seq ?_; refine goes_region ?_; apply run_step rfl; (exact stp_move rfl rfl); apply run_step rfl; (first | exact stp_ix (j := i) rfl rfl rfl rfl rfl (by as_aux_lemma => kernel_rfl) rfl hiz (Nat.le_of_eq hlen.symm) | exact stp_loadR rfl (by as_aux_lemma => kernel_rfl) rfl rfl rfl hrowi hilm | exact stp_add rfl rfl rfl hi2 | exact stp_minN rfl rfl rfl | exact stp_slice (k := 1) (l := min (i + 2) zss.length) (h := zss.length) rfl rfl rfl rfl (by as_aux_lemma => kernel_rfl) (by omega) (bnd_some rfl rfl) bnd_none (by omega) (Nat.le_refl _) (by rw [Nat.mul_one, Nat.zero_add]; exact Nat.le_of_eq hlen.symm)); apply run_step rfl; (first | exact stp_ix (j := i) rfl rfl rfl rfl rfl (by as_aux_lemma => kernel_rfl) rfl hiz (Nat.le_of_eq hlen.symm) | exact stp_loadR rfl (by as_aux_lemma => kernel_rfl) rfl rfl rfl hrowi hilm | exact stp_add rfl rfl rfl hi2 | exact stp_minN rfl rfl rfl | exact stp_slice (k := 1) (l := min (i + 2) zss.length) (h := zss.length) rfl rfl rfl rfl (by as_aux_lemma => kernel_rfl) (by omega) (bnd_some rfl rfl) bnd_none (by omega) (Nat.le_refl _) (by rw [Nat.mul_one, Nat.zero_add]; exact Nat.le_of_eq hlen.symm)); apply run_step rfl; (exact stp_assign rfl rfl); apply run_step rfl; (exact stp_assign rfl rfl); refine run_nil ?_; refine fin_seq ?_; refine goes_seq ?_; refine goes_region ?_; apply run_step rfl; (exact stp_fieldAddr (d := 0) rfl rfl rfl (by as_aux_lemma => kernel_rfl)); apply run_step rfl; (exact stp_loadF rfl (by as_aux_lemma => kernel_rfl) rfl rfl rfl rfl); apply run_step rfl; (exact stp_move rfl rfl); apply run_step rfl; (first | exact stp_ix (j := i) rfl rfl rfl rfl rfl (by as_aux_lemma => kernel_rfl) rfl hiz (Nat.le_of_eq hlen.symm) | exact stp_loadR rfl (by as_aux_lemma => kernel_rfl) rfl rfl rfl hrowi hilm | exact stp_add rfl rfl rfl hi2 | exact stp_minN rfl rfl rfl | exact stp_slice (k := 1) (l := min (i + 2) zss.length) (h := zss.length) rfl rfl rfl rfl (by as_aux_lemma => kernel_rfl) (by omega) (bnd_some rfl rfl) bnd_none (by omega) (Nat.le_refl _) (by rw [Nat.mul_one, Nat.zero_add]; exact Nat.le_of_eq hlen.symm)); apply run_step rfl; (exact stp_fieldAddr (d := 0) rfl rfl rfl (by as_aux_lemma => kernel_rfl)); apply run_step rfl; (exact stp_loadF rfl (by as_aux_lemma => kernel_rfl) rfl rfl rfl rfl); apply run_step rfl; (exact stp_len rfl rfl rfl (by as_aux_lemma => kernel_rfl)); apply run_step rfl; (first | exact stp_ix (j := i) rfl rfl rfl rfl rfl (by as_aux_lemma => kernel_rfl) rfl hiz (Nat.le_of_eq hlen.symm) | exact stp_loadR rfl (by as_aux_lemma => kernel_rfl) rfl rfl rfl hrowi hilm | exact stp_add rfl rfl rfl hi2 | exact stp_minN rfl rfl rfl | exact stp_slice (k := 1) (l := min (i + 2) zss.length) (h := zss.length) rfl rfl rfl rfl (by as_aux_lemma => kernel_rfl) (by omega) (bnd_some rfl rfl) bnd_none (by omega) (Nat.le_refl _) (by rw [Nat.mul_one, Nat.zero_add]; exact Nat.le_of_eq hlen.symm)); apply run_step rfl; (first | exact stp_ix (j := i) rfl rfl rfl rfl rfl (by as_aux_lemma => kernel_rfl) rfl hiz (Nat.le_of_eq hlen.symm) | exact stp_loadR rfl (by as_aux_lemma => kernel_rfl) rfl rfl rfl hrowi hilm | exact stp_add rfl rfl rfl hi2 | exact stp_minN rfl rfl rfl | exact stp_slice (k := 1) (l := min (i + 2) zss.length) (h := zss.length) rfl rfl rfl rfl (by as_aux_lemma => kernel_rfl) (by omega) (bnd_some rfl rfl) bnd_none (by omega) (Nat.le_refl _) (by rw [Nat.mul_one, Nat.zero_add]; exact Nat.le_of_eq hlen.symm)); apply run_step rfl; (exact stp_len rfl rfl rfl (by as_aux_lemma => kernel_rfl)); apply run_step rfl; (exact stp_move rfl rfl); refine run_nil ?_; refine fin_seq ?_; refine goes_block ?_)
    rw [hmm]
    refine goes_loop (fun j : Nat => St.of [(1, o1 (.ptr 1 0)), (6, o1 (.esl 1003 i 0 n)), (38, o1 (.sl 1003 0 zss.length)), (39, vv (I6 zss.length)), (40, vv (I6 i)), (53, o1 (.sl 1003 mm (zss.length - mm))), (54, vv (I6 (zss.length - mm : Nat))), (55, vv (I6 j))] [(1003, rowsRo zss), (1, mxB zss.length)]) (fun j => j ≤ zss.length - mm ∧ ∀ k', i + 2 ≤ k' → k' < mm + j → ∀ f, f < n → commAt zss i k' f) (fun j => zss.length - mm - j) 0 ⟨Nat.zero_le _, fun k' h1 h2 => absurd h1 (by omega)⟩ (Wk.of ⟨rfl, rfl, rfl, rfl, rfl, congrArg (fun z => some (o1 (.sl 1003 z (zss.length - mm)))) (Nat.zero_add mm), rfl, rfl, trivial⟩ ⟨rfl, rfl, trivial⟩ trivial) ?_
    rintro j ⟨hj, hck⟩
    (refine goes_seq ?_; refine goes_region ?_; apply run_step rfl; (exact stp_bin rfl rfl rfl rfl); refine run_nil ?_; refine fin_seq ?_; refine goes_seq ?_)
    refine goes_if rfl (fun hlj => ?_) (fun hlj => ?_)
    · obtain ⟨k, hk⟩ : ∃ k, mm + j = k := ⟨_, rfl⟩
      have hkz : k < zss.length := by omega
      have hki : i + 2 ≤ k := by omega
      have hjl : j < zss.length - mm := by omega
      have hml : mm + (zss.length - mm) ≤ (irows zss).length := by rw [hlen]; omega
      have hrowk : (irows zss)[k]? = some (ivals (lget zss k)) := irows_get hkz
      have hilk : (ivals (lget zss k)).length = n := by rw [ivals_len]; exact (hrn k hkz).1
      (refine goes_skip ?_; refine fin_seq ?_; refine goes_seq ?_; refine goes_block ?_; refine goes_seq ?_; refine goes_region ?_; apply run_step rfl; (first | exact stp_ixK (j := j) rfl rfl rfl rfl rfl (by as_aux_lemma => kernel_rfl) rfl hjl hml hk | exact stp_loadR rfl (by as_aux_lemma => kernel_rfl) rfl rfl rfl hrowk hilk | (apply call_gate 127; exact stp_callR hG (by as_aux_lemma => kernel_rfl) rfl rfl ⟨rfl, trivial⟩ ⟨⟨_, rfl, .inr rfl⟩, ⟨_, rfl, .inl rfl⟩, trivial⟩ rfl rfl)); apply run_step rfl; (first | exact stp_ixK (j := j) rfl rfl rfl rfl rfl (by as_aux_lemma => kernel_rfl) rfl hjl hml hk | exact stp_loadR rfl (by as_aux_lemma => kernel_rfl) rfl rfl rfl hrowk hilk | (apply call_gate 127; exact stp_callR hG (by as_aux_lemma => kernel_rfl) rfl rfl ⟨rfl, trivial⟩ ⟨⟨_, rfl, .inr rfl⟩, ⟨_, rfl, .inl rfl⟩, trivial⟩ rfl rfl)); apply run_step rfl; (exact stp_assign rfl rfl); refine run_nil ?_; refine fin_seq ?_; refine goes_seq ?_; refine goes_region ?_; apply run_step rfl; (first | exact stp_ixK (j := j) rfl rfl rfl rfl rfl (by as_aux_lemma => kernel_rfl) rfl hjl hml hk | exact stp_loadR rfl (by as_aux_lemma => kernel_rfl) rfl rfl rfl hrowk hilk | (apply call_gate 127; exact stp_callR hG (by as_aux_lemma => kernel_rfl) rfl rfl ⟨rfl, trivial⟩ ⟨⟨_, rfl, .inr rfl⟩, ⟨_, rfl, .inl rfl⟩, trivial⟩ rfl rfl)); apply run_step rfl; (exact stp_move rfl rfl); refine run_nil ?_; refine fin_seq ?_; refine goes_block ?_)
      refine goes_loop (fun f : Nat => St.of [(1, o1 (.ptr 1 0)), (6, o1 (.esl 1003 i 0 n)), (8, o1 (.esl 1003 k 0 n)), (38, o1 (.sl 1003 0 zss.length)), (39, vv (I6 zss.length)), (40, vv (I6 i)), (53, o1 (.sl 1003 mm (zss.length - mm))), (54, vv (I6 (zss.length - mm : Nat))), (55, vv (I6 j)), (59, vv (I6 n)), (60, vv (I6 f))] [(1003, rowsRo zss), (1, mxB zss.length)]) (fun f => f ≤ n ∧ ∀ f', f' < f → commAt zss i k f') (fun f => n - f) 0 ⟨Nat.zero_le _, fun f' h1 => absurd h1 (by omega)⟩ (Wk.of ⟨rfl, rfl, rfl, rfl, rfl, rfl, rfl, rfl, rfl, rfl, rfl, trivial⟩ ⟨rfl, rfl, trivial⟩ trivial) ?_
      rintro f ⟨hf, hcf⟩
      (refine goes_seq ?_; refine goes_region ?_; apply run_step rfl; (exact stp_bin rfl rfl rfl rfl); refine run_nil ?_; refine fin_seq ?_; refine goes_seq ?_)
      refine goes_if rfl (fun hlf => ?_) (fun hlf => ?_)
      · have hfn : f < n := by omega
        have hd1 := bTo_lt hT hfn (g := i) hiz
        have hd2 := bTo_lt hT hfn (g := k) hkz
        have hx1 := bTo_lt hT hd1.1 (g := k) hkz
        have hx2 := bTo_lt hT hd2.1 (g := i) hiz
        have hcm : commAt zss i k f ↔ bTo zss (bTo zss f i) k = bTo zss (bTo zss f k) i ∧ bTo zss f i ≠ bTo zss f k := Iff.rfl
        generalize bTo zss (bTo zss f i) k = x1 at *
        generalize bTo zss (bTo zss f k) i = x2 at *
        generalize bTo zss f i = d1 at *
        generalize bTo zss f k = d2 at *
        have g1 : (ivals (lget zss i))[f]? = some (I6 (d1 : Int)) := by rw [ivals_get (by rw [(hrn i hiz).1]; exact hfn), hd1.2]
        have g2 : (ivals (lget zss k))[f]? = some (I6 (d2 : Int)) := by rw [ivals_get (by rw [(hrn k hkz).1]; exact hfn), hd2.2]
        have g3 : (ivals (lget zss k))[d1]? = some (I6 (x1 : Int)) := by rw [ivals_get (by rw [(hrn k hkz).1]; exact hd1.1), hx1.2]
        have g4 : (ivals (lget zss i))[d2]? = some (I6 (x2 : Int)) := by rw [ivals_get (by rw [(hrn i hiz).1]; exact hd2.1), hx2.2]
        have hni : n ≤ (ivals (lget zss i)).length := Nat.le_of_eq hilm.symm
        have hnk : n ≤ (ivals (lget zss k)).length := Nat.le_of_eq hilk.symm
        (refine goes_skip ?_; refine fin_seq ?_; refine goes_seq ?_; refine goes_block ?_; refine goes_seq ?_; refine goes_region ?_; apply run_step rfl; (exact stp_move rfl rfl); apply run_step rfl; (exact stp_assign rfl rfl); refine run_nil ?_; refine fin_seq ?_; refine goes_seq ?_)
        by_cases e1 : (d1 : Int) = d2
        · apply goes_drawG 26 [] [[], [], [0, 1], [0, 1, 2], [], [], [4, 5], [4, 5, 6], [0, 1, 2, 3, 4, 5, 6, 7], [0, 1, 2, 3, 4, 5, 6, 7, 8], [0, 1, 2, 3, 4, 5, 6, 7, 8, 9], [0, 1, 2, 3, 4, 5, 6, 7, 8, 9], [0, 1, 2, 3, 4, 5, 6, 7, 8, 9], [0, 1, 2, 3, 4, 5, 6, 7, 8, 9, 11, 12], [0, 1, 2, 3, 4, 5, 6, 7, 8, 9, 11, 12, 13], [0, 1, 2, 3, 4, 5, 6, 7, 8, 9, 10, 11, 12, 13, 14], [0, 1, 2, 3, 4, 5, 6, 7, 8, 9, 10, 11, 12, 13, 14, 15], [0, 1, 2, 3, 4, 5, 6, 7, 8, 9], [0, 1, 2, 3, 4, 5, 6, 7, 8, 9], [0, 1, 2, 3, 4, 5, 6, 7, 8, 9], [0, 1, 2, 3, 4, 5, 6, 7, 8, 9, 18, 19], [0, 1, 2, 3, 4, 5, 6, 7, 8, 9, 18, 19, 20], [0, 1, 2, 3, 4, 5, 6, 7, 8, 9, 17, 18, 19, 20, 21], [0, 1, 2, 3, 4, 5, 6, 7, 8, 9, 17, 18, 19, 20, 21, 22], [0, 1, 2, 3, 4, 5, 6, 7, 8, 9, 10, 11, 12, 13, 14, 15, 16, 17, 18, 19, 20, 21, 22, 23], [0, 1, 2, 3, 4, 5, 6, 7, 8, 9, 10, 11, 12, 13, 14, 15, 16, 17, 18, 19, 20, 21, 22, 23, 24]] [63, 64, 65, 66, 67, 68, 69, 70, 71, 72, 73, 74, 75, 76, 77, 78, 79, 80, 81, 82, 83, 84, 85, 86, 87, 88] [] (by kernel_rfl) (by kernel_rfl)
          · (apply drawG_put rfl; (intro S1 hS; exact stp_move rfl (hS.op rfl)))
            (apply drawG_put rfl; (intro S1 hS; exact stp_move rfl (hS.op rfl)))
            (apply drawG_put rfl; (intro S1 hS; exact stp_ixE (j := f) rfl (hS.op rfl) (hS.op rfl) (hS.ch _ _ rfl) rfl (by as_aux_lemma => kernel_rfl) hrowi rfl hfn hni))
            (apply drawG_put rfl; (intro S1 hS; exact stp_loadE' rfl (by as_aux_lemma => kernel_rfl) (hS.op rfl) (hS.ch _ _ rfl) rfl hrowi g1))
            (apply drawG_put rfl; (intro S1 hS; exact stp_move rfl (hS.op rfl)))
            (apply drawG_put rfl; (intro S1 hS; exact stp_move rfl (hS.op rfl)))
            (apply drawG_put rfl; (intro S1 hS; exact stp_ixE (j := f) rfl (hS.op rfl) (hS.op rfl) (hS.ch _ _ rfl) rfl (by as_aux_lemma => kernel_rfl) hrowk rfl hfn hnk))
            (apply drawG_put rfl; (intro S1 hS; exact stp_loadE' rfl (by as_aux_lemma => kernel_rfl) (hS.op rfl) (hS.ch _ _ rfl) rfl hrowk g2))
            (apply drawG_put rfl; (intro S1 hS; exact stp_bin rfl (hS.op rfl) (hS.op rfl) (binEql e1)))
            (apply drawG_put rfl; (intro S1 hS; exact stp_move rfl (hS.op rfl)))
            apply drawG_no rfl rfl rfl rfl rfl
            apply drawG_no rfl rfl rfl rfl rfl
            apply drawG_no rfl rfl rfl rfl rfl
            apply drawG_no rfl rfl rfl rfl rfl
            apply drawG_no rfl rfl rfl rfl rfl
            apply drawG_no rfl rfl rfl rfl rfl
            apply drawG_no rfl rfl rfl rfl rfl
            apply drawG_no rfl rfl rfl rfl rfl
            apply drawG_no rfl rfl rfl rfl rfl
            apply drawG_no rfl rfl rfl rfl rfl
            apply drawG_no rfl rfl rfl rfl rfl
            apply drawG_no rfl rfl rfl rfl rfl
            apply drawG_no rfl rfl rfl rfl rfl
            apply drawG_no rfl rfl rfl rfl rfl
            apply drawG_no rfl rfl rfl rfl rfl
            (apply drawG_put rfl; (intro S1 hS; exact stp_pickT rfl (hS.op rfl) (hS.op rfl)))
            exact DrawG.nil
          · rfl
          ((refine rest_done (by as_aux_lemma => kernel_rfl) ?_; skip))
          (refine fin_seq ?_)
          refine goes_cond rfl (fun _ => ?_) (fun e => by cases e)
          rw [manB_no (fun h => by have := (hcm.1 (h.comm i k hki hkz f (by omega))).2; omega)]
          (refine goes_seq ?_; refine goes_region ?_; apply run_step rfl; (exact stp_assign rfl rfl); refine run_nil ?_; refine fin_seq ?_; refine goes_ret ?_; refine fin_ret_block ?_; refine fin_ret_then ?_; refine fin_ret_then ?_; refine fin_ret_block ?_; refine fin_ret_block ?_; refine fin_ret_then ?_; refine fin_ret_then ?_; refine fin_ret_block ?_; refine fin_ret_block ?_; refine fin_ret_then ?_; refine fin_ret_then ?_; refine fin_ret_block ?_; refine fin_ret_then ?_)
          exact fin_ret1 (.inl rfl) rfl (.tmp rfl) trivial trivial
        · apply goes_drawG 26 [] [[], [], [0, 1], [0, 1, 2], [], [], [4, 5], [4, 5, 6], [0, 1, 2, 3, 4, 5, 6, 7], [0, 1, 2, 3, 4, 5, 6, 7, 8], [0, 1, 2, 3, 4, 5, 6, 7, 8, 9], [0, 1, 2, 3, 4, 5, 6, 7, 8, 9], [0, 1, 2, 3, 4, 5, 6, 7, 8, 9], [0, 1, 2, 3, 4, 5, 6, 7, 8, 9, 11, 12], [0, 1, 2, 3, 4, 5, 6, 7, 8, 9, 11, 12, 13], [0, 1, 2, 3, 4, 5, 6, 7, 8, 9, 10, 11, 12, 13, 14], [0, 1, 2, 3, 4, 5, 6, 7, 8, 9, 10, 11, 12, 13, 14, 15], [0, 1, 2, 3, 4, 5, 6, 7, 8, 9], [0, 1, 2, 3, 4, 5, 6, 7, 8, 9], [0, 1, 2, 3, 4, 5, 6, 7, 8, 9], [0, 1, 2, 3, 4, 5, 6, 7, 8, 9, 18, 19], [0, 1, 2, 3, 4, 5, 6, 7, 8, 9, 18, 19, 20], [0, 1, 2, 3, 4, 5, 6, 7, 8, 9, 17, 18, 19, 20, 21], [0, 1, 2, 3, 4, 5, 6, 7, 8, 9, 17, 18, 19, 20, 21, 22], [0, 1, 2, 3, 4, 5, 6, 7, 8, 9, 10, 11, 12, 13, 14, 15, 16, 17, 18, 19, 20, 21, 22, 23], [0, 1, 2, 3, 4, 5, 6, 7, 8, 9, 10, 11, 12, 13, 14, 15, 16, 17, 18, 19, 20, 21, 22, 23, 24]] [63, 64, 65, 66, 67, 68, 69, 70, 71, 72, 73, 74, 75, 76, 77, 78, 79, 80, 81, 82, 83, 84, 85, 86, 87, 88] [] (by kernel_rfl) (by kernel_rfl)
          · (apply drawG_put rfl; (intro S1 hS; exact stp_move rfl (hS.op rfl)))
            (apply drawG_put rfl; (intro S1 hS; exact stp_move rfl (hS.op rfl)))
            (apply drawG_put rfl; (intro S1 hS; exact stp_ixE (j := f) rfl (hS.op rfl) (hS.op rfl) (hS.ch _ _ rfl) rfl (by as_aux_lemma => kernel_rfl) hrowi rfl hfn hni))
            (apply drawG_put rfl; (intro S1 hS; exact stp_loadE' rfl (by as_aux_lemma => kernel_rfl) (hS.op rfl) (hS.ch _ _ rfl) rfl hrowi g1))
            (apply drawG_put rfl; (intro S1 hS; exact stp_move rfl (hS.op rfl)))
            (apply drawG_put rfl; (intro S1 hS; exact stp_move rfl (hS.op rfl)))
            (apply drawG_put rfl; (intro S1 hS; exact stp_ixE (j := f) rfl (hS.op rfl) (hS.op rfl) (hS.ch _ _ rfl) rfl (by as_aux_lemma => kernel_rfl) hrowk rfl hfn hnk))
            (apply drawG_put rfl; (intro S1 hS; exact stp_loadE' rfl (by as_aux_lemma => kernel_rfl) (hS.op rfl) (hS.ch _ _ rfl) rfl hrowk g2))
            (apply drawG_put rfl; (intro S1 hS; exact stp_bin rfl (hS.op rfl) (hS.op rfl) (binEql' e1)))
            (apply drawG_put rfl; (intro S1 hS; exact stp_move rfl (hS.op rfl)))
            (apply drawG_yes rfl rfl rfl; (intro S1 hS; exact stp_move rfl (hS.op rfl)))
            (apply drawG_yes rfl rfl rfl; (intro S1 hS; exact stp_move rfl (hS.op rfl)))
            (apply drawG_yes rfl rfl rfl; (intro S1 hS; exact stp_move rfl (hS.op rfl)))
            (apply drawG_yes rfl rfl rfl; (intro S1 hS; exact stp_ixE (j := f) rfl (hS.op rfl) (hS.op rfl) (hS.ch _ _ rfl) rfl (by as_aux_lemma => kernel_rfl) hrowi rfl hfn hni))
            (apply drawG_yes rfl rfl rfl; (intro S1 hS; exact stp_loadE' rfl (by as_aux_lemma => kernel_rfl) (hS.op rfl) (hS.ch _ _ rfl) rfl hrowi g1))
            (apply drawG_yes rfl rfl rfl; (intro S1 hS; exact stp_ixE (j := d1) rfl (hS.op rfl) (hS.op rfl) (hS.ch _ _ rfl) rfl (by as_aux_lemma => kernel_rfl) hrowk rfl hd1.1 hnk))
            (apply drawG_yes rfl rfl rfl; (intro S1 hS; exact stp_loadE' rfl (by as_aux_lemma => kernel_rfl) (hS.op rfl) (hS.ch _ _ rfl) rfl hrowk g3))
            (apply drawG_yes rfl rfl rfl; (intro S1 hS; exact stp_move rfl (hS.op rfl)))
            (apply drawG_yes rfl rfl rfl; (intro S1 hS; exact stp_move rfl (hS.op rfl)))
            (apply drawG_yes rfl rfl rfl; (intro S1 hS; exact stp_move rfl (hS.op rfl)))
            (apply drawG_yes rfl rfl rfl; (intro S1 hS; exact stp_ixE (j := f) rfl (hS.op rfl) (hS.op rfl) (hS.ch _ _ rfl) rfl (by as_aux_lemma => kernel_rfl) hrowk rfl hfn hnk))
            (apply drawG_yes rfl rfl rfl; (intro S1 hS; exact stp_loadE' rfl (by as_aux_lemma => kernel_rfl) (hS.op rfl) (hS.ch _ _ rfl) rfl hrowk g2))
            (apply drawG_yes rfl rfl rfl; (intro S1 hS; exact stp_ixE (j := d2) rfl (hS.op rfl) (hS.op rfl) (hS.ch _ _ rfl) rfl (by as_aux_lemma => kernel_rfl) hrowi rfl hd2.1 hni))
            (apply drawG_yes rfl rfl rfl; (intro S1 hS; exact stp_loadE' rfl (by as_aux_lemma => kernel_rfl) (hS.op rfl) (hS.ch _ _ rfl) rfl hrowi g4))
            (apply drawG_yes rfl rfl rfl; (intro S1 hS; exact stp_bin rfl (hS.op rfl) (hS.op rfl) rfl))
            (apply drawG_put rfl; (intro S1 hS; exact stp_pickF rfl (hS.op rfl) (hS.op rfl)))
            exact DrawG.nil
          · rfl
          ((refine rest_done (by as_aux_lemma => kernel_rfl) ?_; skip))
          (refine fin_seq ?_)
          refine goes_cond rfl (fun e2 => ?_) (fun e2 => ?_)
          · have e2 : (x1 : Int) ≠ x2 := by simpa using e2
            rw [manB_no (fun h => by have := (hcm.1 (h.comm i k hki hkz f (by omega))).1; omega)]
            (refine goes_seq ?_; refine goes_region ?_; apply run_step rfl; (exact stp_assign rfl rfl); refine run_nil ?_; refine fin_seq ?_; refine goes_ret ?_; refine fin_ret_block ?_; refine fin_ret_then ?_; refine fin_ret_then ?_; refine fin_ret_block ?_; refine fin_ret_block ?_; refine fin_ret_then ?_; refine fin_ret_then ?_; refine fin_ret_block ?_; refine fin_ret_block ?_; refine fin_ret_then ?_; refine fin_ret_then ?_; refine fin_ret_block ?_; refine fin_ret_then ?_)
            exact fin_ret1 (.inl rfl) rfl (.tmp rfl) trivial trivial
          · have e2 : (x1 : Int) = x2 := by simpa using e2
            (refine goes_skip ?_; refine fin_block ?_; refine fin_seq ?_; refine goes_region ?_; apply run_step rfl; (exact stp_add rfl rfl rfl (by first | exact IntWalk.i64_in _ (by omega) | rfl)); apply run_step rfl; (exact stp_move rfl rfl); refine run_nil ?_)
            exact fin_round (f + 1) ⟨hfn, fun f' hf' => by
              by_cases e : f' = f
              · subst e; exact hcm.2 ⟨by omega, by omega⟩
              · exact hcf f' (by omega)⟩ (by omega) (Wk.of ⟨rfl, rfl, rfl, rfl, rfl, rfl, rfl, rfl, rfl, rfl, rfl, trivial⟩ ⟨rfl, rfl, trivial⟩ trivial)
      · (refine goes_exit ?_; refine fin_exit_then ?_; refine fin_exit_then ?_; refine fin_exit_eq ?_; refine fin_block ?_; refine fin_seq ?_; refine goes_region ?_; apply run_step rfl; (exact stp_add rfl rfl rfl (by first | exact IntWalk.i64_in _ (by omega) | rfl)); apply run_step rfl; (exact stp_move rfl rfl); refine run_nil ?_)
        exact fin_round (j + 1) ⟨by omega, fun k' h1 h2 f' hf' => by
          by_cases e : k' = k
          · subst e; exact hcf f' (by omega)
          · exact hck k' h1 (by omega) f' hf'⟩ (by omega) (Wk.of ⟨rfl, rfl, rfl, rfl, rfl, rfl, rfl, rfl, trivial⟩ ⟨rfl, rfl, trivial⟩ trivial)
    · (refine goes_exit ?_; refine fin_exit_then ?_; refine fin_exit_then ?_; refine fin_exit_eq ?_; refine fin_block ?_; refine fin_seq ?_; refine goes_region ?_; apply run_step rfl; (exact stp_add rfl rfl rfl (by first | exact IntWalk.i64_in _ (by omega) | rfl)); apply run_step rfl; (exact stp_move rfl rfl); refine run_nil ?_)
      exact fin_round (i + 1) ⟨hiz, fun i' k' h1 h2 h3 => by
        by_cases e : i' = i
        · subst e; exact hck k' h2 (by omega)
        · exact hci i' k' (by omega) h2 h3⟩ (by omega) (Wk.of ⟨rfl, rfl, rfl, rfl, trivial⟩ ⟨rfl, rfl, trivial⟩ trivial)
  obtain rfl : i = zss.length := by omega
  have hM : Man0 zss := ⟨by omega, by omega, by omega, by omega, by rw [hn]; exact hrn, fun i k h1 h2 f hf => hci i k (by omega) h1 h2 f (by omega)⟩
  have hO := (orbI_fc zss n zss.length rfl hT hB (by omega) (by omega) (by omega)).nm [(1003, 1003), (16, 96)] (by kernel_rfl)
  have hO : FC Try.prog 129 [(1003, rowsRo zss)] [vv (I6 n), o1 (.sl 1003 0 zss.length)] [(96, leOw (labs zss n).1)] (.tup [.one (.sl 96 0 n), .one (.val (I6 (labs zss n).2))]) [] := hO
  have hv : manB zss = (((labs zss n).2 : Int) == 1) := by
    rw [hM.man, hn]
    have := labs_one hT hB (n := n) (by omega)
    by_cases hc : (orb zss n 0).2.length = n
    · rw [hc, this.2 hc]; simp
    · have h1 : (labs zss n).2 ≠ 1 := fun h => hc (this.1 h)
      have h2 : ((labs zss n).2 : Int) ≠ 1 := by omega
      have h3 : ((orb zss n 0).2.length : Int) ≠ n := by omega
      rw [beq_eq_false_iff_ne.2 h2, beq_eq_false_iff_ne.2 h3]
  rw [hv]
  (refine goes_exit ?_; refine fin_exit_then ?_; refine fin_exit_then ?_; refine fin_exit_eq ?_; refine fin_seq ?_; refine goes_seq ?_)
  apply goes_draw 5 [] [[], [], [1], [0, 1, 2], [0, 1, 2, 3], [0, 1, 2, 3, 4], [0, 1, 2, 3, 4], [0, 1, 2, 3, 4, 5], [0, 1, 2, 3, 4, 5, 6, 7]] [93, 94, 95, 96, 92] [96] (by kernel_rfl) (by kernel_rfl)
  · (apply draw_put rfl; (intro S1 hS; apply call_gate 127; exact stp_callR hG (by as_aux_lemma => kernel_rfl) rfl (opL_le hS rfl) ⟨rfl, trivial⟩ (allIn_le hS ⟨⟨_, rfl, .inr rfl⟩, ⟨_, rfl, .inl rfl⟩, trivial⟩) rfl rfl))
    (apply draw_put rfl; (intro S1 hS; exact stp_fieldAddr (d := 0) rfl (hS.op rfl) (hS.ch _ _ rfl) (by as_aux_lemma => kernel_rfl)))
    (apply draw_put rfl; (intro S1 hS; exact stp_loadF rfl (by as_aux_lemma => kernel_rfl) (hS.op rfl) (hS.ch _ _ rfl) rfl rfl))
    (apply draw_new rfl; (intro S1 hS; apply call_gate 129; exact stp_callN hO (by as_aux_lemma => kernel_rfl) rfl (opL_le hS rfl) ⟨rfl, rfl, trivial⟩ (allIn_le hS ⟨⟨_, rfl, .inl rfl⟩, trivial⟩) rfl rfl rfl))
    (apply draw_put rfl; (intro S1 hS; exact stp_move rfl (hS.op rfl)))
    exact Draw.nil
  · rfl
  refine rest_join (St.of [(11, vv (I6 (labs zss n).2))] []) ?_ ?_
  · ((apply rest_two 5 6 rfl (by as_aux_lemma => kernel_rfl) rfl rfl rfl rfl; (exact stp_extract rfl rfl rfl); (exact stp_extract rfl rfl rfl); (focus ((apply rest_two 6 7 rfl (by as_aux_lemma => kernel_rfl) rfl rfl rfl rfl; (exact stp_extract rfl rfl rfl); (exact stp_assign rfl rfl); (focus ((apply rest_one 7 rfl (by as_aux_lemma => kernel_rfl) rfl rfl; (exact stp_assign rfl rfl)); (apply rest_one 8 rfl (by as_aux_lemma => kernel_rfl) rfl rfl; (exact stp_assign rfl rfl)); (refine rest_done (by as_aux_lemma => kernel_rfl) ?_; exact fin_join (Wk.of ⟨rfl, trivial⟩ trivial trivial)))); (focus ((apply rest_one 6 rfl (by as_aux_lemma => kernel_rfl) rfl rfl; (exact stp_extract rfl rfl rfl)); (apply rest_one 8 rfl (by as_aux_lemma => kernel_rfl) rfl rfl; (exact stp_assign rfl rfl)); (refine rest_done (by as_aux_lemma => kernel_rfl) ?_; exact fin_join (Wk.of ⟨rfl, trivial⟩ trivial trivial))))))); (focus ((apply rest_one 5 rfl (by as_aux_lemma => kernel_rfl) rfl rfl; (exact stp_extract rfl rfl rfl)); (apply rest_one 7 rfl (by as_aux_lemma => kernel_rfl) rfl rfl; (exact stp_assign rfl rfl)); (apply rest_one 8 rfl (by as_aux_lemma => kernel_rfl) rfl rfl; (exact stp_assign rfl rfl)); (refine rest_done (by as_aux_lemma => kernel_rfl) ?_; exact fin_join (Wk.of ⟨rfl, trivial⟩ trivial trivial))))))
  (refine fin_seq ?_; refine goes_seq ?_; refine goes_region ?_; apply run_step rfl; (exact stp_move rfl rfl); apply run_step rfl; (exact stp_bin rfl rfl rfl rfl); apply run_step rfl; (exact stp_assign rfl rfl); refine run_nil ?_; refine fin_seq ?_; refine goes_ret ?_)
  exact fin_ret1 (.inl rfl) rfl (.tmp rfl) trivial trivial
end Go.Proofs.Ytnfkhgamnapgmaa

/- IsMap. guards: -/
namespace Go.Proofs.Ytnfkhgamnapgmaa
open Go.RowKit

noncomputable def mapB (zss : List (List Int)) : Bool := manB zss && decide (zss.length = 3)
theorem mapB_no {zss : List (List Int)} (h : zss.length ≠ 3) : mapB zss = false := by unfold mapB; rw [decide_eq_false h, Bool.and_false]
theorem mapB_on {zss : List (List Int)} (h : zss.length = 3) : mapB zss = manB zss := by unfold mapB; rw [decide_eq_true h, Bool.and_true]
def FitM (zss : List (List Int)) : Prop := zss.length ≤ 1048576 ∧ ∀ i, i < zss.length → (lget zss i).length ≤ 1048576
set_option maxRecDepth 100000 in
theorem l14_fc (zss : List (List Int)) (h : FitM zss) : FC Try.prog 66 [(1003, rowsRo zss)] [mA zss.length] [] (vv (.bool (mapB zss))) [] := by
  have hM := manS_fc zss h.1 h.2
  refine fc_enter (nt := 11) Try.func66 rfl rfl (by simp) fun w0 ω0 => ?_
  cases c : manB zss with
  | false =>
    rw [c] at hM
    have hv : mapB zss = false := by unfold mapB; rw [c]; rfl
    rw [hv]
    (refine goes_seq ?_; refine goes_region ?_; apply run_step rfl; (exact stp_box rfl rfl rfl rfl); apply run_step rfl; (exact stp_assign rfl rfl); refine run_nil ?_; refine fin_seq ?_; refine goes_seq ?_; refine goes_region ?_; apply run_step rfl; (exact stp_loadAgg rfl rfl rfl rfl rfl rfl (by as_aux_lemma => kernel_rfl)); apply run_step rfl; (apply call_gate 116; exact stp_callR hM (by as_aux_lemma => kernel_rfl) rfl rfl ⟨⟨.inl rfl, trivial⟩, trivial⟩ ⟨⟨_, rfl, .inl rfl⟩, trivial⟩ rfl rfl); apply run_step rfl; (exact stp_move rfl rfl); apply run_gNo rfl rfl rfl rfl rfl; apply run_gNo rfl rfl rfl rfl rfl; apply run_gNo rfl rfl rfl rfl rfl; apply run_gNo rfl rfl rfl rfl rfl; apply run_step rfl; (exact stp_pickF rfl rfl rfl); apply run_step rfl; (exact stp_assign rfl rfl); refine run_nil ?_; refine fin_seq ?_; refine goes_ret ?_)
    exact fin_ret1 (.inl rfl) rfl (.tmp rfl) trivial trivial
  | true =>
    rw [c] at hM
    have hv : mapB zss = ((zss.length : Int) == 3) := by
      unfold mapB
      rw [c, Bool.true_and]
      by_cases e : zss.length = 3
      · rw [e]; rfl
      · rw [decide_eq_false e]; symm; rw [beq_eq_false_iff_ne]; omega
    rw [hv]
    (refine goes_seq ?_; refine goes_region ?_; apply run_step rfl; (exact stp_box rfl rfl rfl rfl); apply run_step rfl; (exact stp_assign rfl rfl); refine run_nil ?_; refine fin_seq ?_; refine goes_seq ?_; refine goes_region ?_; apply run_step rfl; (exact stp_loadAgg rfl rfl rfl rfl rfl rfl (by as_aux_lemma => kernel_rfl)); apply run_step rfl; (apply call_gate 116; exact stp_callR hM (by as_aux_lemma => kernel_rfl) rfl rfl ⟨⟨.inl rfl, trivial⟩, trivial⟩ ⟨⟨_, rfl, .inl rfl⟩, trivial⟩ rfl rfl); apply run_step rfl; (exact stp_move rfl rfl); apply run_gYes rfl rfl rfl; (exact stp_fieldAddr (d := 0) rfl rfl rfl (by as_aux_lemma => kernel_rfl)); apply run_gYes rfl rfl rfl; (exact stp_loadF rfl (by as_aux_lemma => kernel_rfl) rfl rfl rfl rfl); apply run_gYes rfl rfl rfl; (exact stp_len rfl rfl rfl (by as_aux_lemma => kernel_rfl)); apply run_gYes rfl rfl rfl; (exact stp_bin rfl rfl rfl rfl); apply run_step rfl; (exact stp_pickT rfl rfl rfl); apply run_step rfl; (exact stp_assign rfl rfl); refine run_nil ?_; refine fin_seq ?_; refine goes_ret ?_)
    exact fin_ret1 (.inl rfl) rfl (.tmp rfl) trivial trivial
set_option maxRecDepth 100000 in
theorem isMap_fc (zss : List (List Int)) (h : FitM zss) : FC Try.prog 112 [(1003, rowsRo zss)] [mA zss.length] [] (vv (.bool (mapB zss))) [] := by
  have hM := manI_fc zss h.1 h.2
  refine fc_enter (nt := 11) Try.func112 rfl rfl (by simp) fun w0 ω0 => ?_
  by_cases e : zss.length = 3
  · rw [mapB_on e]
    (refine goes_seq ?_; refine goes_region ?_; apply run_step rfl; (exact stp_box rfl rfl rfl rfl); apply run_step rfl; (exact stp_assign rfl rfl); refine run_nil ?_; refine fin_seq ?_; refine goes_seq ?_; refine goes_region ?_; apply run_step rfl; (exact stp_fieldAddr (d := 0) rfl rfl rfl (by as_aux_lemma => kernel_rfl)); apply run_step rfl; (exact stp_loadF rfl (by as_aux_lemma => kernel_rfl) rfl rfl rfl rfl); apply run_step rfl; (exact stp_len rfl rfl rfl (by as_aux_lemma => kernel_rfl)); apply run_step rfl; (exact stp_bin rfl rfl rfl (binEql (show (zss.length : Int) = 3 by omega))); apply run_step rfl; (exact stp_move rfl rfl); apply run_gYes rfl rfl rfl; (exact stp_loadAgg rfl rfl rfl rfl rfl rfl (by as_aux_lemma => kernel_rfl)))
    (apply run_gYes rfl rfl rfl; (apply call_gate 69; exact stp_callR hM (by as_aux_lemma => kernel_rfl) rfl rfl ⟨⟨.inl rfl, trivial⟩, trivial⟩ ⟨⟨_, rfl, .inl rfl⟩, trivial⟩ rfl rfl); apply run_step rfl; (exact stp_pickT rfl rfl rfl); apply run_step rfl; (exact stp_assign rfl rfl); refine run_nil ?_; refine fin_seq ?_; refine goes_ret ?_)
    exact fin_ret1 (.inl rfl) rfl (.tmp rfl) trivial trivial
  · rw [mapB_no e]
    (refine goes_seq ?_; refine goes_region ?_; apply run_step rfl; (exact stp_box rfl rfl rfl rfl); apply run_step rfl; (exact stp_assign rfl rfl); refine run_nil ?_; refine fin_seq ?_; refine goes_seq ?_; refine goes_region ?_; apply run_step rfl; (exact stp_fieldAddr (d := 0) rfl rfl rfl (by as_aux_lemma => kernel_rfl)); apply run_step rfl; (exact stp_loadF rfl (by as_aux_lemma => kernel_rfl) rfl rfl rfl rfl); apply run_step rfl; (exact stp_len rfl rfl rfl (by as_aux_lemma => kernel_rfl)); apply run_step rfl; (exact stp_bin rfl rfl rfl (binEql' (show (zss.length : Int) ≠ 3 by omega))); apply run_step rfl; (exact stp_move rfl rfl); apply run_gNo rfl rfl rfl rfl rfl; apply run_gNo rfl rfl rfl rfl rfl; apply run_step rfl; (exact stp_pickF rfl rfl rfl); apply run_step rfl; (exact stp_assign rfl rfl); refine run_nil ?_; refine fin_seq ?_; refine goes_ret ?_)
    exact fin_ret1 (.inl rfl) rfl (.tmp rfl) trivial trivial
theorem fitM_of {zss : List (List Int)} (h : zss.length + lenSS zss ≤ 1048576) : FitM zss := ⟨by omega, fun i hi => by have := len_le_lenSS hi; omega⟩
end Go.Proofs.Ytnfkhgamnapgmaa

/- Walks in names: bits of masks. No program in sight. -/
namespace Go.Proofs.Ytnfkhgamnapgmaa
open Go.RowKit

theorem mBit_of (mask g : Nat) : ((((mask / 2 ^ g) &&& 1 : Nat) : Int) == 1) = mBit mask g := by
  unfold mBit
  rw [Nat.and_one_is_mod]
  rcases Nat.mod_two_eq_zero_or_one (mask / 2 ^ g) with h | h <;> rw [h] <;> rfl
theorem stp_bit {P : Program} {nt : Nat} {S : St} {t : Nat} {ty : TypeId} {ps : String} {af : Array Edge} {gd : Option (Nat × Bool)} {x : Operand} {xt yt : TypeId} {mask g : Nat} (ht : Nat.blt t nt = true) (hx : S.op x = some (vv (I6 ((mask / 2 ^ g : Nat) : Int)))) (hm : mask < 1000000) :
    Stp P nt ⟨some t, .binOp .and xt x (.const (I6 1)) yt, ty, ps, af, gd⟩ S (S.put t (vv (I6 (((mask / 2 ^ g) &&& 1 : Nat) : Int)))) :=
  stp_andN ht hx rfl (Nat.lt_of_le_of_lt (Nat.div_le_self _ _) hm) (by decide)
theorem stp_eqBit {P : Program} {nt : Nat} {S : St} {t : Nat} {ty : TypeId} {ps : String} {af : Array Edge} {gd : Option (Nat × Bool)} {x : Operand} {xt yt : TypeId} {mask g : Nat} (ht : Nat.blt t nt = true) (hx : S.op x = some (vv (I6 (((mask / 2 ^ g) &&& 1 : Nat) : Int)))) :
    Stp P nt ⟨some t, .binOp .eql xt x (.const (I6 1)) yt, ty, ps, af, gd⟩ S (S.put t (vv (.bool (mBit mask g)))) := by
  rw [← mBit_of]
  exact stp_bin ht hx rfl rfl
theorem stp_eqBit0 {P : Program} {nt : Nat} {S : St} {t : Nat} {ty : TypeId} {ps : String} {af : Array Edge} {gd : Option (Nat × Bool)} {x : Operand} {xt yt : TypeId} {mask g : Nat} (ht : Nat.blt t nt = true) (hx : S.op x = some (vv (I6 (((mask / 2 ^ g) &&& 1 : Nat) : Int)))) :
    Stp P nt ⟨some t, .binOp .eql xt x (.const (I6 0)) yt, ty, ps, af, gd⟩ S (S.put t (vv (.bool (!mBit mask g)))) := by
  have h : (!mBit mask g) = ((((mask / 2 ^ g) &&& 1 : Nat) : Int) == 0) := by
    unfold mBit
    rw [Nat.and_one_is_mod]
    rcases Nat.mod_two_eq_zero_or_one (mask / 2 ^ g) with h | h <;> rw [h] <;> rfl
  rw [h]
  exact stp_bin ht hx rfl rfl
theorem bits_or_i64 (a b : Nat) (ha : a < 1000000) (hb : b < 1000000) : bits .or .i64 (a : Int) (b : Int) = ((a ||| b : Nat) : Int) := by
  have hx : a ||| b < 2 ^ 20 := Nat.or_lt_two_pow (by omega) (by omega)
  have h1 : (BitVec.ofInt 64 (a : Int)).toNat = a := by
    rw [BitVec.ofInt_natCast, BitVec.toNat_ofNat]; exact Nat.mod_eq_of_lt (by omega)
  have h2 : (BitVec.ofInt 64 (b : Int)).toNat = b := by
    rw [BitVec.ofInt_natCast, BitVec.toNat_ofNat]; exact Nat.mod_eq_of_lt (by omega)
  show IntKind.i64.wrap ((BitVec.ofInt 64 (a : Int) ||| BitVec.ofInt 64 (b : Int)).toNat : Int) = _
  rw [BitVec.toNat_or, h1, h2, IntKind.wrap_i64]
  omega
section
variable {P : Program} {nt : Nat} {S S' S2 : St} {t : Nat} {ty : TypeId} {ps : String} {af : Array Edge} {gd : Option (Nat × Bool)} {x y : Operand} {o : Oper}
theorem stp_orN {xt yt : TypeId} {a b : Nat} (ht : Nat.blt t nt = true) (hx : S.op x = some (vv (I6 (a : Int)))) (hy : S.op y = some (vv (I6 (b : Int)))) (ha : a < 1000000) (hb : b < 1000000) :
    Stp P nt ⟨some t, .binOp .or xt x y yt, ty, ps, af, gd⟩ S (S.put t (vv (I6 ((a ||| b : Nat) : Int)))) :=
  Stp.pure rfl ht fun _ _ η _ s w hs => by
    refine ⟨I6 ((a ||| b : Nat) : Int), ?_, rfl⟩
    have hb' := bits_or_i64 a b ha hb
    have e : Op.intBits .or .i64 (a : Int) (b : Int) = pure (I6 ((a ||| b : Nat) : Int)) := by rw [← hb']; rfl
    simp [execOp, hs.opV hx, hs.opV hy, eqGuard, binOp, e]
theorem stp_shl2 {xt yt : TypeId} {kk : IntKind} {g : Nat} (ht : Nat.blt t nt = true) (hx : S.op x = some (vv (I6 2))) (hy : S.op y = some (vv (.int kk (g : Int)))) (hg : g ≤ 5) :
    Stp P nt ⟨some t, .binOp .shl xt x y yt, ty, ps, af, gd⟩ S (S.put t (vv (I6 ((2 ^ (g + 1) : Nat) : Int)))) :=
  Stp.pure rfl ht fun _ _ η _ s w hs => by
    refine ⟨I6 ((2 ^ (g + 1) : Nat) : Int), ?_, rfl⟩
    have e : ∀ g : Nat, g ≤ 5 → Op.shift .shl .i64 2 kk (g : Int) = pure (I6 ((2 ^ (g + 1) : Nat) : Int)) := fun g hg => by
      rw [shift_shl_i64 (x := 2) (y := (g : Int)) (yk := kk) (Int.natCast_nonneg g) (by omega), Int.toNat_natCast]
      match g, hg with
      | 0, _ => rfl
      | 1, _ => rfl
      | 2, _ => rfl
      | 3, _ => rfl
      | 4, _ => rfl
      | 5, _ => rfl
    have e := e g hg
    have hw : IntKind.i64.wrap (2 * 2 ^ g) = 2 ^ (g + 1) := by
      match g, hg with
      | 0, _ => rfl
      | 1, _ => rfl
      | 2, _ => rfl
      | 3, _ => rfl
      | 4, _ => rfl
      | 5, _ => rfl
    simp [execOp, hs.opV hx, hs.opV hy, eqGuard, binOp, e, hw]
/-- a step behind a loss of knowledge -/
theorem Stp.pre (h : Wk S S') (k : Stp P nt o S' S2) : Stp P nt o S S2 :=
  ⟨fun w0 ω0 a w Q hs => k.go w0 ω0 a w Q (h.go _ _ _ _ _ hs)⟩
end
end Go.Proofs.Ytnfkhgamnapgmaa

/- A memory of names: a call that turns one vector of the caller's in place; quotients and remainders. No program in sight. -/
namespace Go.Proofs.Ytnfkhgamnapgmaa
open Go.RowKit

section
variable {P : Program} {nt : Nat} {S S' S2 : St} {t : Nat} {ty : TypeId} {ps : String} {af : Array Edge} {gd : Option (Nat × Bool)} {x y : Operand} {o : Oper}
theorem stp_turn {f : FuncId} {ts : Array TypeId} {n : Nm} {E len : Nat} {zs zs' : List Int} (ht : Nat.blt t nt = true) (hf : goFnB P f = true) (hx : S.op x = some (o1 (.sl n 0 len))) (hc : S.ch n = some ⟨true, E, 1, .vals (ivals zs)⟩) (hl : zs.length = len) (hl' : zs'.length = len) (hlen : len ≤ 4398046511104)
    (h : ∀ ao c (w : World), Own w 0 E ao len c (ivals zs) → Calls P f #[.slice ao len c] w fun e w' => e = .returned (.tuple #[]) ∧ Own w' 0 E ao len c (ivals zs') ∧ w.grownBy w' (bk ao)) :
    Stp P nt ⟨some t, .call { callee := .value (.func f), args := #[x], argTypes := ts }, ty, ps, af, gd⟩ S ((S.set n ⟨true, E, 1, .vals (ivals zs')⟩).put t (.tup [])) := by
  refine ⟨fun w0 ω0 a w Q ⟨η, ω, hs⟩ => ?_⟩
  obtain ⟨hd, e1, e2, e3⟩ := hs.chunk hc
  have e2 : hd.k = 1 := e2
  have e3 : VecO ω w (n, none) hd E (ivals zs).length (cellsOK η ω w true n (.vals (ivals zs))) := e3
  have hu : Den1 η (.sl n 0 len) (a.eval x) := hs.opv hx
  obtain ⟨ao, hev, q1, _⟩ := hu.2 hd e1
  have q1 := q1 rfl
  subst q1
  rw [Nat.sub_zero] at hev
  have hown := VecO.own (lo := 0) (xs := ivals zs) e2 e3 (fun b hb => absurd hb (by omega)) (by rw [ivals_len]; omega) rfl (fun j u hj ⟨b, o, f1, f2⟩ => by
    obtain ⟨b', o', u', g1, g2, g3⟩ := Vec.get (own := true) e3 hj
    rw [f1] at g1; injection g1 with g1; injection g1 with g1 g1'; subst g1 g1'
    rw [f2] at g2
    obtain rfl := Option.some.inj g2
    exact g3)
  rw [ivals_len, hl] at hown
  have hrun : (execOp a.eval ⟨some t, .call { callee := .value (.func f), args := #[x], argTypes := ts }, ty, ps, af, gd⟩).run P w = .ok (.enter f #[.slice hd.ao len hd.c]) w := by
    simp only [execOp]
    have hfe : a.eval (.func f) = .func (Fn.func f) #[] #[] := rfl
    simp [execOp, resolve, hfe, hev, Deferred.ofValue, invoke, goFnB_run hf]
  unfold Oper.wp
  rw [hrun, Oper.upon_enter]
  refine (h _ _ _ hown.1).mono ?_
  rintro e w' ⟨rfl, ho, hg⟩
  have hsz := hg.size
  have hw := hs.write (x := n) (c' := ⟨true, E, 1, .vals (ivals zs')⟩) (ω' := ω) (w' := w') e1 ⟨hg.os, hg.tape, hg.output, hsz, fun b hb hlv => ⟨hg.block b hb fun e => ?_, rfl⟩⟩ ⟨e2, ?_⟩
  · exact ⟨η, ω, hw.putV (by simpa using ht) ⟨#[], rfl, rfl, fun j b hj => by simp at hj⟩⟩
  · have h1 := (hown.2 b e.symm).2
    rcases hlv with h0 | ⟨y, i, c, h0, h2⟩
    · rw [h1] at h0; cases h0
    · rw [h1] at h0; simp at h0; rw [← h0.1, ch_rm, if_pos rfl] at h2; cases h2
  · have hv := vecO_of (ω' := ω) ho (x := (n, none)) fun g hg' => (hown.2 g hg').2
    have : hd = ⟨hd.ao, hd.c, 1⟩ := by rw [← e2]
    rw [this]
    exact hv
theorem stp_quoN {xt yt : TypeId} {a b : Nat} (ht : Nat.blt t nt = true) (hx : S.op x = some (vv (I6 (a : Int)))) (hy : S.op y = some (vv (I6 (b : Int)))) (hb : 0 < b) (ha : a < 1000000000000) :
    Stp P nt ⟨some t, .binOp .quo xt x y yt, ty, ps, af, gd⟩ S (S.put t (vv (I6 ((a / b : Nat) : Int)))) :=
  Stp.pure rfl ht fun _ _ η _ s w hs => by
    refine ⟨I6 ((a / b : Nat) : Int), ?_, rfl⟩
    have hle := Nat.div_le_self a b
    have e : Op.intDiv .quo .i64 (a : Int) (b : Int) = pure (I6 ((a / b : Nat) : Int)) := by
      have h1 : (a : Int).tdiv (b : Int) = ((a / b : Nat) : Int) := rfl
      have h2 : ∀ q : Nat, q ≤ a → IntKind.i64.wrap (q : Int) = (q : Int) := fun q hq => IntWalk.i64_in _ (by omega)
      have h3 : ¬ (b : Int) = 0 := by omega
      unfold Op.intDiv
      rw [if_neg h3]
      show pure (Value.int .i64 (IntKind.i64.wrap ((a : Int).tdiv (b : Int)))) = _
      rw [h1, h2 _ hle]
    simp [execOp, hs.opV hx, hs.opV hy, eqGuard, binOp, e]
theorem stp_remN {xt yt : TypeId} {a b : Nat} (ht : Nat.blt t nt = true) (hx : S.op x = some (vv (I6 (a : Int)))) (hy : S.op y = some (vv (I6 (b : Int)))) (hb : 0 < b) (ha : a < 1000000000000) :
    Stp P nt ⟨some t, .binOp .rem xt x y yt, ty, ps, af, gd⟩ S (S.put t (vv (I6 ((a % b : Nat) : Int)))) :=
  Stp.pure rfl ht fun _ _ η _ s w hs => by
    refine ⟨I6 ((a % b : Nat) : Int), ?_, rfl⟩
    have hle := Nat.mod_le a b
    have e : Op.intDiv .rem .i64 (a : Int) (b : Int) = pure (I6 ((a % b : Nat) : Int)) := by
      have h1 : (a : Int).tmod (b : Int) = ((a % b : Nat) : Int) := rfl
      have h3 : ¬ (b : Int) = 0 := by omega
      unfold Op.intDiv
      rw [if_neg h3]
      show pure (Value.int .i64 ((a : Int).tmod (b : Int))) = _
      rw [h1]
    simp [execOp, hs.opV hx, hs.opV hy, eqGuard, binOp, e]
/-- a slice held against nil -/
theorem stp_nilYes {xt yt : TypeId} {op : BinOp} {b : Bool} (ht : Nat.blt t nt = true) (hT : sliceB P xt = true) (hx : S.op x = some (vv (.slice none 0 0))) (hop : (op = .eql ∧ b = true) ∨ (op = .neq ∧ b = false)) :
    Stp P nt ⟨some t, .binOp op xt x (.const (.slice none 0 0)) yt, ty, ps, af, gd⟩ S (S.put t (vv (.bool b))) :=
  Stp.pure rfl ht fun _ _ η _ s w hs => by
    obtain ⟨e, he⟩ := sliceB_spec hT
    have hc : s.eval (.const (.slice none 0 0)) = .slice none 0 0 := rfl
    refine ⟨.bool b, ?_, rfl⟩
    rcases hop with ⟨rfl, rfl⟩ | ⟨rfl, rfl⟩
    · simp [execOp, hs.opV hx, hc, eqGuard, Lib.run_eql_slice_nil w xt e none 0 0 0 0 he]
    · simp [execOp, hs.opV hx, hc, eqGuard, Go.run_neq_slice_nil w xt e none 0 0 he]
theorem stp_nilNo {xt yt : TypeId} {op : BinOp} {b : Bool} {n : Nm} {len : Nat} {c : Ch} (ht : Nat.blt t nt = true) (hT : sliceB P xt = true) (hx : S.op x = some (o1 (.sl n 0 len))) (hc : S.ch n = some c) (hl : 0 < c.d.len) (hop : (op = .eql ∧ b = false) ∨ (op = .neq ∧ b = true)) :
    Stp P nt ⟨some t, .binOp op xt x (.const (.slice none 0 0)) yt, ty, ps, af, gd⟩ S (S.put t (vv (.bool b))) :=
  Stp.pure rfl ht fun _ _ η _ s w hs => by
    obtain ⟨e, he⟩ := sliceB_spec hT
    have hcc : s.eval (.const (.slice none 0 0)) = .slice none 0 0 := rfl
    obtain ⟨hd, h1, h2, h3⟩ := hs.chunk hc
    have hd1 : Den1 η (.sl n 0 len) (s.eval x) := hs.opv hx
    obtain ⟨ao, e1, e2, _⟩ := hd1.2 hd h1
    obtain ⟨b', o', u, f1, _, _⟩ := h3.get hl
    have hao : ao = some ⟨b', o', none⟩ := by rw [e2 rfl, f1]
    subst hao
    refine ⟨.bool b, ?_, rfl⟩
    rcases hop with ⟨rfl, rfl⟩ | ⟨rfl, rfl⟩
    · simp [execOp, e1, hcc, eqGuard, Lib.run_eql_slice_nil w xt e _ _ _ 0 0 he]
    · simp [execOp, e1, hcc, eqGuard, Go.run_neq_slice_nil w xt e _ _ _ he]
end
end Go.Proofs.Ytnfkhgamnapgmaa

/- IsDiagram, the program's and the reference's. -/
namespace Go.Proofs.Ytnfkhgamnapgmaa
open Go.RowKit

/-- a label: 0, or 2 to 32 -/
def isLabel (z : Int) : Bool := z == 0 || inB z 2 32
/-- a diagram: fewer than 5 labels -/
def isDiag (zs : List Int) : Bool := zs.all isLabel && decide (zs.length < 5)

set_option maxHeartbeats 400000 in
theorem spec12Is_any (ao : Option Addr) (n c : Nat) (zs : List Int) (w : World) (h : Ints w ao n zs) :
    Calls Try.prog 75 #[.slice ao n c] w fun e w' => e = .returned (.bool (isDiag zs)) ∧ w' = w := by
  have hn := h.2.1
  go_enter Try.func75, Try.ntmps75
  go_wp2
  go_loop [3] (fun i => ∃ k : Nat, k ≤ n ∧ i = .int .i64 k ∧ (zs.take k).all isLabel = true) (fun i => n - (intOf i).toNat)
  case atStart => exact ⟨0, Nat.zero_le _, rfl, by simp⟩
  case round =>
    obtain ⟨k, hk, rfl, hpre⟩ := hrel
    have HP := Lib.hid hpre
    clear hpre
    by_cases hlt : k < n
    · obtain ⟨b, off, rfl, hc⟩ := h.at_ hlt
      have hl := h.1
      have HL := Lib.hid hl
      clear hl h
      cases hp : isLabel (iget zs k) with
      | true =>
        have HX := Lib.hid hp
        by_cases h0 : iget zs k = 0
        · have h1 : (iget zs k != 0) = false := by simp [h0]
          clear hp h0
          go_wp2
          go_round
          case rel => exact ⟨k + 1, by omega, by go_num, by rw [all_take_iget (by rw [HL.out]; exact hlt), HP.out, HX.out]; rfl⟩
          case measure => simp [intOf]; omega
        · have h1 : (iget zs k != 0) = true := by simp [h0]
          have h2 : inB (iget zs k) 2 32 = true := by unfold isLabel at hp; simpa [h0] using hp
          have H2 := Lib.hid h2
          clear hp h0 h2
          go_wp2_with (go_at_call 76; refine (specIn_any _ _ _ _).mono ?_; rintro e w' ⟨rfl, rfl⟩; rw [H2.out])
          go_round
          case rel => exact ⟨k + 1, by omega, by go_num, by rw [all_take_iget (by rw [HL.out]; exact hlt), HP.out, HX.out]; rfl⟩
          case measure => simp [intOf]; omega
      | false =>
        have HX := Lib.hid hp
        have h1 : (iget zs k != 0) = true := by
          rw [bne_iff_ne]; intro e; unfold isLabel at hp; simp [e] at hp
        have h2 : inB (iget zs k) 2 32 = false := by unfold isLabel at hp; simp only [Bool.or_eq_false_iff] at hp; exact hp.2
        have H2 := Lib.hid h2
        clear hp h2
        go_wp2_with (go_at_call 76; refine (specIn_any _ _ _ _).mono ?_; rintro e w' ⟨rfl, rfl⟩; rw [H2.out])
        go_ret
        exact ⟨ret_bool (by unfold isDiag; rw [all_false_at (by rw [HL.out]; exact hlt) HX.out]; rfl), rfl⟩
    · obtain rfl : k = n := by omega
      have hl := h.1
      have HL := Lib.hid hl
      clear hl
      go_wp2
      go_ret
      exact ⟨ret_bool (by have := HP.out; rw [List.take_of_length_le (Nat.le_of_eq HL.out)] at this; unfold isDiag; rw [this, HL.out]; simp; omega), rfl⟩

theorem isDiagramFn_any (z : Int) (w : World) :
    Calls Try.prog 139 #[.int .i64 z] w fun e w' => e = .returned (.bool (!isLabel z)) ∧ w' = w := by
  by_cases h0 : z = 0
  · have h1 : (z != 0) = false := by simp [h0]
    have h2 : isLabel z = true := by simp [isLabel, h0]
    have H2 := Lib.hid h2
    clear h0 h2
    go_enter Try.func139, Try.ntmps139
    go_wp2
    go_ret
    exact ⟨ret_bool (by rw [H2.out]; rfl), rfl⟩
  · have h1 : (z != 0) = true := by simp [h0]
    have h2 : isLabel z = inB z 2 32 := by simp [isLabel, h0]
    have H2 := Lib.hid h2
    clear h0 h2
    go_enter Try.func139, Try.ntmps139
    go_wp2_with (go_at_call 84; refine (within_any _ _ _ _).mono ?_; rintro e w' ⟨rfl, rfl⟩)
    go_ret
    exact ⟨ret_bool (by rw [H2.out]), rfl⟩

set_option maxRecDepth 100000 in
theorem isDiagramImpl_any (ao : Option Addr) (n c : Nat) (zs : List Int) (w : World) (h : Ints w ao n zs) :
    Calls Try.prog 82 #[.slice ao n c] w fun e w' => e = .returned (.bool (isDiag zs)) ∧ Below w.heap.size w w' := by
  have hl := h.1
  have HL := Lib.hid hl
  clear hl
  have hany : zs.any (fun z => !isLabel z) = !(zs.all isLabel) := by rw [List.any_eq_not_all_not]; simp
  have HA := Lib.hid hany
  clear hany
  by_cases hs : n < 5
  · have h1 : decide ((n : Int) < 5) = true := by simp; omega
    go_enter Try.func82, Try.ntmps82
    go_wp2_with fail
    refine (containsFunc_any 139 #[] (fun z => !isLabel z) ao n c zs w h (fun _ _ => by rfl) (fun j hj w' hb => (isDiagramFn_any _ w').mono ?_)).mono ?_
    · rintro e w1 ⟨rfl, rfl⟩; exact ⟨rfl, Below.refl _ _⟩
    rintro e w1 ⟨rfl, hb⟩
    go_wp2
    go_ret
    exact ⟨ret_bool (by rw [HA.out]; unfold isDiag; rw [HL.out]; simp [hs]), hb⟩
  · have h1 : decide ((n : Int) < 5) = false := by simp; omega
    go_enter Try.func82, Try.ntmps82
    go_wp2
    go_ret
    exact ⟨ret_bool (by unfold isDiag; rw [HL.out]; simp; intro _; omega), Below.refl _ _⟩

end Go.Proofs.Ytnfkhgamnapgmaa

/- ReverseDiagram: the reference's l12Turned, slices.Clone and slices.Reverse at []int64. -/
namespace Go.Proofs.Ytnfkhgamnapgmaa
open Go.RowKit

/-- a list the other way round; closed to simp -/
def turned (zs : List Int) : List Int := zs.reverse
theorem turned_drop {zs : List Int} {k : Nat} (h : k < zs.length) : turned (zs.drop k) = turned (zs.drop (k + 1)) ++ [iget zs k] := by
  unfold turned; rw [List.drop_eq_getElem_cons h, ← iget_lt h, List.reverse_cons]

set_option maxHeartbeats 400000 in
theorem spec12Turned_any (ao : Option Addr) (n c : Nat) (zs : List Int) (w : World) (h : Ints w ao n zs) (hn : n ≤ 1048576) :
    Calls Try.prog 210 #[.slice ao n c] w fun e w' => ∃ ao' c', e = .returned (.slice ao' n c') ∧ Own w' w.heap.size 2 ao' n c' ((turned zs).map (Value.int .i64)) ∧ Below w.heap.size w w' := by
  have hl := h.1
  have HL := Lib.hid hl
  clear hl
  go_enter Try.func210, Try.ntmps210
  go_wp2
  go_loopw [3, 4] (fun v i wr => ∃ (k a' : Nat) (ao' : Option Addr) (c' : Nat), k ≤ n ∧ i = .int .i64 ((k : Int) - 1) ∧ v = .slice ao' a' c' ∧ a' + k = n ∧ Own wr w.heap.size 2 ao' a' c' ((turned (zs.drop k)).map (Value.int .i64)) ∧ Below w.heap.size w wr) (fun _ i _ => (intOf i + 1).toNat)
  case atStart => exact ⟨n, 0, _, _, Nat.le_refl _, rfl, rfl, by omega, by rw [List.drop_of_length_le (Nat.le_of_eq HL.out)]; exact Own.empty_ w _ (Nat.le_refl _), (Below.refl _ _).alloc (Nat.le_refl _) _⟩
  case round =>
    obtain ⟨k, a', ao', c', hk, rfl, rfl, hak, ho, hb⟩ := hrel
    have HAK := Lib.hid hak
    clear hak
    by_cases hlt : 0 < k
    · obtain ⟨j, rfl⟩ : ∃ j, k = j + 1 := ⟨k - 1, by omega⟩
      have hj : j < n := by omega
      have ha' : a' ≤ 1048576 := by have := HAK.out; omega
      obtain ⟨b, off, rfl, hc⟩ := (h.below hb).at_ hj
      have HT : Hid (turned (zs.drop j) = turned (zs.drop (j + 1)) ++ [iget zs j]) := turned_drop (by rw [HL.out]; exact hj)
      have hbs := hb.size
      have ej : ((j + 1 : Nat) : Int) - 1 = j := by omega
      rw [ej]
      clear ej
      go_wp2_with (at_builtin; refine wpList_ap1 etI _ rfl _ _ rfl w.heap.size ao' a' c' _ rfl ho (.int .i64 (iget zs j)) rfl rfl (by omega) hbs ?_; intro ao2 c2 w2 ho2 hg2 hblk)
      have hol := ho.lt
      clear ho hc h
      go_wp2
      go_roundw
      case rel =>
        refine ⟨j, a' + 1, ao2, c2, by omega, rfl, rfl, by have := HAK.out; omega, ?_, hb.grown hg2 hbs (fun g hg => (hol g hg).1)⟩
        rw [HT.out, List.map_append]; exact ho2
      case measure => simp [intOf]
    · obtain rfl : k = 0 := by omega
      obtain rfl : a' = n := by have := HAK.out; omega
      go_wp2
      go_ret
      exact ⟨_, _, rfl, by simpa using ho, hb⟩

set_option maxHeartbeats 400000 in
theorem clone_any (ao : Option Addr) (n c : Nat) (zs : List Int) (w : World) (h : Ints w ao n zs) (hn : n ≤ 1048576) :
    Calls Try.prog 168 #[.slice ao n c] w fun e w' => ∃ ao' c', e = .returned (.slice ao' n c') ∧ Own w' w.heap.size 2 ao' n c' (zs.map (Value.int .i64)) ∧ Below w.heap.size w w' := by
  have he := fun (w : World) => Lib.run_eql_slice_nil (P := Try.prog) w 22 2 ao n c 0 0 Try.underlying22
  cases ao with
  | none =>
    obtain ⟨rfl, rfl⟩ := h.of_none
    go_enter Try.func168, Try.ntmps168
    go_wp2
    go_ret
    exact ⟨_, _, rfl, Own.nil_ _ _ _, Below.refl _ _⟩
  | some ad =>
    have h2 : Ints (w.alloc (.cells #[] 2)) (some ad) n zs := h.below ((Below.refl _ _).alloc (Nat.le_refl _) _)
    have H2 := Lib.hid h2
    clear h2
    go_enter Try.func168, Try.ntmps168
    go_wp2_with (at_builtin; refine wpList_apN etI _ rfl _ _ rfl w.heap.size _ 0 0 [] rfl (Own.empty_ w _ (Nat.le_refl _)) (some ad) n c zs rfl H2.out (by omega) (by simp) ?_; intro ao2 c2 w2 ho2 hg2 hblk)
    go_ret
    refine ⟨_, _, rfl, by simpa using ho2, ((Below.refl _ _).alloc (Nat.le_refl _) _).grown hg2 (by simp) (fun g hg => ?_)⟩
    simp [bk] at hg; omega
end Go.Proofs.Ytnfkhgamnapgmaa

/- slices.Reverse at []int64: it turns a row of the call's own round, in place. -/
namespace Go.Proofs.Ytnfkhgamnapgmaa
open Go.RowKit

theorem own_iget {w : World} {base E : Nat} {g n c : Nat} {zs : List Int} (h : Own w base E (some ⟨g, 0, none⟩) n c (zs.map (Value.int .i64))) {k : Nat} (hk : k < n) : w.cell? ⟨g, k, none⟩ = some (.int .i64 (iget zs k)) := by
  obtain ⟨g', hg, _, _, _, hc, _⟩ := h.form (by omega)
  obtain rfl : g = g' := by injection hg with hg; injection hg
  have hl : zs.length = n := by have := h.len; simpa using this
  rw [hc k hk, List.getElem?_map, List.getElem?_eq_getElem (by omega), iget_lt (by omega)]; rfl
theorem iget_set_eq {zs : List Int} {k : Nat} (h : k < zs.length) (x : Int) : iget (zs.set k x) k = x := by rw [iget_lt (by simpa using h)]; simp
theorem iget_set_ne {zs : List Int} {k j : Nat} (h : k ≠ j) (x : Int) : iget (zs.set k x) j = iget zs j := by simp [iget, h]

set_option maxHeartbeats 800000 in
theorem reverse_any (ao : Option Addr) (n c : Nat) (zs : List Int) (w : World) (base : Nat) (h : Own w base 2 ao n c (zs.map (Value.int .i64))) :
    Calls Try.prog 230 #[.slice ao n c] w fun e w' => e = .returned (.tuple #[]) ∧ Own w' base 2 ao n c ((turned zs).map (Value.int .i64)) ∧ w.grownBy w' (bk ao) := by
  have hn := h.2
  have hl : zs.length = n := by have := h.len; simpa using this
  have HL := Lib.hid hl
  clear hl
  go_enter Try.func230, Try.ntmps230
  go_wp2
  go_loopw [2, 3] (fun i j wr => ∃ (k : Nat) (cur : List Int), k ≤ n ∧ i = .int .i64 k ∧ j = .int .i64 ((n : Int) - 1 - k) ∧ cur.length = n ∧ (∀ x, x < n → iget cur x = if x < k ∨ n < x + 1 + k then iget zs (n - 1 - x) else iget zs x) ∧ Own wr base 2 ao n c (cur.map (Value.int .i64)) ∧ w.grownBy wr (bk ao)) (fun i _ _ => n - (intOf i).toNat)
  case atStart => exact ⟨0, zs, by omega, rfl, by simp, HL.out, fun x hx => by rw [if_neg (by omega)], h, World.grownBy.refl _ _⟩
  case round =>
    obtain ⟨k, cur, hk, rfl, rfl, hcl, hcur, ho, hg⟩ := hrel
    have HC := Lib.hid hcl
    have HU := Lib.hid hcur
    clear hcl hcur
    by_cases hlt : k + k + 1 < n
    · obtain ⟨j, hj⟩ : ∃ j : Nat, j + k + 1 = n := ⟨n - 1 - k, by omega⟩
      have HJ := Lib.hid hj
      have ej : (n : Int) - 1 - k = j := by omega
      have hjn : j < n := by omega
      have hkn : k < n := by omega
      have hkj : k < j := by omega
      rw [ej]
      clear hj ej
      obtain ⟨g, rfl, -, hgl, -, -, -⟩ := ho.form (by omega)
      have hc1 := own_iget ho hjn
      have hc2 := own_iget ho hkn
      have hf1 := ho.1.frozenAt j
      have hf2 := ho.1.frozenAt k
      have ho1 : Own wr.drew base 2 (some ⟨g, 0, none⟩) n c (cur.map (Value.int .i64)) := ho
      obtain ⟨s1, t1⟩ := ho1.stored k (.int .i64 (iget cur j))
      obtain ⟨s2, t2⟩ := s1.stored j (.int .i64 (iget cur k))
      have S2 := Lib.hid s2
      have T1 := Lib.hid t1
      have T2 := Lib.hid t2
      clear s1 t1 s2 t2 ho1 ho
      go_wp2
      go_region
      go_wp2
      go_roundw
      case rel =>
        refine ⟨k + 1, (cur.set k (iget cur j)).set j (iget cur k), by omega, by go_num, ?_, by simp [HC.out], ?_, by rw [List.map_set, List.map_set]; exact S2.out, grown_tr hg (grown_tr (⟨rfl, rfl, rfl, Nat.le_refl _, fun _ _ _ => rfl⟩ : wr.grownBy wr.drew _) (grown_tr T1.out T2.out))⟩
        · congr 1; have := HJ.out; omega
        · intro x hx
          have hcl := HC.out
          have hjn' := HJ.out
          by_cases h1 : x = j
          · subst h1
            rw [iget_set_eq (by simp; omega), if_pos (by omega), HU.out k (by omega), if_neg (by omega)]
            congr 1; omega
          · rw [iget_set_ne (fun e => h1 e.symm)]
            by_cases h2 : x = k
            · subst h2
              rw [iget_set_eq (by omega), if_pos (by omega), HU.out j (by omega), if_neg (by omega)]
              congr 1; omega
            · rw [iget_set_ne (fun e => h2 e.symm), HU.out x hx]
              by_cases h3 : x < k ∨ n < x + 1 + k
              · rw [if_pos h3, if_pos (by omega)]
              · rw [if_neg h3, if_neg (by omega)]
      case measure => simp [intOf]; omega
    · have hle : (n : Int) - 1 - k ≤ k := by omega
      go_wp2
      go_end0
      refine ⟨rfl, ?_, hg⟩
      have hcl := HC.out
      have hzl := HL.out
      have e : cur = turned zs := by
        apply iget_ext (by unfold turned; simp; omega)
        intro x hx
        have hr : iget (turned zs) x = iget zs (n - 1 - x) := by
          rw [iget_lt (by unfold turned; simp; omega), iget_lt (by omega)]
          unfold turned
          rw [List.getElem_reverse]
          congr 1; omega
        rw [hr, HU.out x (by omega)]
        by_cases h3 : x < k ∨ n < x + 1 + k
        · rw [if_pos h3]
        · rw [if_neg h3]; congr 1; omega
      rw [← e]; exact ho
end Go.Proofs.Ytnfkhgamnapgmaa

/- Comparisons of lists, the greatest one of an ascending list, the greatest common divisor. -/
namespace Go.Proofs.Ytnfkhgamnapgmaa
open Go.RowKit

set_option maxHeartbeats 400000 in
theorem same_any (a b : Option Addr) (na nb ca cb : Nat) (za zb : List Int) (w : World) (ha : Ints w a na za) (hb : Ints w b nb zb) :
    Calls Try.prog 226 #[.slice a na ca, .slice b nb cb] w fun e w' => e = .returned (.bool (decide (za = zb))) ∧ ∃ m, w' = w.drewN m := by
  have hla := ha.2.1
  have hlb := hb.2.1
  by_cases hl : na = nb
  · subst hl
    have hl' : ((na : Int) != (na:Int)) = false := by simp
    go_enter Try.func226, Try.ntmps226
    go_wp2
    go_loopw [5] (fun i wr => ∃ k : Nat, k ≤ na ∧ i = .int .i64 k ∧ za.take k = zb.take k ∧ ∃ m, wr = w.drewN m) (fun i _ => na - (intOf i).toNat)
    case atStart => exact ⟨0, Nat.zero_le _, rfl, rfl, 0, rfl⟩
    case round =>
      obtain ⟨k, hk, rfl, hpre, m, rfl⟩ := hrel
      have HP := Lib.hid hpre
      clear hpre
      by_cases hlt : k < na
      · obtain ⟨ba, oa, rfl, hca⟩ := ha.at_ hlt
        obtain ⟨bb, ob, rfl, hcb⟩ := hb.at_ hlt
        have h1 := ha.1
        have h2 := hb.1
        have H1 := Lib.hid h1
        have H2 := Lib.hid h2
        clear h1 h2
        by_cases he : iget za k = iget zb k
        · have he' : (iget za k != iget zb k) = false := by simp [he]
          have HE := Lib.hid he
          clear he
          go_wp2_with fail
          go_quiet (fail)
          go_wp2
          go_roundw
          case rel => exact ⟨k + 1, by omega, by go_num, by rw [take_iget (by rw [H1.out]; omega), take_iget (by rw [H2.out]; omega), HP.out, HE.out], _, rfl⟩
          case measure => simp [intOf]; omega
        · have he' : (iget za k != iget zb k) = true := by simp [he]
          have HE := Lib.hid he
          clear he
          go_wp2_with fail
          go_quiet (fail)
          go_wp2
          go_ret
          exact ⟨ret_bool (by symm; rw [decide_eq_false_iff_not]; intro e; exact HE.out (by rw [e])), _, World.drewN_drewN _ _ _⟩
      · obtain rfl : k = na := by omega
        have h1 := ha.1
        have h2 := hb.1
        have hab : za = zb := by have := HP.out; rwa [List.take_of_length_le (by omega), List.take_of_length_le (by omega)] at this
        have HA := Lib.hid hab
        clear h1 h2 hab
        go_wp2
        go_ret
        exact ⟨ret_bool (by symm; simpa using HA.out), _, rfl⟩
  · have hl' : ((na : Int) != (nb:Int)) = true := by simp; omega
    go_enter Try.func226, Try.ntmps226
    go_wp2
    go_ret
    refine ⟨ret_bool ?_, 0, rfl⟩
    symm
    rw [decide_eq_false_iff_not]
    intro e
    exact hl (by rw [← ha.1, ← hb.1, e])

set_option maxHeartbeats 400000 in
theorem equal_any (a b : Option Addr) (na nb ca cb : Nat) (za zb : List Int) (w : World) (ha : Ints w a na za) (hb : Ints w b nb zb) :
    Calls Try.prog 223 #[.slice a na ca, .slice b nb cb] w fun e w' => e = .returned (.bool (decide (za = zb))) ∧ ∃ m, w' = w.drewN m := by
  have hla := ha.2.1
  have hlb := hb.2.1
  by_cases hl : na = nb
  · subst hl
    have hl' : ((na : Int) != (na:Int)) = false := by simp
    go_enter Try.func223, Try.ntmps223
    go_wp2
    go_loopw [13] (fun i wr => ∃ k : Nat, k ≤ na ∧ i = .int .i64 k ∧ za.take k = zb.take k ∧ ∃ m, wr = w.drewN m) (fun i _ => na - (intOf i).toNat)
    case atStart => exact ⟨0, Nat.zero_le _, rfl, rfl, 0, rfl⟩
    case round =>
      obtain ⟨k, hk, rfl, hpre, m, rfl⟩ := hrel
      have HP := Lib.hid hpre
      clear hpre
      by_cases hlt : k < na
      · obtain ⟨ba, oa, rfl, hca⟩ := ha.at_ hlt
        obtain ⟨bb, ob, rfl, hcb⟩ := hb.at_ hlt
        have h1 := ha.1
        have h2 := hb.1
        have H1 := Lib.hid h1
        have H2 := Lib.hid h2
        clear h1 h2
        by_cases he : iget za k = iget zb k
        · have he' : (iget za k != iget zb k) = false := by simp [he]
          have HE := Lib.hid he
          clear he
          go_wp2_with fail
          go_quiet (fail)
          go_wp2
          go_roundw
          case rel => exact ⟨k + 1, by omega, by go_num, by rw [take_iget (by rw [H1.out]; omega), take_iget (by rw [H2.out]; omega), HP.out, HE.out], _, rfl⟩
          case measure => simp [intOf]; omega
        · have he' : (iget za k != iget zb k) = true := by simp [he]
          have HE := Lib.hid he
          clear he
          go_wp2_with fail
          go_quiet (fail)
          go_wp2
          go_ret
          exact ⟨ret_bool (by symm; rw [decide_eq_false_iff_not]; intro e; exact HE.out (by rw [e])), _, World.drewN_drewN _ _ _⟩
      · obtain rfl : k = na := by omega
        have h1 := ha.1
        have h2 := hb.1
        have hab : za = zb := by have := HP.out; rwa [List.take_of_length_le (by omega), List.take_of_length_le (by omega)] at this
        have HA := Lib.hid hab
        clear h1 h2 hab
        go_wp2
        go_ret
        exact ⟨ret_bool (by symm; simpa using HA.out), _, rfl⟩
  · have hl' : ((na : Int) != (nb:Int)) = true := by simp; omega
    go_enter Try.func223, Try.ntmps223
    go_wp2
    go_ret
    refine ⟨ret_bool ?_, 0, rfl⟩
    symm
    rw [decide_eq_false_iff_not]
    intro e
    exact hl (by rw [← ha.1, ← hb.1, e])


theorem us_two {us : List Value} {u0 u1 : Value} (hl : us.length = 2) (g0 : us[0]? = some u0) (g1 : us[1]? = some u1) : us = [u0, u1] := by
  match us, hl with
  | [p, q], _ => simp at g0 g1; rw [g0, g1]
theorem us_one {us : List Value} {u0 : Value} (hl : us.length = 1) (g0 : us[0]? = some u0) : us = [u0] := by
  match us, hl with
  | [p], _ => simp at g0; rw [g0]
theorem eqB (a b : List Int) : decide (a = b) = (a == b) := by
  by_cases h : a = b
  · subst h; simp
  · rw [decide_eq_false h]; symm; simpa using h
/-- slices.Equal of the labels of a component and of a list -/
theorem equalM_fc (cs : List Cel) (i m n E kk : Nat) (labs list : List Int) (hi : cs[i]? = some (.r 2 1 m (ivals labs))) (hm : labs.length = m) (hn : list.length = n) (hm4 : m ≤ 1000000) (hn4 : n ≤ 1000000) :
    FC Try.prog 223 [(1000, ⟨false, E, kk, .mix cs⟩), (1001, wRo list)] [o1 (.esl 1000 i 0 m), o1 (.sl 1001 0 n)] [] (vv (.bool (labs == list))) [] :=
  fc_of_calls fun w η ω us hme ⟨hl, ha⟩ => by
    subst hm hn
    obtain ⟨u0, g0, d0⟩ := ha 0 _ rfl
    obtain ⟨u1, g1, d1⟩ := ha 1 _ rfl
    obtain ⟨ao, c, rfl, h0⟩ := rdRowM (x := 1000) hme rfl hi d0 (by omega)
    obtain ⟨ao', c', rfl, h1⟩ := rdS (x := 1001) hme rfl d1 (by omega)
    rw [us_two hl g0 g1]
    refine (equal_any ao ao' _ _ c c' labs list w h0 h1).mono ?_
    rintro e w' ⟨rfl, hq⟩
    exact ⟨ret_bool (eqB _ _), below_of_quiet hq⟩
/-- l01Same of a row and of a list -/
theorem sameR_fc (zss : List (List Int)) (i n E : Nat) (list : List Int) (hi : i < zss.length) (hn : list.length = n) (hm4 : (lget zss i).length ≤ 1000000) (hn4 : n ≤ 1000000) :
    FC Try.prog 226 [(1000, rowsRo zss), (1001, wRo list)] [o1 (.esl 1000 i 0 (lget zss i).length), o1 (.sl 1001 0 n)] [] (vv (.bool (lget zss i == list))) [] :=
  fc_of_calls fun w η ω us hme ⟨hl, ha⟩ => by
    subst hn
    obtain ⟨u0, g0, d0⟩ := ha 0 _ rfl
    obtain ⟨u1, g1, d1⟩ := ha 1 _ rfl
    obtain ⟨ao, c, rfl, h0⟩ := rdRow (x := 1000) hme rfl hi d0 (by omega)
    obtain ⟨ao', c', rfl, h1⟩ := rdS (x := 1001) hme rfl d1 (by omega)
    rw [us_two hl g0 g1]
    refine (same_any ao ao' _ _ c c' _ list w h0 h1).mono ?_
    rintro e w' ⟨rfl, hq⟩
    exact ⟨ret_bool (eqB _ _), below_of_quiet hq⟩
theorem sameS_fc (zs list : List Int) (m n : Nat) (hm : zs.length = m) (hn : list.length = n) (hm4 : m ≤ 1000000) (hn4 : n ≤ 1000000) :
    FC Try.prog 226 [(1000, wRo zs), (1001, wRo list)] [o1 (.sl 1000 0 m), o1 (.sl 1001 0 n)] [] (vv (.bool (zs == list))) [] :=
  fc_of_calls fun w η ω us hme ⟨hl, ha⟩ => by
    subst hm hn
    obtain ⟨u0, g0, d0⟩ := ha 0 _ rfl
    obtain ⟨u1, g1, d1⟩ := ha 1 _ rfl
    obtain ⟨ao, c, rfl, h0⟩ := rdS (x := 1000) hme rfl d0 (by omega)
    obtain ⟨ao', c', rfl, h1⟩ := rdS (x := 1001) hme rfl d1 (by omega)
    rw [us_two hl g0 g1]
    refine (same_any ao ao' _ _ c c' _ list w h0 h1).mono ?_
    rintro e w' ⟨rfl, hq⟩
    exact ⟨ret_bool (eqB _ _), below_of_quiet hq⟩
/-- slices.Clone of a list -/
theorem cloneS_fc (x y n : Nat) (zs : List Int) (hn : zs.length = n) (hl : n ≤ 1000000) :
    FC Try.prog 168 [(x, wRo zs)] [o1 (.sl x 0 n)] [(y, leOw zs)] (o1 (.sl y 0 n)) [] := by
  subst hn
  exact fc_of_own fun w η ω us hm ⟨hl', ha⟩ => by
    obtain ⟨u0, g0, d0⟩ := ha 0 _ rfl
    obtain ⟨ao, c, rfl, hr⟩ := rdS (x := x) (own := false) (E := 2) hm (by simp [lk]) d0 (by omega)
    rw [us_one hl' g0]
    refine (clone_any ao _ c _ w hr (by omega)).mono ?_
    rintro e w' ⟨ao', c', rfl, ho, hb⟩
    exact ⟨ao', c', rfl, ho, hb⟩
/-- l12Turned of a row -/
theorem turnedR_fc (y : Nat) (zss : List (List Int)) (i : Nat) (hi : i < zss.length) (hl : (lget zss i).length ≤ 1000000) :
    FC Try.prog 210 [(1000, rowsRo zss)] [o1 (.esl 1000 i 0 (lget zss i).length)] [(y, leOw (lget zss i).reverse)] (o1 (.sl y 0 (lget zss i).length)) [] := by
  have h := fc_of_own (P := Try.prog) (f := 210) (ins := [(1000, rowsRo zss)]) (args := [o1 (.esl 1000 i 0 (lget zss i).length)]) (x := y) (E := 2) (zs := (lget zss i).reverse) fun w η ω us hm ⟨hl', ha⟩ => by
    obtain ⟨u0, g0, d0⟩ := ha 0 _ rfl
    obtain ⟨ao, c, rfl, hr⟩ := rdRow (x := 1000) hm rfl hi d0 (by omega)
    rw [us_one hl' g0]
    refine (spec12Turned_any ao _ c _ w hr (by omega)).mono ?_
    rintro e w' ⟨ao', c', rfl, ho, hb⟩
    rw [List.length_reverse]
    exact ⟨ao', c', rfl, ho, hb⟩
  rw [List.length_reverse] at h
  exact h

set_option maxRecDepth 100000 in
theorem maxA_fc (zs : List Int) (n : Nat) (hn : zs.length = n) (hpos : 0 < n) (hn4 : n ≤ 1000000) (ha : ∀ i, i + 1 < n → iget zs i ≤ iget zs (i + 1)) :
    FC Try.prog 206 [(1005, leRo zs)] [o1 (.sl 1005 0 n)] [] (vv (I6 (iget zs (n - 1)))) [] := by
  refine fc_enter (nt := 25) Try.func206 rfl rfl (by simp) fun w0 ω0 => ?_
  have hil : n ≤ (ivals zs).length := by rw [ivals_len, hn]; exact Nat.le_refl _
  (refine goes_seq ?_; refine goes_region ?_; apply run_step rfl; (exact stp_assign rfl rfl); refine run_nil ?_; refine fin_seq ?_; refine goes_seq ?_; refine goes_seq ?_; refine goes_region ?_; apply run_step rfl; (exact stp_move rfl rfl); apply run_step rfl; (exact stp_len rfl rfl rfl (by as_aux_lemma => kernel_rfl)); apply run_step rfl; (exact stp_bin rfl rfl rfl rfl); refine run_nil ?_; refine fin_seq ?_)
  refine goes_if rfl (fun h => absurd hpos (by omega)) (fun h => ?_)
  have hg0 : (ivals zs)[0]? = some (I6 (iget zs 0)) := ivals_get (by omega)
  (refine goes_skip ?_; refine fin_seq ?_; refine goes_seq ?_; refine goes_region ?_; apply run_step rfl; (exact stp_move rfl rfl); apply run_step rfl; (exact stp_ix (j := 0) rfl rfl rfl rfl rfl (by as_aux_lemma => kernel_rfl) rfl hpos hil); apply run_step rfl; (exact stp_loadV rfl (by as_aux_lemma => kernel_rfl) rfl rfl rfl (by first | assumption | exact ivals_get (by assumption) | exact irows_get (by assumption) | exact ivals_get (by omega) | exact irows_get (by omega) | rfl)); apply run_step rfl; (exact stp_assign rfl rfl); refine run_nil ?_; refine fin_seq ?_; refine goes_seq ?_; refine goes_seq ?_; refine goes_region ?_; apply run_step rfl; (exact stp_assign rfl rfl); refine run_nil ?_; refine fin_seq ?_; refine goes_block ?_)
  refine goes_loop (fun i : Nat => St.of [(0, o1 (.sl 1005 0 n)), (3, vv (I6 (iget zs (i - 1)))), (4, vv (I6 i))] [(1005, leRo zs)]) (fun i => 1 ≤ i ∧ i ≤ n) (fun i => n - i) 1 ⟨Nat.le_refl _, hpos⟩ (Wk.of ⟨rfl, rfl, rfl, trivial⟩ ⟨rfl, trivial⟩ trivial) ?_
  rintro i ⟨hi1, hi2⟩
  (refine goes_seq ?_; refine goes_seq ?_; refine goes_region ?_; apply run_step rfl; (exact stp_move rfl rfl); apply run_step rfl; (exact stp_move rfl rfl); apply run_step rfl; (exact stp_len rfl rfl rfl (by as_aux_lemma => kernel_rfl)); apply run_step rfl; (exact stp_bin rfl rfl rfl rfl); refine run_nil ?_; refine fin_seq ?_)
  refine goes_if rfl (fun hlt => ?_) (fun hlt => ?_)
  · have hlt' : i < n := by omega
    have hgi : (ivals zs)[i]? = some (I6 (iget zs i)) := ivals_get (by omega)
    have hle : iget zs (i - 1) ≤ iget zs i := by
      have := ha (i - 1) (by omega)
      rwa [show i - 1 + 1 = i by omega] at this
    have hmx : (if iget zs i > iget zs (i - 1) then iget zs i else iget zs (i - 1)) = iget zs (i + 1 - 1) := by
      rw [Nat.add_sub_cancel]; split
      · rfl
      · omega
    (refine goes_skip ?_; refine fin_seq ?_; refine goes_seq ?_; refine goes_block ?_; refine goes_region ?_; apply run_step rfl; (exact stp_move rfl rfl); apply run_step rfl; (exact stp_move rfl rfl); apply run_step rfl; (exact stp_move rfl rfl); apply run_step rfl; (exact stp_ix (j := i) rfl rfl rfl rfl rfl (by as_aux_lemma => kernel_rfl) rfl hlt' hil); apply run_step rfl; (exact stp_loadV rfl (by as_aux_lemma => kernel_rfl) rfl rfl rfl (by first | assumption | exact ivals_get (by assumption) | exact irows_get (by assumption) | exact ivals_get (by omega) | exact irows_get (by omega) | rfl)); apply run_step rfl; (exact stp_max rfl rfl rfl); apply run_step rfl; (exact stp_assign rfl rfl); refine run_nil ?_; refine fin_block ?_; refine fin_seq ?_; refine goes_region ?_; apply run_step rfl; (exact stp_move rfl rfl); apply run_step rfl; (exact stp_add rfl rfl rfl (by first | exact IntWalk.i64_in _ (by omega) | rfl)); apply run_step rfl; (exact stp_assign rfl rfl); refine run_nil ?_)
    exact fin_round (i + 1) ⟨by omega, by omega⟩ (by omega) (Wk.of ⟨rfl, congrArg (fun z => some (vv (I6 z))) hmx, rfl, trivial⟩ ⟨rfl, trivial⟩ trivial)
  · obtain rfl : i = n := by omega
    (refine goes_exit ?_; refine fin_exit_then ?_; refine fin_exit_then ?_; refine fin_exit_eq ?_; refine fin_seq ?_; refine goes_seq ?_; refine goes_region ?_; apply run_step rfl; (exact stp_move rfl rfl); apply run_step rfl; (exact stp_assign rfl rfl); refine run_nil ?_; refine fin_seq ?_; refine goes_ret ?_)
    exact fin_ret1 (.inl rfl) rfl (.tmp rfl) trivial trivial

set_option maxRecDepth 100000 in
theorem gcd_fc (a b : Nat) (ha : a < 1000000000000) (hb : b < 1000000000000) : FC Try.prog 207 [] [vv (I6 a), vv (I6 b)] [] (vv (I6 (Nat.gcd a b))) [] := by
  refine fc_enter (nt := 12) Try.func207 rfl rfl (by simp) fun w0 ω0 => ?_
  (refine goes_seq ?_; refine goes_region ?_; apply run_step rfl; (exact stp_assign rfl rfl); refine run_nil ?_; refine fin_seq ?_; refine goes_seq ?_; refine goes_block ?_)
  refine goes_loop (fun q : Nat × Nat => St.of [(0, vv (I6 q.1)), (1, vv (I6 q.2))] []) (fun q => Nat.gcd q.1 q.2 = Nat.gcd a b ∧ q.1 < 1000000000000 ∧ q.2 < 1000000000000) (fun q => q.2) (a, b) ⟨rfl, ha, hb⟩ (Wk.of ⟨rfl, rfl, trivial⟩ trivial trivial) ?_
  rintro ⟨c, d⟩ ⟨hg, hc, hd⟩
  dsimp only at hg hc hd ⊢
  (refine goes_seq ?_; refine goes_seq ?_; refine goes_region ?_; apply run_step rfl; (exact stp_move rfl rfl); apply run_step rfl; (exact stp_bin rfl rfl rfl rfl); refine run_nil ?_; refine fin_seq ?_)
  refine goes_cond rfl (fun h => ?_) (fun h => ?_)
  · have hd0 : 0 < d := by
      have : (d : Int) ≠ 0 := by simpa using h
      omega
    have hlt := Nat.mod_lt c hd0
    have hg' : Nat.gcd d (c % d) = Nat.gcd a b := by rw [← hg, Nat.gcd_comm c d, Nat.gcd_rec d c, Nat.gcd_comm]
    (refine goes_skip ?_; refine fin_seq ?_; refine goes_block ?_)
    apply goes_drawL 4 [] [2, 3] [[], [], [], [1, 2], [0, 1], [0, 1, 2, 3, 4]] [7, 8, 9, 10] [] (by kernel_rfl) (by kernel_rfl) (by kernel_rfl)
    · (apply draw_put rfl; (intro S1 hS; exact stp_move rfl (hS.op rfl)); apply draw_put rfl; (intro S1 hS; exact stp_move rfl (hS.op rfl)); apply draw_put rfl; (intro S1 hS; exact stp_move rfl (hS.op rfl)); (apply draw_put rfl; (focus (intro S1 hS; exact stp_remN rfl (hS.op rfl) (hS.op rfl) hd0 hc))); exact Draw.nil)
    · rfl
    refine ⟨⟨?_, ?_⟩, ?_, ?_⟩
    · refine rest_join (St.of [(0, vv (I6 d)), (1, vv (I6 (c % d : Nat)))] []) ?_ ?_
      · ((apply rest_one 4 rfl (by as_aux_lemma => kernel_rfl) rfl rfl; (exact stp_assign rfl rfl)); (apply rest_one 5 rfl (by as_aux_lemma => kernel_rfl) rfl rfl; (exact stp_assign rfl rfl)); (refine rest_done (by as_aux_lemma => kernel_rfl) ?_; exact fin_join (Wk.of ⟨rfl, rfl, trivial⟩ trivial trivial)))
      · (refine fin_block ?_)
        exact fin_round (d, c % d) ⟨hg', hd, by dsimp only; omega⟩ hlt (Wk.of ⟨rfl, rfl, trivial⟩ trivial trivial)
    · refine rest_join (St.of [(0, vv (I6 d)), (1, vv (I6 (c % d : Nat)))] []) ?_ ?_
      · ((apply rest_two 3 4 rfl (by as_aux_lemma => kernel_rfl) rfl rfl rfl rfl; (exact stp_remN rfl rfl rfl hd0 hc); (exact stp_assign rfl rfl); (focus ((apply rest_one 4 rfl (by as_aux_lemma => kernel_rfl) rfl rfl; (exact stp_assign rfl rfl)); (apply rest_one 5 rfl (by as_aux_lemma => kernel_rfl) rfl rfl; (exact stp_assign rfl rfl)); (refine rest_done (by as_aux_lemma => kernel_rfl) ?_; exact fin_join (Wk.of ⟨rfl, rfl, trivial⟩ trivial trivial)))); (focus ((apply rest_one 3 rfl (by as_aux_lemma => kernel_rfl) rfl rfl; (exact stp_remN rfl rfl rfl hd0 hc)); (apply rest_one 5 rfl (by as_aux_lemma => kernel_rfl) rfl rfl; (exact stp_assign rfl rfl)); (refine rest_done (by as_aux_lemma => kernel_rfl) ?_; exact fin_join (Wk.of ⟨rfl, rfl, trivial⟩ trivial trivial))))))
      · (refine fin_block ?_)
        exact fin_round (d, c % d) ⟨hg', hd, by dsimp only; omega⟩ hlt (Wk.of ⟨rfl, rfl, trivial⟩ trivial trivial)
    · refine rest_join (St.of [(0, vv (I6 d)), (1, vv (I6 (c % d : Nat)))] []) ?_ ?_
      · ((apply rest_two 2 4 rfl (by as_aux_lemma => kernel_rfl) rfl rfl rfl rfl; (exact stp_move rfl rfl); (exact stp_assign rfl rfl); (focus ((apply rest_one 4 rfl (by as_aux_lemma => kernel_rfl) rfl rfl; (exact stp_assign rfl rfl)); (apply rest_one 5 rfl (by as_aux_lemma => kernel_rfl) rfl rfl; (exact stp_assign rfl rfl)); (refine rest_done (by as_aux_lemma => kernel_rfl) ?_; exact fin_join (Wk.of ⟨rfl, rfl, trivial⟩ trivial trivial)))); (focus ((apply rest_one 2 rfl (by as_aux_lemma => kernel_rfl) rfl rfl; (exact stp_move rfl rfl)); (apply rest_one 5 rfl (by as_aux_lemma => kernel_rfl) rfl rfl; (exact stp_assign rfl rfl)); (refine rest_done (by as_aux_lemma => kernel_rfl) ?_; exact fin_join (Wk.of ⟨rfl, rfl, trivial⟩ trivial trivial))))))
      · (refine fin_block ?_)
        exact fin_round (d, c % d) ⟨hg', hd, by dsimp only; omega⟩ hlt (Wk.of ⟨rfl, rfl, trivial⟩ trivial trivial)
    · refine rest_join (St.of [(0, vv (I6 d)), (1, vv (I6 (c % d : Nat)))] []) ?_ ?_
      · ((apply rest_two 2 4 rfl (by as_aux_lemma => kernel_rfl) rfl rfl rfl rfl; (exact stp_move rfl rfl); (exact stp_assign rfl rfl); (focus ((apply rest_two 3 4 rfl (by as_aux_lemma => kernel_rfl) rfl rfl rfl rfl; (exact stp_remN rfl rfl rfl hd0 hc); (exact stp_assign rfl rfl); (focus ((apply rest_one 4 rfl (by as_aux_lemma => kernel_rfl) rfl rfl; (exact stp_assign rfl rfl)); (apply rest_one 5 rfl (by as_aux_lemma => kernel_rfl) rfl rfl; (exact stp_assign rfl rfl)); (refine rest_done (by as_aux_lemma => kernel_rfl) ?_; exact fin_join (Wk.of ⟨rfl, rfl, trivial⟩ trivial trivial)))); (focus ((apply rest_one 3 rfl (by as_aux_lemma => kernel_rfl) rfl rfl; (exact stp_remN rfl rfl rfl hd0 hc)); (apply rest_one 5 rfl (by as_aux_lemma => kernel_rfl) rfl rfl; (exact stp_assign rfl rfl)); (refine rest_done (by as_aux_lemma => kernel_rfl) ?_; exact fin_join (Wk.of ⟨rfl, rfl, trivial⟩ trivial trivial))))))); (focus ((apply rest_one 2 rfl (by as_aux_lemma => kernel_rfl) rfl rfl; (exact stp_move rfl rfl)); (apply rest_one 3 rfl (by as_aux_lemma => kernel_rfl) rfl rfl; (exact stp_remN rfl rfl rfl hd0 hc)); (apply rest_one 5 rfl (by as_aux_lemma => kernel_rfl) rfl rfl; (exact stp_assign rfl rfl)); (refine rest_done (by as_aux_lemma => kernel_rfl) ?_; exact fin_join (Wk.of ⟨rfl, rfl, trivial⟩ trivial trivial))))))
      · (refine fin_block ?_)
        exact fin_round (d, c % d) ⟨hg', hd, by dsimp only; omega⟩ hlt (Wk.of ⟨rfl, rfl, trivial⟩ trivial trivial)
  · have hd0 : d = 0 := by
      have : (d : Int) = 0 := by simpa using h
      omega
    subst hd0
    rw [← hg, Nat.gcd_zero_right]
    (refine goes_exit ?_; refine fin_exit_then ?_; refine fin_exit_then ?_; refine fin_exit_eq ?_; refine fin_seq ?_; refine goes_seq ?_; refine goes_region ?_; apply run_step rfl; (exact stp_move rfl rfl); apply run_step rfl; (exact stp_assign rfl rfl); refine run_nil ?_; refine fin_seq ?_; refine goes_ret ?_)
    exact fin_ret1 (.inl rfl) rfl (.tmp rfl) trivial trivial
end Go.Proofs.Ytnfkhgamnapgmaa

/- A memory of names: a vector takes another name; an append of nothing. No program in sight. -/
namespace Go.Proofs.Ytnfkhgamnapgmaa
open Go.RowKit

section
variable {P : Program} {nt : Nat} {S : St} {t : Nat} {ty : TypeId} {ps : String} {af : Array Edge} {gd : Option (Nat × Bool)} {x y : Operand}
theorem wk_ren {x y : Nm} {s E k m : Nat} {vs : List Value} (hc : S.ch x = some ⟨true, E, k, .vals vs⟩) (hs0 : S.sl s = some (o1 (.sl x 0 m))) :
    Wk S (((S.rm x).new y ⟨true, E, k, .vals vs⟩).put s (o1 (.sl y 0 m))) := by
  refine ⟨fun w0 ω0 nt a w ⟨η, ω, h⟩ => ?_⟩
  obtain ⟨u, hu, hdu⟩ := h.slots s _ hs0
  have hdu : Den1 η (.sl x 0 m) u := hdu
  obtain ⟨hd, e1, e2, e3⟩ := h.chunk hc
  have e3 : VecO ω w (x, none) hd E vs.length (cellsOK η ω w true x (.vals vs)) := e3
  obtain ⟨ao, rfl, q1, _⟩ := hdu.2 hd e1
  let ω' : Own? := fun b => if ω b = some (x, none) then some (y, none) else ω b
  have calm : Calm (S.rm x) ω w ω' w := ⟨rfl, rfl, rfl, Nat.le_refl _, fun b _ hl => ⟨rfl, by
    have h1 : ω b ≠ some (x, none) := by
      rcases hl with h0 | ⟨y, j, c, h0, h1⟩
      · rw [h0]; simp
      · rw [h0]; intro e; simp at e; rw [e.1, ch_rm, if_pos rfl] at h1; cases h1
    exact if_neg h1⟩⟩
  have h2 := (h.drop x).lay (x := y) (c := ⟨true, E, k, .vals vs⟩) (hd := hd) (r := fun _ => ⟨none, 0, 1⟩) calm ⟨e2, by
    show VecO ω' w (y, none) hd E vs.length _
    rcases e3 with h0 | ⟨b, o, cs, f1, f2, f3, f4, f5, f6, f7⟩
    · exact .inl h0
    · exact .inr ⟨b, o, cs, f1, if_pos f2, f3, f4, f5, f6, f7⟩⟩
  refine ⟨_, ω', { h2 with slots := fun t' av ht' => ?_ }⟩
  rw [sl_put] at ht'
  by_cases e : t' = s
  · subst e
    rw [if_pos rfl] at ht'
    obtain rfl := Option.some.inj ht'
    refine ⟨_, hu, ⟨_, _, rfl⟩, fun hd' he => ?_⟩
    simp [Env.new] at he
    subst he
    exact ⟨_, rfl, fun _ => q1 rfl, fun h0 => absurd h0 (by omega)⟩
  · rw [if_neg e] at ht'
    exact h2.slots t' av ht'
/-- an append of nothing -/
theorem stp_app0 {T E n q off len : Nat} {c : Ch} {zs : List Int} (ht : Nat.blt t nt = true) (hT : elZ P T E 1 = true) (hx : S.op x = some (o1 (.sl n 0 len))) (hc : S.ch n = some c) (hce : c = ⟨true, E, 1, .vals (ivals zs)⟩) (hl : zs.length = len) (hy : S.op y = some (o1 (.sl q off 0))) :
    Stp P nt ⟨some t, .call { callee := .builtin .append, args := #[x, y], argTypes := #[T, T] }, ty, ps, af, gd⟩ S (S.put t (o1 (.sl n 0 len))) :=
  Stp.pure rfl ht fun w0 ω0 η ω a w hs => by
    subst hce hl
    obtain ⟨hd, e1, e2, e3⟩ := hs.chunk hc
    have e2 : hd.k = 1 := e2
    have e3 : VecO ω w (n, none) hd E (ivals zs).length (cellsOK η ω w true n (.vals (ivals zs))) := e3
    have hu : Den1 η (.sl n 0 zs.length) (a.eval x) := hs.opv hx
    obtain ⟨ao, hev, _, _⟩ := hu.2 hd e1
    rw [Nat.sub_zero] at hev
    have hroom : zs.length ≤ hd.c := by
      rcases e3 with ⟨_, _, h3⟩ | ⟨b, o, cs, f1, f2, f3, f4, f5, f6, f7⟩
      · rw [ivals_len] at h3; omega
      · rw [ivals_len, e2] at f5; omega
    obtain ⟨⟨ay, cy, hey⟩, _⟩ : Den1 η (.sl q off 0) (a.eval y) := hs.opv hy
    obtain ⟨i, z, g1, g2, g3, g4, g5, g6⟩ := elZ_spec hT
    refine ⟨.slice ao zs.length hd.c, ?_, by rw [← hev]; exact hu⟩
    cases ay <;> cases ao <;> simp [execOp, resolve, invoke, builtin, hev, hey, Builtin.append_, run_underlying g1, sizeOf, typeInfo, g2, Builtin.lenOf, hroom, Builtin.firstCells, loadCells, loadCellsFrom, storeCells]
end
end Go.Proofs.Ytnfkhgamnapgmaa

/- A memory of names: a literal of three rows; the other one of a pair (x ^ 1). No program in sight. -/
namespace Go.Proofs.Ytnfkhgamnapgmaa
open Go.RowKit

section
variable {P : Program} {nt : Nat} {S : St} {t : Nat} {ty : TypeId} {ps : String} {af : Array Edge} {gd : Option (Nat × Bool)} {x y : Operand}
theorem stp_lit3R {T E F z0 z1 z2 m0 m1 m2 : Nat} {x0 x1 x2 : Operand} {v0 v1 v2 : List Value} (ht : Nat.blt t nt = true) (hT : elZ P T E 1 = true) (hx0 : S.op x0 = some (o1 (.sl z0 0 m0))) (hx1 : S.op x1 = some (o1 (.sl z1 0 m1))) (hx2 : S.op x2 = some (o1 (.sl z2 0 m2)))
    (hz0 : S.ch z0 = some ⟨true, F, 1, .vals v0⟩) (hz1 : S.ch z1 = some ⟨true, F, 1, .vals v1⟩) (hz2 : S.ch z2 = some ⟨true, F, 1, .vals v2⟩) (hm0 : v0.length = m0) (hm1 : v1.length = m1) (hm2 : v2.length = m2) (h01 : Nat.beq z0 z1 = false) (h02 : Nat.beq z0 z2 = false) (h12 : Nat.beq z1 z2 = false) (hzt : (!(Nat.beq z0 t) && (!(Nat.beq z1 t) && !(Nat.beq z2 t))) = true) :
    Stp P nt ⟨some t, .buildSlice T 3 #[(0, x0), (1, x1), (2, x2)], ty, ps, af, gd⟩ S (((((S.rm z0).rm z1).rm z2).new t ⟨true, E, 1, .rows F [v0, v1, v2] []⟩).put t (o1 (.sl t 0 3))) :=
  Stp.of _ fun w0 ω0 η ω a w hs => by
    have n01 : z0 ≠ z1 := fun e => by rw [e] at h01; simp at h01
    have n02 : z0 ≠ z2 := fun e => by rw [e] at h02; simp at h02
    have n12 : z1 ≠ z2 := fun e => by rw [e] at h12; simp at h12
    subst hm0 hm1 hm2
    obtain ⟨i, zz, k1, k2, k3, k4, k5, k6⟩ := elZ_spec hT
    have d0 : Den1 η (.sl z0 0 v0.length) (a.eval x0) := hs.opv hx0
    have d1 : Den1 η (.sl z1 0 v1.length) (a.eval x1) := hs.opv hx1
    have d2 : Den1 η (.sl z2 0 v2.length) (a.eval x2) := hs.opv hx2
    have o0 : (a.eval x0).oneCell' = true := d0.one fun v hv => by cases hv
    have o1' : (a.eval x1).oneCell' = true := d1.one fun v hv => by cases hv
    have o2 : (a.eval x2).oneCell' = true := d2.one fun v hv => by cases hv
    obtain ⟨e0, p0, q0, r0⟩ := hs.chunk hz0
    obtain ⟨e1, p1, q1, r1⟩ := hs.chunk hz1
    obtain ⟨e2, p2, q2, r2⟩ := hs.chunk hz2
    have q0 : e0.k = 1 := q0
    have q1 : e1.k = 1 := q1
    have q2 : e2.k = 1 := q2
    have r0 : VecO ω w (z0, none) e0 F v0.length (cellsOK η ω w true z0 (.vals v0)) := r0
    have r1 : VecO ω w (z1, none) e1 F v1.length (cellsOK η ω w true z1 (.vals v1)) := r1
    have r2 : VecO ω w (z2, none) e2 F v2.length (cellsOK η ω w true z2 (.vals v2)) := r2
    obtain ⟨a0, ha0, s0, _⟩ := d0.2 e0 p0
    obtain ⟨a1, ha1, s1, _⟩ := d1.2 e1 p1
    obtain ⟨a2, ha2, s2, _⟩ := d2.2 e2 p2
    refine ⟨.slice (some ⟨w.heap.size, 0, none⟩) 3 3, w.alloc (.cells #[a.eval x0, a.eval x1, a.eval x2] E), ?_, ?_⟩
    · simp [execOp, Instr.buildSlice, run_underlying k1, sizeOf, typeInfo, k2, k3, zeroValue, k5, Instr.fill, newRow, cells_one o0, cells_one o1', cells_one o2, range3]
    · let ω' : Own? := fun b => if b = w.heap.size then some (t, none) else if ω b = some (z0, none) then some (t, some 0) else if ω b = some (z1, none) then some (t, some 1) else if ω b = some (z2, none) then some (t, some 2) else ω b
      have g0 : ∀ b, b < w.heap.size → ω b = some (z0, none) → ω' b = some (t, some 0) := fun b hb h => by simp only [ω', if_neg (Nat.ne_of_lt hb), h, if_true]
      have g1 : ∀ b, b < w.heap.size → ω b = some (z1, none) → ω' b = some (t, some 1) := fun b hb h => by
        simp only [ω', if_neg (Nat.ne_of_lt hb), h]
        rw [if_neg (by simp; exact fun e => n01 e.symm)]; simp
      have g2 : ∀ b, b < w.heap.size → ω b = some (z2, none) → ω' b = some (t, some 2) := fun b hb h => by
        simp only [ω', if_neg (Nat.ne_of_lt hb), h]
        rw [if_neg (by simp; exact fun e => n02 e.symm), if_neg (by simp; exact fun e => n12 e.symm)]; simp
      have calm : Calm (((S.rm z0).rm z1).rm z2) ω w ω' (w.alloc (.cells #[a.eval x0, a.eval x1, a.eval x2] E)) := ⟨rfl, rfl, rfl, by simp, fun b hb hl => by
        refine ⟨Below.heap_alloc w _ b hb, ?_⟩
        have hne : ∀ z, (((S.rm z0).rm z1).rm z2).ch z = none → ω b ≠ some (z, none) := fun z hz => by
          rcases hl with h0 | ⟨y, j, c, h0, h1⟩
          · rw [h0]; simp
          · rw [h0]
            intro e
            simp at e; rw [e.1, hz] at h1; cases h1
        have c0 : (((S.rm z0).rm z1).rm z2).ch z0 = none := by simp [ch_rm]
        have c1 : (((S.rm z0).rm z1).rm z2).ch z1 = none := by simp [ch_rm]
        have c2 : (((S.rm z0).rm z1).rm z2).ch z2 = none := by simp [ch_rm]
        simp only [ω', if_neg (Nat.ne_of_lt hb), if_neg (hne _ c0), if_neg (hne _ c1), if_neg (hne _ c2)]⟩
      let R : Nat → Hd := fun j => if j = 0 then e0 else if j = 1 then e1 else e2
      have key : ChIs ((((η.drop z0).drop z1).drop z2).new t ⟨some ⟨w.heap.size, 0, none⟩, 3, 1⟩ R) ω' (w.alloc (.cells #[a.eval x0, a.eval x1, a.eval x2] E)) t ⟨some ⟨w.heap.size, 0, none⟩, 3, 1⟩ ⟨true, E, 1, .rows F [v0, v1, v2] []⟩ := by
        refine ⟨rfl, .inr ⟨w.heap.size, 0, _, rfl, by simp only [ω', if_true], heap_alloc_new w _, ⟨rfl, rfl⟩, by simp [Dat.len], by simp [maxLen], fun j hj => ?_⟩⟩
        match j, hj with
        | 0, _ =>
          refine ⟨a.eval x0, by simp, o0, fun _ vs' hvs' => ?_⟩
          simp at hvs'; subst hvs'
          have hr : ((((η.drop z0).drop z1).drop z2).new t ⟨some ⟨w.heap.size, 0, none⟩, 3, 1⟩ R).r t 0 = e0 := by simp [Env.new, R]
          rw [hr]
          exact ⟨by rw [ha0, s0 rfl, Nat.sub_zero], q0, VecO.give r0 fun b hb hob => ⟨Below.heap_alloc w _ b hb, g0 b hb hob⟩⟩
        | 1, _ =>
          refine ⟨a.eval x1, by simp, o1', fun _ vs' hvs' => ?_⟩
          simp at hvs'; subst hvs'
          have hr : ((((η.drop z0).drop z1).drop z2).new t ⟨some ⟨w.heap.size, 0, none⟩, 3, 1⟩ R).r t 1 = e1 := by simp [Env.new, R]
          rw [hr]
          exact ⟨by rw [ha1, s1 rfl, Nat.sub_zero], q1, VecO.give r1 fun b hb hob => ⟨Below.heap_alloc w _ b hb, g1 b hb hob⟩⟩
        | 2, _ =>
          refine ⟨a.eval x2, by simp, o2, fun _ vs' hvs' => ?_⟩
          simp at hvs'; subst hvs'
          have hr : ((((η.drop z0).drop z1).drop z2).new t ⟨some ⟨w.heap.size, 0, none⟩, 3, 1⟩ R).r t 2 = e2 := by simp [Env.new, R]
          rw [hr]
          exact ⟨by rw [ha2, s2 rfl, Nat.sub_zero], q2, VecO.give r2 fun b hb hob => ⟨Below.heap_alloc w _ b hb, g2 b hb hob⟩⟩
        | j + 3, hj => exact absurd hj (by simp [Dat.len])
      exact ⟨_, _, ((((hs.drop z0).drop z1).drop z2).lay calm key).putV (by simpa using ht) den_newsl⟩
end
end Go.Proofs.Ytnfkhgamnapgmaa

/- The map of a rotation, on lists; rotations in names. -/
namespace Go.Proofs.Ytnfkhgamnapgmaa
open Go.RowKit

/-- the dart on the other side -/
def othN (d : Nat) : Nat := if d % 2 = 0 then d + 1 else d - 1
structure Tab where
  a : List Int
  b : List Int
  c : List Int
def rStep (rot : List Int) (T : Tab) (d : Nat) : Tab :=
  { a := (T.a.set (2 * d) ((2 * othN d + 1 : Nat) : Int)).set (2 * d + 1) ((2 * othN d : Nat) : Int)
    b := (T.b.set (2 * d) (2 * iget rot d + 1)).set (2 * (iget rot d).toNat + 1) ((2 * d : Nat) : Int)
    c := (T.c.set (2 * d) ((2 * d + 1 : Nat) : Int)).set (2 * d + 1) ((2 * d : Nat) : Int) }
def rTab (rot : List Int) : Nat → Tab
  | 0 => ⟨List.replicate (2 * rot.length) 0, List.replicate (2 * rot.length) 0, List.replicate (2 * rot.length) 0⟩
  | d + 1 => rStep rot (rTab rot d) d
theorem rTab_len (rot : List Int) : ∀ d, (rTab rot d).a.length = 2 * rot.length ∧ (rTab rot d).b.length = 2 * rot.length ∧ (rTab rot d).c.length = 2 * rot.length
  | 0 => by simp [rTab]
  | d + 1 => by
    have ih := rTab_len rot d
    simp [rTab, rStep, ih]
def Tab.rows (T : Tab) : List (List Int) := [T.a, T.b, T.c]
/-- the moves -/
def morL (rot : List Int) : List (List Int) := (rTab rot rot.length).rows
noncomputable def morR (rot : List Int) : List (List Int) := if isRot rot = true ∧ manB (morL rot) = true then morL rot else []
noncomputable def morC (rot : List Int) : Int := if isRot rot = true then (if manB (morL rot) = true then 0 else 5) else 1
theorem rotI_fc (zs : List Int) (L : Nat) (hL : zs.length = L) (hn : L ≤ 4398046511104) : FC Try.prog 67 [(1003, wRo zs)] [o1 (.sl 1003 0 L)] [] (vv (.bool (isRot zs))) [] :=
  fc_of_calls fun w η ω us hm ⟨hl, ha⟩ => by
    subst hL
    obtain ⟨u0, g0, d0⟩ := ha 0 _ rfl
    obtain ⟨ao, c, rfl, hI⟩ := rdS (x := 1003) hm rfl d0 (by omega)
    rw [us_one hl g0]
    exact isRotation_any ao _ c _ w hI
theorem rotS_fc (zs : List Int) (L : Nat) (hL : zs.length = L) (hn : L ≤ 4398046511104) : FC Try.prog 65 [(1003, wRo zs)] [o1 (.sl 1003 0 L)] [] (vv (.bool (isRot zs))) [] :=
  fc_of_calls fun w η ω us hm ⟨hl, ha⟩ => by
    subst hL
    obtain ⟨u0, g0, d0⟩ := ha 0 _ rfl
    obtain ⟨ao, c, rfl, hI⟩ := rdS (x := 1003) hm rfl d0 (by omega)
    rw [us_one hl g0]
    exact specIsRotation_any ao _ c _ w hI
theorem isRot_facts {zs : List Int} (h : isRot zs = true) : 2 ≤ zs.length ∧ zs.length % 2 = 0 ∧ zs.length ≤ 200 ∧ isPerm zs = true := by
  unfold isRot at h; simp at h; exact ⟨by omega, by omega, by omega, h.2⟩
end Go.Proofs.Ytnfkhgamnapgmaa

/- A memory of names: a struct of one slice. No program in sight. -/
namespace Go.Proofs.Ytnfkhgamnapgmaa
open Go.RowKit

section
variable {P : Program} {nt : Nat} {S : St} {t : Nat} {ty : TypeId} {ps : String} {af : Array Edge} {gd : Option (Nat × Bool)}
/-- a struct of one slice -/
theorem stp_buildS1 {T : TypeId} {x0 : Operand} {b0 : A1} {n0 : Nat} (ht : Nat.blt t nt = true) (hx0 : S.op x0 = some (o1 b0)) (hl0 : b0.len = some n0)
    (hb : ∀ ao n c, P.built T [(0, .slice ao n c)] = some #[.slice ao n c]) :
    Stp P nt ⟨some t, .build T #[(0, x0)], ty, ps, af, gd⟩ S (S.put t (.s (.agg [b0]))) :=
  Stp.of _ fun w0 ω0 η ω a w hs => by
    have d0 : Den1 η b0 (a.eval x0) := hs.opv hx0
    obtain ⟨ao, c, e0⟩ := d0.len_ hl0
    refine ⟨.agg #[a.eval x0], w, ?_, η, ω, hs.putV (by simpa using ht) (⟨_, rfl, by simp, fun j b hb => ?_⟩ : Den2 η (.agg [b0]) _)⟩
    · simp only [execOp]
      have := run_build w T #[(0, .slice ao n0 c)] _ (hb ao n0 c)
      simp [e0, this]
    · match j, hb with
      | 0, hb => simp at hb; subst hb; exact ⟨_, by simp, d0⟩
      | j + 1, hb => simp at hb
end
end Go.Proofs.Ytnfkhgamnapgmaa
