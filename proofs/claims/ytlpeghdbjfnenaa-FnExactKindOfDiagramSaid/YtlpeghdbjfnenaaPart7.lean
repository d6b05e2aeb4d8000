/- The degrees of a component, the program's: isEither, degreesOf, isAffine. guards: -/
import Derived.Test.YtlpeghdbjfnenaaPart6
import Derived.Test.YtlpeghdbjfnenaaPart4
import Derived.Test.YtlpeghdbjfnenaaPart3
import Derived.Test.YtlpeghdbjfnenaaPart1
namespace Go.Proofs.Ytlpeghdbjfnenaa
open Go.RowKit

abbrev cA (mv : Int) (i m : Nat) : AV := .s (.agg [.val (I6 mv), .esl 1000 i 0 m])
abbrev cxRo (cs : List Cel) : Ch := ⟨false, 67, 2, .mix cs⟩
set_option maxRecDepth 100000 in
set_option maxHeartbeats 1000000 in
theorem either_fc (cs : List Cel) (mv : Int) (i m n : Nat) (labs list : List Int) (hi : cs[i]? = some (.r 2 1 m (ivals labs))) (hm : labs.length = m) (hn : list.length = n) (hm4 : m ≤ 1000000) (hn4 : n ≤ 1000000) :
    FC Try.prog 107 [(1000, cxRo cs), (1001, wRo list)] [cA mv i m, o1 (.sl 1001 0 n)] [] (vv (.bool (eith labs list))) [] := by
  have hC := cloneS_fc 1001 7 n list hn hn4
  have hE := equalM_fc cs i m n 67 2 labs list hi hm hn hm4 hn4
  have hE2 := (equalM_fc cs i m n 67 2 labs list.reverse hi hm (by simpa using hn) hm4 hn4).nm [(1000, 1000), (1001, 7)] (by kernel_rfl)
  have hE2 : FC Try.prog 109 [(1000, cxRo cs), (7, wRo list.reverse)] [o1 (.esl 1000 i 0 m), o1 (.sl 7 0 n)] [] (vv (.bool (labs == list.reverse))) [] := hE2
  have hRv : ∀ ao c (w : World), Own w 0 2 ao n c (ivals list) → Calls Try.prog 135 #[.slice ao n c] w fun e w' => e = .returned (.tuple #[]) ∧ Own w' 0 2 ao n c (ivals list.reverse) ∧ w.grownBy w' (bk ao) := fun ao c w h => reverse_any ao n c list w 0 h
  have hrl : list.reverse.length = n := by simpa using hn
  refine fc_enter (nt := 20) Try.func107 rfl rfl (by simp) fun w0 ω0 => ?_
  (refine goes_seq ?_; refine goes_region ?_; apply run_step rfl; (exact stp_box rfl rfl rfl rfl); apply run_step rfl; (exact stp_assign rfl rfl); refine run_nil ?_; refine fin_seq ?_; refine goes_seq ?_; refine goes_region ?_; apply run_step rfl; (exact stp_move rfl rfl); apply run_step rfl; (first | (apply call_gate 117; exact stp_callN hC (by as_aux_lemma => kernel_rfl) rfl rfl ⟨rfl, trivial⟩ ⟨⟨_, rfl, .inl rfl⟩, trivial⟩ rfl rfl rfl) | (apply call_gate 135; exact stp_turn (zs := list) rfl (by as_aux_lemma => kernel_rfl) rfl rfl hn hrl (by omega) hRv) | (apply call_gate 109; exact stp_callR hE (by as_aux_lemma => kernel_rfl) rfl rfl ⟨rfl, rfl, trivial⟩ ⟨⟨_, rfl, .inl rfl⟩, ⟨_, rfl, .inl rfl⟩, trivial⟩ rfl rfl)); apply run_step rfl; (exact stp_assign rfl rfl); refine run_nil ?_; refine fin_seq ?_; refine goes_seq ?_; refine goes_region ?_; apply run_step rfl; (exact stp_move rfl rfl); apply run_step rfl; (first | (apply call_gate 117; exact stp_callN hC (by as_aux_lemma => kernel_rfl) rfl rfl ⟨rfl, trivial⟩ ⟨⟨_, rfl, .inl rfl⟩, trivial⟩ rfl rfl rfl) | (apply call_gate 135; exact stp_turn (zs := list) rfl (by as_aux_lemma => kernel_rfl) rfl rfl hn hrl (by omega) hRv) | (apply call_gate 109; exact stp_callR hE (by as_aux_lemma => kernel_rfl) rfl rfl ⟨rfl, rfl, trivial⟩ ⟨⟨_, rfl, .inl rfl⟩, ⟨_, rfl, .inl rfl⟩, trivial⟩ rfl rfl)); refine run_nil ?_; refine fin_seq ?_; refine goes_seq ?_; refine goes_region ?_; apply run_step rfl; (exact stp_fieldAddr (d := 1) rfl rfl rfl (by as_aux_lemma => kernel_rfl)); apply run_step rfl; (exact stp_loadF rfl (by as_aux_lemma => kernel_rfl) rfl rfl rfl rfl); apply run_step rfl; (exact stp_move rfl rfl); apply run_step rfl; (first | (apply call_gate 117; exact stp_callN hC (by as_aux_lemma => kernel_rfl) rfl rfl ⟨rfl, trivial⟩ ⟨⟨_, rfl, .inl rfl⟩, trivial⟩ rfl rfl rfl) | (apply call_gate 135; exact stp_turn (zs := list) rfl (by as_aux_lemma => kernel_rfl) rfl rfl hn hrl (by omega) hRv) | (apply call_gate 109; exact stp_callR hE (by as_aux_lemma => kernel_rfl) rfl rfl ⟨rfl, rfl, trivial⟩ ⟨⟨_, rfl, .inl rfl⟩, ⟨_, rfl, .inl rfl⟩, trivial⟩ rfl rfl)); apply run_step rfl; (exact stp_move rfl rfl))
  refine run_bool 14 rfl (fun h1 => ?_) (fun h1 => ?_)
  · have hv : eith labs list = true := by unfold eith; rw [h1]; rfl
    rw [hv]
    (apply run_gNo rfl rfl rfl rfl rfl; apply run_gNo rfl rfl rfl rfl rfl; apply run_gNo rfl rfl rfl rfl rfl; apply run_gNo rfl rfl rfl rfl rfl; apply run_step rfl; (exact stp_pickT rfl rfl rfl); apply run_step rfl; (exact stp_assign rfl rfl); refine run_nil ?_; refine fin_seq ?_; refine goes_ret ?_)
    exact fin_ret1 (.inl rfl) rfl (.tmp rfl) trivial trivial
  · have hv : eith labs list = (labs == list.reverse) := by unfold eith; rw [h1]; rfl
    rw [hv]
    (apply run_gYes rfl rfl rfl; (exact stp_fieldAddr (d := 1) rfl rfl rfl (by as_aux_lemma => kernel_rfl)); apply run_gYes rfl rfl rfl; (exact stp_loadF rfl (by as_aux_lemma => kernel_rfl) rfl rfl rfl rfl); apply run_gYes rfl rfl rfl; (exact stp_move rfl rfl); apply run_gYes rfl rfl rfl; (apply call_gate 109; exact stp_callR hE2 (by as_aux_lemma => kernel_rfl) rfl rfl ⟨rfl, rfl, trivial⟩ ⟨⟨_, rfl, .inl rfl⟩, ⟨_, rfl, .inr rfl⟩, trivial⟩ rfl rfl); apply run_step rfl; (exact stp_pickF rfl rfl rfl); apply run_step rfl; (exact stp_assign rfl rfl); refine run_nil ?_; refine fin_seq ?_; refine goes_ret ?_)
    exact fin_ret1 (.inl rfl) rfl (.tmp rfl) trivial trivial
set_option maxRecDepth 100000 in
set_option maxHeartbeats 2000000 in
theorem deg0_fc (cs : List Cel) (mv : Int) (i m : Nat) (labs : List Int) (hi : cs[i]? = some (.r 2 1 m (ivals labs))) (hm : labs.length = m) (hm4 : m ≤ 4) (h0 : m = 0) :
    FC Try.prog 65 [(1000, cxRo cs)] [cA mv i m] [(15, leOw [2])] (o1 (.sl 15 0 1)) [] := by
  have hSz := sizeE_fc 1000 i m
  refine fc_enter (nt := 75) Try.func65 rfl rfl (by simp) fun w0 ω0 => ?_
  have hw1 : IntKind.i64.wrap ((m : Int) + 1) = (m : Int) + 1 := IntWalk.i64_in _ (by omega)
  (refine goes_seq ?_; refine goes_region ?_; apply run_step rfl; (exact stp_box rfl rfl rfl rfl); apply run_step rfl; (exact stp_assign rfl rfl); refine run_nil ?_; refine fin_seq ?_; refine goes_seq ?_; refine goes_region ?_; apply run_step rfl; (exact stp_fieldAddr (d := 1) rfl rfl rfl (by as_aux_lemma => kernel_rfl)); apply run_step rfl; (exact stp_loadF rfl (by as_aux_lemma => kernel_rfl) rfl rfl rfl rfl); apply run_step rfl; (first | (apply call_gate 88; exact stp_callR hSz (by as_aux_lemma => kernel_rfl) rfl rfl ⟨rfl, trivial⟩ trivial rfl rfl) | exact stp_add rfl rfl rfl hw1); apply run_step rfl; (first | (apply call_gate 88; exact stp_callR hSz (by as_aux_lemma => kernel_rfl) rfl rfl ⟨rfl, trivial⟩ trivial rfl rfl) | exact stp_add rfl rfl rfl hw1); apply run_step rfl; (exact stp_assign rfl rfl); refine run_nil ?_; refine fin_seq ?_; refine goes_seq ?_; refine goes_block ?_; refine goes_seq ?_; refine goes_region ?_; apply run_step rfl; (exact stp_move rfl rfl); apply run_step rfl; (exact stp_bin rfl rfl rfl rfl); apply run_step rfl; (exact stp_assign rfl rfl); refine run_nil ?_; refine fin_seq ?_)
  refine goes_cond rfl (fun _ => ?_) (fun e => ?_)
  · (refine goes_seq ?_; refine goes_region ?_; apply run_step rfl; (exact stp_lit1I (E := 2) rfl (by as_aux_lemma => kernel_rfl) rfl); apply run_step rfl; (exact stp_assign rfl rfl); refine run_nil ?_; refine fin_seq ?_; refine goes_ret ?_; refine fin_ret_block ?_; refine fin_ret_then ?_)
    exact fin_ret1 (.inl rfl) rfl (.tmp rfl) ⟨rfl, trivial⟩ trivial
  · exfalso; simp at e; omega
set_option maxRecDepth 100000 in
set_option maxHeartbeats 2000000 in
theorem deg1_fc (cs : List Cel) (mv : Int) (i m : Nat) (labs : List Int) (hi : cs[i]? = some (.r 2 1 m (ivals labs))) (hm : labs.length = m) (hm4 : m ≤ 4) (h0 : m = 1) (hp : 0 < iget labs 0) :
    FC Try.prog 65 [(1000, cxRo cs)] [cA mv i m] [(30, leOw [2, iget labs 0])] (o1 (.sl 30 0 2)) [] := by
  have hSz := sizeE_fc 1000 i m
  refine fc_enter (nt := 75) Try.func65 rfl rfl (by simp) fun w0 ω0 => ?_
  have hgl : (ivals labs)[0]? = some (I6 (iget labs 0)) := ivals_get (by omega)
  have hw1 : IntKind.i64.wrap ((m : Int) + 1) = (m : Int) + 1 := IntWalk.i64_in _ (by omega)
  (refine goes_seq ?_; refine goes_region ?_; apply run_step rfl; (exact stp_box rfl rfl rfl rfl); apply run_step rfl; (exact stp_assign rfl rfl); refine run_nil ?_; refine fin_seq ?_; refine goes_seq ?_; refine goes_region ?_; apply run_step rfl; (exact stp_fieldAddr (d := 1) rfl rfl rfl (by as_aux_lemma => kernel_rfl)); apply run_step rfl; (exact stp_loadF rfl (by as_aux_lemma => kernel_rfl) rfl rfl rfl rfl); apply run_step rfl; (first | (apply call_gate 88; exact stp_callR hSz (by as_aux_lemma => kernel_rfl) rfl rfl ⟨rfl, trivial⟩ trivial rfl rfl) | exact stp_add rfl rfl rfl hw1); apply run_step rfl; (first | (apply call_gate 88; exact stp_callR hSz (by as_aux_lemma => kernel_rfl) rfl rfl ⟨rfl, trivial⟩ trivial rfl rfl) | exact stp_add rfl rfl rfl hw1); apply run_step rfl; (exact stp_assign rfl rfl); refine run_nil ?_; refine fin_seq ?_; refine goes_seq ?_; refine goes_block ?_; refine goes_seq ?_; refine goes_region ?_; apply run_step rfl; (exact stp_move rfl rfl); apply run_step rfl; (exact stp_bin rfl rfl rfl rfl); apply run_step rfl; (exact stp_assign rfl rfl); refine run_nil ?_; refine fin_seq ?_)
  refine goes_cond rfl (fun e => ?_) (fun _ => ?_)
  · exfalso; simp at e; omega
  (refine goes_seq ?_; refine goes_region ?_; apply run_step rfl; (exact stp_move rfl rfl); apply run_step rfl; (exact stp_bin rfl rfl rfl rfl); apply run_step rfl; (exact stp_move rfl rfl))
  refine run_bool 19 rfl (fun _ => ?_) (fun e => ?_)
  · (apply run_gYes rfl rfl rfl; (exact stp_fieldAddr (d := 1) rfl rfl rfl (by as_aux_lemma => kernel_rfl)); apply run_gYes rfl rfl rfl; (exact stp_loadF rfl (by as_aux_lemma => kernel_rfl) rfl rfl rfl rfl); apply run_gYes rfl rfl rfl; (first | exact stp_ixM (j := 0) rfl rfl rfl rfl rfl (by as_aux_lemma => kernel_rfl) hi (by omega) rfl (by omega) (Nat.le_refl _) | exact stp_loadEM rfl (by as_aux_lemma => kernel_rfl) rfl rfl rfl hi hgl); apply run_gYes rfl rfl rfl; (first | exact stp_ixM (j := 0) rfl rfl rfl rfl rfl (by as_aux_lemma => kernel_rfl) hi (by omega) rfl (by omega) (Nat.le_refl _) | exact stp_loadEM rfl (by as_aux_lemma => kernel_rfl) rfl rfl rfl hi hgl); apply run_gYes rfl rfl rfl; (exact stp_bin rfl rfl rfl rfl); apply run_step rfl; (exact stp_pickT rfl rfl rfl); apply run_step rfl; (exact stp_assign rfl rfl); refine run_nil ?_; refine fin_seq ?_)
    refine goes_cond rfl (fun _ => ?_) (fun e => ?_)
    · (refine goes_seq ?_; refine goes_region ?_; apply run_step rfl; (exact stp_fieldAddr (d := 1) rfl rfl rfl (by as_aux_lemma => kernel_rfl)); apply run_step rfl; (exact stp_loadF rfl (by as_aux_lemma => kernel_rfl) rfl rfl rfl rfl); apply run_step rfl; (first | exact stp_ixM (j := 0) rfl rfl rfl rfl rfl (by as_aux_lemma => kernel_rfl) hi (by omega) rfl (by omega) (Nat.le_refl _) | exact stp_loadEM rfl (by as_aux_lemma => kernel_rfl) rfl rfl rfl hi hgl); apply run_step rfl; (first | exact stp_ixM (j := 0) rfl rfl rfl rfl rfl (by as_aux_lemma => kernel_rfl) hi (by omega) rfl (by omega) (Nat.le_refl _) | exact stp_loadEM rfl (by as_aux_lemma => kernel_rfl) rfl rfl rfl hi hgl); apply run_step rfl; (exact stp_lit2I (E := 2) rfl (by as_aux_lemma => kernel_rfl) rfl rfl); apply run_step rfl; (exact stp_assign rfl rfl); refine run_nil ?_; refine fin_seq ?_; refine goes_ret ?_; refine fin_ret_block ?_; refine fin_ret_then ?_)
      exact fin_ret1 (.inl rfl) rfl (.tmp rfl) ⟨rfl, trivial⟩ trivial
    · exfalso; simp at e; omega
  · exfalso; simp at e; omega
set_option maxRecDepth 100000 in
set_option maxHeartbeats 2000000 in
theorem deg2_fc (cs : List Cel) (mv : Int) (i m : Nat) (labs : List Int) (hi : cs[i]? = some (.r 2 1 m (ivals labs))) (hm : labs.length = m) (hm4 : m ≤ 4) (h0 : 0 < m) (hq : ¬ (m = 1 ∧ 0 < iget labs 0)) (e1 : eith labs [3, 5] = true) :
    FC Try.prog 65 [(1000, cxRo cs)] [cA mv i m] [(35, leOw [2, 6, 10])] (o1 (.sl 35 0 3)) [] := by
  have hSz := sizeE_fc 1000 i m
  have hE1 := (either_fc cs mv i m 2 labs [3, 5] hi hm rfl (by omega) (by omega)).nm [(1000, 1000), (1001, 33)] (by kernel_rfl)
  have hE1 : FC Try.prog 107 [(1000, cxRo cs), (33, wRo [3, 5])] [cA mv i m, o1 (.sl 33 0 2)] [] (vv (.bool (eith labs [3, 5]))) [] := hE1
  rw [e1] at hE1
  refine fc_enter (nt := 75) Try.func65 rfl rfl (by simp) fun w0 ω0 => ?_
  have hw1 : IntKind.i64.wrap ((m : Int) + 1) = (m : Int) + 1 := IntWalk.i64_in _ (by omega)
  (refine goes_seq ?_; refine goes_region ?_; apply run_step rfl; (exact stp_box rfl rfl rfl rfl); apply run_step rfl; (exact stp_assign rfl rfl); refine run_nil ?_; refine fin_seq ?_; refine goes_seq ?_; refine goes_region ?_; apply run_step rfl; (exact stp_fieldAddr (d := 1) rfl rfl rfl (by as_aux_lemma => kernel_rfl)); apply run_step rfl; (exact stp_loadF rfl (by as_aux_lemma => kernel_rfl) rfl rfl rfl rfl); apply run_step rfl; (first | (apply call_gate 88; exact stp_callR hSz (by as_aux_lemma => kernel_rfl) rfl rfl ⟨rfl, trivial⟩ trivial rfl rfl) | exact stp_add rfl rfl rfl hw1); apply run_step rfl; (first | (apply call_gate 88; exact stp_callR hSz (by as_aux_lemma => kernel_rfl) rfl rfl ⟨rfl, trivial⟩ trivial rfl rfl) | exact stp_add rfl rfl rfl hw1); apply run_step rfl; (exact stp_assign rfl rfl); refine run_nil ?_; refine fin_seq ?_; refine goes_seq ?_; refine goes_block ?_; refine goes_seq ?_; refine goes_region ?_; apply run_step rfl; (exact stp_move rfl rfl); apply run_step rfl; (exact stp_bin rfl rfl rfl rfl); apply run_step rfl; (exact stp_assign rfl rfl); refine run_nil ?_; refine fin_seq ?_)
  refine goes_cond rfl (fun e => ?_) (fun _ => ?_)
  · exfalso; simp at e; omega
  (repeat (first | refine goes_seq ?_ | refine fin_seq ?_ | refine goes_skip ?_ | refine goes_block ?_ | refine fin_block ?_ | refine goes_exit ?_ | refine fin_exit_eq ?_ | refine fin_exit_ne rfl ?_ | refine fin_exit_then ?_))
  refine goes_cut (St.of [(1, o1 (.ptr 1 0)), (3, vv (I6 ((m : Int) + 1))), (16, vv (.bool false))] [(1000, cxRo cs), (1, ⟨true, 67, 2, .flat [.val (I6 mv), .esl 1000 i 0 m]⟩)]) ?_ ?_
  · refine goes_region ?_
    (apply run_step rfl; (exact stp_move rfl rfl); apply run_step rfl; (exact stp_bin rfl rfl rfl rfl); apply run_step rfl; (exact stp_move rfl rfl))
    refine run_bool 19 rfl (fun e1 => ?_) (fun e1 => ?_)
    · have e1 : m = 1 := by simp at e1; omega
      have hg2 : ¬ iget labs 0 > 0 := fun h => hq ⟨e1, h⟩
      have hgl : (ivals labs)[0]? = some (I6 (iget labs 0)) := ivals_get (by omega)
      have hbf : binI .i64 .gtr (iget labs 0) 0 = some (.bool false) := by simp [binI]; omega
      (apply run_gYes rfl rfl rfl; (exact stp_fieldAddr (d := 1) rfl rfl rfl (by as_aux_lemma => kernel_rfl)); apply run_gYes rfl rfl rfl; (exact stp_loadF rfl (by as_aux_lemma => kernel_rfl) rfl rfl rfl rfl); apply run_gYes rfl rfl rfl; (first | exact stp_bin rfl rfl rfl hbf | exact stp_ixM (j := 0) rfl rfl rfl rfl rfl (by as_aux_lemma => kernel_rfl) hi (by omega) rfl (by omega) (Nat.le_refl _) | exact stp_loadEM rfl (by as_aux_lemma => kernel_rfl) rfl rfl rfl hi hgl); apply run_gYes rfl rfl rfl; (first | exact stp_bin rfl rfl rfl hbf | exact stp_ixM (j := 0) rfl rfl rfl rfl rfl (by as_aux_lemma => kernel_rfl) hi (by omega) rfl (by omega) (Nat.le_refl _) | exact stp_loadEM rfl (by as_aux_lemma => kernel_rfl) rfl rfl rfl hi hgl); apply run_gYes rfl rfl rfl; (first | exact stp_bin rfl rfl rfl hbf | exact stp_ixM (j := 0) rfl rfl rfl rfl rfl (by as_aux_lemma => kernel_rfl) hi (by omega) rfl (by omega) (Nat.le_refl _) | exact stp_loadEM rfl (by as_aux_lemma => kernel_rfl) rfl rfl rfl hi hgl); apply run_step rfl; (exact stp_pickT rfl rfl rfl); apply run_step rfl; (exact stp_assign rfl rfl); refine run_nil ?_)
      exact fin_join (Wk.of ⟨rfl, rfl, rfl, trivial⟩ ⟨rfl, rfl, trivial⟩ trivial)
    · (apply run_gNo rfl rfl rfl rfl rfl; apply run_gNo rfl rfl rfl rfl rfl; apply run_gNo rfl rfl rfl rfl rfl; apply run_gNo rfl rfl rfl rfl rfl; apply run_gNo rfl rfl rfl rfl rfl; apply run_step rfl; (exact stp_pickF rfl rfl rfl); apply run_step rfl; (exact stp_assign rfl rfl); refine run_nil ?_)
      exact fin_join (Wk.of ⟨rfl, rfl, rfl, trivial⟩ ⟨rfl, rfl, trivial⟩ trivial)
  (refine fin_seq ?_)
  refine goes_cond rfl (fun e => by cases e) (fun _ => ?_)
  (refine goes_seq ?_; refine goes_region ?_; apply run_step rfl; (exact stp_loadAgg rfl rfl rfl rfl rfl rfl (by as_aux_lemma => kernel_rfl)); apply run_step rfl; (exact stp_lit2I (E := 2) rfl (by as_aux_lemma => kernel_rfl) rfl rfl); apply run_step rfl; (first | (apply call_gate 107; exact stp_callR hE1 (by as_aux_lemma => kernel_rfl) rfl rfl ⟨⟨.inl rfl, .inl rfl, trivial⟩, rfl, trivial⟩ ⟨⟨_, rfl, .inl rfl⟩, ⟨_, rfl, .inr rfl⟩, trivial⟩ rfl rfl) | exact stp_lit3I (E := 2) rfl (by as_aux_lemma => kernel_rfl) rfl rfl rfl | exact stp_lit4I (E := 2) rfl (by as_aux_lemma => kernel_rfl) rfl rfl rfl rfl); apply run_step rfl; (exact stp_assign rfl rfl); refine run_nil ?_; refine fin_seq ?_)
  refine goes_cond rfl (fun _ => ?_) (fun e => by cases e)
  (refine goes_seq ?_; refine goes_region ?_; apply run_step rfl; (first | exact stp_lit3I (E := 2) rfl (by as_aux_lemma => kernel_rfl) rfl rfl rfl | exact stp_lit4I (E := 2) rfl (by as_aux_lemma => kernel_rfl) rfl rfl rfl rfl); apply run_step rfl; (exact stp_assign rfl rfl); refine run_nil ?_; refine fin_seq ?_; refine goes_ret ?_; refine fin_ret_block ?_; refine fin_ret_then ?_)
  exact fin_ret1 (.inl rfl) rfl (.tmp rfl) ⟨rfl, trivial⟩ trivial
set_option maxRecDepth 100000 in
set_option maxHeartbeats 2000000 in
theorem deg3_fc (cs : List Cel) (mv : Int) (i m : Nat) (labs : List Int) (hi : cs[i]? = some (.r 2 1 m (ivals labs))) (hm : labs.length = m) (hm4 : m ≤ 4) (h0 : 0 < m) (hq : ¬ (m = 1 ∧ 0 < iget labs 0)) (e1 : eith labs [3, 5] = false) (e2 : eith labs [3, 3, 5] = true) :
    FC Try.prog 65 [(1000, cxRo cs)] [cA mv i m] [(40, leOw [2, 12, 20, 30])] (o1 (.sl 40 0 4)) [] := by
  have hSz := sizeE_fc 1000 i m
  have hE1 := (either_fc cs mv i m 2 labs [3, 5] hi hm rfl (by omega) (by omega)).nm [(1000, 1000), (1001, 33)] (by kernel_rfl)
  have hE1 : FC Try.prog 107 [(1000, cxRo cs), (33, wRo [3, 5])] [cA mv i m, o1 (.sl 33 0 2)] [] (vv (.bool (eith labs [3, 5]))) [] := hE1
  rw [e1] at hE1
  have hE2 := (either_fc cs mv i m 3 labs [3, 3, 5] hi hm rfl (by omega) (by omega)).nm [(1000, 1000), (1001, 38)] (by kernel_rfl)
  have hE2 : FC Try.prog 107 [(1000, cxRo cs), (38, wRo [3, 3, 5])] [cA mv i m, o1 (.sl 38 0 3)] [] (vv (.bool (eith labs [3, 3, 5]))) [] := hE2
  rw [e2] at hE2
  refine fc_enter (nt := 75) Try.func65 rfl rfl (by simp) fun w0 ω0 => ?_
  have hw1 : IntKind.i64.wrap ((m : Int) + 1) = (m : Int) + 1 := IntWalk.i64_in _ (by omega)
  (refine goes_seq ?_; refine goes_region ?_; apply run_step rfl; (exact stp_box rfl rfl rfl rfl); apply run_step rfl; (exact stp_assign rfl rfl); refine run_nil ?_; refine fin_seq ?_; refine goes_seq ?_; refine goes_region ?_; apply run_step rfl; (exact stp_fieldAddr (d := 1) rfl rfl rfl (by as_aux_lemma => kernel_rfl)); apply run_step rfl; (exact stp_loadF rfl (by as_aux_lemma => kernel_rfl) rfl rfl rfl rfl); apply run_step rfl; (first | (apply call_gate 88; exact stp_callR hSz (by as_aux_lemma => kernel_rfl) rfl rfl ⟨rfl, trivial⟩ trivial rfl rfl) | exact stp_add rfl rfl rfl hw1); apply run_step rfl; (first | (apply call_gate 88; exact stp_callR hSz (by as_aux_lemma => kernel_rfl) rfl rfl ⟨rfl, trivial⟩ trivial rfl rfl) | exact stp_add rfl rfl rfl hw1); apply run_step rfl; (exact stp_assign rfl rfl); refine run_nil ?_; refine fin_seq ?_; refine goes_seq ?_; refine goes_block ?_; refine goes_seq ?_; refine goes_region ?_; apply run_step rfl; (exact stp_move rfl rfl); apply run_step rfl; (exact stp_bin rfl rfl rfl rfl); apply run_step rfl; (exact stp_assign rfl rfl); refine run_nil ?_; refine fin_seq ?_)
  refine goes_cond rfl (fun e => ?_) (fun _ => ?_)
  · exfalso; simp at e; omega
  (repeat (first | refine goes_seq ?_ | refine fin_seq ?_ | refine goes_skip ?_ | refine goes_block ?_ | refine fin_block ?_ | refine goes_exit ?_ | refine fin_exit_eq ?_ | refine fin_exit_ne rfl ?_ | refine fin_exit_then ?_))
  refine goes_cut (St.of [(1, o1 (.ptr 1 0)), (3, vv (I6 ((m : Int) + 1))), (16, vv (.bool false))] [(1000, cxRo cs), (1, ⟨true, 67, 2, .flat [.val (I6 mv), .esl 1000 i 0 m]⟩)]) ?_ ?_
  · refine goes_region ?_
    (apply run_step rfl; (exact stp_move rfl rfl); apply run_step rfl; (exact stp_bin rfl rfl rfl rfl); apply run_step rfl; (exact stp_move rfl rfl))
    refine run_bool 19 rfl (fun e1 => ?_) (fun e1 => ?_)
    · have e1 : m = 1 := by simp at e1; omega
      have hg2 : ¬ iget labs 0 > 0 := fun h => hq ⟨e1, h⟩
      have hgl : (ivals labs)[0]? = some (I6 (iget labs 0)) := ivals_get (by omega)
      have hbf : binI .i64 .gtr (iget labs 0) 0 = some (.bool false) := by simp [binI]; omega
      (apply run_gYes rfl rfl rfl; (exact stp_fieldAddr (d := 1) rfl rfl rfl (by as_aux_lemma => kernel_rfl)); apply run_gYes rfl rfl rfl; (exact stp_loadF rfl (by as_aux_lemma => kernel_rfl) rfl rfl rfl rfl); apply run_gYes rfl rfl rfl; (first | exact stp_bin rfl rfl rfl hbf | exact stp_ixM (j := 0) rfl rfl rfl rfl rfl (by as_aux_lemma => kernel_rfl) hi (by omega) rfl (by omega) (Nat.le_refl _) | exact stp_loadEM rfl (by as_aux_lemma => kernel_rfl) rfl rfl rfl hi hgl); apply run_gYes rfl rfl rfl; (first | exact stp_bin rfl rfl rfl hbf | exact stp_ixM (j := 0) rfl rfl rfl rfl rfl (by as_aux_lemma => kernel_rfl) hi (by omega) rfl (by omega) (Nat.le_refl _) | exact stp_loadEM rfl (by as_aux_lemma => kernel_rfl) rfl rfl rfl hi hgl); apply run_gYes rfl rfl rfl; (first | exact stp_bin rfl rfl rfl hbf | exact stp_ixM (j := 0) rfl rfl rfl rfl rfl (by as_aux_lemma => kernel_rfl) hi (by omega) rfl (by omega) (Nat.le_refl _) | exact stp_loadEM rfl (by as_aux_lemma => kernel_rfl) rfl rfl rfl hi hgl); apply run_step rfl; (exact stp_pickT rfl rfl rfl); apply run_step rfl; (exact stp_assign rfl rfl); refine run_nil ?_)
      exact fin_join (Wk.of ⟨rfl, rfl, rfl, trivial⟩ ⟨rfl, rfl, trivial⟩ trivial)
    · (apply run_gNo rfl rfl rfl rfl rfl; apply run_gNo rfl rfl rfl rfl rfl; apply run_gNo rfl rfl rfl rfl rfl; apply run_gNo rfl rfl rfl rfl rfl; apply run_gNo rfl rfl rfl rfl rfl; apply run_step rfl; (exact stp_pickF rfl rfl rfl); apply run_step rfl; (exact stp_assign rfl rfl); refine run_nil ?_)
      exact fin_join (Wk.of ⟨rfl, rfl, rfl, trivial⟩ ⟨rfl, rfl, trivial⟩ trivial)
  (refine fin_seq ?_)
  refine goes_cond rfl (fun e => by cases e) (fun _ => ?_)
  (refine goes_seq ?_; refine goes_region ?_; apply run_step rfl; (exact stp_loadAgg rfl rfl rfl rfl rfl rfl (by as_aux_lemma => kernel_rfl)); apply run_step rfl; (exact stp_lit2I (E := 2) rfl (by as_aux_lemma => kernel_rfl) rfl rfl); apply run_step rfl; (first | (apply call_gate 107; exact stp_callR hE1 (by as_aux_lemma => kernel_rfl) rfl rfl ⟨⟨.inl rfl, .inl rfl, trivial⟩, rfl, trivial⟩ ⟨⟨_, rfl, .inl rfl⟩, ⟨_, rfl, .inr rfl⟩, trivial⟩ rfl rfl) | exact stp_lit3I (E := 2) rfl (by as_aux_lemma => kernel_rfl) rfl rfl rfl | exact stp_lit4I (E := 2) rfl (by as_aux_lemma => kernel_rfl) rfl rfl rfl rfl); apply run_step rfl; (exact stp_assign rfl rfl); refine run_nil ?_; refine fin_seq ?_)
  refine goes_cond rfl (fun e => by cases e) (fun _ => ?_)
  (refine goes_seq ?_; refine goes_region ?_; apply run_step rfl; (exact stp_loadAgg rfl rfl rfl rfl rfl rfl (by as_aux_lemma => kernel_rfl)); apply run_step rfl; (first | (apply call_gate 107; exact stp_callR hE2 (by as_aux_lemma => kernel_rfl) rfl rfl ⟨⟨.inl rfl, .inl rfl, trivial⟩, rfl, trivial⟩ ⟨⟨_, rfl, .inl rfl⟩, ⟨_, rfl, .inr rfl⟩, trivial⟩ rfl rfl) | exact stp_lit3I (E := 2) rfl (by as_aux_lemma => kernel_rfl) rfl rfl rfl | exact stp_lit4I (E := 2) rfl (by as_aux_lemma => kernel_rfl) rfl rfl rfl rfl); apply run_step rfl; (first | (apply call_gate 107; exact stp_callR hE2 (by as_aux_lemma => kernel_rfl) rfl rfl ⟨⟨.inl rfl, .inl rfl, trivial⟩, rfl, trivial⟩ ⟨⟨_, rfl, .inl rfl⟩, ⟨_, rfl, .inr rfl⟩, trivial⟩ rfl rfl) | exact stp_lit3I (E := 2) rfl (by as_aux_lemma => kernel_rfl) rfl rfl rfl | exact stp_lit4I (E := 2) rfl (by as_aux_lemma => kernel_rfl) rfl rfl rfl rfl); apply run_step rfl; (exact stp_assign rfl rfl); refine run_nil ?_; refine fin_seq ?_)
  refine goes_cond rfl (fun _ => ?_) (fun e => by cases e)
  (refine goes_seq ?_; refine goes_region ?_; apply run_step rfl; (first | exact stp_lit3I (E := 2) rfl (by as_aux_lemma => kernel_rfl) rfl rfl rfl | exact stp_lit4I (E := 2) rfl (by as_aux_lemma => kernel_rfl) rfl rfl rfl rfl); apply run_step rfl; (exact stp_assign rfl rfl); refine run_nil ?_; refine fin_seq ?_; refine goes_ret ?_; refine fin_ret_block ?_; refine fin_ret_then ?_)
  exact fin_ret1 (.inl rfl) rfl (.tmp rfl) ⟨rfl, trivial⟩ trivial
set_option maxRecDepth 100000 in
set_option maxHeartbeats 2000000 in
theorem deg4_fc (cs : List Cel) (mv : Int) (i m : Nat) (labs : List Int) (hi : cs[i]? = some (.r 2 1 m (ivals labs))) (hm : labs.length = m) (hm4 : m ≤ 4) (h0 : 0 < m) (hq : ¬ (m = 1 ∧ 0 < iget labs 0)) (e1 : eith labs [3, 5] = false) (e2 : eith labs [3, 3, 5] = false) (e3 : eith labs [3, 4, 3] = true) :
    FC Try.prog 65 [(1000, cxRo cs)] [cA mv i m] [(45, leOw [2, 6, 8, 12])] (o1 (.sl 45 0 4)) [] := by
  have hSz := sizeE_fc 1000 i m
  have hE1 := (either_fc cs mv i m 2 labs [3, 5] hi hm rfl (by omega) (by omega)).nm [(1000, 1000), (1001, 33)] (by kernel_rfl)
  have hE1 : FC Try.prog 107 [(1000, cxRo cs), (33, wRo [3, 5])] [cA mv i m, o1 (.sl 33 0 2)] [] (vv (.bool (eith labs [3, 5]))) [] := hE1
  rw [e1] at hE1
  have hE2 := (either_fc cs mv i m 3 labs [3, 3, 5] hi hm rfl (by omega) (by omega)).nm [(1000, 1000), (1001, 38)] (by kernel_rfl)
  have hE2 : FC Try.prog 107 [(1000, cxRo cs), (38, wRo [3, 3, 5])] [cA mv i m, o1 (.sl 38 0 3)] [] (vv (.bool (eith labs [3, 3, 5]))) [] := hE2
  rw [e2] at hE2
  have hE3 := (either_fc cs mv i m 3 labs [3, 4, 3] hi hm rfl (by omega) (by omega)).nm [(1000, 1000), (1001, 43)] (by kernel_rfl)
  have hE3 : FC Try.prog 107 [(1000, cxRo cs), (43, wRo [3, 4, 3])] [cA mv i m, o1 (.sl 43 0 3)] [] (vv (.bool (eith labs [3, 4, 3]))) [] := hE3
  rw [e3] at hE3
  refine fc_enter (nt := 75) Try.func65 rfl rfl (by simp) fun w0 ω0 => ?_
  have hw1 : IntKind.i64.wrap ((m : Int) + 1) = (m : Int) + 1 := IntWalk.i64_in _ (by omega)
  (refine goes_seq ?_; refine goes_region ?_; apply run_step rfl; (exact stp_box rfl rfl rfl rfl); apply run_step rfl; (exact stp_assign rfl rfl); refine run_nil ?_; refine fin_seq ?_; refine goes_seq ?_; refine goes_region ?_; apply run_step rfl; (exact stp_fieldAddr (d := 1) rfl rfl rfl (by as_aux_lemma => kernel_rfl)); apply run_step rfl; (exact stp_loadF rfl (by as_aux_lemma => kernel_rfl) rfl rfl rfl rfl); apply run_step rfl; (first | (apply call_gate 88; exact stp_callR hSz (by as_aux_lemma => kernel_rfl) rfl rfl ⟨rfl, trivial⟩ trivial rfl rfl) | exact stp_add rfl rfl rfl hw1); apply run_step rfl; (first | (apply call_gate 88; exact stp_callR hSz (by as_aux_lemma => kernel_rfl) rfl rfl ⟨rfl, trivial⟩ trivial rfl rfl) | exact stp_add rfl rfl rfl hw1); apply run_step rfl; (exact stp_assign rfl rfl); refine run_nil ?_; refine fin_seq ?_; refine goes_seq ?_; refine goes_block ?_; refine goes_seq ?_; refine goes_region ?_; apply run_step rfl; (exact stp_move rfl rfl); apply run_step rfl; (exact stp_bin rfl rfl rfl rfl); apply run_step rfl; (exact stp_assign rfl rfl); refine run_nil ?_; refine fin_seq ?_)
  refine goes_cond rfl (fun e => ?_) (fun _ => ?_)
  · exfalso; simp at e; omega
  (repeat (first | refine goes_seq ?_ | refine fin_seq ?_ | refine goes_skip ?_ | refine goes_block ?_ | refine fin_block ?_ | refine goes_exit ?_ | refine fin_exit_eq ?_ | refine fin_exit_ne rfl ?_ | refine fin_exit_then ?_))
  refine goes_cut (St.of [(1, o1 (.ptr 1 0)), (3, vv (I6 ((m : Int) + 1))), (16, vv (.bool false))] [(1000, cxRo cs), (1, ⟨true, 67, 2, .flat [.val (I6 mv), .esl 1000 i 0 m]⟩)]) ?_ ?_
  · refine goes_region ?_
    (apply run_step rfl; (exact stp_move rfl rfl); apply run_step rfl; (exact stp_bin rfl rfl rfl rfl); apply run_step rfl; (exact stp_move rfl rfl))
    refine run_bool 19 rfl (fun e1 => ?_) (fun e1 => ?_)
    · have e1 : m = 1 := by simp at e1; omega
      have hg2 : ¬ iget labs 0 > 0 := fun h => hq ⟨e1, h⟩
      have hgl : (ivals labs)[0]? = some (I6 (iget labs 0)) := ivals_get (by omega)
      have hbf : binI .i64 .gtr (iget labs 0) 0 = some (.bool false) := by simp [binI]; omega
      (apply run_gYes rfl rfl rfl; (exact stp_fieldAddr (d := 1) rfl rfl rfl (by as_aux_lemma => kernel_rfl)); apply run_gYes rfl rfl rfl; (exact stp_loadF rfl (by as_aux_lemma => kernel_rfl) rfl rfl rfl rfl); apply run_gYes rfl rfl rfl; (first | exact stp_bin rfl rfl rfl hbf | exact stp_ixM (j := 0) rfl rfl rfl rfl rfl (by as_aux_lemma => kernel_rfl) hi (by omega) rfl (by omega) (Nat.le_refl _) | exact stp_loadEM rfl (by as_aux_lemma => kernel_rfl) rfl rfl rfl hi hgl); apply run_gYes rfl rfl rfl; (first | exact stp_bin rfl rfl rfl hbf | exact stp_ixM (j := 0) rfl rfl rfl rfl rfl (by as_aux_lemma => kernel_rfl) hi (by omega) rfl (by omega) (Nat.le_refl _) | exact stp_loadEM rfl (by as_aux_lemma => kernel_rfl) rfl rfl rfl hi hgl); apply run_gYes rfl rfl rfl; (first | exact stp_bin rfl rfl rfl hbf | exact stp_ixM (j := 0) rfl rfl rfl rfl rfl (by as_aux_lemma => kernel_rfl) hi (by omega) rfl (by omega) (Nat.le_refl _) | exact stp_loadEM rfl (by as_aux_lemma => kernel_rfl) rfl rfl rfl hi hgl); apply run_step rfl; (exact stp_pickT rfl rfl rfl); apply run_step rfl; (exact stp_assign rfl rfl); refine run_nil ?_)
      exact fin_join (Wk.of ⟨rfl, rfl, rfl, trivial⟩ ⟨rfl, rfl, trivial⟩ trivial)
    · (apply run_gNo rfl rfl rfl rfl rfl; apply run_gNo rfl rfl rfl rfl rfl; apply run_gNo rfl rfl rfl rfl rfl; apply run_gNo rfl rfl rfl rfl rfl; apply run_gNo rfl rfl rfl rfl rfl; apply run_step rfl; (exact stp_pickF rfl rfl rfl); apply run_step rfl; (exact stp_assign rfl rfl); refine run_nil ?_)
      exact fin_join (Wk.of ⟨rfl, rfl, rfl, trivial⟩ ⟨rfl, rfl, trivial⟩ trivial)
  (refine fin_seq ?_)
  refine goes_cond rfl (fun e => by cases e) (fun _ => ?_)
  (refine goes_seq ?_; refine goes_region ?_; apply run_step rfl; (exact stp_loadAgg rfl rfl rfl rfl rfl rfl (by as_aux_lemma => kernel_rfl)); apply run_step rfl; (exact stp_lit2I (E := 2) rfl (by as_aux_lemma => kernel_rfl) rfl rfl); apply run_step rfl; (first | (apply call_gate 107; exact stp_callR hE1 (by as_aux_lemma => kernel_rfl) rfl rfl ⟨⟨.inl rfl, .inl rfl, trivial⟩, rfl, trivial⟩ ⟨⟨_, rfl, .inl rfl⟩, ⟨_, rfl, .inr rfl⟩, trivial⟩ rfl rfl) | exact stp_lit3I (E := 2) rfl (by as_aux_lemma => kernel_rfl) rfl rfl rfl | exact stp_lit4I (E := 2) rfl (by as_aux_lemma => kernel_rfl) rfl rfl rfl rfl); apply run_step rfl; (exact stp_assign rfl rfl); refine run_nil ?_; refine fin_seq ?_)
  refine goes_cond rfl (fun e => by cases e) (fun _ => ?_)
  (refine goes_seq ?_; refine goes_region ?_; apply run_step rfl; (exact stp_loadAgg rfl rfl rfl rfl rfl rfl (by as_aux_lemma => kernel_rfl)); apply run_step rfl; (first | (apply call_gate 107; exact stp_callR hE2 (by as_aux_lemma => kernel_rfl) rfl rfl ⟨⟨.inl rfl, .inl rfl, trivial⟩, rfl, trivial⟩ ⟨⟨_, rfl, .inl rfl⟩, ⟨_, rfl, .inr rfl⟩, trivial⟩ rfl rfl) | exact stp_lit3I (E := 2) rfl (by as_aux_lemma => kernel_rfl) rfl rfl rfl | exact stp_lit4I (E := 2) rfl (by as_aux_lemma => kernel_rfl) rfl rfl rfl rfl); apply run_step rfl; (first | (apply call_gate 107; exact stp_callR hE2 (by as_aux_lemma => kernel_rfl) rfl rfl ⟨⟨.inl rfl, .inl rfl, trivial⟩, rfl, trivial⟩ ⟨⟨_, rfl, .inl rfl⟩, ⟨_, rfl, .inr rfl⟩, trivial⟩ rfl rfl) | exact stp_lit3I (E := 2) rfl (by as_aux_lemma => kernel_rfl) rfl rfl rfl | exact stp_lit4I (E := 2) rfl (by as_aux_lemma => kernel_rfl) rfl rfl rfl rfl); apply run_step rfl; (exact stp_assign rfl rfl); refine run_nil ?_; refine fin_seq ?_)
  refine goes_cond rfl (fun e => by cases e) (fun _ => ?_)
  (refine goes_seq ?_; refine goes_region ?_; apply run_step rfl; (exact stp_loadAgg rfl rfl rfl rfl rfl rfl (by as_aux_lemma => kernel_rfl)); apply run_step rfl; (first | (apply call_gate 107; exact stp_callR hE3 (by as_aux_lemma => kernel_rfl) rfl rfl ⟨⟨.inl rfl, .inl rfl, trivial⟩, rfl, trivial⟩ ⟨⟨_, rfl, .inl rfl⟩, ⟨_, rfl, .inr rfl⟩, trivial⟩ rfl rfl) | exact stp_lit3I (E := 2) rfl (by as_aux_lemma => kernel_rfl) rfl rfl rfl | exact stp_lit4I (E := 2) rfl (by as_aux_lemma => kernel_rfl) rfl rfl rfl rfl); apply run_step rfl; (first | (apply call_gate 107; exact stp_callR hE3 (by as_aux_lemma => kernel_rfl) rfl rfl ⟨⟨.inl rfl, .inl rfl, trivial⟩, rfl, trivial⟩ ⟨⟨_, rfl, .inl rfl⟩, ⟨_, rfl, .inr rfl⟩, trivial⟩ rfl rfl) | exact stp_lit3I (E := 2) rfl (by as_aux_lemma => kernel_rfl) rfl rfl rfl | exact stp_lit4I (E := 2) rfl (by as_aux_lemma => kernel_rfl) rfl rfl rfl rfl); apply run_step rfl; (exact stp_assign rfl rfl); refine run_nil ?_; refine fin_seq ?_)
  refine goes_cond rfl (fun _ => ?_) (fun e => by cases e)
  (refine goes_seq ?_; refine goes_region ?_; apply run_step rfl; (first | exact stp_lit3I (E := 2) rfl (by as_aux_lemma => kernel_rfl) rfl rfl rfl | exact stp_lit4I (E := 2) rfl (by as_aux_lemma => kernel_rfl) rfl rfl rfl rfl); apply run_step rfl; (exact stp_assign rfl rfl); refine run_nil ?_; refine fin_seq ?_; refine goes_ret ?_; refine fin_ret_block ?_; refine fin_ret_then ?_)
  exact fin_ret1 (.inl rfl) rfl (.tmp rfl) ⟨rfl, trivial⟩ trivial
set_option maxRecDepth 100000 in
set_option maxHeartbeats 2000000 in
theorem deg5_fc (cs : List Cel) (mv : Int) (i m : Nat) (labs : List Int) (hi : cs[i]? = some (.r 2 1 m (ivals labs))) (hm : labs.length = m) (hm4 : m ≤ 4) (h0 : 0 < m) (hq : ¬ (m = 1 ∧ 0 < iget labs 0)) (e1 : eith labs [3, 5] = false) (e2 : eith labs [3, 3, 5] = false) (e3 : eith labs [3, 4, 3] = false) (e4 : labs = List.replicate m 3) :
    FC Try.prog 65 [(1000, cxRo cs)] [cA mv i m] [(2100, leOw (ramp (m + 1) 1))] (o1 (.sl 2100 0 (m + 1))) [] := by
  have hSz := sizeE_fc 1000 i m
  have hE1 := (either_fc cs mv i m 2 labs [3, 5] hi hm rfl (by omega) (by omega)).nm [(1000, 1000), (1001, 33)] (by kernel_rfl)
  have hE1 : FC Try.prog 107 [(1000, cxRo cs), (33, wRo [3, 5])] [cA mv i m, o1 (.sl 33 0 2)] [] (vv (.bool (eith labs [3, 5]))) [] := hE1
  rw [e1] at hE1
  have hE2 := (either_fc cs mv i m 3 labs [3, 3, 5] hi hm rfl (by omega) (by omega)).nm [(1000, 1000), (1001, 38)] (by kernel_rfl)
  have hE2 : FC Try.prog 107 [(1000, cxRo cs), (38, wRo [3, 3, 5])] [cA mv i m, o1 (.sl 38 0 3)] [] (vv (.bool (eith labs [3, 3, 5]))) [] := hE2
  rw [e2] at hE2
  have hE3 := (either_fc cs mv i m 3 labs [3, 4, 3] hi hm rfl (by omega) (by omega)).nm [(1000, 1000), (1001, 43)] (by kernel_rfl)
  have hE3 : FC Try.prog 107 [(1000, cxRo cs), (43, wRo [3, 4, 3])] [cA mv i m, o1 (.sl 43 0 3)] [] (vv (.bool (eith labs [3, 4, 3]))) [] := hE3
  rw [e3] at hE3
  refine fc_enter (nt := 75) Try.func65 rfl rfl (by simp) fun w0 ω0 => ?_
  have hR : FC Try.prog 108 [(46, ⟨false, 2, 1, .vals (ivals [3])⟩)] [o1 (.sl 46 0 1), vv (I6 m)] [(50, ⟨true, 2, 1, .vals (ivals (List.replicate m 3))⟩)] (o1 (.sl 50 0 m)) [] := repeat1_fc 46 50 m 3 (by omega) h0
  have hrl : (List.replicate m (3 : Int)).length = m := by simp
  have hQ := (equalM_fc cs i m m 67 2 labs (List.replicate m 3) hi hm hrl (by omega) (by omega)).nm [(1000, 1000), (1001, 50)] (by kernel_rfl)
  have hQ : FC Try.prog 109 [(1000, cxRo cs), (50, wRo (List.replicate m 3))] [o1 (.esl 1000 i 0 m), o1 (.sl 50 0 m)] [] (vv (.bool (labs == List.replicate m 3))) [] := hQ
  have hF := (either_fc cs mv i m m labs ((List.replicate m 3).set 0 4) hi hm (by simp) (by omega) (by omega)).nm [(1000, 1000), (1001, 50)] (by kernel_rfl)
  have hF : FC Try.prog 107 [(1000, cxRo cs), (50, wRo ((List.replicate m 3).set 0 4))] [cA mv i m, o1 (.sl 50 0 m)] [] (vv (.bool (eith labs ((List.replicate m 3).set 0 4)))) [] := hF
  have e4' : (labs == List.replicate m 3) = true := by simpa using e4
  rw [e4'] at hQ
  have hw1 : IntKind.i64.wrap ((m : Int) + 1) = (m : Int) + 1 := IntWalk.i64_in _ (by omega)
  (refine goes_seq ?_; refine goes_region ?_; apply run_step rfl; (exact stp_box rfl rfl rfl rfl); apply run_step rfl; (exact stp_assign rfl rfl); refine run_nil ?_; refine fin_seq ?_; refine goes_seq ?_; refine goes_region ?_; apply run_step rfl; (exact stp_fieldAddr (d := 1) rfl rfl rfl (by as_aux_lemma => kernel_rfl)); apply run_step rfl; (exact stp_loadF rfl (by as_aux_lemma => kernel_rfl) rfl rfl rfl rfl); apply run_step rfl; (first | (apply call_gate 88; exact stp_callR hSz (by as_aux_lemma => kernel_rfl) rfl rfl ⟨rfl, trivial⟩ trivial rfl rfl) | exact stp_add rfl rfl rfl hw1); apply run_step rfl; (first | (apply call_gate 88; exact stp_callR hSz (by as_aux_lemma => kernel_rfl) rfl rfl ⟨rfl, trivial⟩ trivial rfl rfl) | exact stp_add rfl rfl rfl hw1); apply run_step rfl; (exact stp_assign rfl rfl); refine run_nil ?_; refine fin_seq ?_; refine goes_seq ?_; refine goes_block ?_; refine goes_seq ?_; refine goes_region ?_; apply run_step rfl; (exact stp_move rfl rfl); apply run_step rfl; (exact stp_bin rfl rfl rfl rfl); apply run_step rfl; (exact stp_assign rfl rfl); refine run_nil ?_; refine fin_seq ?_)
  refine goes_cond rfl (fun e => ?_) (fun _ => ?_)
  · exfalso; simp at e; omega
  (repeat (first | refine goes_seq ?_ | refine fin_seq ?_ | refine goes_skip ?_ | refine goes_block ?_ | refine fin_block ?_ | refine goes_exit ?_ | refine fin_exit_eq ?_ | refine fin_exit_ne rfl ?_ | refine fin_exit_then ?_))
  refine goes_cut (St.of [(1, o1 (.ptr 1 0)), (3, vv (I6 ((m : Int) + 1))), (16, vv (.bool false))] [(1000, cxRo cs), (1, ⟨true, 67, 2, .flat [.val (I6 mv), .esl 1000 i 0 m]⟩)]) ?_ ?_
  · refine goes_region ?_
    (apply run_step rfl; (exact stp_move rfl rfl); apply run_step rfl; (exact stp_bin rfl rfl rfl rfl); apply run_step rfl; (exact stp_move rfl rfl))
    refine run_bool 19 rfl (fun e1 => ?_) (fun e1 => ?_)
    · have e1 : m = 1 := by simp at e1; omega
      have hg2 : ¬ iget labs 0 > 0 := fun h => hq ⟨e1, h⟩
      have hgl : (ivals labs)[0]? = some (I6 (iget labs 0)) := ivals_get (by omega)
      have hbf : binI .i64 .gtr (iget labs 0) 0 = some (.bool false) := by simp [binI]; omega
      (apply run_gYes rfl rfl rfl; (exact stp_fieldAddr (d := 1) rfl rfl rfl (by as_aux_lemma => kernel_rfl)); apply run_gYes rfl rfl rfl; (exact stp_loadF rfl (by as_aux_lemma => kernel_rfl) rfl rfl rfl rfl); apply run_gYes rfl rfl rfl; (first | exact stp_bin rfl rfl rfl hbf | exact stp_ixM (j := 0) rfl rfl rfl rfl rfl (by as_aux_lemma => kernel_rfl) hi (by omega) rfl (by omega) (Nat.le_refl _) | exact stp_loadEM rfl (by as_aux_lemma => kernel_rfl) rfl rfl rfl hi hgl); apply run_gYes rfl rfl rfl; (first | exact stp_bin rfl rfl rfl hbf | exact stp_ixM (j := 0) rfl rfl rfl rfl rfl (by as_aux_lemma => kernel_rfl) hi (by omega) rfl (by omega) (Nat.le_refl _) | exact stp_loadEM rfl (by as_aux_lemma => kernel_rfl) rfl rfl rfl hi hgl); apply run_gYes rfl rfl rfl; (first | exact stp_bin rfl rfl rfl hbf | exact stp_ixM (j := 0) rfl rfl rfl rfl rfl (by as_aux_lemma => kernel_rfl) hi (by omega) rfl (by omega) (Nat.le_refl _) | exact stp_loadEM rfl (by as_aux_lemma => kernel_rfl) rfl rfl rfl hi hgl); apply run_step rfl; (exact stp_pickT rfl rfl rfl); apply run_step rfl; (exact stp_assign rfl rfl); refine run_nil ?_)
      exact fin_join (Wk.of ⟨rfl, rfl, rfl, trivial⟩ ⟨rfl, rfl, trivial⟩ trivial)
    · (apply run_gNo rfl rfl rfl rfl rfl; apply run_gNo rfl rfl rfl rfl rfl; apply run_gNo rfl rfl rfl rfl rfl; apply run_gNo rfl rfl rfl rfl rfl; apply run_gNo rfl rfl rfl rfl rfl; apply run_step rfl; (exact stp_pickF rfl rfl rfl); apply run_step rfl; (exact stp_assign rfl rfl); refine run_nil ?_)
      exact fin_join (Wk.of ⟨rfl, rfl, rfl, trivial⟩ ⟨rfl, rfl, trivial⟩ trivial)
  (refine fin_seq ?_)
  refine goes_cond rfl (fun e => by cases e) (fun _ => ?_)
  (refine goes_seq ?_; refine goes_region ?_; apply run_step rfl; (exact stp_loadAgg rfl rfl rfl rfl rfl rfl (by as_aux_lemma => kernel_rfl)); apply run_step rfl; (exact stp_lit2I (E := 2) rfl (by as_aux_lemma => kernel_rfl) rfl rfl); apply run_step rfl; (first | (apply call_gate 107; exact stp_callR hE1 (by as_aux_lemma => kernel_rfl) rfl rfl ⟨⟨.inl rfl, .inl rfl, trivial⟩, rfl, trivial⟩ ⟨⟨_, rfl, .inl rfl⟩, ⟨_, rfl, .inr rfl⟩, trivial⟩ rfl rfl) | exact stp_lit3I (E := 2) rfl (by as_aux_lemma => kernel_rfl) rfl rfl rfl | exact stp_lit4I (E := 2) rfl (by as_aux_lemma => kernel_rfl) rfl rfl rfl rfl); apply run_step rfl; (exact stp_assign rfl rfl); refine run_nil ?_; refine fin_seq ?_)
  refine goes_cond rfl (fun e => by cases e) (fun _ => ?_)
  (refine goes_seq ?_; refine goes_region ?_; apply run_step rfl; (exact stp_loadAgg rfl rfl rfl rfl rfl rfl (by as_aux_lemma => kernel_rfl)); apply run_step rfl; (first | (apply call_gate 107; exact stp_callR hE2 (by as_aux_lemma => kernel_rfl) rfl rfl ⟨⟨.inl rfl, .inl rfl, trivial⟩, rfl, trivial⟩ ⟨⟨_, rfl, .inl rfl⟩, ⟨_, rfl, .inr rfl⟩, trivial⟩ rfl rfl) | exact stp_lit3I (E := 2) rfl (by as_aux_lemma => kernel_rfl) rfl rfl rfl | exact stp_lit4I (E := 2) rfl (by as_aux_lemma => kernel_rfl) rfl rfl rfl rfl); apply run_step rfl; (first | (apply call_gate 107; exact stp_callR hE2 (by as_aux_lemma => kernel_rfl) rfl rfl ⟨⟨.inl rfl, .inl rfl, trivial⟩, rfl, trivial⟩ ⟨⟨_, rfl, .inl rfl⟩, ⟨_, rfl, .inr rfl⟩, trivial⟩ rfl rfl) | exact stp_lit3I (E := 2) rfl (by as_aux_lemma => kernel_rfl) rfl rfl rfl | exact stp_lit4I (E := 2) rfl (by as_aux_lemma => kernel_rfl) rfl rfl rfl rfl); apply run_step rfl; (exact stp_assign rfl rfl); refine run_nil ?_; refine fin_seq ?_)
  refine goes_cond rfl (fun e => by cases e) (fun _ => ?_)
  (refine goes_seq ?_; refine goes_region ?_; apply run_step rfl; (exact stp_loadAgg rfl rfl rfl rfl rfl rfl (by as_aux_lemma => kernel_rfl)); apply run_step rfl; (first | (apply call_gate 107; exact stp_callR hE3 (by as_aux_lemma => kernel_rfl) rfl rfl ⟨⟨.inl rfl, .inl rfl, trivial⟩, rfl, trivial⟩ ⟨⟨_, rfl, .inl rfl⟩, ⟨_, rfl, .inr rfl⟩, trivial⟩ rfl rfl) | exact stp_lit3I (E := 2) rfl (by as_aux_lemma => kernel_rfl) rfl rfl rfl | exact stp_lit4I (E := 2) rfl (by as_aux_lemma => kernel_rfl) rfl rfl rfl rfl); apply run_step rfl; (first | (apply call_gate 107; exact stp_callR hE3 (by as_aux_lemma => kernel_rfl) rfl rfl ⟨⟨.inl rfl, .inl rfl, trivial⟩, rfl, trivial⟩ ⟨⟨_, rfl, .inl rfl⟩, ⟨_, rfl, .inr rfl⟩, trivial⟩ rfl rfl) | exact stp_lit3I (E := 2) rfl (by as_aux_lemma => kernel_rfl) rfl rfl rfl | exact stp_lit4I (E := 2) rfl (by as_aux_lemma => kernel_rfl) rfl rfl rfl rfl); apply run_step rfl; (exact stp_assign rfl rfl); refine run_nil ?_; refine fin_seq ?_)
  refine goes_cond rfl (fun e => by cases e) (fun _ => ?_)
  (refine goes_skip ?_; refine fin_block ?_; refine fin_seq ?_; refine goes_seq ?_; refine goes_region ?_; apply run_step rfl; (exact stp_lit1I (E := 2) rfl (by as_aux_lemma => kernel_rfl) rfl); apply run_step rfl; (exact stp_fieldAddr (d := 1) rfl rfl rfl (by as_aux_lemma => kernel_rfl)); apply run_step rfl; (exact stp_loadF rfl (by as_aux_lemma => kernel_rfl) rfl rfl rfl rfl); apply run_step rfl; (exact stp_len rfl rfl rfl (by as_aux_lemma => kernel_rfl)); apply run_step rfl; (first | (apply call_gate 108; exact stp_callN hR (by as_aux_lemma => kernel_rfl) rfl rfl ⟨rfl, rfl, trivial⟩ ⟨⟨_, rfl, .inr rfl⟩, trivial⟩ rfl rfl rfl) | (apply call_gate 109; exact stp_callR hQ (by as_aux_lemma => kernel_rfl) rfl rfl ⟨rfl, rfl, trivial⟩ ⟨⟨_, rfl, .inl rfl⟩, ⟨_, rfl, .inr rfl⟩, trivial⟩ rfl rfl)); apply run_step rfl; (exact stp_assign rfl rfl); refine run_nil ?_; refine fin_seq ?_; refine goes_seq ?_; refine goes_region ?_; apply run_step rfl; (exact stp_assign rfl rfl); refine run_nil ?_; refine fin_seq ?_; refine goes_seq ?_; refine goes_seq ?_; refine goes_region ?_; apply run_step rfl; (exact stp_fieldAddr (d := 1) rfl rfl rfl (by as_aux_lemma => kernel_rfl)); apply run_step rfl; (exact stp_loadF rfl (by as_aux_lemma => kernel_rfl) rfl rfl rfl rfl); apply run_step rfl; (exact stp_move rfl rfl); apply run_step rfl; (first | (apply call_gate 108; exact stp_callN hR (by as_aux_lemma => kernel_rfl) rfl rfl ⟨rfl, rfl, trivial⟩ ⟨⟨_, rfl, .inr rfl⟩, trivial⟩ rfl rfl rfl) | (apply call_gate 109; exact stp_callR hQ (by as_aux_lemma => kernel_rfl) rfl rfl ⟨rfl, rfl, trivial⟩ ⟨⟨_, rfl, .inl rfl⟩, ⟨_, rfl, .inr rfl⟩, trivial⟩ rfl rfl)); refine run_nil ?_; refine fin_seq ?_)
  refine goes_cond rfl (fun _ => ?_) (fun e => by cases e)
  (refine goes_region ?_; apply run_step rfl; (exact stp_assign rfl rfl); refine run_nil ?_; refine fin_seq ?_; refine goes_seq ?_; refine goes_seq ?_; refine goes_region ?_; apply run_step rfl; (exact stp_move rfl rfl); apply run_step rfl; (exact stp_bin rfl rfl rfl rfl); refine run_nil ?_; refine fin_seq ?_)
  refine goes_cond rfl (fun e => by cases e) (fun _ => ?_)
  (refine goes_skip ?_; refine fin_seq ?_; refine goes_seq ?_; refine goes_region ?_; apply run_step rfl; (exact stp_assign rfl rfl); refine run_nil ?_; refine fin_seq ?_; refine goes_seq ?_; refine goes_seq ?_; refine goes_region ?_; apply run_step rfl; (exact stp_move rfl rfl); apply run_step rfl; (exact stp_move rfl rfl); refine run_nil ?_; refine fin_seq ?_; refine goes_block ?_)
  have hlp : ∀ k : Nat, k ≤ 5 → IntKind.i64.wrap ((1 : Int) * (k : Int)) = (1 : Int) * k ∧ IntKind.i64.wrap (2 + (1 : Int) * (k : Int)) = 2 + (1 : Int) * k := fun k hk => ⟨IntWalk.i64_in _ (by omega), IntWalk.i64_in _ (by omega)⟩
  refine goes_loop (fun k : Nat => St.of [(5, vv (I6 1)), (6, o1 (.sl 2100 0 k)), (62, vv (I6 ((m : Int) + 1))), (63, vv (I6 k))] [(2100, leOw (ramp k 1))]) (fun k => k ≤ m + 1) (fun k => m + 1 - k) 0 (Nat.zero_le _) (Wk.trans (wk_nil (t := 6) (n := 2100) (k := 1) (E := 2) (d := .vals (ivals (ramp 0 1))) rfl rfl) (Wk.of ⟨rfl, rfl, rfl, rfl, trivial⟩ ⟨rfl, trivial⟩ trivial)) ?_
  rintro k hk
  have hlk := hlp k (by omega)
  (refine goes_seq ?_; refine goes_region ?_; apply run_step rfl; (exact stp_bin rfl rfl rfl rfl); refine run_nil ?_; refine fin_seq ?_; refine goes_seq ?_)
  refine goes_if rfl (fun hlt => ?_) (fun hlt => ?_)
  · (refine goes_skip ?_; refine fin_seq ?_; refine goes_seq ?_; refine goes_block ?_; refine goes_seq ?_; refine goes_region ?_; apply run_step rfl; (exact stp_move rfl rfl); apply run_step rfl; (exact stp_assign rfl rfl); refine run_nil ?_; refine fin_seq ?_; refine goes_region ?_; apply run_step rfl; (exact stp_move rfl rfl); apply run_step rfl; (exact stp_move rfl rfl); apply run_step rfl; (exact stp_move rfl rfl); apply run_step rfl; (first | exact stp_mul rfl rfl rfl hlk.1 | exact stp_add rfl rfl rfl hlk.2 | exact stp_appI rfl (by as_aux_lemma => kernel_rfl) rfl rfl rfl (ramp_len _ _) rfl rfl (by omega)); apply run_step rfl; (first | exact stp_mul rfl rfl rfl hlk.1 | exact stp_add rfl rfl rfl hlk.2 | exact stp_appI rfl (by as_aux_lemma => kernel_rfl) rfl rfl rfl (ramp_len _ _) rfl rfl (by omega)); apply run_step rfl; (exact stp_lit1I (E := 2) rfl (by as_aux_lemma => kernel_rfl) rfl); apply run_step rfl; (first | exact stp_mul rfl rfl rfl hlk.1 | exact stp_add rfl rfl rfl hlk.2 | exact stp_appI rfl (by as_aux_lemma => kernel_rfl) rfl rfl rfl (ramp_len _ _) rfl rfl (by omega)); apply run_step rfl; (exact stp_assign rfl rfl); refine run_nil ?_; refine fin_block ?_; refine fin_seq ?_; refine goes_region ?_; apply run_step rfl; (exact stp_add rfl rfl rfl (by first | exact IntWalk.i64_in _ (by omega) | rfl)); apply run_step rfl; (exact stp_move rfl rfl); refine run_nil ?_)
    exact fin_round (k + 1) (by omega) (by omega) (Wk.of ⟨rfl, rfl, rfl, rfl, trivial⟩ ⟨by rw [ramp_succ]; rfl, trivial⟩ trivial)
  · obtain rfl : k = m + 1 := by omega
    (refine goes_exit ?_; refine fin_exit_then ?_; refine fin_exit_then ?_; refine fin_exit_eq ?_; refine fin_seq ?_; refine goes_seq ?_; refine goes_region ?_; apply run_step rfl; (exact stp_move rfl rfl); apply run_step rfl; (exact stp_assign rfl rfl); refine run_nil ?_; refine fin_seq ?_; refine goes_ret ?_)
    exact fin_ret1 (.inl rfl) rfl (.tmp rfl) ⟨rfl, trivial⟩ trivial
set_option maxRecDepth 100000 in
set_option maxHeartbeats 2000000 in
theorem deg6_fc (cs : List Cel) (mv : Int) (i m : Nat) (labs : List Int) (hi : cs[i]? = some (.r 2 1 m (ivals labs))) (hm : labs.length = m) (hm4 : m ≤ 4) (h0 : 0 < m) (hq : ¬ (m = 1 ∧ 0 < iget labs 0)) (e1 : eith labs [3, 5] = false) (e2 : eith labs [3, 3, 5] = false) (e3 : eith labs [3, 4, 3] = false) (e4 : labs ≠ List.replicate m 3) (e5 : eith labs ((List.replicate m (3 : Int)).set 0 4) = true) :
    FC Try.prog 65 [(1000, cxRo cs)] [cA mv i m] [(2100, leOw (ramp (m + 1) 2))] (o1 (.sl 2100 0 (m + 1))) [] := by
  have hSz := sizeE_fc 1000 i m
  have hE1 := (either_fc cs mv i m 2 labs [3, 5] hi hm rfl (by omega) (by omega)).nm [(1000, 1000), (1001, 33)] (by kernel_rfl)
  have hE1 : FC Try.prog 107 [(1000, cxRo cs), (33, wRo [3, 5])] [cA mv i m, o1 (.sl 33 0 2)] [] (vv (.bool (eith labs [3, 5]))) [] := hE1
  rw [e1] at hE1
  have hE2 := (either_fc cs mv i m 3 labs [3, 3, 5] hi hm rfl (by omega) (by omega)).nm [(1000, 1000), (1001, 38)] (by kernel_rfl)
  have hE2 : FC Try.prog 107 [(1000, cxRo cs), (38, wRo [3, 3, 5])] [cA mv i m, o1 (.sl 38 0 3)] [] (vv (.bool (eith labs [3, 3, 5]))) [] := hE2
  rw [e2] at hE2
  have hE3 := (either_fc cs mv i m 3 labs [3, 4, 3] hi hm rfl (by omega) (by omega)).nm [(1000, 1000), (1001, 43)] (by kernel_rfl)
  have hE3 : FC Try.prog 107 [(1000, cxRo cs), (43, wRo [3, 4, 3])] [cA mv i m, o1 (.sl 43 0 3)] [] (vv (.bool (eith labs [3, 4, 3]))) [] := hE3
  rw [e3] at hE3
  refine fc_enter (nt := 75) Try.func65 rfl rfl (by simp) fun w0 ω0 => ?_
  have hR : FC Try.prog 108 [(46, ⟨false, 2, 1, .vals (ivals [3])⟩)] [o1 (.sl 46 0 1), vv (I6 m)] [(50, ⟨true, 2, 1, .vals (ivals (List.replicate m 3))⟩)] (o1 (.sl 50 0 m)) [] := repeat1_fc 46 50 m 3 (by omega) h0
  have hrl : (List.replicate m (3 : Int)).length = m := by simp
  have hQ := (equalM_fc cs i m m 67 2 labs (List.replicate m 3) hi hm hrl (by omega) (by omega)).nm [(1000, 1000), (1001, 50)] (by kernel_rfl)
  have hQ : FC Try.prog 109 [(1000, cxRo cs), (50, wRo (List.replicate m 3))] [o1 (.esl 1000 i 0 m), o1 (.sl 50 0 m)] [] (vv (.bool (labs == List.replicate m 3))) [] := hQ
  have hF := (either_fc cs mv i m m labs ((List.replicate m 3).set 0 4) hi hm (by simp) (by omega) (by omega)).nm [(1000, 1000), (1001, 50)] (by kernel_rfl)
  have hF : FC Try.prog 107 [(1000, cxRo cs), (50, wRo ((List.replicate m 3).set 0 4))] [cA mv i m, o1 (.sl 50 0 m)] [] (vv (.bool (eith labs ((List.replicate m 3).set 0 4)))) [] := hF
  have e4' : (labs == List.replicate m 3) = false := by simpa using e4
  rw [e4'] at hQ
  rw [e5] at hF
  have hw1 : IntKind.i64.wrap ((m : Int) + 1) = (m : Int) + 1 := IntWalk.i64_in _ (by omega)
  (refine goes_seq ?_; refine goes_region ?_; apply run_step rfl; (exact stp_box rfl rfl rfl rfl); apply run_step rfl; (exact stp_assign rfl rfl); refine run_nil ?_; refine fin_seq ?_; refine goes_seq ?_; refine goes_region ?_; apply run_step rfl; (exact stp_fieldAddr (d := 1) rfl rfl rfl (by as_aux_lemma => kernel_rfl)); apply run_step rfl; (exact stp_loadF rfl (by as_aux_lemma => kernel_rfl) rfl rfl rfl rfl); apply run_step rfl; (first | (apply call_gate 88; exact stp_callR hSz (by as_aux_lemma => kernel_rfl) rfl rfl ⟨rfl, trivial⟩ trivial rfl rfl) | exact stp_add rfl rfl rfl hw1); apply run_step rfl; (first | (apply call_gate 88; exact stp_callR hSz (by as_aux_lemma => kernel_rfl) rfl rfl ⟨rfl, trivial⟩ trivial rfl rfl) | exact stp_add rfl rfl rfl hw1); apply run_step rfl; (exact stp_assign rfl rfl); refine run_nil ?_; refine fin_seq ?_; refine goes_seq ?_; refine goes_block ?_; refine goes_seq ?_; refine goes_region ?_; apply run_step rfl; (exact stp_move rfl rfl); apply run_step rfl; (exact stp_bin rfl rfl rfl rfl); apply run_step rfl; (exact stp_assign rfl rfl); refine run_nil ?_; refine fin_seq ?_)
  refine goes_cond rfl (fun e => ?_) (fun _ => ?_)
  · exfalso; simp at e; omega
  (repeat (first | refine goes_seq ?_ | refine fin_seq ?_ | refine goes_skip ?_ | refine goes_block ?_ | refine fin_block ?_ | refine goes_exit ?_ | refine fin_exit_eq ?_ | refine fin_exit_ne rfl ?_ | refine fin_exit_then ?_))
  refine goes_cut (St.of [(1, o1 (.ptr 1 0)), (3, vv (I6 ((m : Int) + 1))), (16, vv (.bool false))] [(1000, cxRo cs), (1, ⟨true, 67, 2, .flat [.val (I6 mv), .esl 1000 i 0 m]⟩)]) ?_ ?_
  · refine goes_region ?_
    (apply run_step rfl; (exact stp_move rfl rfl); apply run_step rfl; (exact stp_bin rfl rfl rfl rfl); apply run_step rfl; (exact stp_move rfl rfl))
    refine run_bool 19 rfl (fun e1 => ?_) (fun e1 => ?_)
    · have e1 : m = 1 := by simp at e1; omega
      have hg2 : ¬ iget labs 0 > 0 := fun h => hq ⟨e1, h⟩
      have hgl : (ivals labs)[0]? = some (I6 (iget labs 0)) := ivals_get (by omega)
      have hbf : binI .i64 .gtr (iget labs 0) 0 = some (.bool false) := by simp [binI]; omega
      (apply run_gYes rfl rfl rfl; (exact stp_fieldAddr (d := 1) rfl rfl rfl (by as_aux_lemma => kernel_rfl)); apply run_gYes rfl rfl rfl; (exact stp_loadF rfl (by as_aux_lemma => kernel_rfl) rfl rfl rfl rfl); apply run_gYes rfl rfl rfl; (first | exact stp_bin rfl rfl rfl hbf | exact stp_ixM (j := 0) rfl rfl rfl rfl rfl (by as_aux_lemma => kernel_rfl) hi (by omega) rfl (by omega) (Nat.le_refl _) | exact stp_loadEM rfl (by as_aux_lemma => kernel_rfl) rfl rfl rfl hi hgl); apply run_gYes rfl rfl rfl; (first | exact stp_bin rfl rfl rfl hbf | exact stp_ixM (j := 0) rfl rfl rfl rfl rfl (by as_aux_lemma => kernel_rfl) hi (by omega) rfl (by omega) (Nat.le_refl _) | exact stp_loadEM rfl (by as_aux_lemma => kernel_rfl) rfl rfl rfl hi hgl); apply run_gYes rfl rfl rfl; (first | exact stp_bin rfl rfl rfl hbf | exact stp_ixM (j := 0) rfl rfl rfl rfl rfl (by as_aux_lemma => kernel_rfl) hi (by omega) rfl (by omega) (Nat.le_refl _) | exact stp_loadEM rfl (by as_aux_lemma => kernel_rfl) rfl rfl rfl hi hgl); apply run_step rfl; (exact stp_pickT rfl rfl rfl); apply run_step rfl; (exact stp_assign rfl rfl); refine run_nil ?_)
      exact fin_join (Wk.of ⟨rfl, rfl, rfl, trivial⟩ ⟨rfl, rfl, trivial⟩ trivial)
    · (apply run_gNo rfl rfl rfl rfl rfl; apply run_gNo rfl rfl rfl rfl rfl; apply run_gNo rfl rfl rfl rfl rfl; apply run_gNo rfl rfl rfl rfl rfl; apply run_gNo rfl rfl rfl rfl rfl; apply run_step rfl; (exact stp_pickF rfl rfl rfl); apply run_step rfl; (exact stp_assign rfl rfl); refine run_nil ?_)
      exact fin_join (Wk.of ⟨rfl, rfl, rfl, trivial⟩ ⟨rfl, rfl, trivial⟩ trivial)
  (refine fin_seq ?_)
  refine goes_cond rfl (fun e => by cases e) (fun _ => ?_)
  (refine goes_seq ?_; refine goes_region ?_; apply run_step rfl; (exact stp_loadAgg rfl rfl rfl rfl rfl rfl (by as_aux_lemma => kernel_rfl)); apply run_step rfl; (exact stp_lit2I (E := 2) rfl (by as_aux_lemma => kernel_rfl) rfl rfl); apply run_step rfl; (first | (apply call_gate 107; exact stp_callR hE1 (by as_aux_lemma => kernel_rfl) rfl rfl ⟨⟨.inl rfl, .inl rfl, trivial⟩, rfl, trivial⟩ ⟨⟨_, rfl, .inl rfl⟩, ⟨_, rfl, .inr rfl⟩, trivial⟩ rfl rfl) | exact stp_lit3I (E := 2) rfl (by as_aux_lemma => kernel_rfl) rfl rfl rfl | exact stp_lit4I (E := 2) rfl (by as_aux_lemma => kernel_rfl) rfl rfl rfl rfl); apply run_step rfl; (exact stp_assign rfl rfl); refine run_nil ?_; refine fin_seq ?_)
  refine goes_cond rfl (fun e => by cases e) (fun _ => ?_)
  (refine goes_seq ?_; refine goes_region ?_; apply run_step rfl; (exact stp_loadAgg rfl rfl rfl rfl rfl rfl (by as_aux_lemma => kernel_rfl)); apply run_step rfl; (first | (apply call_gate 107; exact stp_callR hE2 (by as_aux_lemma => kernel_rfl) rfl rfl ⟨⟨.inl rfl, .inl rfl, trivial⟩, rfl, trivial⟩ ⟨⟨_, rfl, .inl rfl⟩, ⟨_, rfl, .inr rfl⟩, trivial⟩ rfl rfl) | exact stp_lit3I (E := 2) rfl (by as_aux_lemma => kernel_rfl) rfl rfl rfl | exact stp_lit4I (E := 2) rfl (by as_aux_lemma => kernel_rfl) rfl rfl rfl rfl); apply run_step rfl; (first | (apply call_gate 107; exact stp_callR hE2 (by as_aux_lemma => kernel_rfl) rfl rfl ⟨⟨.inl rfl, .inl rfl, trivial⟩, rfl, trivial⟩ ⟨⟨_, rfl, .inl rfl⟩, ⟨_, rfl, .inr rfl⟩, trivial⟩ rfl rfl) | exact stp_lit3I (E := 2) rfl (by as_aux_lemma => kernel_rfl) rfl rfl rfl | exact stp_lit4I (E := 2) rfl (by as_aux_lemma => kernel_rfl) rfl rfl rfl rfl); apply run_step rfl; (exact stp_assign rfl rfl); refine run_nil ?_; refine fin_seq ?_)
  refine goes_cond rfl (fun e => by cases e) (fun _ => ?_)
  (refine goes_seq ?_; refine goes_region ?_; apply run_step rfl; (exact stp_loadAgg rfl rfl rfl rfl rfl rfl (by as_aux_lemma => kernel_rfl)); apply run_step rfl; (first | (apply call_gate 107; exact stp_callR hE3 (by as_aux_lemma => kernel_rfl) rfl rfl ⟨⟨.inl rfl, .inl rfl, trivial⟩, rfl, trivial⟩ ⟨⟨_, rfl, .inl rfl⟩, ⟨_, rfl, .inr rfl⟩, trivial⟩ rfl rfl) | exact stp_lit3I (E := 2) rfl (by as_aux_lemma => kernel_rfl) rfl rfl rfl | exact stp_lit4I (E := 2) rfl (by as_aux_lemma => kernel_rfl) rfl rfl rfl rfl); apply run_step rfl; (first | (apply call_gate 107; exact stp_callR hE3 (by as_aux_lemma => kernel_rfl) rfl rfl ⟨⟨.inl rfl, .inl rfl, trivial⟩, rfl, trivial⟩ ⟨⟨_, rfl, .inl rfl⟩, ⟨_, rfl, .inr rfl⟩, trivial⟩ rfl rfl) | exact stp_lit3I (E := 2) rfl (by as_aux_lemma => kernel_rfl) rfl rfl rfl | exact stp_lit4I (E := 2) rfl (by as_aux_lemma => kernel_rfl) rfl rfl rfl rfl); apply run_step rfl; (exact stp_assign rfl rfl); refine run_nil ?_; refine fin_seq ?_)
  refine goes_cond rfl (fun e => by cases e) (fun _ => ?_)
  (refine goes_skip ?_; refine fin_block ?_; refine fin_seq ?_; refine goes_seq ?_; refine goes_region ?_; apply run_step rfl; (exact stp_lit1I (E := 2) rfl (by as_aux_lemma => kernel_rfl) rfl); apply run_step rfl; (exact stp_fieldAddr (d := 1) rfl rfl rfl (by as_aux_lemma => kernel_rfl)); apply run_step rfl; (exact stp_loadF rfl (by as_aux_lemma => kernel_rfl) rfl rfl rfl rfl); apply run_step rfl; (exact stp_len rfl rfl rfl (by as_aux_lemma => kernel_rfl)); apply run_step rfl; (first | (apply call_gate 108; exact stp_callN hR (by as_aux_lemma => kernel_rfl) rfl rfl ⟨rfl, rfl, trivial⟩ ⟨⟨_, rfl, .inr rfl⟩, trivial⟩ rfl rfl rfl) | (apply call_gate 109; exact stp_callR hQ (by as_aux_lemma => kernel_rfl) rfl rfl ⟨rfl, rfl, trivial⟩ ⟨⟨_, rfl, .inl rfl⟩, ⟨_, rfl, .inr rfl⟩, trivial⟩ rfl rfl)); apply run_step rfl; (exact stp_assign rfl rfl); refine run_nil ?_; refine fin_seq ?_; refine goes_seq ?_; refine goes_region ?_; apply run_step rfl; (exact stp_assign rfl rfl); refine run_nil ?_; refine fin_seq ?_; refine goes_seq ?_; refine goes_seq ?_; refine goes_region ?_; apply run_step rfl; (exact stp_fieldAddr (d := 1) rfl rfl rfl (by as_aux_lemma => kernel_rfl)); apply run_step rfl; (exact stp_loadF rfl (by as_aux_lemma => kernel_rfl) rfl rfl rfl rfl); apply run_step rfl; (exact stp_move rfl rfl); apply run_step rfl; (first | (apply call_gate 108; exact stp_callN hR (by as_aux_lemma => kernel_rfl) rfl rfl ⟨rfl, rfl, trivial⟩ ⟨⟨_, rfl, .inr rfl⟩, trivial⟩ rfl rfl rfl) | (apply call_gate 109; exact stp_callR hQ (by as_aux_lemma => kernel_rfl) rfl rfl ⟨rfl, rfl, trivial⟩ ⟨⟨_, rfl, .inl rfl⟩, ⟨_, rfl, .inr rfl⟩, trivial⟩ rfl rfl)); refine run_nil ?_; refine fin_seq ?_)
  refine goes_cond rfl (fun e => by cases e) (fun _ => ?_)
  (refine goes_seq ?_; refine goes_region ?_; apply run_step rfl; (exact stp_move rfl rfl); apply run_step rfl; (exact stp_ix rfl rfl rfl rfl rfl (by as_aux_lemma => kernel_rfl) (by first | rfl | exact (Int.toNat_of_nonneg (by omega)).symm) (by first | assumption | omega | (simp; omega)) (by first | exact Nat.le_refl _ | exact Nat.le_of_eq (ivals_len _).symm | exact Nat.le_of_eq (irows_len _).symm | (refine Nat.le_trans ?_ (Nat.le_of_eq (ivals_len _).symm); (first | omega | (simp; done) | (simp; omega))) | (refine Nat.le_trans ?_ (Nat.le_of_eq (irows_len _).symm); (first | omega | (simp; done) | (simp; omega))))); apply run_step rfl; (first | exact stp_ix (j := 0) rfl rfl rfl rfl rfl (by as_aux_lemma => kernel_rfl) rfl h0 (by rw [ivals_len, hrl]; exact Nat.le_refl _) | exact stp_stI rfl rfl rfl rfl rfl (by rw [hrl]; exact h0) (by as_aux_lemma => kernel_rfl) | (apply call_gate 107; exact stp_callR hF (by as_aux_lemma => kernel_rfl) rfl rfl ⟨⟨.inl rfl, .inl rfl, trivial⟩, rfl, trivial⟩ ⟨⟨_, rfl, .inl rfl⟩, ⟨_, rfl, .inr rfl⟩, trivial⟩ rfl rfl)); refine run_nil ?_; refine fin_seq ?_; refine goes_seq ?_; refine goes_region ?_; apply run_step rfl; (exact stp_loadAgg rfl rfl rfl rfl rfl rfl (by as_aux_lemma => kernel_rfl)); apply run_step rfl; (exact stp_move rfl rfl); apply run_step rfl; (first | exact stp_ix (j := 0) rfl rfl rfl rfl rfl (by as_aux_lemma => kernel_rfl) rfl h0 (by rw [ivals_len, hrl]; exact Nat.le_refl _) | exact stp_stI rfl rfl rfl rfl rfl (by rw [hrl]; exact h0) (by as_aux_lemma => kernel_rfl) | (apply call_gate 107; exact stp_callR hF (by as_aux_lemma => kernel_rfl) rfl rfl ⟨⟨.inl rfl, .inl rfl, trivial⟩, rfl, trivial⟩ ⟨⟨_, rfl, .inl rfl⟩, ⟨_, rfl, .inr rfl⟩, trivial⟩ rfl rfl)); refine run_nil ?_; refine fin_seq ?_)
  refine goes_cond rfl (fun _ => ?_) (fun e => by cases e)
  (refine goes_region ?_; apply run_step rfl; (exact stp_assign rfl rfl); refine run_nil ?_; refine fin_seq ?_; refine goes_seq ?_; refine goes_seq ?_; refine goes_region ?_; apply run_step rfl; (exact stp_move rfl rfl); apply run_step rfl; (exact stp_bin rfl rfl rfl rfl); refine run_nil ?_; refine fin_seq ?_)
  refine goes_cond rfl (fun e => by cases e) (fun _ => ?_)
  (refine goes_skip ?_; refine fin_seq ?_; refine goes_seq ?_; refine goes_region ?_; apply run_step rfl; (exact stp_assign rfl rfl); refine run_nil ?_; refine fin_seq ?_; refine goes_seq ?_; refine goes_seq ?_; refine goes_region ?_; apply run_step rfl; (exact stp_move rfl rfl); apply run_step rfl; (exact stp_move rfl rfl); refine run_nil ?_; refine fin_seq ?_; refine goes_block ?_)
  have hlp : ∀ k : Nat, k ≤ 5 → IntKind.i64.wrap ((2 : Int) * (k : Int)) = (2 : Int) * k ∧ IntKind.i64.wrap (2 + (2 : Int) * (k : Int)) = 2 + (2 : Int) * k := fun k hk => ⟨IntWalk.i64_in _ (by omega), IntWalk.i64_in _ (by omega)⟩
  refine goes_loop (fun k : Nat => St.of [(5, vv (I6 2)), (6, o1 (.sl 2100 0 k)), (62, vv (I6 ((m : Int) + 1))), (63, vv (I6 k))] [(2100, leOw (ramp k 2))]) (fun k => k ≤ m + 1) (fun k => m + 1 - k) 0 (Nat.zero_le _) (Wk.trans (wk_nil (t := 6) (n := 2100) (k := 1) (E := 2) (d := .vals (ivals (ramp 0 2))) rfl rfl) (Wk.of ⟨rfl, rfl, rfl, rfl, trivial⟩ ⟨rfl, trivial⟩ trivial)) ?_
  rintro k hk
  have hlk := hlp k (by omega)
  (refine goes_seq ?_; refine goes_region ?_; apply run_step rfl; (exact stp_bin rfl rfl rfl rfl); refine run_nil ?_; refine fin_seq ?_; refine goes_seq ?_)
  refine goes_if rfl (fun hlt => ?_) (fun hlt => ?_)
  · (refine goes_skip ?_; refine fin_seq ?_; refine goes_seq ?_; refine goes_block ?_; refine goes_seq ?_; refine goes_region ?_; apply run_step rfl; (exact stp_move rfl rfl); apply run_step rfl; (exact stp_assign rfl rfl); refine run_nil ?_; refine fin_seq ?_; refine goes_region ?_; apply run_step rfl; (exact stp_move rfl rfl); apply run_step rfl; (exact stp_move rfl rfl); apply run_step rfl; (exact stp_move rfl rfl); apply run_step rfl; (first | exact stp_mul rfl rfl rfl hlk.1 | exact stp_add rfl rfl rfl hlk.2 | exact stp_appI rfl (by as_aux_lemma => kernel_rfl) rfl rfl rfl (ramp_len _ _) rfl rfl (by omega)); apply run_step rfl; (first | exact stp_mul rfl rfl rfl hlk.1 | exact stp_add rfl rfl rfl hlk.2 | exact stp_appI rfl (by as_aux_lemma => kernel_rfl) rfl rfl rfl (ramp_len _ _) rfl rfl (by omega)); apply run_step rfl; (exact stp_lit1I (E := 2) rfl (by as_aux_lemma => kernel_rfl) rfl); apply run_step rfl; (first | exact stp_mul rfl rfl rfl hlk.1 | exact stp_add rfl rfl rfl hlk.2 | exact stp_appI rfl (by as_aux_lemma => kernel_rfl) rfl rfl rfl (ramp_len _ _) rfl rfl (by omega)); apply run_step rfl; (exact stp_assign rfl rfl); refine run_nil ?_; refine fin_block ?_; refine fin_seq ?_; refine goes_region ?_; apply run_step rfl; (exact stp_add rfl rfl rfl (by first | exact IntWalk.i64_in _ (by omega) | rfl)); apply run_step rfl; (exact stp_move rfl rfl); refine run_nil ?_)
    exact fin_round (k + 1) (by omega) (by omega) (Wk.of ⟨rfl, rfl, rfl, rfl, trivial⟩ ⟨by rw [ramp_succ]; rfl, trivial⟩ trivial)
  · obtain rfl : k = m + 1 := by omega
    (refine goes_exit ?_; refine fin_exit_then ?_; refine fin_exit_then ?_; refine fin_exit_eq ?_; refine fin_seq ?_; refine goes_seq ?_; refine goes_region ?_; apply run_step rfl; (exact stp_move rfl rfl); apply run_step rfl; (exact stp_assign rfl rfl); refine run_nil ?_; refine fin_seq ?_; refine goes_ret ?_)
    exact fin_ret1 (.inl rfl) rfl (.tmp rfl) ⟨rfl, trivial⟩ trivial
set_option maxRecDepth 100000 in
set_option maxHeartbeats 2000000 in
theorem deg7_fc (cs : List Cel) (mv : Int) (i m : Nat) (labs : List Int) (hi : cs[i]? = some (.r 2 1 m (ivals labs))) (hm : labs.length = m) (hm4 : m ≤ 4) (h0 : 0 < m) (hq : ¬ (m = 1 ∧ 0 < iget labs 0)) (e1 : eith labs [3, 5] = false) (e2 : eith labs [3, 3, 5] = false) (e3 : eith labs [3, 4, 3] = false) (e4 : labs ≠ List.replicate m 3) (e5 : eith labs ((List.replicate m (3 : Int)).set 0 4) = false) :
    FC Try.prog 65 [(1000, cxRo cs)] [cA mv i m] [] (vv (.slice none 0 0)) [] := by
  have hSz := sizeE_fc 1000 i m
  have hE1 := (either_fc cs mv i m 2 labs [3, 5] hi hm rfl (by omega) (by omega)).nm [(1000, 1000), (1001, 33)] (by kernel_rfl)
  have hE1 : FC Try.prog 107 [(1000, cxRo cs), (33, wRo [3, 5])] [cA mv i m, o1 (.sl 33 0 2)] [] (vv (.bool (eith labs [3, 5]))) [] := hE1
  rw [e1] at hE1
  have hE2 := (either_fc cs mv i m 3 labs [3, 3, 5] hi hm rfl (by omega) (by omega)).nm [(1000, 1000), (1001, 38)] (by kernel_rfl)
  have hE2 : FC Try.prog 107 [(1000, cxRo cs), (38, wRo [3, 3, 5])] [cA mv i m, o1 (.sl 38 0 3)] [] (vv (.bool (eith labs [3, 3, 5]))) [] := hE2
  rw [e2] at hE2
  have hE3 := (either_fc cs mv i m 3 labs [3, 4, 3] hi hm rfl (by omega) (by omega)).nm [(1000, 1000), (1001, 43)] (by kernel_rfl)
  have hE3 : FC Try.prog 107 [(1000, cxRo cs), (43, wRo [3, 4, 3])] [cA mv i m, o1 (.sl 43 0 3)] [] (vv (.bool (eith labs [3, 4, 3]))) [] := hE3
  rw [e3] at hE3
  refine fc_enter (nt := 75) Try.func65 rfl rfl (by simp) fun w0 ω0 => ?_
  have hR : FC Try.prog 108 [(46, ⟨false, 2, 1, .vals (ivals [3])⟩)] [o1 (.sl 46 0 1), vv (I6 m)] [(50, ⟨true, 2, 1, .vals (ivals (List.replicate m 3))⟩)] (o1 (.sl 50 0 m)) [] := repeat1_fc 46 50 m 3 (by omega) h0
  have hrl : (List.replicate m (3 : Int)).length = m := by simp
  have hQ := (equalM_fc cs i m m 67 2 labs (List.replicate m 3) hi hm hrl (by omega) (by omega)).nm [(1000, 1000), (1001, 50)] (by kernel_rfl)
  have hQ : FC Try.prog 109 [(1000, cxRo cs), (50, wRo (List.replicate m 3))] [o1 (.esl 1000 i 0 m), o1 (.sl 50 0 m)] [] (vv (.bool (labs == List.replicate m 3))) [] := hQ
  have hF := (either_fc cs mv i m m labs ((List.replicate m 3).set 0 4) hi hm (by simp) (by omega) (by omega)).nm [(1000, 1000), (1001, 50)] (by kernel_rfl)
  have hF : FC Try.prog 107 [(1000, cxRo cs), (50, wRo ((List.replicate m 3).set 0 4))] [cA mv i m, o1 (.sl 50 0 m)] [] (vv (.bool (eith labs ((List.replicate m 3).set 0 4)))) [] := hF
  have e4' : (labs == List.replicate m 3) = false := by simpa using e4
  rw [e4'] at hQ
  rw [e5] at hF
  have hw1 : IntKind.i64.wrap ((m : Int) + 1) = (m : Int) + 1 := IntWalk.i64_in _ (by omega)
  (refine goes_seq ?_; refine goes_region ?_; apply run_step rfl; (exact stp_box rfl rfl rfl rfl); apply run_step rfl; (exact stp_assign rfl rfl); refine run_nil ?_; refine fin_seq ?_; refine goes_seq ?_; refine goes_region ?_; apply run_step rfl; (exact stp_fieldAddr (d := 1) rfl rfl rfl (by as_aux_lemma => kernel_rfl)); apply run_step rfl; (exact stp_loadF rfl (by as_aux_lemma => kernel_rfl) rfl rfl rfl rfl); apply run_step rfl; (first | (apply call_gate 88; exact stp_callR hSz (by as_aux_lemma => kernel_rfl) rfl rfl ⟨rfl, trivial⟩ trivial rfl rfl) | exact stp_add rfl rfl rfl hw1); apply run_step rfl; (first | (apply call_gate 88; exact stp_callR hSz (by as_aux_lemma => kernel_rfl) rfl rfl ⟨rfl, trivial⟩ trivial rfl rfl) | exact stp_add rfl rfl rfl hw1); apply run_step rfl; (exact stp_assign rfl rfl); refine run_nil ?_; refine fin_seq ?_; refine goes_seq ?_; refine goes_block ?_; refine goes_seq ?_; refine goes_region ?_; apply run_step rfl; (exact stp_move rfl rfl); apply run_step rfl; (exact stp_bin rfl rfl rfl rfl); apply run_step rfl; (exact stp_assign rfl rfl); refine run_nil ?_; refine fin_seq ?_)
  refine goes_cond rfl (fun e => ?_) (fun _ => ?_)
  · exfalso; simp at e; omega
  (repeat (first | refine goes_seq ?_ | refine fin_seq ?_ | refine goes_skip ?_ | refine goes_block ?_ | refine fin_block ?_ | refine goes_exit ?_ | refine fin_exit_eq ?_ | refine fin_exit_ne rfl ?_ | refine fin_exit_then ?_))
  refine goes_cut (St.of [(1, o1 (.ptr 1 0)), (3, vv (I6 ((m : Int) + 1))), (16, vv (.bool false))] [(1000, cxRo cs), (1, ⟨true, 67, 2, .flat [.val (I6 mv), .esl 1000 i 0 m]⟩)]) ?_ ?_
  · refine goes_region ?_
    (apply run_step rfl; (exact stp_move rfl rfl); apply run_step rfl; (exact stp_bin rfl rfl rfl rfl); apply run_step rfl; (exact stp_move rfl rfl))
    refine run_bool 19 rfl (fun e1 => ?_) (fun e1 => ?_)
    · have e1 : m = 1 := by simp at e1; omega
      have hg2 : ¬ iget labs 0 > 0 := fun h => hq ⟨e1, h⟩
      have hgl : (ivals labs)[0]? = some (I6 (iget labs 0)) := ivals_get (by omega)
      have hbf : binI .i64 .gtr (iget labs 0) 0 = some (.bool false) := by simp [binI]; omega
      (apply run_gYes rfl rfl rfl; (exact stp_fieldAddr (d := 1) rfl rfl rfl (by as_aux_lemma => kernel_rfl)); apply run_gYes rfl rfl rfl; (exact stp_loadF rfl (by as_aux_lemma => kernel_rfl) rfl rfl rfl rfl); apply run_gYes rfl rfl rfl; (first | exact stp_bin rfl rfl rfl hbf | exact stp_ixM (j := 0) rfl rfl rfl rfl rfl (by as_aux_lemma => kernel_rfl) hi (by omega) rfl (by omega) (Nat.le_refl _) | exact stp_loadEM rfl (by as_aux_lemma => kernel_rfl) rfl rfl rfl hi hgl); apply run_gYes rfl rfl rfl; (first | exact stp_bin rfl rfl rfl hbf | exact stp_ixM (j := 0) rfl rfl rfl rfl rfl (by as_aux_lemma => kernel_rfl) hi (by omega) rfl (by omega) (Nat.le_refl _) | exact stp_loadEM rfl (by as_aux_lemma => kernel_rfl) rfl rfl rfl hi hgl); apply run_gYes rfl rfl rfl; (first | exact stp_bin rfl rfl rfl hbf | exact stp_ixM (j := 0) rfl rfl rfl rfl rfl (by as_aux_lemma => kernel_rfl) hi (by omega) rfl (by omega) (Nat.le_refl _) | exact stp_loadEM rfl (by as_aux_lemma => kernel_rfl) rfl rfl rfl hi hgl); apply run_step rfl; (exact stp_pickT rfl rfl rfl); apply run_step rfl; (exact stp_assign rfl rfl); refine run_nil ?_)
      exact fin_join (Wk.of ⟨rfl, rfl, rfl, trivial⟩ ⟨rfl, rfl, trivial⟩ trivial)
    · (apply run_gNo rfl rfl rfl rfl rfl; apply run_gNo rfl rfl rfl rfl rfl; apply run_gNo rfl rfl rfl rfl rfl; apply run_gNo rfl rfl rfl rfl rfl; apply run_gNo rfl rfl rfl rfl rfl; apply run_step rfl; (exact stp_pickF rfl rfl rfl); apply run_step rfl; (exact stp_assign rfl rfl); refine run_nil ?_)
      exact fin_join (Wk.of ⟨rfl, rfl, rfl, trivial⟩ ⟨rfl, rfl, trivial⟩ trivial)
  (refine fin_seq ?_)
  refine goes_cond rfl (fun e => by cases e) (fun _ => ?_)
  (refine goes_seq ?_; refine goes_region ?_; apply run_step rfl; (exact stp_loadAgg rfl rfl rfl rfl rfl rfl (by as_aux_lemma => kernel_rfl)); apply run_step rfl; (exact stp_lit2I (E := 2) rfl (by as_aux_lemma => kernel_rfl) rfl rfl); apply run_step rfl; (first | (apply call_gate 107; exact stp_callR hE1 (by as_aux_lemma => kernel_rfl) rfl rfl ⟨⟨.inl rfl, .inl rfl, trivial⟩, rfl, trivial⟩ ⟨⟨_, rfl, .inl rfl⟩, ⟨_, rfl, .inr rfl⟩, trivial⟩ rfl rfl) | exact stp_lit3I (E := 2) rfl (by as_aux_lemma => kernel_rfl) rfl rfl rfl | exact stp_lit4I (E := 2) rfl (by as_aux_lemma => kernel_rfl) rfl rfl rfl rfl); apply run_step rfl; (exact stp_assign rfl rfl); refine run_nil ?_; refine fin_seq ?_)
  refine goes_cond rfl (fun e => by cases e) (fun _ => ?_)
  (refine goes_seq ?_; refine goes_region ?_; apply run_step rfl; (exact stp_loadAgg rfl rfl rfl rfl rfl rfl (by as_aux_lemma => kernel_rfl)); apply run_step rfl; (first | (apply call_gate 107; exact stp_callR hE2 (by as_aux_lemma => kernel_rfl) rfl rfl ⟨⟨.inl rfl, .inl rfl, trivial⟩, rfl, trivial⟩ ⟨⟨_, rfl, .inl rfl⟩, ⟨_, rfl, .inr rfl⟩, trivial⟩ rfl rfl) | exact stp_lit3I (E := 2) rfl (by as_aux_lemma => kernel_rfl) rfl rfl rfl | exact stp_lit4I (E := 2) rfl (by as_aux_lemma => kernel_rfl) rfl rfl rfl rfl); apply run_step rfl; (first | (apply call_gate 107; exact stp_callR hE2 (by as_aux_lemma => kernel_rfl) rfl rfl ⟨⟨.inl rfl, .inl rfl, trivial⟩, rfl, trivial⟩ ⟨⟨_, rfl, .inl rfl⟩, ⟨_, rfl, .inr rfl⟩, trivial⟩ rfl rfl) | exact stp_lit3I (E := 2) rfl (by as_aux_lemma => kernel_rfl) rfl rfl rfl | exact stp_lit4I (E := 2) rfl (by as_aux_lemma => kernel_rfl) rfl rfl rfl rfl); apply run_step rfl; (exact stp_assign rfl rfl); refine run_nil ?_; refine fin_seq ?_)
  refine goes_cond rfl (fun e => by cases e) (fun _ => ?_)
  (refine goes_seq ?_; refine goes_region ?_; apply run_step rfl; (exact stp_loadAgg rfl rfl rfl rfl rfl rfl (by as_aux_lemma => kernel_rfl)); apply run_step rfl; (first | (apply call_gate 107; exact stp_callR hE3 (by as_aux_lemma => kernel_rfl) rfl rfl ⟨⟨.inl rfl, .inl rfl, trivial⟩, rfl, trivial⟩ ⟨⟨_, rfl, .inl rfl⟩, ⟨_, rfl, .inr rfl⟩, trivial⟩ rfl rfl) | exact stp_lit3I (E := 2) rfl (by as_aux_lemma => kernel_rfl) rfl rfl rfl | exact stp_lit4I (E := 2) rfl (by as_aux_lemma => kernel_rfl) rfl rfl rfl rfl); apply run_step rfl; (first | (apply call_gate 107; exact stp_callR hE3 (by as_aux_lemma => kernel_rfl) rfl rfl ⟨⟨.inl rfl, .inl rfl, trivial⟩, rfl, trivial⟩ ⟨⟨_, rfl, .inl rfl⟩, ⟨_, rfl, .inr rfl⟩, trivial⟩ rfl rfl) | exact stp_lit3I (E := 2) rfl (by as_aux_lemma => kernel_rfl) rfl rfl rfl | exact stp_lit4I (E := 2) rfl (by as_aux_lemma => kernel_rfl) rfl rfl rfl rfl); apply run_step rfl; (exact stp_assign rfl rfl); refine run_nil ?_; refine fin_seq ?_)
  refine goes_cond rfl (fun e => by cases e) (fun _ => ?_)
  (refine goes_skip ?_; refine fin_block ?_; refine fin_seq ?_; refine goes_seq ?_; refine goes_region ?_; apply run_step rfl; (exact stp_lit1I (E := 2) rfl (by as_aux_lemma => kernel_rfl) rfl); apply run_step rfl; (exact stp_fieldAddr (d := 1) rfl rfl rfl (by as_aux_lemma => kernel_rfl)); apply run_step rfl; (exact stp_loadF rfl (by as_aux_lemma => kernel_rfl) rfl rfl rfl rfl); apply run_step rfl; (exact stp_len rfl rfl rfl (by as_aux_lemma => kernel_rfl)); apply run_step rfl; (first | (apply call_gate 108; exact stp_callN hR (by as_aux_lemma => kernel_rfl) rfl rfl ⟨rfl, rfl, trivial⟩ ⟨⟨_, rfl, .inr rfl⟩, trivial⟩ rfl rfl rfl) | (apply call_gate 109; exact stp_callR hQ (by as_aux_lemma => kernel_rfl) rfl rfl ⟨rfl, rfl, trivial⟩ ⟨⟨_, rfl, .inl rfl⟩, ⟨_, rfl, .inr rfl⟩, trivial⟩ rfl rfl)); apply run_step rfl; (exact stp_assign rfl rfl); refine run_nil ?_; refine fin_seq ?_; refine goes_seq ?_; refine goes_region ?_; apply run_step rfl; (exact stp_assign rfl rfl); refine run_nil ?_; refine fin_seq ?_; refine goes_seq ?_; refine goes_seq ?_; refine goes_region ?_; apply run_step rfl; (exact stp_fieldAddr (d := 1) rfl rfl rfl (by as_aux_lemma => kernel_rfl)); apply run_step rfl; (exact stp_loadF rfl (by as_aux_lemma => kernel_rfl) rfl rfl rfl rfl); apply run_step rfl; (exact stp_move rfl rfl); apply run_step rfl; (first | (apply call_gate 108; exact stp_callN hR (by as_aux_lemma => kernel_rfl) rfl rfl ⟨rfl, rfl, trivial⟩ ⟨⟨_, rfl, .inr rfl⟩, trivial⟩ rfl rfl rfl) | (apply call_gate 109; exact stp_callR hQ (by as_aux_lemma => kernel_rfl) rfl rfl ⟨rfl, rfl, trivial⟩ ⟨⟨_, rfl, .inl rfl⟩, ⟨_, rfl, .inr rfl⟩, trivial⟩ rfl rfl)); refine run_nil ?_; refine fin_seq ?_)
  refine goes_cond rfl (fun e => by cases e) (fun _ => ?_)
  (refine goes_seq ?_; refine goes_region ?_; apply run_step rfl; (exact stp_move rfl rfl); apply run_step rfl; (exact stp_ix rfl rfl rfl rfl rfl (by as_aux_lemma => kernel_rfl) (by first | rfl | exact (Int.toNat_of_nonneg (by omega)).symm) (by first | assumption | omega | (simp; omega)) (by first | exact Nat.le_refl _ | exact Nat.le_of_eq (ivals_len _).symm | exact Nat.le_of_eq (irows_len _).symm | (refine Nat.le_trans ?_ (Nat.le_of_eq (ivals_len _).symm); (first | omega | (simp; done) | (simp; omega))) | (refine Nat.le_trans ?_ (Nat.le_of_eq (irows_len _).symm); (first | omega | (simp; done) | (simp; omega))))); apply run_step rfl; (first | exact stp_ix (j := 0) rfl rfl rfl rfl rfl (by as_aux_lemma => kernel_rfl) rfl h0 (by rw [ivals_len, hrl]; exact Nat.le_refl _) | exact stp_stI rfl rfl rfl rfl rfl (by rw [hrl]; exact h0) (by as_aux_lemma => kernel_rfl) | (apply call_gate 107; exact stp_callR hF (by as_aux_lemma => kernel_rfl) rfl rfl ⟨⟨.inl rfl, .inl rfl, trivial⟩, rfl, trivial⟩ ⟨⟨_, rfl, .inl rfl⟩, ⟨_, rfl, .inr rfl⟩, trivial⟩ rfl rfl)); refine run_nil ?_; refine fin_seq ?_; refine goes_seq ?_; refine goes_region ?_; apply run_step rfl; (exact stp_loadAgg rfl rfl rfl rfl rfl rfl (by as_aux_lemma => kernel_rfl)); apply run_step rfl; (exact stp_move rfl rfl); apply run_step rfl; (first | exact stp_ix (j := 0) rfl rfl rfl rfl rfl (by as_aux_lemma => kernel_rfl) rfl h0 (by rw [ivals_len, hrl]; exact Nat.le_refl _) | exact stp_stI rfl rfl rfl rfl rfl (by rw [hrl]; exact h0) (by as_aux_lemma => kernel_rfl) | (apply call_gate 107; exact stp_callR hF (by as_aux_lemma => kernel_rfl) rfl rfl ⟨⟨.inl rfl, .inl rfl, trivial⟩, rfl, trivial⟩ ⟨⟨_, rfl, .inl rfl⟩, ⟨_, rfl, .inr rfl⟩, trivial⟩ rfl rfl)); refine run_nil ?_; refine fin_seq ?_)
  refine goes_cond rfl (fun e => by cases e) (fun _ => ?_)
  (refine goes_skip ?_; refine fin_seq ?_; refine goes_seq ?_; refine goes_seq ?_; refine goes_region ?_; apply run_step rfl; (exact stp_move rfl rfl); apply run_step rfl; (exact stp_bin rfl rfl rfl rfl); refine run_nil ?_; refine fin_seq ?_)
  refine goes_cond rfl (fun _ => ?_) (fun e => by cases e)
  (refine goes_seq ?_; refine goes_region ?_; apply run_step rfl; (exact stp_assign rfl rfl); refine run_nil ?_; refine fin_seq ?_; refine goes_ret ?_; refine fin_ret_then ?_)
  exact fin_ret1 (.inl rfl) rfl (.tmp rfl) trivial trivial
/-- degreesOf: nil, or a list of the call's own -/
theorem degI_fc (cs : List Cel) (mv : Int) (i m : Nat) (labs : List Int) (hi : cs[i]? = some (.r 2 1 m (ivals labs))) (hm : labs.length = m) (hm4 : m ≤ 4) :
    (degs labs = [] ∧ FC Try.prog 65 [(1000, cxRo cs)] [cA mv i m] [] (vv (.slice none 0 0)) []) ∨ ((degs labs).length = m + 1 ∧ FC Try.prog 65 [(1000, cxRo cs)] [cA mv i m] [(2100, leOw (degs labs))] (o1 (.sl 2100 0 (m + 1))) []) := by
  unfold degs
  rw [hm]
  by_cases h0 : m = 0
  · rw [if_pos h0]
    subst h0
    exact .inr ⟨rfl, (deg0_fc cs mv i 0 labs hi hm hm4 rfl).nm [(1000, 1000), (15, 2100)] (by kernel_rfl)⟩
  rw [if_neg h0]
  by_cases hq : m = 1 ∧ 0 < iget labs 0
  · rw [if_pos hq]
    obtain ⟨rfl, hp⟩ := hq
    exact .inr ⟨rfl, (deg1_fc cs mv i 1 labs hi hm hm4 rfl hp).nm [(1000, 1000), (30, 2100)] (by kernel_rfl)⟩
  rw [if_neg hq]
  have h0' : 0 < m := by omega
  cases e1 : eith labs [3, 5] with
  | true =>
    obtain rfl : m = 2 := by rcases eith_iff.1 e1 with rfl | rfl <;> exact hm.symm
    exact .inr ⟨rfl, (deg2_fc cs mv i 2 labs hi hm hm4 h0' hq e1).nm [(1000, 1000), (35, 2100)] (by kernel_rfl)⟩
  | false =>
  cases e2 : eith labs [3, 3, 5] with
  | true =>
    obtain rfl : m = 3 := by rcases eith_iff.1 e2 with rfl | rfl <;> exact hm.symm
    exact .inr ⟨rfl, (deg3_fc cs mv i 3 labs hi hm hm4 h0' hq e1 e2).nm [(1000, 1000), (40, 2100)] (by kernel_rfl)⟩
  | false =>
  cases e3 : eith labs [3, 4, 3] with
  | true =>
    obtain rfl : m = 3 := by rcases eith_iff.1 e3 with rfl | rfl <;> exact hm.symm
    exact .inr ⟨rfl, (deg4_fc cs mv i 3 labs hi hm hm4 h0' hq e1 e2 e3).nm [(1000, 1000), (45, 2100)] (by kernel_rfl)⟩
  | false =>
  by_cases e4 : labs = List.replicate m 3
  · rw [if_pos e4]
    exact .inr ⟨ramp_len _ _, deg5_fc cs mv i m labs hi hm hm4 h0' hq e1 e2 e3 e4⟩
  rw [if_neg e4]
  cases e5 : eith labs ((List.replicate m (3 : Int)).set 0 4) with
  | true => exact .inr ⟨ramp_len _ _, deg6_fc cs mv i m labs hi hm hm4 h0' hq e1 e2 e3 e4 e5⟩
  | false => exact .inl ⟨rfl, deg7_fc cs mv i m labs hi hm hm4 h0' hq e1 e2 e3 e4 e5⟩
set_option maxRecDepth 100000 in
set_option maxHeartbeats 2000000 in
theorem affine_fc (cs : List Cel) (mv : Int) (i m : Nat) (labs : List Int) (hi : cs[i]? = some (.r 2 1 m (ivals labs))) (hm : labs.length = m) (hm4 : m ≤ 4) :
    FC Try.prog 66 [(1000, cxRo cs)] [cA mv i m] [] (vv (.bool (affB labs))) [] := by
  have hE0 := (either_fc cs mv i m 1 labs [0] hi hm rfl (by omega) (by omega)).nm [(1000, 1000), (1001, 4)] (by kernel_rfl)
  have hE0 : FC Try.prog 107 [(1000, cxRo cs), (4, wRo [0])] [cA mv i m, o1 (.sl 4 0 1)] [] (vv (.bool (eith labs [0]))) [] := hE0
  have hE1 := (either_fc cs mv i m 2 labs [4, 4] hi hm rfl (by omega) (by omega)).nm [(1000, 1000), (1001, 8)] (by kernel_rfl)
  have hE1 : FC Try.prog 107 [(1000, cxRo cs), (8, wRo [4, 4])] [cA mv i m, o1 (.sl 8 0 2)] [] (vv (.bool (eith labs [4, 4]))) [] := hE1
  have hE2 := (either_fc cs mv i m 2 labs [3, 6] hi hm rfl (by omega) (by omega)).nm [(1000, 1000), (1001, 13)] (by kernel_rfl)
  have hE2 : FC Try.prog 107 [(1000, cxRo cs), (13, wRo [3, 6])] [cA mv i m, o1 (.sl 13 0 2)] [] (vv (.bool (eith labs [3, 6]))) [] := hE2
  have hE3 := (either_fc cs mv i m 3 labs [4, 3, 4] hi hm rfl (by omega) (by omega)).nm [(1000, 1000), (1001, 18)] (by kernel_rfl)
  have hE3 : FC Try.prog 107 [(1000, cxRo cs), (18, wRo [4, 3, 4])] [cA mv i m, o1 (.sl 18 0 3)] [] (vv (.bool (eith labs [4, 3, 4]))) [] := hE3
  have hE4 := (either_fc cs mv i m 4 labs [3, 4, 3, 3] hi hm rfl (by omega) (by omega)).nm [(1000, 1000), (1001, 23)] (by kernel_rfl)
  have hE4 : FC Try.prog 107 [(1000, cxRo cs), (23, wRo [3, 4, 3, 3])] [cA mv i m, o1 (.sl 23 0 4)] [] (vv (.bool (eith labs [3, 4, 3, 3]))) [] := hE4
  have hE5 := (either_fc cs mv i m 4 labs [4, 3, 3, 4] hi hm rfl (by omega) (by omega)).nm [(1000, 1000), (1001, 28)] (by kernel_rfl)
  have hE5 : FC Try.prog 107 [(1000, cxRo cs), (28, wRo [4, 3, 3, 4])] [cA mv i m, o1 (.sl 28 0 4)] [] (vv (.bool (eith labs [4, 3, 3, 4]))) [] := hE5
  refine fc_enter (nt := 31) Try.func66 rfl rfl (by simp) fun w0 ω0 => ?_
  unfold affB
  (refine goes_seq ?_; refine goes_region ?_; apply run_step rfl; (exact stp_box rfl rfl rfl rfl); apply run_step rfl; (exact stp_assign rfl rfl); refine run_nil ?_; refine fin_seq ?_; refine goes_seq ?_; refine goes_region ?_; apply run_step rfl; (exact stp_loadAgg rfl rfl rfl rfl rfl rfl (by as_aux_lemma => kernel_rfl)); apply run_step rfl; (exact stp_lit1I (E := 2) rfl (by as_aux_lemma => kernel_rfl) rfl); apply run_step rfl; (first | (apply call_gate 107; exact stp_callR hE0 (by as_aux_lemma => kernel_rfl) rfl rfl ⟨⟨.inl rfl, .inl rfl, trivial⟩, rfl, trivial⟩ ⟨⟨_, rfl, .inl rfl⟩, ⟨_, rfl, .inr rfl⟩, trivial⟩ rfl rfl) | (apply call_gate 107; exact stp_callR hE1 (by as_aux_lemma => kernel_rfl) rfl rfl ⟨⟨.inl rfl, .inl rfl, trivial⟩, rfl, trivial⟩ ⟨⟨_, rfl, .inl rfl⟩, ⟨_, rfl, .inr rfl⟩, trivial⟩ rfl rfl) | (apply call_gate 107; exact stp_callR hE2 (by as_aux_lemma => kernel_rfl) rfl rfl ⟨⟨.inl rfl, .inl rfl, trivial⟩, rfl, trivial⟩ ⟨⟨_, rfl, .inl rfl⟩, ⟨_, rfl, .inr rfl⟩, trivial⟩ rfl rfl) | (apply call_gate 107; exact stp_callR hE3 (by as_aux_lemma => kernel_rfl) rfl rfl ⟨⟨.inl rfl, .inl rfl, trivial⟩, rfl, trivial⟩ ⟨⟨_, rfl, .inl rfl⟩, ⟨_, rfl, .inr rfl⟩, trivial⟩ rfl rfl) | (apply call_gate 107; exact stp_callR hE4 (by as_aux_lemma => kernel_rfl) rfl rfl ⟨⟨.inl rfl, .inl rfl, trivial⟩, rfl, trivial⟩ ⟨⟨_, rfl, .inl rfl⟩, ⟨_, rfl, .inr rfl⟩, trivial⟩ rfl rfl) | (apply call_gate 107; exact stp_callR hE5 (by as_aux_lemma => kernel_rfl) rfl rfl ⟨⟨.inl rfl, .inl rfl, trivial⟩, rfl, trivial⟩ ⟨⟨_, rfl, .inl rfl⟩, ⟨_, rfl, .inr rfl⟩, trivial⟩ rfl rfl) | exact stp_lit3I (E := 2) rfl (by as_aux_lemma => kernel_rfl) rfl rfl rfl | exact stp_lit4I (E := 2) rfl (by as_aux_lemma => kernel_rfl) rfl rfl rfl rfl); apply run_step rfl; (exact stp_move rfl rfl))
  refine run_bool 6 rfl (fun h => ?_) (fun h => ?_)
  · rw [h]
    simp only [Bool.true_or]
    (apply run_gNo rfl rfl rfl rfl rfl; apply run_gNo rfl rfl rfl rfl rfl; apply run_gNo rfl rfl rfl rfl rfl; apply run_step rfl; (exact stp_pickT rfl rfl rfl); apply run_step rfl; (exact stp_move rfl rfl); apply run_gNo rfl rfl rfl rfl rfl; apply run_gNo rfl rfl rfl rfl rfl; apply run_gNo rfl rfl rfl rfl rfl; apply run_step rfl; (exact stp_pickT rfl rfl rfl); apply run_step rfl; (exact stp_move rfl rfl); apply run_gNo rfl rfl rfl rfl rfl; apply run_gNo rfl rfl rfl rfl rfl; apply run_gNo rfl rfl rfl rfl rfl; apply run_step rfl; (exact stp_pickT rfl rfl rfl); apply run_step rfl; (exact stp_move rfl rfl); apply run_gNo rfl rfl rfl rfl rfl; apply run_gNo rfl rfl rfl rfl rfl; apply run_gNo rfl rfl rfl rfl rfl; apply run_step rfl; (exact stp_pickT rfl rfl rfl); apply run_step rfl; (exact stp_move rfl rfl); apply run_gNo rfl rfl rfl rfl rfl; apply run_gNo rfl rfl rfl rfl rfl; apply run_gNo rfl rfl rfl rfl rfl; apply run_step rfl; (exact stp_pickT rfl rfl rfl); apply run_step rfl; (exact stp_assign rfl rfl); refine run_nil ?_; refine fin_seq ?_; refine goes_ret ?_)
    exact fin_ret1 (.inl rfl) rfl (.tmp rfl) trivial trivial
  rw [h, Bool.false_or]
  (apply run_gYes rfl rfl rfl; (exact stp_loadAgg rfl rfl rfl rfl rfl rfl (by as_aux_lemma => kernel_rfl)); apply run_gYes rfl rfl rfl; (exact stp_lit2I (E := 2) rfl (by as_aux_lemma => kernel_rfl) rfl rfl); apply run_gYes rfl rfl rfl; (first | (apply call_gate 107; exact stp_callR hE0 (by as_aux_lemma => kernel_rfl) rfl rfl ⟨⟨.inl rfl, .inl rfl, trivial⟩, rfl, trivial⟩ ⟨⟨_, rfl, .inl rfl⟩, ⟨_, rfl, .inr rfl⟩, trivial⟩ rfl rfl) | (apply call_gate 107; exact stp_callR hE1 (by as_aux_lemma => kernel_rfl) rfl rfl ⟨⟨.inl rfl, .inl rfl, trivial⟩, rfl, trivial⟩ ⟨⟨_, rfl, .inl rfl⟩, ⟨_, rfl, .inr rfl⟩, trivial⟩ rfl rfl) | (apply call_gate 107; exact stp_callR hE2 (by as_aux_lemma => kernel_rfl) rfl rfl ⟨⟨.inl rfl, .inl rfl, trivial⟩, rfl, trivial⟩ ⟨⟨_, rfl, .inl rfl⟩, ⟨_, rfl, .inr rfl⟩, trivial⟩ rfl rfl) | (apply call_gate 107; exact stp_callR hE3 (by as_aux_lemma => kernel_rfl) rfl rfl ⟨⟨.inl rfl, .inl rfl, trivial⟩, rfl, trivial⟩ ⟨⟨_, rfl, .inl rfl⟩, ⟨_, rfl, .inr rfl⟩, trivial⟩ rfl rfl) | (apply call_gate 107; exact stp_callR hE4 (by as_aux_lemma => kernel_rfl) rfl rfl ⟨⟨.inl rfl, .inl rfl, trivial⟩, rfl, trivial⟩ ⟨⟨_, rfl, .inl rfl⟩, ⟨_, rfl, .inr rfl⟩, trivial⟩ rfl rfl) | (apply call_gate 107; exact stp_callR hE5 (by as_aux_lemma => kernel_rfl) rfl rfl ⟨⟨.inl rfl, .inl rfl, trivial⟩, rfl, trivial⟩ ⟨⟨_, rfl, .inl rfl⟩, ⟨_, rfl, .inr rfl⟩, trivial⟩ rfl rfl) | exact stp_lit3I (E := 2) rfl (by as_aux_lemma => kernel_rfl) rfl rfl rfl | exact stp_lit4I (E := 2) rfl (by as_aux_lemma => kernel_rfl) rfl rfl rfl rfl); apply run_step rfl; (exact stp_pickF rfl rfl rfl); apply run_step rfl; (exact stp_move rfl rfl))
  refine run_bool 11 rfl (fun h => ?_) (fun h => ?_)
  · rw [h]
    simp only [Bool.true_or]
    (apply run_gNo rfl rfl rfl rfl rfl; apply run_gNo rfl rfl rfl rfl rfl; apply run_gNo rfl rfl rfl rfl rfl; apply run_step rfl; (exact stp_pickT rfl rfl rfl); apply run_step rfl; (exact stp_move rfl rfl); apply run_gNo rfl rfl rfl rfl rfl; apply run_gNo rfl rfl rfl rfl rfl; apply run_gNo rfl rfl rfl rfl rfl; apply run_step rfl; (exact stp_pickT rfl rfl rfl); apply run_step rfl; (exact stp_move rfl rfl); apply run_gNo rfl rfl rfl rfl rfl; apply run_gNo rfl rfl rfl rfl rfl; apply run_gNo rfl rfl rfl rfl rfl; apply run_step rfl; (exact stp_pickT rfl rfl rfl); apply run_step rfl; (exact stp_move rfl rfl); apply run_gNo rfl rfl rfl rfl rfl; apply run_gNo rfl rfl rfl rfl rfl; apply run_gNo rfl rfl rfl rfl rfl; apply run_step rfl; (exact stp_pickT rfl rfl rfl); apply run_step rfl; (exact stp_assign rfl rfl); refine run_nil ?_; refine fin_seq ?_; refine goes_ret ?_)
    exact fin_ret1 (.inl rfl) rfl (.tmp rfl) trivial trivial
  rw [h, Bool.false_or]
  (apply run_gYes rfl rfl rfl; (exact stp_loadAgg rfl rfl rfl rfl rfl rfl (by as_aux_lemma => kernel_rfl)); apply run_gYes rfl rfl rfl; (exact stp_lit2I (E := 2) rfl (by as_aux_lemma => kernel_rfl) rfl rfl); apply run_gYes rfl rfl rfl; (first | (apply call_gate 107; exact stp_callR hE0 (by as_aux_lemma => kernel_rfl) rfl rfl ⟨⟨.inl rfl, .inl rfl, trivial⟩, rfl, trivial⟩ ⟨⟨_, rfl, .inl rfl⟩, ⟨_, rfl, .inr rfl⟩, trivial⟩ rfl rfl) | (apply call_gate 107; exact stp_callR hE1 (by as_aux_lemma => kernel_rfl) rfl rfl ⟨⟨.inl rfl, .inl rfl, trivial⟩, rfl, trivial⟩ ⟨⟨_, rfl, .inl rfl⟩, ⟨_, rfl, .inr rfl⟩, trivial⟩ rfl rfl) | (apply call_gate 107; exact stp_callR hE2 (by as_aux_lemma => kernel_rfl) rfl rfl ⟨⟨.inl rfl, .inl rfl, trivial⟩, rfl, trivial⟩ ⟨⟨_, rfl, .inl rfl⟩, ⟨_, rfl, .inr rfl⟩, trivial⟩ rfl rfl) | (apply call_gate 107; exact stp_callR hE3 (by as_aux_lemma => kernel_rfl) rfl rfl ⟨⟨.inl rfl, .inl rfl, trivial⟩, rfl, trivial⟩ ⟨⟨_, rfl, .inl rfl⟩, ⟨_, rfl, .inr rfl⟩, trivial⟩ rfl rfl) | (apply call_gate 107; exact stp_callR hE4 (by as_aux_lemma => kernel_rfl) rfl rfl ⟨⟨.inl rfl, .inl rfl, trivial⟩, rfl, trivial⟩ ⟨⟨_, rfl, .inl rfl⟩, ⟨_, rfl, .inr rfl⟩, trivial⟩ rfl rfl) | (apply call_gate 107; exact stp_callR hE5 (by as_aux_lemma => kernel_rfl) rfl rfl ⟨⟨.inl rfl, .inl rfl, trivial⟩, rfl, trivial⟩ ⟨⟨_, rfl, .inl rfl⟩, ⟨_, rfl, .inr rfl⟩, trivial⟩ rfl rfl) | exact stp_lit3I (E := 2) rfl (by as_aux_lemma => kernel_rfl) rfl rfl rfl | exact stp_lit4I (E := 2) rfl (by as_aux_lemma => kernel_rfl) rfl rfl rfl rfl); apply run_step rfl; (exact stp_pickF rfl rfl rfl); apply run_step rfl; (exact stp_move rfl rfl))
  refine run_bool 16 rfl (fun h => ?_) (fun h => ?_)
  · rw [h]
    simp only [Bool.true_or]
    (apply run_gNo rfl rfl rfl rfl rfl; apply run_gNo rfl rfl rfl rfl rfl; apply run_gNo rfl rfl rfl rfl rfl; apply run_step rfl; (exact stp_pickT rfl rfl rfl); apply run_step rfl; (exact stp_move rfl rfl); apply run_gNo rfl rfl rfl rfl rfl; apply run_gNo rfl rfl rfl rfl rfl; apply run_gNo rfl rfl rfl rfl rfl; apply run_step rfl; (exact stp_pickT rfl rfl rfl); apply run_step rfl; (exact stp_move rfl rfl); apply run_gNo rfl rfl rfl rfl rfl; apply run_gNo rfl rfl rfl rfl rfl; apply run_gNo rfl rfl rfl rfl rfl; apply run_step rfl; (exact stp_pickT rfl rfl rfl); apply run_step rfl; (exact stp_assign rfl rfl); refine run_nil ?_; refine fin_seq ?_; refine goes_ret ?_)
    exact fin_ret1 (.inl rfl) rfl (.tmp rfl) trivial trivial
  rw [h, Bool.false_or]
  (apply run_gYes rfl rfl rfl; (exact stp_loadAgg rfl rfl rfl rfl rfl rfl (by as_aux_lemma => kernel_rfl)); apply run_gYes rfl rfl rfl; (first | (apply call_gate 107; exact stp_callR hE0 (by as_aux_lemma => kernel_rfl) rfl rfl ⟨⟨.inl rfl, .inl rfl, trivial⟩, rfl, trivial⟩ ⟨⟨_, rfl, .inl rfl⟩, ⟨_, rfl, .inr rfl⟩, trivial⟩ rfl rfl) | (apply call_gate 107; exact stp_callR hE1 (by as_aux_lemma => kernel_rfl) rfl rfl ⟨⟨.inl rfl, .inl rfl, trivial⟩, rfl, trivial⟩ ⟨⟨_, rfl, .inl rfl⟩, ⟨_, rfl, .inr rfl⟩, trivial⟩ rfl rfl) | (apply call_gate 107; exact stp_callR hE2 (by as_aux_lemma => kernel_rfl) rfl rfl ⟨⟨.inl rfl, .inl rfl, trivial⟩, rfl, trivial⟩ ⟨⟨_, rfl, .inl rfl⟩, ⟨_, rfl, .inr rfl⟩, trivial⟩ rfl rfl) | (apply call_gate 107; exact stp_callR hE3 (by as_aux_lemma => kernel_rfl) rfl rfl ⟨⟨.inl rfl, .inl rfl, trivial⟩, rfl, trivial⟩ ⟨⟨_, rfl, .inl rfl⟩, ⟨_, rfl, .inr rfl⟩, trivial⟩ rfl rfl) | (apply call_gate 107; exact stp_callR hE4 (by as_aux_lemma => kernel_rfl) rfl rfl ⟨⟨.inl rfl, .inl rfl, trivial⟩, rfl, trivial⟩ ⟨⟨_, rfl, .inl rfl⟩, ⟨_, rfl, .inr rfl⟩, trivial⟩ rfl rfl) | (apply call_gate 107; exact stp_callR hE5 (by as_aux_lemma => kernel_rfl) rfl rfl ⟨⟨.inl rfl, .inl rfl, trivial⟩, rfl, trivial⟩ ⟨⟨_, rfl, .inl rfl⟩, ⟨_, rfl, .inr rfl⟩, trivial⟩ rfl rfl) | exact stp_lit3I (E := 2) rfl (by as_aux_lemma => kernel_rfl) rfl rfl rfl | exact stp_lit4I (E := 2) rfl (by as_aux_lemma => kernel_rfl) rfl rfl rfl rfl); apply run_gYes rfl rfl rfl; (first | (apply call_gate 107; exact stp_callR hE0 (by as_aux_lemma => kernel_rfl) rfl rfl ⟨⟨.inl rfl, .inl rfl, trivial⟩, rfl, trivial⟩ ⟨⟨_, rfl, .inl rfl⟩, ⟨_, rfl, .inr rfl⟩, trivial⟩ rfl rfl) | (apply call_gate 107; exact stp_callR hE1 (by as_aux_lemma => kernel_rfl) rfl rfl ⟨⟨.inl rfl, .inl rfl, trivial⟩, rfl, trivial⟩ ⟨⟨_, rfl, .inl rfl⟩, ⟨_, rfl, .inr rfl⟩, trivial⟩ rfl rfl) | (apply call_gate 107; exact stp_callR hE2 (by as_aux_lemma => kernel_rfl) rfl rfl ⟨⟨.inl rfl, .inl rfl, trivial⟩, rfl, trivial⟩ ⟨⟨_, rfl, .inl rfl⟩, ⟨_, rfl, .inr rfl⟩, trivial⟩ rfl rfl) | (apply call_gate 107; exact stp_callR hE3 (by as_aux_lemma => kernel_rfl) rfl rfl ⟨⟨.inl rfl, .inl rfl, trivial⟩, rfl, trivial⟩ ⟨⟨_, rfl, .inl rfl⟩, ⟨_, rfl, .inr rfl⟩, trivial⟩ rfl rfl) | (apply call_gate 107; exact stp_callR hE4 (by as_aux_lemma => kernel_rfl) rfl rfl ⟨⟨.inl rfl, .inl rfl, trivial⟩, rfl, trivial⟩ ⟨⟨_, rfl, .inl rfl⟩, ⟨_, rfl, .inr rfl⟩, trivial⟩ rfl rfl) | (apply call_gate 107; exact stp_callR hE5 (by as_aux_lemma => kernel_rfl) rfl rfl ⟨⟨.inl rfl, .inl rfl, trivial⟩, rfl, trivial⟩ ⟨⟨_, rfl, .inl rfl⟩, ⟨_, rfl, .inr rfl⟩, trivial⟩ rfl rfl) | exact stp_lit3I (E := 2) rfl (by as_aux_lemma => kernel_rfl) rfl rfl rfl | exact stp_lit4I (E := 2) rfl (by as_aux_lemma => kernel_rfl) rfl rfl rfl rfl); apply run_step rfl; (exact stp_pickF rfl rfl rfl); apply run_step rfl; (exact stp_move rfl rfl))
  refine run_bool 21 rfl (fun h => ?_) (fun h => ?_)
  · rw [h]
    simp only [Bool.true_or]
    (apply run_gNo rfl rfl rfl rfl rfl; apply run_gNo rfl rfl rfl rfl rfl; apply run_gNo rfl rfl rfl rfl rfl; apply run_step rfl; (exact stp_pickT rfl rfl rfl); apply run_step rfl; (exact stp_move rfl rfl); apply run_gNo rfl rfl rfl rfl rfl; apply run_gNo rfl rfl rfl rfl rfl; apply run_gNo rfl rfl rfl rfl rfl; apply run_step rfl; (exact stp_pickT rfl rfl rfl); apply run_step rfl; (exact stp_assign rfl rfl); refine run_nil ?_; refine fin_seq ?_; refine goes_ret ?_)
    exact fin_ret1 (.inl rfl) rfl (.tmp rfl) trivial trivial
  rw [h, Bool.false_or]
  (apply run_gYes rfl rfl rfl; (exact stp_loadAgg rfl rfl rfl rfl rfl rfl (by as_aux_lemma => kernel_rfl)); apply run_gYes rfl rfl rfl; (first | (apply call_gate 107; exact stp_callR hE0 (by as_aux_lemma => kernel_rfl) rfl rfl ⟨⟨.inl rfl, .inl rfl, trivial⟩, rfl, trivial⟩ ⟨⟨_, rfl, .inl rfl⟩, ⟨_, rfl, .inr rfl⟩, trivial⟩ rfl rfl) | (apply call_gate 107; exact stp_callR hE1 (by as_aux_lemma => kernel_rfl) rfl rfl ⟨⟨.inl rfl, .inl rfl, trivial⟩, rfl, trivial⟩ ⟨⟨_, rfl, .inl rfl⟩, ⟨_, rfl, .inr rfl⟩, trivial⟩ rfl rfl) | (apply call_gate 107; exact stp_callR hE2 (by as_aux_lemma => kernel_rfl) rfl rfl ⟨⟨.inl rfl, .inl rfl, trivial⟩, rfl, trivial⟩ ⟨⟨_, rfl, .inl rfl⟩, ⟨_, rfl, .inr rfl⟩, trivial⟩ rfl rfl) | (apply call_gate 107; exact stp_callR hE3 (by as_aux_lemma => kernel_rfl) rfl rfl ⟨⟨.inl rfl, .inl rfl, trivial⟩, rfl, trivial⟩ ⟨⟨_, rfl, .inl rfl⟩, ⟨_, rfl, .inr rfl⟩, trivial⟩ rfl rfl) | (apply call_gate 107; exact stp_callR hE4 (by as_aux_lemma => kernel_rfl) rfl rfl ⟨⟨.inl rfl, .inl rfl, trivial⟩, rfl, trivial⟩ ⟨⟨_, rfl, .inl rfl⟩, ⟨_, rfl, .inr rfl⟩, trivial⟩ rfl rfl) | (apply call_gate 107; exact stp_callR hE5 (by as_aux_lemma => kernel_rfl) rfl rfl ⟨⟨.inl rfl, .inl rfl, trivial⟩, rfl, trivial⟩ ⟨⟨_, rfl, .inl rfl⟩, ⟨_, rfl, .inr rfl⟩, trivial⟩ rfl rfl) | exact stp_lit3I (E := 2) rfl (by as_aux_lemma => kernel_rfl) rfl rfl rfl | exact stp_lit4I (E := 2) rfl (by as_aux_lemma => kernel_rfl) rfl rfl rfl rfl); apply run_gYes rfl rfl rfl; (first | (apply call_gate 107; exact stp_callR hE0 (by as_aux_lemma => kernel_rfl) rfl rfl ⟨⟨.inl rfl, .inl rfl, trivial⟩, rfl, trivial⟩ ⟨⟨_, rfl, .inl rfl⟩, ⟨_, rfl, .inr rfl⟩, trivial⟩ rfl rfl) | (apply call_gate 107; exact stp_callR hE1 (by as_aux_lemma => kernel_rfl) rfl rfl ⟨⟨.inl rfl, .inl rfl, trivial⟩, rfl, trivial⟩ ⟨⟨_, rfl, .inl rfl⟩, ⟨_, rfl, .inr rfl⟩, trivial⟩ rfl rfl) | (apply call_gate 107; exact stp_callR hE2 (by as_aux_lemma => kernel_rfl) rfl rfl ⟨⟨.inl rfl, .inl rfl, trivial⟩, rfl, trivial⟩ ⟨⟨_, rfl, .inl rfl⟩, ⟨_, rfl, .inr rfl⟩, trivial⟩ rfl rfl) | (apply call_gate 107; exact stp_callR hE3 (by as_aux_lemma => kernel_rfl) rfl rfl ⟨⟨.inl rfl, .inl rfl, trivial⟩, rfl, trivial⟩ ⟨⟨_, rfl, .inl rfl⟩, ⟨_, rfl, .inr rfl⟩, trivial⟩ rfl rfl) | (apply call_gate 107; exact stp_callR hE4 (by as_aux_lemma => kernel_rfl) rfl rfl ⟨⟨.inl rfl, .inl rfl, trivial⟩, rfl, trivial⟩ ⟨⟨_, rfl, .inl rfl⟩, ⟨_, rfl, .inr rfl⟩, trivial⟩ rfl rfl) | (apply call_gate 107; exact stp_callR hE5 (by as_aux_lemma => kernel_rfl) rfl rfl ⟨⟨.inl rfl, .inl rfl, trivial⟩, rfl, trivial⟩ ⟨⟨_, rfl, .inl rfl⟩, ⟨_, rfl, .inr rfl⟩, trivial⟩ rfl rfl) | exact stp_lit3I (E := 2) rfl (by as_aux_lemma => kernel_rfl) rfl rfl rfl | exact stp_lit4I (E := 2) rfl (by as_aux_lemma => kernel_rfl) rfl rfl rfl rfl); apply run_step rfl; (exact stp_pickF rfl rfl rfl); apply run_step rfl; (exact stp_move rfl rfl))
  refine run_bool 26 rfl (fun h => ?_) (fun h => ?_)
  · rw [h]
    simp only [Bool.true_or]
    (apply run_gNo rfl rfl rfl rfl rfl; apply run_gNo rfl rfl rfl rfl rfl; apply run_gNo rfl rfl rfl rfl rfl; apply run_step rfl; (exact stp_pickT rfl rfl rfl); apply run_step rfl; (exact stp_assign rfl rfl); refine run_nil ?_; refine fin_seq ?_; refine goes_ret ?_)
    exact fin_ret1 (.inl rfl) rfl (.tmp rfl) trivial trivial
  rw [h, Bool.false_or]
  (apply run_gYes rfl rfl rfl; (exact stp_loadAgg rfl rfl rfl rfl rfl rfl (by as_aux_lemma => kernel_rfl)); apply run_gYes rfl rfl rfl; (first | (apply call_gate 107; exact stp_callR hE0 (by as_aux_lemma => kernel_rfl) rfl rfl ⟨⟨.inl rfl, .inl rfl, trivial⟩, rfl, trivial⟩ ⟨⟨_, rfl, .inl rfl⟩, ⟨_, rfl, .inr rfl⟩, trivial⟩ rfl rfl) | (apply call_gate 107; exact stp_callR hE1 (by as_aux_lemma => kernel_rfl) rfl rfl ⟨⟨.inl rfl, .inl rfl, trivial⟩, rfl, trivial⟩ ⟨⟨_, rfl, .inl rfl⟩, ⟨_, rfl, .inr rfl⟩, trivial⟩ rfl rfl) | (apply call_gate 107; exact stp_callR hE2 (by as_aux_lemma => kernel_rfl) rfl rfl ⟨⟨.inl rfl, .inl rfl, trivial⟩, rfl, trivial⟩ ⟨⟨_, rfl, .inl rfl⟩, ⟨_, rfl, .inr rfl⟩, trivial⟩ rfl rfl) | (apply call_gate 107; exact stp_callR hE3 (by as_aux_lemma => kernel_rfl) rfl rfl ⟨⟨.inl rfl, .inl rfl, trivial⟩, rfl, trivial⟩ ⟨⟨_, rfl, .inl rfl⟩, ⟨_, rfl, .inr rfl⟩, trivial⟩ rfl rfl) | (apply call_gate 107; exact stp_callR hE4 (by as_aux_lemma => kernel_rfl) rfl rfl ⟨⟨.inl rfl, .inl rfl, trivial⟩, rfl, trivial⟩ ⟨⟨_, rfl, .inl rfl⟩, ⟨_, rfl, .inr rfl⟩, trivial⟩ rfl rfl) | (apply call_gate 107; exact stp_callR hE5 (by as_aux_lemma => kernel_rfl) rfl rfl ⟨⟨.inl rfl, .inl rfl, trivial⟩, rfl, trivial⟩ ⟨⟨_, rfl, .inl rfl⟩, ⟨_, rfl, .inr rfl⟩, trivial⟩ rfl rfl) | exact stp_lit3I (E := 2) rfl (by as_aux_lemma => kernel_rfl) rfl rfl rfl | exact stp_lit4I (E := 2) rfl (by as_aux_lemma => kernel_rfl) rfl rfl rfl rfl); apply run_gYes rfl rfl rfl; (first | (apply call_gate 107; exact stp_callR hE0 (by as_aux_lemma => kernel_rfl) rfl rfl ⟨⟨.inl rfl, .inl rfl, trivial⟩, rfl, trivial⟩ ⟨⟨_, rfl, .inl rfl⟩, ⟨_, rfl, .inr rfl⟩, trivial⟩ rfl rfl) | (apply call_gate 107; exact stp_callR hE1 (by as_aux_lemma => kernel_rfl) rfl rfl ⟨⟨.inl rfl, .inl rfl, trivial⟩, rfl, trivial⟩ ⟨⟨_, rfl, .inl rfl⟩, ⟨_, rfl, .inr rfl⟩, trivial⟩ rfl rfl) | (apply call_gate 107; exact stp_callR hE2 (by as_aux_lemma => kernel_rfl) rfl rfl ⟨⟨.inl rfl, .inl rfl, trivial⟩, rfl, trivial⟩ ⟨⟨_, rfl, .inl rfl⟩, ⟨_, rfl, .inr rfl⟩, trivial⟩ rfl rfl) | (apply call_gate 107; exact stp_callR hE3 (by as_aux_lemma => kernel_rfl) rfl rfl ⟨⟨.inl rfl, .inl rfl, trivial⟩, rfl, trivial⟩ ⟨⟨_, rfl, .inl rfl⟩, ⟨_, rfl, .inr rfl⟩, trivial⟩ rfl rfl) | (apply call_gate 107; exact stp_callR hE4 (by as_aux_lemma => kernel_rfl) rfl rfl ⟨⟨.inl rfl, .inl rfl, trivial⟩, rfl, trivial⟩ ⟨⟨_, rfl, .inl rfl⟩, ⟨_, rfl, .inr rfl⟩, trivial⟩ rfl rfl) | (apply call_gate 107; exact stp_callR hE5 (by as_aux_lemma => kernel_rfl) rfl rfl ⟨⟨.inl rfl, .inl rfl, trivial⟩, rfl, trivial⟩ ⟨⟨_, rfl, .inl rfl⟩, ⟨_, rfl, .inr rfl⟩, trivial⟩ rfl rfl) | exact stp_lit3I (E := 2) rfl (by as_aux_lemma => kernel_rfl) rfl rfl rfl | exact stp_lit4I (E := 2) rfl (by as_aux_lemma => kernel_rfl) rfl rfl rfl rfl); apply run_step rfl; (exact stp_pickF rfl rfl rfl); apply run_step rfl; (exact stp_assign rfl rfl); refine run_nil ?_; refine fin_seq ?_; refine goes_ret ?_)
  exact fin_ret1 (.inl rfl) rfl (.tmp rfl) trivial trivial
end Go.Proofs.Ytlpeghdbjfnenaa

/- KindOfDiagram, the program's. guards: -/
namespace Go.Proofs.Ytlpeghdbjfnenaa
open Go.RowKit

theorem comp_agg {ps : Cmps} {j : Nat} (hj : j < ps.length) (x : Nm) : ∀ (i : Nat) (b : A1), [A1.val (I6 ((cget ps j).1 : Int)), A1.esl x (j * 2 + 1) 0 (cget ps j).2.length][i]? = some b → (Dat.mix (mixC ps)).at_ x (j * 2 + i) = some b := by
  intro i b hb
  have hg := mixC_get hj
  match i, hb with
  | 0, hb => simp at hb; subst hb; simp only [Dat.at_, Nat.add_zero]; rw [hg.1]
  | 1, hb => simp at hb; subst hb; simp only [Dat.at_]; rw [hg.2]
theorem nth_zero {l : List Int} (h : l.length = 0) : l = [] := List.length_eq_zero_iff.1 h
set_option maxRecDepth 100000 in
set_option maxHeartbeats 2000000 in
theorem kindI_fc (zs : List Int) (hn : zs.length ≤ 4398046511104) :
    FC Try.prog 22 [(1003, wRo zs)] [o1 (.sl 1003 0 zs.length)] [] (.tup [.one (.val (I6 (kindR zs))), .one (.val (I6 (kindC zs)))]) [] := by
  have hI := diagI_fc zs zs.length rfl hn
  refine fc_enter (nt := 30) Try.func22 rfl rfl (by simp) fun w0 ω0 => ?_
  cases hd : isDiag zs with
  | false =>
    rw [hd] at hI
    unfold kindR kindC
    rw [hd, if_neg (by simp), if_neg (by simp)]
    (refine goes_seq ?_; refine goes_region ?_; apply run_step rfl; (exact stp_assign rfl rfl); apply run_step rfl; (exact stp_assign rfl rfl); refine run_nil ?_; refine fin_seq ?_; refine goes_seq ?_; refine goes_seq ?_; refine goes_region ?_; apply run_step rfl; (exact stp_move rfl rfl); apply run_step rfl; (apply call_gate 62; exact stp_callR hI (by as_aux_lemma => kernel_rfl) rfl rfl ⟨rfl, trivial⟩ ⟨⟨_, rfl, .inl rfl⟩, trivial⟩ rfl rfl); apply run_step rfl; (exact stp_not rfl rfl); refine run_nil ?_; refine fin_seq ?_)
    refine goes_cond rfl (fun _ => ?_) (fun e => by cases e)
    (refine goes_seq ?_; refine goes_region ?_; apply run_step rfl; (exact stp_assign rfl rfl); apply run_step rfl; (exact stp_assign rfl rfl); refine run_nil ?_; refine fin_seq ?_; refine goes_ret ?_; refine fin_ret_then ?_)
    exact fin_ret2 (.inl rfl) rfl (.tmp rfl) (.tmp rfl) trivial trivial
  | true =>
    rw [hd] at hI
    have h4 := isDiag_len hd
    have hA := allI_fc zs zs.length rfl h4
    have hC := (comps_fc zs zs.length (allN zs) rfl h4 (allN_lt h4)).nm [(1003, 1003), (2000, 13)] (by kernel_rfl)
    have hC : FC Try.prog 63 [(1003, wRo zs)] [o1 (.sl 1003 0 zs.length), vv (I6 (allN zs))] [(13, cpOw (comps zs (allN zs)))] (o1 (.sl 13 0 (comps zs (allN zs)).length)) [] := hC
    unfold kindR kindC
    rw [hd, if_pos rfl, if_pos rfl]
    have hlab : ∀ k, k < (comps zs (allN zs)).length → Labs (cget (comps zs (allN zs)) k).2 := fun k hk => labs_of hd hk
    have hnp : (comps zs (allN zs)).length ≤ 5 := by
      have h1 := csum_len (comps zs (allN zs)); have h2 := (comps_ok zs (allN zs)).sum; omega
    generalize comps zs (allN zs) = ps at *
    generalize hN : ps.length = N at *
    have hmx := mixC_len ps
    rw [hN] at hmx
    (refine goes_seq ?_; refine goes_region ?_; apply run_step rfl; (exact stp_assign rfl rfl); apply run_step rfl; (exact stp_assign rfl rfl); refine run_nil ?_; refine fin_seq ?_; refine goes_seq ?_; refine goes_seq ?_; refine goes_region ?_; apply run_step rfl; (exact stp_move rfl rfl); apply run_step rfl; (first | (apply call_gate 62; exact stp_callR hI (by as_aux_lemma => kernel_rfl) rfl rfl ⟨rfl, trivial⟩ ⟨⟨_, rfl, .inl rfl⟩, trivial⟩ rfl rfl) | (apply call_gate 64; exact stp_callR hA (by as_aux_lemma => kernel_rfl) rfl rfl ⟨rfl, trivial⟩ ⟨⟨_, rfl, .inl rfl⟩, trivial⟩ rfl rfl) | (apply call_gate 63; exact stp_callN hC (by as_aux_lemma => kernel_rfl) rfl rfl ⟨rfl, rfl, trivial⟩ ⟨⟨_, rfl, .inl rfl⟩, trivial⟩ rfl rfl rfl)); apply run_step rfl; (exact stp_not rfl rfl); refine run_nil ?_; refine fin_seq ?_)
    refine goes_cond rfl (fun e => by cases e) (fun _ => ?_)
    (refine goes_skip ?_; refine fin_seq ?_; refine goes_seq ?_; refine goes_region ?_; apply run_step rfl; (exact stp_assign rfl rfl); refine run_nil ?_; refine fin_seq ?_; refine goes_seq ?_; refine goes_seq ?_; refine goes_region ?_; apply run_step rfl; (exact stp_move rfl rfl); apply run_step rfl; (exact stp_move rfl rfl); apply run_step rfl; (first | (apply call_gate 64; exact stp_callR hA (by as_aux_lemma => kernel_rfl) rfl rfl ⟨rfl, trivial⟩ ⟨⟨_, rfl, .inl rfl⟩, trivial⟩ rfl rfl) | (apply call_gate 63; exact stp_callN hC (by as_aux_lemma => kernel_rfl) rfl rfl ⟨rfl, rfl, trivial⟩ ⟨⟨_, rfl, .inl rfl⟩, trivial⟩ rfl rfl rfl)); apply run_step rfl; (first | (apply call_gate 64; exact stp_callR hA (by as_aux_lemma => kernel_rfl) rfl rfl ⟨rfl, trivial⟩ ⟨⟨_, rfl, .inl rfl⟩, trivial⟩ rfl rfl) | (apply call_gate 63; exact stp_callN hC (by as_aux_lemma => kernel_rfl) rfl rfl ⟨rfl, rfl, trivial⟩ ⟨⟨_, rfl, .inl rfl⟩, trivial⟩ rfl rfl rfl)); apply run_step rfl; (exact stp_len rfl rfl rfl (by as_aux_lemma => kernel_rfl)); apply run_step rfl; (exact stp_move rfl rfl); refine run_nil ?_; refine fin_seq ?_; refine goes_block ?_)
    refine goes_loop (fun j : Nat => St.of [(4, vv (I6 (kindN ps j : Nat))), (13, o1 (.sl 13 0 N)), (14, vv (I6 N)), (15, vv (I6 j))] [(13, cpOw ps)]) (fun j => j ≤ N) (fun j => N - j) 0 (Nat.zero_le _) (Wk.of ⟨rfl, rfl, rfl, rfl, trivial⟩ ⟨rfl, trivial⟩ trivial) ?_
    rintro j hj
    (refine goes_seq ?_; refine goes_region ?_; apply run_step rfl; (exact stp_bin rfl rfl rfl rfl); refine run_nil ?_; refine fin_seq ?_; refine goes_seq ?_)
    refine goes_if rfl (fun hlt => ?_) (fun hlt => ?_)
    · have hjN : j < N := by omega
      have hjp : j < ps.length := by omega
      have hL := hlab j hjN
      have hk := kindN_succ hjp
      have hk2 := kindN_le ps j
      have hagg := comp_agg hjp 13
      have hcel := (mixC_get hjp).2
      have hix : N * 2 ≤ (mixC ps).length := Nat.le_of_eq hmx.symm
      obtain ⟨labs, hlb⟩ : ∃ labs, (cget ps j).2 = labs := ⟨_, rfl⟩
      rw [hlb] at hL hk hagg hcel
      have hm4 := hL.1
      have hAf := (affine_fc (mixC ps) ((cget ps j).1 : Int) (j * 2 + 1) labs.length labs hcel rfl hm4).nm [(1000, 13)] (by kernel_rfl)
      have hAf : FC Try.prog 66 [(13, cxRo (mixC ps))] [.s (.agg [.val (I6 ((cget ps j).1 : Int)), .esl 13 (j * 2 + 1) 0 labs.length])] [] (vv (.bool (affB labs))) [] := hAf
      rcases degI_fc (mixC ps) ((cget ps j).1 : Int) (j * 2 + 1) labs.length labs hcel rfl hm4 with ⟨hnil, hD⟩ | ⟨hsome, hD⟩
      · have hD := hD.nm [(1000, 13)] (by kernel_rfl)
        have hD : FC Try.prog 65 [(13, cxRo (mixC ps))] [.s (.agg [.val (I6 ((cget ps j).1 : Int)), .esl 13 (j * 2 + 1) 0 labs.length])] [] (vv (.slice none 0 0)) [] := hD
        unfold kStep at hk
        rw [if_pos (by rw [hnil]; rfl)] at hk
        (refine goes_skip ?_; refine fin_seq ?_; refine goes_seq ?_; refine goes_block ?_; refine goes_seq ?_; refine goes_region ?_; apply run_step rfl; (first | exact stp_ixT (k := 2) (j := j) rfl rfl rfl rfl rfl (by as_aux_lemma => kernel_rfl) rfl hjN hix (by omega) rfl | exact stp_loadAggD (k := 2) rfl rfl rfl rfl rfl (by as_aux_lemma => kernel_rfl) hagg | (apply call_gate 65; exact stp_callR hD (by as_aux_lemma => kernel_rfl) rfl rfl ⟨⟨.inl rfl, .inl rfl, trivial⟩, trivial⟩ ⟨⟨_, rfl, .inr rfl⟩, trivial⟩ rfl rfl) | exact stp_nilYes (b := false) rfl (by as_aux_lemma => kernel_rfl) rfl (.inr ⟨rfl, rfl⟩)); apply run_step rfl; (first | exact stp_ixT (k := 2) (j := j) rfl rfl rfl rfl rfl (by as_aux_lemma => kernel_rfl) rfl hjN hix (by omega) rfl | exact stp_loadAggD (k := 2) rfl rfl rfl rfl rfl (by as_aux_lemma => kernel_rfl) hagg | (apply call_gate 65; exact stp_callR hD (by as_aux_lemma => kernel_rfl) rfl rfl ⟨⟨.inl rfl, .inl rfl, trivial⟩, trivial⟩ ⟨⟨_, rfl, .inr rfl⟩, trivial⟩ rfl rfl) | exact stp_nilYes (b := false) rfl (by as_aux_lemma => kernel_rfl) rfl (.inr ⟨rfl, rfl⟩)); apply run_step rfl; (exact stp_allocZ [I6 0, .slice none 0 0] rfl (by as_aux_lemma => kernel_rfl)); apply run_step rfl; (exact stp_storeAgg rfl rfl rfl rfl rfl rfl rfl rfl (by as_aux_lemma => kernel_rfl) rfl); refine run_nil ?_; refine fin_seq ?_; refine goes_block ?_; refine goes_seq ?_; refine goes_region ?_; apply run_step rfl; (exact stp_loadAgg rfl rfl rfl rfl rfl rfl (by as_aux_lemma => kernel_rfl)); apply run_step rfl; (first | exact stp_ixT (k := 2) (j := j) rfl rfl rfl rfl rfl (by as_aux_lemma => kernel_rfl) rfl hjN hix (by omega) rfl | exact stp_loadAggD (k := 2) rfl rfl rfl rfl rfl (by as_aux_lemma => kernel_rfl) hagg | (apply call_gate 65; exact stp_callR hD (by as_aux_lemma => kernel_rfl) rfl rfl ⟨⟨.inl rfl, .inl rfl, trivial⟩, trivial⟩ ⟨⟨_, rfl, .inr rfl⟩, trivial⟩ rfl rfl) | exact stp_nilYes (b := false) rfl (by as_aux_lemma => kernel_rfl) rfl (.inr ⟨rfl, rfl⟩)); apply run_step rfl; (first | exact stp_ixT (k := 2) (j := j) rfl rfl rfl rfl rfl (by as_aux_lemma => kernel_rfl) rfl hjN hix (by omega) rfl | exact stp_loadAggD (k := 2) rfl rfl rfl rfl rfl (by as_aux_lemma => kernel_rfl) hagg | (apply call_gate 65; exact stp_callR hD (by as_aux_lemma => kernel_rfl) rfl rfl ⟨⟨.inl rfl, .inl rfl, trivial⟩, trivial⟩ ⟨⟨_, rfl, .inr rfl⟩, trivial⟩ rfl rfl) | exact stp_nilYes (b := false) rfl (by as_aux_lemma => kernel_rfl) rfl (.inr ⟨rfl, rfl⟩)); apply run_step rfl; (exact stp_assign rfl rfl); refine run_nil ?_; refine fin_seq ?_)
        refine goes_cond rfl (fun e => by cases e) (fun _ => ?_)
        (refine goes_seq ?_; refine goes_region ?_; apply run_step rfl; (exact stp_loadAgg rfl rfl rfl rfl rfl rfl (by as_aux_lemma => kernel_rfl)); apply run_step rfl; (apply call_gate 66; exact stp_callR hAf (by as_aux_lemma => kernel_rfl) rfl rfl ⟨⟨.inl rfl, .inl rfl, trivial⟩, trivial⟩ ⟨⟨_, rfl, .inr rfl⟩, trivial⟩ rfl rfl); apply run_step rfl; (exact stp_assign rfl rfl); refine run_nil ?_; refine fin_seq ?_)
        refine goes_cond rfl (fun h1 => ?_) (fun h1 => ?_)
        · have hv : kindN ps (j + 1) = max (kindN ps j) 1 := by
            rw [hk, h1]
            by_cases e : kindN ps j = 2
            · rw [e, if_neg (by simp)]; rfl
            · rw [if_pos ⟨rfl, e⟩]; omega
          (refine goes_region ?_; apply run_step rfl; (exact stp_move rfl rfl); apply run_step rfl; (exact stp_maxN (n := 1) rfl rfl rfl); apply run_step rfl; (exact stp_assign rfl rfl); refine run_nil ?_; refine fin_block ?_; refine fin_block ?_; refine fin_seq ?_; refine goes_region ?_; apply run_step rfl; (exact stp_add rfl rfl rfl (by first | exact IntWalk.i64_in _ (by omega) | rfl)); apply run_step rfl; (exact stp_move rfl rfl); refine run_nil ?_)
          exact fin_round (j + 1) (by omega) (by omega) (Wk.of ⟨congrArg (fun k : Nat => some (vv (I6 (k : Int)))) hv.symm, rfl, rfl, rfl, trivial⟩ ⟨rfl, trivial⟩ trivial)
        · have hv : kindN ps (j + 1) = 2 := by rw [hk, h1, if_neg (by simp)]
          (refine goes_region ?_; apply run_step rfl; (exact stp_assign rfl rfl); refine run_nil ?_; refine fin_block ?_; refine fin_block ?_; refine fin_seq ?_; refine goes_region ?_; apply run_step rfl; (exact stp_add rfl rfl rfl (by first | exact IntWalk.i64_in _ (by omega) | rfl)); apply run_step rfl; (exact stp_move rfl rfl); refine run_nil ?_)
          exact fin_round (j + 1) (by omega) (by omega) (Wk.of ⟨congrArg (fun k : Nat => some (vv (I6 (k : Int)))) hv.symm, rfl, rfl, rfl, trivial⟩ ⟨rfl, trivial⟩ trivial)
      · have hD := hD.nm [(1000, 13), (2100, 21)] (by kernel_rfl)
        have hD : FC Try.prog 65 [(13, cxRo (mixC ps))] [.s (.agg [.val (I6 ((cget ps j).1 : Int)), .esl 13 (j * 2 + 1) 0 labs.length])] [(21, leOw (degs labs))] (o1 (.sl 21 0 (labs.length + 1))) [] := hD
        have hv : kindN ps (j + 1) = kindN ps j := by rw [hk]; unfold kStep; rw [if_neg (by omega)]
        have hd0 : 0 < (ivals (degs labs)).length := by rw [ivals_len]; omega
        (refine goes_skip ?_; refine fin_seq ?_; refine goes_seq ?_; refine goes_block ?_; refine goes_seq ?_; refine goes_region ?_; apply run_step rfl; (first | exact stp_ixT (k := 2) (j := j) rfl rfl rfl rfl rfl (by as_aux_lemma => kernel_rfl) rfl hjN hix (by omega) rfl | exact stp_loadAggD (k := 2) rfl rfl rfl rfl rfl (by as_aux_lemma => kernel_rfl) hagg | (apply call_gate 65; exact stp_callN hD (by as_aux_lemma => kernel_rfl) rfl rfl ⟨⟨.inl rfl, .inl rfl, trivial⟩, trivial⟩ ⟨⟨_, rfl, .inr rfl⟩, trivial⟩ rfl rfl rfl) | exact stp_nilNo (b := true) rfl (by as_aux_lemma => kernel_rfl) rfl rfl hd0 (.inr ⟨rfl, rfl⟩)); apply run_step rfl; (first | exact stp_ixT (k := 2) (j := j) rfl rfl rfl rfl rfl (by as_aux_lemma => kernel_rfl) rfl hjN hix (by omega) rfl | exact stp_loadAggD (k := 2) rfl rfl rfl rfl rfl (by as_aux_lemma => kernel_rfl) hagg | (apply call_gate 65; exact stp_callN hD (by as_aux_lemma => kernel_rfl) rfl rfl ⟨⟨.inl rfl, .inl rfl, trivial⟩, trivial⟩ ⟨⟨_, rfl, .inr rfl⟩, trivial⟩ rfl rfl rfl) | exact stp_nilNo (b := true) rfl (by as_aux_lemma => kernel_rfl) rfl rfl hd0 (.inr ⟨rfl, rfl⟩)); apply run_step rfl; (exact stp_allocZ [I6 0, .slice none 0 0] rfl (by as_aux_lemma => kernel_rfl)); apply run_step rfl; (exact stp_storeAgg rfl rfl rfl rfl rfl rfl rfl rfl (by as_aux_lemma => kernel_rfl) rfl); refine run_nil ?_; refine fin_seq ?_; refine goes_block ?_; refine goes_seq ?_; refine goes_region ?_; apply run_step rfl; (exact stp_loadAgg rfl rfl rfl rfl rfl rfl (by as_aux_lemma => kernel_rfl)); apply run_step rfl; (first | exact stp_ixT (k := 2) (j := j) rfl rfl rfl rfl rfl (by as_aux_lemma => kernel_rfl) rfl hjN hix (by omega) rfl | exact stp_loadAggD (k := 2) rfl rfl rfl rfl rfl (by as_aux_lemma => kernel_rfl) hagg | (apply call_gate 65; exact stp_callN hD (by as_aux_lemma => kernel_rfl) rfl rfl ⟨⟨.inl rfl, .inl rfl, trivial⟩, trivial⟩ ⟨⟨_, rfl, .inr rfl⟩, trivial⟩ rfl rfl rfl) | exact stp_nilNo (b := true) rfl (by as_aux_lemma => kernel_rfl) rfl rfl hd0 (.inr ⟨rfl, rfl⟩)); apply run_step rfl; (first | exact stp_ixT (k := 2) (j := j) rfl rfl rfl rfl rfl (by as_aux_lemma => kernel_rfl) rfl hjN hix (by omega) rfl | exact stp_loadAggD (k := 2) rfl rfl rfl rfl rfl (by as_aux_lemma => kernel_rfl) hagg | (apply call_gate 65; exact stp_callN hD (by as_aux_lemma => kernel_rfl) rfl rfl ⟨⟨.inl rfl, .inl rfl, trivial⟩, trivial⟩ ⟨⟨_, rfl, .inr rfl⟩, trivial⟩ rfl rfl rfl) | exact stp_nilNo (b := true) rfl (by as_aux_lemma => kernel_rfl) rfl rfl hd0 (.inr ⟨rfl, rfl⟩)); apply run_step rfl; (exact stp_assign rfl rfl); refine run_nil ?_; refine fin_seq ?_)
        refine goes_cond rfl (fun _ => ?_) (fun e => by cases e)
        (refine goes_skip ?_; refine fin_block ?_; refine fin_block ?_; refine fin_seq ?_; refine goes_region ?_; apply run_step rfl; (exact stp_add rfl rfl rfl (by first | exact IntWalk.i64_in _ (by omega) | rfl)); apply run_step rfl; (exact stp_move rfl rfl); refine run_nil ?_)
        exact fin_round (j + 1) (by omega) (by omega) (Wk.of ⟨congrArg (fun k : Nat => some (vv (I6 (k : Int)))) hv.symm, rfl, rfl, rfl, trivial⟩ ⟨rfl, trivial⟩ trivial)
    · obtain rfl : j = N := by omega
      (refine goes_exit ?_; refine fin_exit_then ?_; refine fin_exit_then ?_; refine fin_exit_eq ?_; refine fin_seq ?_; refine goes_seq ?_; refine goes_region ?_; apply run_step rfl; (exact stp_move rfl rfl); apply run_step rfl; (exact stp_assign rfl rfl); apply run_step rfl; (exact stp_assign rfl rfl); refine run_nil ?_; refine fin_seq ?_; refine goes_ret ?_)
      exact fin_ret2 (.inl rfl) rfl (.tmp rfl) (.tmp rfl) trivial trivial
end Go.Proofs.Ytlpeghdbjfnenaa

/- From contracts in names to contracts in words: the doors of the functions that the laws call. -/
namespace Go.Proofs.Ytlpeghdbjfnenaa
open Go.RowKit

theorem rdP {η : Env} {ω : Own?} {w : World} {x : Nat} {own : Bool} {E F : Nat} {ins : List (Nm × Ch)} {g : Int} {zss : List (List Int)} {v : Value} (hm : Mem η ω w (fun x => lk x ins)) (hx : lk x ins = some ⟨own, E, 1, .rows F (irows zss) []⟩) (hv : Den2 η (.agg [.val (I6 g), .sl x 0 zss.length]) v) (hn : zss.length ≤ 17592186044416) (hr : ∀ zs ∈ zss, zs.length ≤ 17592186044416) : RdP w v (g, zss) := by
  obtain ⟨us, rfl, hl, ha⟩ := hv
  obtain ⟨u0, g0, d0⟩ := ha 0 _ rfl
  obtain ⟨u1, g1, d1⟩ := ha 1 _ rfl
  have d0 : u0 = I6 g := d0
  subst d0
  obtain ⟨ao, c, rfl, hi⟩ := rdSS hm hx d1 hn hr
  refine ⟨ao, zss.length, c, ?_, hi⟩
  match us, hl with
  | ⟨[p, q]⟩, _ => simp at g0 g1; rw [g0, g1]
abbrev pA (g : Int) (R : Nat) : AV := .s (.agg [.val (I6 g), .sl 1003 0 R])
def Fit (zss : List (List Int)) : Prop := zss.length ≤ 4398046511104 ∧ ∀ zs ∈ zss, zs.length ≤ 4398046511104
theorem two_of {us : List Value} {u0 u1 : Value} (hl : us.length = 2) (g0 : us[0]? = some u0) (g1 : us[1]? = some u1) : us = [u0, u1] := by
  match us, hl with
  | [p, q], _ => simp at g0 g1; rw [g0, g1]
theorem one_of {us : List Value} {u0 : Value} (hl : us.length = 1) (g0 : us[0]? = some u0) : us = [u0] := by
  match us, hl with
  | [p], _ => simp at g0; rw [g0]
theorem fit_of {E1 E : Nat} {w : World} {lo hi : Nat} {v : Value} {zss : List (List Int)} (h : OwSS E1 E w lo hi v zss) : Fit zss := by
  obtain ⟨ao, n, c, us, rfl, ho⟩ := h
  refine ⟨by have := ho.own.2; have := ho.len; omega, fun zs hz => ?_⟩
  obtain ⟨j, hj, rfl⟩ := List.getElem_of_mem hz
  obtain ⟨u, d, hu, hd, ⟨a', n', c', rfl, h1⟩, _⟩ := ho.get (j := j) (by have := ho.len; omega)
  rw [List.getElem?_eq_getElem hj] at hd
  have := h1.len
  have h2 := h1.2
  rw [Option.some.inj hd]
  simp at this; omega
theorem ofP {E1 E : Nat} {w : World} {lo hi : Nat} {v : Value} {d : PresD} (h : OwP E1 E w lo hi v d) : ∃ u, v = .agg #[I6 d.1, u] ∧ OwSS E1 E w lo hi u d.2 := by
  obtain ⟨ao, n, c, us, rfl, ho⟩ := h
  exact ⟨_, rfl, _, _, _, us, rfl, ho⟩
theorem denL1 {η : Env} {a : AV} {u : Value} (h : Den η a u) : DenL η [a] [u] := ⟨rfl, fun j av hj => by
  match j, hj with
  | 0, hj => simp at hj; subst hj; exact ⟨u, rfl, h⟩⟩
theorem denL2 {η : Env} {a b : AV} {u v : Value} (h : Den η a u) (h' : Den η b v) : DenL η [a, b] [u, v] := ⟨rfl, fun j av hj => by
  match j, hj with
  | 0, hj => simp at hj; subst hj; exact ⟨u, rfl, h⟩
  | 1, hj => simp at hj; subst hj; exact ⟨v, rfl, h'⟩⟩
theorem denP {η : Env} {g : Int} {R : Nat} {u : Value} (h : Den1 η (.sl 1003 0 R) u) : Den η (pA g R) (.agg #[I6 g, u]) := ⟨_, rfl, rfl, fun j b hb => by
  match j, hb with
  | 0, hb => simp at hb; subst hb; exact ⟨_, by simp, rfl⟩
  | 1, hb => simp at hb; subst hb; exact ⟨_, by simp, h⟩⟩
theorem den_tup2 {η : Env} {a b : A2} {v : Value} (h : Den η (.tup [a, b]) v) : ∃ u u', v = .tuple #[u, u'] ∧ Den2 η a u ∧ Den2 η b u' := by
  obtain ⟨us, rfl, hl, ha⟩ := h
  obtain ⟨u0, g0, d0⟩ := ha 0 _ rfl
  obtain ⟨u1, g1, d1⟩ := ha 1 _ rfl
  refine ⟨u0, u1, ?_, d0, d1⟩
  match us, hl with
  | ⟨[p, q]⟩, _ => simp at g0 g1; rw [g0, g1]
/-- a function of a presentation and words -/
theorem callPW {f : FuncId} {outs : List (Nm × Ch)} {res : AV} {d : PresD} {ws : List (List Int)} (hf : Fit d.2 → Fit ws → FC Try.prog f [(1002, rowsRo ws), (1003, rowsRo d.2)] [pA d.1 d.2.length, o1 (.sl 1002 0 ws.length)] outs res []) {E1 E E1' E' : Nat} {w : World} {lo hi lo' hi' : Nat} {v v' : Value} (h : OwP E1 E w lo hi v d) (h' : OwSS E1' E' w lo' hi' v' ws) :
    Calls Try.prog f #[v, v'] w fun e w' => ∃ v η ω, e = .returned v ∧ Den η res v ∧ Mem η ω w' (fun x => lk x outs) ∧ Below w.heap.size w w' ∧ ∀ b, b < w.heap.size → ω b = none := by
  obtain ⟨u, rfl, hs⟩ := ofP h
  obtain ⟨hd, r, rfl, hv⟩ := ofSS 1003 31 2 hs
  obtain ⟨hd', r', rfl, hv'⟩ := ofSS 1002 31 2 h'
  exact (hf (fit_of hs) (fit_of h')).call (l := [(1002, (rowsRo ws, hd', r')), (1003, (rowsRo d.2, hd, r))]) (us := [_, _]) (fun p hp => by simp at hp; rcases hp with rfl | rfl; exact hv'; exact hv) rfl
    (denL2 (denP (den_sl (q := (rowsRo d.2, hd, r)) rfl)) (den_sl (q := (rowsRo ws, hd', r')) rfl))
/-- a function of a presentation -/
theorem callP {f : FuncId} {outs : List (Nm × Ch)} {res : AV} {d : PresD} (hf : Fit d.2 → FC Try.prog f [(1003, rowsRo d.2)] [pA d.1 d.2.length] outs res []) {E1 E : Nat} {w : World} {lo hi : Nat} {v : Value} (h : OwP E1 E w lo hi v d) :
    Calls Try.prog f #[v] w fun e w' => ∃ v η ω, e = .returned v ∧ Den η res v ∧ Mem η ω w' (fun x => lk x outs) ∧ Below w.heap.size w w' ∧ ∀ b, b < w.heap.size → ω b = none := by
  obtain ⟨u, rfl, hs⟩ := ofP h
  obtain ⟨hd, r, rfl, hv⟩ := ofSS 1003 31 2 hs
  exact (hf (fit_of hs)).call (l := [(1003, (rowsRo d.2, hd, r))]) (us := [_]) (fun p hp => by simp at hp; subst hp; exact hv) rfl (denL1 (denP (den_sl (q := (rowsRo d.2, hd, r)) rfl)))
theorem two_vals {P : Program} {f : FuncId} {args : Array Value} {w : World} {a b : Value} {outs : List (Nm × Ch)} (h : Calls P f args w fun e w' => ∃ v η ω, e = .returned v ∧ Den η (.tup [.one (.val a), .one (.val b)]) v ∧ Mem η ω w' (fun x => lk x outs) ∧ Below w.heap.size w w' ∧ ∀ b, b < w.heap.size → ω b = none) :
    Calls P f args w fun e w' => e = .returned (.tuple #[a, b]) ∧ Below w.heap.size w w' := by
  refine h.mono ?_
  rintro e w' ⟨v, η, ω, rfl, hd, _, hb, _⟩
  obtain ⟨u, u', rfl, h1, h2⟩ := den_tup2 hd
  have h1 : u = a := h1
  have h2 : u' = b := h2
  subst h1 h2
  exact ⟨rfl, hb⟩

theorem one_val {P : Program} {f : FuncId} {args : Array Value} {w : World} {a : Value} {outs : List (Nm × Ch)} (h : Calls P f args w fun e w' => ∃ v η ω, e = .returned v ∧ Den η (vv a) v ∧ Mem η ω w' (fun x => lk x outs) ∧ Below w.heap.size w w' ∧ ∀ b, b < w.heap.size → ω b = none) :
    Calls P f args w fun e w' => e = .returned a ∧ Below w.heap.size w w' := by
  refine h.mono ?_
  rintro e w' ⟨v, η, ω, rfl, hd, _, hb, _⟩
  have hd : v = a := hd
  subst hd
  exact ⟨rfl, hb⟩
/-- a maniplex -/
abbrev mA (R : Nat) : AV := .s (.agg [.sl 1003 0 R])
theorem ofM {E1 E : Nat} {w : World} {lo hi : Nat} {v : Value} {d : List (List Int)} (h : OwM E1 E w lo hi v d) : ∃ u, v = .agg #[u] ∧ OwSS E1 E w lo hi u d := by
  obtain ⟨ao, n, c, us, rfl, ho⟩ := h
  exact ⟨_, rfl, _, _, _, us, rfl, ho⟩
theorem denM {η : Env} {R : Nat} {u : Value} (h : Den1 η (.sl 1003 0 R) u) : Den η (mA R) (.agg #[u]) := ⟨_, rfl, rfl, fun j b hb => by
  match j, hb with
  | 0, hb => simp at hb; subst hb; exact ⟨_, by simp, h⟩⟩
theorem callM {f : FuncId} {outs : List (Nm × Ch)} {res : AV} {d : List (List Int)} (hf : Fit d → FC Try.prog f [(1003, rowsRo d)] [mA d.length] outs res []) {E1 E : Nat} {w : World} {lo hi : Nat} {v : Value} (h : OwM E1 E w lo hi v d) :
    Calls Try.prog f #[v] w fun e w' => ∃ v η ω, e = .returned v ∧ Den η res v ∧ Mem η ω w' (fun x => lk x outs) ∧ Below w.heap.size w w' ∧ ∀ b, b < w.heap.size → ω b = none := by
  obtain ⟨u, rfl, hs⟩ := ofM h
  obtain ⟨hd, r, rfl, hv⟩ := ofSS 1003 31 2 hs
  exact (hf (fit_of hs)).call (l := [(1003, (rowsRo d, hd, r))]) (us := [_]) (fun p hp => by simp at hp; subst hp; exact hv) rfl (denL1 (denM (den_sl (q := (rowsRo d, hd, r)) rfl)))
/-- a list, and a list and a number -/
theorem fitS {E : Nat} {w : World} {v : Value} {zs : List Int} (h : OwS E w v zs) : zs.length ≤ 4398046511104 := by
  obtain ⟨ao, n, c, rfl, ho⟩ := h
  have := ho.len; have := ho.2
  simp at *; omega
theorem callS {f : FuncId} {outs : List (Nm × Ch)} {res : AV} {zs : List Int} (hf : zs.length ≤ 4398046511104 → FC Try.prog f [(1003, wRo zs)] [o1 (.sl 1003 0 zs.length)] outs res []) {E : Nat} {w : World} {lo hi : Nat} {v : Value} (h : OwnS E w lo hi v zs) :
    Calls Try.prog f #[v] w fun e w' => ∃ v η ω, e = .returned v ∧ Den η res v ∧ Mem η ω w' (fun x => lk x outs) ∧ Below w.heap.size w w' ∧ ∀ b, b < w.heap.size → ω b = none := by
  obtain ⟨hd, r, rfl, hv⟩ := ofS 1003 2 h.1
  exact (hf (fitS h.1)).call (l := [(1003, (wRo zs, hd, r))]) (us := [_]) (fun p hp => by simp at hp; subst hp; exact hv) rfl (denL1 (den_sl (q := (wRo zs, hd, r)) rfl))
theorem callSI {f : FuncId} {outs : List (Nm × Ch)} {res : AV} {zs : List Int} (m : Int) (hf : zs.length ≤ 4398046511104 → FC Try.prog f [(1003, wRo zs)] [o1 (.sl 1003 0 zs.length), vv (I6 m)] outs res []) {E : Nat} {w : World} {lo hi : Nat} {v : Value} (h : OwnS E w lo hi v zs) :
    Calls Try.prog f #[v, .int .i64 m] w fun e w' => ∃ v η ω, e = .returned v ∧ Den η res v ∧ Mem η ω w' (fun x => lk x outs) ∧ Below w.heap.size w w' ∧ ∀ b, b < w.heap.size → ω b = none := by
  obtain ⟨hd, r, rfl, hv⟩ := ofS 1003 2 h.1
  exact (hf (fitS h.1)).call (l := [(1003, (wRo zs, hd, r))]) (us := [_, _]) (fun p hp => by simp at hp; subst hp; exact hv) rfl (denL2 (den_sl (q := (wRo zs, hd, r)) rfl) rfl)
end Go.Proofs.Ytlpeghdbjfnenaa

/- KindOfDiagram, in words. -/
namespace Go.Proofs.Ytlpeghdbjfnenaa
open Go.RowKit

theorem api_specKind {E : Nat} {lo hi : Nat} {v : Value} {zs : List Int} (w : World) (h : OwnS E w lo hi v zs) :
    Calls Try.prog 20 #[v] w fun e w' => e = .returned (.tuple #[.int .i64 (kindR zs), .int .i64 (kindC zs)]) ∧ Below w.heap.size w w' := two_vals (callS (fun k => kindS_fc zs k) h)
theorem api_implKind {E : Nat} {lo hi : Nat} {v : Value} {zs : List Int} (w : World) (h : OwnS E w lo hi v zs) :
    Calls Try.prog 22 #[v] w fun e w' => e = .returned (.tuple #[.int .i64 (kindR zs), .int .i64 (kindC zs)]) ∧ Below w.heap.size w w' := two_vals (callS (fun k => kindI_fc zs k) h)
end Go.Proofs.Ytlpeghdbjfnenaa

/- The walk of FnExactKindOfDiagram: true, whatever the arguments. Written by genwalk.py. -/
namespace Go.Proofs.Ytlpeghdbjfnenaa
open Go.RowKit

set_option maxHeartbeats 3200000 in
theorem walkKindOfDiagram {a0 : Option Addr} {n0 c0 : Nat} {zs : List Int} (w : World) (h0 : Ints w a0 n0 zs) :
    Calls Try.prog 4 #[.slice a0 n0 c0] w fun e w' => e = .returned (.bool true) ∧ Below w.heap.size w w' := by
  have B0 : Below w.heap.size w w := Below.refl _ _
  have hb0 := h0.2.1
  by_cases hs0 : n0 ≤ 1048576
  · have g0 : decide ((1048576 : Int) < n0) = false := by simp; omega
    have hl0 : zs.length = n0 := h0.1
    have HL0 := Lib.hid hl0
    clear hl0
    go_enter Try.func4, Try.ntmps4
    go_wp2_with fail
    refine (law_toS _ (show RdS _ _ _ from ⟨_, _, _, rfl, (h0.below B0)⟩) (by rw [HL0.out]; omega)).mono ?_
    rintro e w1 ⟨u1, rfl, o1, b1⟩
    have s1 := b1.size
    have B1 : Below w.heap.size w w1 := B0.trans (b1.mono B0.size)
    go_wp2_with fail
    refine (api_specKind  _ o1 ).mono ?_
    rintro e w2 ⟨rfl, b2⟩
    have s2 := b2.size
    have B2 : Below w.heap.size w w2 := B1.trans (b2.mono B1.size)
    go_wp2_with fail
    refine (law_toS _ (show RdS _ _ _ from ⟨_, _, _, rfl, (h0.below B2)⟩) (by rw [HL0.out]; omega)).mono ?_
    rintro e w3 ⟨u3, rfl, o3, b3⟩
    have s3 := b3.size
    have B3 : Below w.heap.size w w3 := B2.trans (b3.mono B2.size)
    go_wp2_with fail
    refine (api_implKind  _ o3 ).mono ?_
    rintro e w4 ⟨rfl, b4⟩
    have s4 := b4.size
    have B4 : Below w.heap.size w w4 := B3.trans (b4.mono B3.size)
    go_wp2_with fail
    refine (law_toS _ (show RdS _ _ _ from ⟨_, _, _, rfl, (h0.below B4)⟩) (by rw [HL0.out]; omega)).mono ?_
    rintro e w5 ⟨u5, rfl, o5, b5⟩
    have s5 := b5.size
    have B5 : Below w.heap.size w w5 := B4.trans (b5.mono B4.size)
    go_wp2_with fail
    refine (law_eqS _ ((o3.below b4).below b5).rd o5.rd).mono ?_
    rintro e w6 ⟨rfl, b6⟩
    have s6 := b6.size
    have B6 : Below w.heap.size w w6 := B5.trans (b6.mono B5.size)
    go_wp2
    go_ret
    exact ⟨rfl, B6⟩
  · have g0 : decide ((1048576 : Int) < n0) = true := by simp; omega
    go_enter Try.func4, Try.ntmps4
    go_wp2
    go_ret
    exact ⟨rfl, B0⟩
end Go.Proofs.Ytlpeghdbjfnenaa
