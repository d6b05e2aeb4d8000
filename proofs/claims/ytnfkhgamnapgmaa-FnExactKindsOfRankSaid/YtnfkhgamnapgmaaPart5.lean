/- The degrees of a component, the program's: isEither, degreesOf, isAffine. guards: -/
import Derived.Test.YtnfkhgamnapgmaaPart4
import Derived.Test.YtnfkhgamnapgmaaPart3
namespace Go.Proofs.Ytnfkhgamnapgmaa
open Go.RowKit

abbrev cA (mv : Int) (i m : Nat) : AV := .s (.agg [.val (I6 mv), .esl 1000 i 0 m])
abbrev cxRo (cs : List Cel) : Ch := ⟨false, 152, 2, .mix cs⟩
set_option maxRecDepth 100000 in
set_option maxHeartbeats 1000000 in
theorem either_fc (cs : List Cel) (mv : Int) (i m n : Nat) (labs list : List Int) (hi : cs[i]? = some (.r 2 1 m (ivals labs))) (hm : labs.length = m) (hn : list.length = n) (hm4 : m ≤ 1000000) (hn4 : n ≤ 1000000) :
    FC Try.prog 222 [(1000, cxRo cs), (1001, wRo list)] [cA mv i m, o1 (.sl 1001 0 n)] [] (vv (.bool (eith labs list))) [] := by
  have hC := cloneS_fc 1001 7 n list hn hn4
  have hE := equalM_fc cs i m n 152 2 labs list hi hm hn hm4 hn4
  have hE2 := (equalM_fc cs i m n 152 2 labs list.reverse hi hm (by simpa using hn) hm4 hn4).nm [(1000, 1000), (1001, 7)] (by kernel_rfl)
  have hE2 : FC Try.prog 223 [(1000, cxRo cs), (7, wRo list.reverse)] [o1 (.esl 1000 i 0 m), o1 (.sl 7 0 n)] [] (vv (.bool (labs == list.reverse))) [] := hE2
  have hRv : ∀ ao c (w : World), Own w 0 2 ao n c (ivals list) → Calls Try.prog 230 #[.slice ao n c] w fun e w' => e = .returned (.tuple #[]) ∧ Own w' 0 2 ao n c (ivals list.reverse) ∧ w.grownBy w' (bk ao) := fun ao c w h => reverse_any ao n c list w 0 h
  have hrl : list.reverse.length = n := by simpa using hn
  refine fc_enter (nt := 20) Try.func222 rfl rfl (by simp) fun w0 ω0 => ?_
  (refine goes_seq ?_; refine goes_region ?_; apply run_step rfl; (exact stp_box rfl rfl rfl rfl); apply run_step rfl; (exact stp_assign rfl rfl); refine run_nil ?_; refine fin_seq ?_; refine goes_seq ?_; refine goes_region ?_; apply run_step rfl; (exact stp_move rfl rfl); apply run_step rfl; (first | (apply call_gate 168; exact stp_callN hC (by as_aux_lemma => kernel_rfl) rfl rfl ⟨rfl, trivial⟩ ⟨⟨_, rfl, .inl rfl⟩, trivial⟩ rfl rfl rfl) | (apply call_gate 230; exact stp_turn (zs := list) rfl (by as_aux_lemma => kernel_rfl) rfl rfl hn hrl (by omega) hRv) | (apply call_gate 223; exact stp_callR hE (by as_aux_lemma => kernel_rfl) rfl rfl ⟨rfl, rfl, trivial⟩ ⟨⟨_, rfl, .inl rfl⟩, ⟨_, rfl, .inl rfl⟩, trivial⟩ rfl rfl)); apply run_step rfl; (exact stp_assign rfl rfl); refine run_nil ?_; refine fin_seq ?_; refine goes_seq ?_; refine goes_region ?_; apply run_step rfl; (exact stp_move rfl rfl); apply run_step rfl; (first | (apply call_gate 168; exact stp_callN hC (by as_aux_lemma => kernel_rfl) rfl rfl ⟨rfl, trivial⟩ ⟨⟨_, rfl, .inl rfl⟩, trivial⟩ rfl rfl rfl) | (apply call_gate 230; exact stp_turn (zs := list) rfl (by as_aux_lemma => kernel_rfl) rfl rfl hn hrl (by omega) hRv) | (apply call_gate 223; exact stp_callR hE (by as_aux_lemma => kernel_rfl) rfl rfl ⟨rfl, rfl, trivial⟩ ⟨⟨_, rfl, .inl rfl⟩, ⟨_, rfl, .inl rfl⟩, trivial⟩ rfl rfl)); refine run_nil ?_; refine fin_seq ?_; refine goes_seq ?_; refine goes_region ?_; apply run_step rfl; (exact stp_fieldAddr (d := 1) rfl rfl rfl (by as_aux_lemma => kernel_rfl)); apply run_step rfl; (exact stp_loadF rfl (by as_aux_lemma => kernel_rfl) rfl rfl rfl rfl); apply run_step rfl; (exact stp_move rfl rfl); apply run_step rfl; (first | (apply call_gate 168; exact stp_callN hC (by as_aux_lemma => kernel_rfl) rfl rfl ⟨rfl, trivial⟩ ⟨⟨_, rfl, .inl rfl⟩, trivial⟩ rfl rfl rfl) | (apply call_gate 230; exact stp_turn (zs := list) rfl (by as_aux_lemma => kernel_rfl) rfl rfl hn hrl (by omega) hRv) | (apply call_gate 223; exact stp_callR hE (by as_aux_lemma => kernel_rfl) rfl rfl ⟨rfl, rfl, trivial⟩ ⟨⟨_, rfl, .inl rfl⟩, ⟨_, rfl, .inl rfl⟩, trivial⟩ rfl rfl)); apply run_step rfl; (exact stp_move rfl rfl))
  refine run_bool 14 rfl (fun h1 => ?_) (fun h1 => ?_)
  · have hv : eith labs list = true := by unfold eith; rw [h1]; rfl
    rw [hv]
    (apply run_gNo rfl rfl rfl rfl rfl; apply run_gNo rfl rfl rfl rfl rfl; apply run_gNo rfl rfl rfl rfl rfl; apply run_gNo rfl rfl rfl rfl rfl; apply run_step rfl; (exact stp_pickT rfl rfl rfl); apply run_step rfl; (exact stp_assign rfl rfl); refine run_nil ?_; refine fin_seq ?_; refine goes_ret ?_)
    exact fin_ret1 (.inl rfl) rfl (.tmp rfl) trivial trivial
  · have hv : eith labs list = (labs == list.reverse) := by unfold eith; rw [h1]; rfl
    rw [hv]
    (apply run_gYes rfl rfl rfl; (exact stp_fieldAddr (d := 1) rfl rfl rfl (by as_aux_lemma => kernel_rfl)); apply run_gYes rfl rfl rfl; (exact stp_loadF rfl (by as_aux_lemma => kernel_rfl) rfl rfl rfl rfl); apply run_gYes rfl rfl rfl; (exact stp_move rfl rfl); apply run_gYes rfl rfl rfl; (apply call_gate 223; exact stp_callR hE2 (by as_aux_lemma => kernel_rfl) rfl rfl ⟨rfl, rfl, trivial⟩ ⟨⟨_, rfl, .inl rfl⟩, ⟨_, rfl, .inr rfl⟩, trivial⟩ rfl rfl); apply run_step rfl; (exact stp_pickF rfl rfl rfl); apply run_step rfl; (exact stp_assign rfl rfl); refine run_nil ?_; refine fin_seq ?_; refine goes_ret ?_)
    exact fin_ret1 (.inl rfl) rfl (.tmp rfl) trivial trivial
set_option maxRecDepth 100000 in
set_option maxHeartbeats 2000000 in
theorem deg0_fc (cs : List Cel) (mv : Int) (i m : Nat) (labs : List Int) (hi : cs[i]? = some (.r 2 1 m (ivals labs))) (hm : labs.length = m) (hm4 : m ≤ 4) (h0 : m = 0) :
    FC Try.prog 205 [(1000, cxRo cs)] [cA mv i m] [(15, leOw [2])] (o1 (.sl 15 0 1)) [] := by
  have hSz := sizeE_fc 1000 i m
  refine fc_enter (nt := 75) Try.func205 rfl rfl (by simp) fun w0 ω0 => ?_
  have hw1 : IntKind.i64.wrap ((m : Int) + 1) = (m : Int) + 1 := IntWalk.i64_in _ (by omega)
  (refine goes_seq ?_; refine goes_region ?_; apply run_step rfl; (exact stp_box rfl rfl rfl rfl); apply run_step rfl; (exact stp_assign rfl rfl); refine run_nil ?_; refine fin_seq ?_; refine goes_seq ?_; refine goes_region ?_; apply run_step rfl; (exact stp_fieldAddr (d := 1) rfl rfl rfl (by as_aux_lemma => kernel_rfl)); apply run_step rfl; (exact stp_loadF rfl (by as_aux_lemma => kernel_rfl) rfl rfl rfl rfl); apply run_step rfl; (first | (apply call_gate 85; exact stp_callR hSz (by as_aux_lemma => kernel_rfl) rfl rfl ⟨rfl, trivial⟩ trivial rfl rfl) | exact stp_add rfl rfl rfl hw1); apply run_step rfl; (first | (apply call_gate 85; exact stp_callR hSz (by as_aux_lemma => kernel_rfl) rfl rfl ⟨rfl, trivial⟩ trivial rfl rfl) | exact stp_add rfl rfl rfl hw1); apply run_step rfl; (exact stp_assign rfl rfl); refine run_nil ?_; refine fin_seq ?_; refine goes_seq ?_; refine goes_block ?_; refine goes_seq ?_; refine goes_region ?_; apply run_step rfl; (exact stp_move rfl rfl); apply run_step rfl; (exact stp_bin rfl rfl rfl rfl); apply run_step rfl; (exact stp_assign rfl rfl); refine run_nil ?_; refine fin_seq ?_)
  refine goes_cond rfl (fun _ => ?_) (fun e => ?_)
  · (refine goes_seq ?_; refine goes_region ?_; apply run_step rfl; (exact stp_lit1I (E := 2) rfl (by as_aux_lemma => kernel_rfl) rfl); apply run_step rfl; (exact stp_assign rfl rfl); refine run_nil ?_; refine fin_seq ?_; refine goes_ret ?_; refine fin_ret_block ?_; refine fin_ret_then ?_)
    exact fin_ret1 (.inl rfl) rfl (.tmp rfl) ⟨rfl, trivial⟩ trivial
  · exfalso; simp at e; omega
set_option maxRecDepth 100000 in
set_option maxHeartbeats 2000000 in
theorem deg1_fc (cs : List Cel) (mv : Int) (i m : Nat) (labs : List Int) (hi : cs[i]? = some (.r 2 1 m (ivals labs))) (hm : labs.length = m) (hm4 : m ≤ 4) (h0 : m = 1) (hp : 0 < iget labs 0) :
    FC Try.prog 205 [(1000, cxRo cs)] [cA mv i m] [(30, leOw [2, iget labs 0])] (o1 (.sl 30 0 2)) [] := by
  have hSz := sizeE_fc 1000 i m
  refine fc_enter (nt := 75) Try.func205 rfl rfl (by simp) fun w0 ω0 => ?_
  have hgl : (ivals labs)[0]? = some (I6 (iget labs 0)) := ivals_get (by omega)
  have hw1 : IntKind.i64.wrap ((m : Int) + 1) = (m : Int) + 1 := IntWalk.i64_in _ (by omega)
  (refine goes_seq ?_; refine goes_region ?_; apply run_step rfl; (exact stp_box rfl rfl rfl rfl); apply run_step rfl; (exact stp_assign rfl rfl); refine run_nil ?_; refine fin_seq ?_; refine goes_seq ?_; refine goes_region ?_; apply run_step rfl; (exact stp_fieldAddr (d := 1) rfl rfl rfl (by as_aux_lemma => kernel_rfl)); apply run_step rfl; (exact stp_loadF rfl (by as_aux_lemma => kernel_rfl) rfl rfl rfl rfl); apply run_step rfl; (first | (apply call_gate 85; exact stp_callR hSz (by as_aux_lemma => kernel_rfl) rfl rfl ⟨rfl, trivial⟩ trivial rfl rfl) | exact stp_add rfl rfl rfl hw1); apply run_step rfl; (first | (apply call_gate 85; exact stp_callR hSz (by as_aux_lemma => kernel_rfl) rfl rfl ⟨rfl, trivial⟩ trivial rfl rfl) | exact stp_add rfl rfl rfl hw1); apply run_step rfl; (exact stp_assign rfl rfl); refine run_nil ?_; refine fin_seq ?_; refine goes_seq ?_; refine goes_block ?_; refine goes_seq ?_; refine goes_region ?_; apply run_step rfl; (exact stp_move rfl rfl); apply run_step rfl; (exact stp_bin rfl rfl rfl rfl); apply run_step rfl; (exact stp_assign rfl rfl); refine run_nil ?_; refine fin_seq ?_)
  refine goes_cond rfl (fun e => ?_) (fun _ => ?_)
  · exfalso; simp at e; omega
  (refine goes_seq ?_; refine goes_region ?_; apply run_step rfl; (exact stp_move rfl rfl); apply run_step rfl; (exact stp_bin rfl rfl rfl rfl); apply run_step rfl; (exact stp_move rfl rfl))
  refine run_bool 19 rfl (fun _ => ?_) (fun e => ?_)
  · (apply run_gYes rfl rfl rfl; (exact stp_fieldAddr (d := 1) rfl rfl rfl (by as_aux_lemma => kernel_rfl)); apply run_gYes rfl rfl rfl; (exact stp_loadF rfl (by as_aux_lemma => kernel_rfl) rfl rfl rfl rfl); apply run_gYes rfl rfl rfl; (first | exact stp_ixM (j := 0) rfl rfl rfl rfl rfl (by as_aux_lemma => kernel_rfl) hi (by omega) rfl (by omega) (Nat.le_refl _) | exact stp_loadEM rfl (by as_aux_lemma => kernel_rfl) rfl rfl rfl hi hgl); apply run_gYes rfl rfl rfl; (first | exact stp_ixM (j := 0) rfl rfl rfl rfl rfl (by as_aux_lemma => kernel_rfl) hi (by omega) rfl (by omega) (Nat.le_refl _) | exact stp_loadEM rfl (by as_aux_lemma => kernel_rfl) rfl rfl rfl hi hgl); apply run_gYes rfl rfl rfl; (exact stp_bin rfl rfl rfl rfl); apply run_step rfl; (exact stp_pickT rfl rfl rfl); apply run_step rfl; (exact stp_assign rfl rfl); refine run_nil ?_; refine fin_seq ?_)
    refine goes_cond rfl (fun _ => ?_) (fun e => ?_)
    · (refine goes_seq ?_; refine goes_region ?_; apply run_step rfl; (exact stp_fieldAddr (d := 1) rfl rfl rfl (by as_aux_lemma => kernel_rfl)); apply run_step rfl; (exact stp_loadF rfl (by as_aux_lemma => kernel_rfl) rfl rfl rfl rfl); apply run_step rfl; (first | exact stp_ixM (j := 0) rfl rfl rfl rfl rfl (by as_aux_lemma => kernel_rfl) hi (by omega) rfl (by omega) (Nat.le_refl _) | exact stp_loadEM rfl (by as_aux_lemma => kernel_rfl) rfl rfl rfl hi hgl); apply run_step rfl; (first | exact stp_ixM (j := 0) rfl rfl rfl rfl rfl (by as_aux_lemma => kernel_rfl) hi (by omega) rfl (by omega) (Nat.le_refl _) | exact stp_loadEM rfl (by as_aux_lemma => kernel_rfl) rfl rfl rfl hi hgl); apply run_step rfl; (exact stp_lit2I (E := 2) rfl (by as_aux_lemma => kernel_rfl) rfl rfl); apply run_step rfl; (exact stp_assign rfl rfl); refine run_nil ?_; refine fin_seq ?_; refine goes_ret ?_; refine fin_ret_block ?_; refine fin_ret_then ?_)
      exact fin_ret1 (.inl rfl) rfl (.tmp rfl) ⟨rfl, trivial⟩ trivial
    · exfalso; simp at e; omega
  · exfalso; simp at e; omega
set_option maxRecDepth 100000 in
set_option maxHeartbeats 2000000 in
theorem deg2_fc (cs : List Cel) (mv : Int) (i m : Nat) (labs : List Int) (hi : cs[i]? = some (.r 2 1 m (ivals labs))) (hm : labs.length = m) (hm4 : m ≤ 4) (h0 : 0 < m) (hq : ¬ (m = 1 ∧ 0 < iget labs 0)) (e1 : eith labs [3, 5] = true) :
    FC Try.prog 205 [(1000, cxRo cs)] [cA mv i m] [(35, leOw [2, 6, 10])] (o1 (.sl 35 0 3)) [] := by
  have hSz := sizeE_fc 1000 i m
  have hE1 := (either_fc cs mv i m 2 labs [3, 5] hi hm rfl (by omega) (by omega)).nm [(1000, 1000), (1001, 33)] (by kernel_rfl)
  have hE1 : FC Try.prog 222 [(1000, cxRo cs), (33, wRo [3, 5])] [cA mv i m, o1 (.sl 33 0 2)] [] (vv (.bool (eith labs [3, 5]))) [] := hE1
  rw [e1] at hE1
  refine fc_enter (nt := 75) Try.func205 rfl rfl (by simp) fun w0 ω0 => ?_
  have hw1 : IntKind.i64.wrap ((m : Int) + 1) = (m : Int) + 1 := IntWalk.i64_in _ (by omega)
  (refine goes_seq ?_; refine goes_region ?_; apply run_step rfl; (exact stp_box rfl rfl rfl rfl); apply run_step rfl; (exact stp_assign rfl rfl); refine run_nil ?_; refine fin_seq ?_; refine goes_seq ?_; refine goes_region ?_; apply run_step rfl; (exact stp_fieldAddr (d := 1) rfl rfl rfl (by as_aux_lemma => kernel_rfl)); apply run_step rfl; (exact stp_loadF rfl (by as_aux_lemma => kernel_rfl) rfl rfl rfl rfl); apply run_step rfl; (first | (apply call_gate 85; exact stp_callR hSz (by as_aux_lemma => kernel_rfl) rfl rfl ⟨rfl, trivial⟩ trivial rfl rfl) | exact stp_add rfl rfl rfl hw1); apply run_step rfl; (first | (apply call_gate 85; exact stp_callR hSz (by as_aux_lemma => kernel_rfl) rfl rfl ⟨rfl, trivial⟩ trivial rfl rfl) | exact stp_add rfl rfl rfl hw1); apply run_step rfl; (exact stp_assign rfl rfl); refine run_nil ?_; refine fin_seq ?_; refine goes_seq ?_; refine goes_block ?_; refine goes_seq ?_; refine goes_region ?_; apply run_step rfl; (exact stp_move rfl rfl); apply run_step rfl; (exact stp_bin rfl rfl rfl rfl); apply run_step rfl; (exact stp_assign rfl rfl); refine run_nil ?_; refine fin_seq ?_)
  refine goes_cond rfl (fun e => ?_) (fun _ => ?_)
  · exfalso; simp at e; omega
  (repeat (first | refine goes_seq ?_ | refine fin_seq ?_ | refine goes_skip ?_ | refine goes_block ?_ | refine fin_block ?_ | refine goes_exit ?_ | refine fin_exit_eq ?_ | refine fin_exit_ne rfl ?_ | refine fin_exit_then ?_))
  refine goes_cut (St.of [(1, o1 (.ptr 1 0)), (3, vv (I6 ((m : Int) + 1))), (16, vv (.bool false))] [(1000, cxRo cs), (1, ⟨true, 152, 2, .flat [.val (I6 mv), .esl 1000 i 0 m]⟩)]) ?_ ?_
  · refine goes_region ?_
    (apply run_step rfl; (exact stp_move rfl rfl); apply run_step rfl; (exact stp_bin rfl rfl rfl rfl); apply run_step rfl; (exact stp_move rfl rfl))
    refine run_bool 19 rfl (fun e1 => ?_) (fun e1 => ?_)
    · have e1 : m = 1 := by simp at e1; omega
      have hg2 : ¬ iget labs 0 > 0 := fun h => hq ⟨e1, h⟩
      have hgl : (ivals labs)[0]? = some (I6 (iget labs 0)) := ivals_get (by omega)
      have hbf : binI .i64 .gtr (iget labs 0) 0 = some (.bool false) := by simp [binI]; omega
      (apply run_gYes rfl rfl rfl; (exact stp_fieldAddr (d := 1) rfl rfl rfl (by as_aux_lemma => kernel_rfl)); apply run_gYes rfl rfl rfl; (exact stp_loadF rfl (by as_aux_lemma => kernel_rfl) rfl rfl rfl rfl); apply run_gYes rfl rfl rfl; (first | exact stp_bin rfl rfl rfl hbf | exact stp_ixM (j := 0) rfl rfl rfl rfl rfl (by as_aux_lemma => kernel_rfl) hi (by omega) rfl (by omega) (Nat.le_refl _) | exact stp_loadEM rfl (by as_aux_lemma => kernel_rfl) rfl rfl rfl hi hgl); apply run_gYes rfl rfl rfl; (first | exact stp_bin rfl rfl rfl hbf | exact stp_ixM (j := 0) rfl rfl rfl rfl rfl (by as_aux_lemma => kernel_rfl) hi (by omega) rfl (by omega) (Nat.le_refl _) | exact stp_loadEM rfl (by as_aux_lemma => kernel_rfl) rfl rfl rfl hi hgl); apply run_gYes rfl rfl rfl; (first | exact stp_bin rfl rfl rfl hbf | exact stp_ixM (j := 0) rfl rfl rfl rfl rfl (by as_aux_lemma => kernel_rfl) hi (by omega) rfl (by omega) (Nat.le_refl _) | exact stp_loadEM rfl (by as_aux_lemma => kernel_rfl) rfl rfl rfl hi hgl); apply run_step rfl; (exact stp_pickT rfl rfl rfl); apply run_step rfl; (exact stp_assign rfl rfl); refine run_nil ?_)
      exact fin_join (Wk.of ⟨rfl, rfl, rfl, trivial⟩ ⟨rfl, rfl, trivial⟩ trivial)
    · (apply run_gNo rfl rfl rfl rfl rfl; apply run_gNo rfl rfl rfl rfl rfl; apply run_gNo rfl rfl rfl rfl rfl; apply run_gNo rfl rfl rfl rfl rfl; apply run_gNo rfl rfl rfl rfl rfl; apply run_step rfl; (exact stp_pickF rfl rfl rfl); apply run_step rfl; (exact stp_assign rfl rfl); refine run_nil ?_)
      exact fin_join (Wk.of ⟨rfl, rfl, rfl, trivial⟩ ⟨rfl, rfl, trivial⟩ trivial)
  (refine fin_seq ?_)
  refine goes_cond rfl (fun e => by cases e) (fun _ => ?_)
  (refine goes_seq ?_; refine goes_region ?_; apply run_step rfl; (exact stp_loadAgg rfl rfl rfl rfl rfl rfl (by as_aux_lemma => kernel_rfl)); apply run_step rfl; (exact stp_lit2I (E := 2) rfl (by as_aux_lemma => kernel_rfl) rfl rfl); apply run_step rfl; (first | (apply call_gate 222; exact stp_callR hE1 (by as_aux_lemma => kernel_rfl) rfl rfl ⟨⟨.inl rfl, .inl rfl, trivial⟩, rfl, trivial⟩ ⟨⟨_, rfl, .inl rfl⟩, ⟨_, rfl, .inr rfl⟩, trivial⟩ rfl rfl) | exact stp_lit3I (E := 2) rfl (by as_aux_lemma => kernel_rfl) rfl rfl rfl | exact stp_lit4I (E := 2) rfl (by as_aux_lemma => kernel_rfl) rfl rfl rfl rfl); apply run_step rfl; (exact stp_assign rfl rfl); refine run_nil ?_; refine fin_seq ?_)
  refine goes_cond rfl (fun _ => ?_) (fun e => by cases e)
  (refine goes_seq ?_; refine goes_region ?_; apply run_step rfl; (first | exact stp_lit3I (E := 2) rfl (by as_aux_lemma => kernel_rfl) rfl rfl rfl | exact stp_lit4I (E := 2) rfl (by as_aux_lemma => kernel_rfl) rfl rfl rfl rfl); apply run_step rfl; (exact stp_assign rfl rfl); refine run_nil ?_; refine fin_seq ?_; refine goes_ret ?_; refine fin_ret_block ?_; refine fin_ret_then ?_)
  exact fin_ret1 (.inl rfl) rfl (.tmp rfl) ⟨rfl, trivial⟩ trivial
set_option maxRecDepth 100000 in
set_option maxHeartbeats 2000000 in
theorem deg3_fc (cs : List Cel) (mv : Int) (i m : Nat) (labs : List Int) (hi : cs[i]? = some (.r 2 1 m (ivals labs))) (hm : labs.length = m) (hm4 : m ≤ 4) (h0 : 0 < m) (hq : ¬ (m = 1 ∧ 0 < iget labs 0)) (e1 : eith labs [3, 5] = false) (e2 : eith labs [3, 3, 5] = true) :
    FC Try.prog 205 [(1000, cxRo cs)] [cA mv i m] [(40, leOw [2, 12, 20, 30])] (o1 (.sl 40 0 4)) [] := by
  have hSz := sizeE_fc 1000 i m
  have hE1 := (either_fc cs mv i m 2 labs [3, 5] hi hm rfl (by omega) (by omega)).nm [(1000, 1000), (1001, 33)] (by kernel_rfl)
  have hE1 : FC Try.prog 222 [(1000, cxRo cs), (33, wRo [3, 5])] [cA mv i m, o1 (.sl 33 0 2)] [] (vv (.bool (eith labs [3, 5]))) [] := hE1
  rw [e1] at hE1
  have hE2 := (either_fc cs mv i m 3 labs [3, 3, 5] hi hm rfl (by omega) (by omega)).nm [(1000, 1000), (1001, 38)] (by kernel_rfl)
  have hE2 : FC Try.prog 222 [(1000, cxRo cs), (38, wRo [3, 3, 5])] [cA mv i m, o1 (.sl 38 0 3)] [] (vv (.bool (eith labs [3, 3, 5]))) [] := hE2
  rw [e2] at hE2
  refine fc_enter (nt := 75) Try.func205 rfl rfl (by simp) fun w0 ω0 => ?_
  have hw1 : IntKind.i64.wrap ((m : Int) + 1) = (m : Int) + 1 := IntWalk.i64_in _ (by omega)
  (refine goes_seq ?_; refine goes_region ?_; apply run_step rfl; (exact stp_box rfl rfl rfl rfl); apply run_step rfl; (exact stp_assign rfl rfl); refine run_nil ?_; refine fin_seq ?_; refine goes_seq ?_; refine goes_region ?_; apply run_step rfl; (exact stp_fieldAddr (d := 1) rfl rfl rfl (by as_aux_lemma => kernel_rfl)); apply run_step rfl; (exact stp_loadF rfl (by as_aux_lemma => kernel_rfl) rfl rfl rfl rfl); apply run_step rfl; (first | (apply call_gate 85; exact stp_callR hSz (by as_aux_lemma => kernel_rfl) rfl rfl ⟨rfl, trivial⟩ trivial rfl rfl) | exact stp_add rfl rfl rfl hw1); apply run_step rfl; (first | (apply call_gate 85; exact stp_callR hSz (by as_aux_lemma => kernel_rfl) rfl rfl ⟨rfl, trivial⟩ trivial rfl rfl) | exact stp_add rfl rfl rfl hw1); apply run_step rfl; (exact stp_assign rfl rfl); refine run_nil ?_; refine fin_seq ?_; refine goes_seq ?_; refine goes_block ?_; refine goes_seq ?_; refine goes_region ?_; apply run_step rfl; (exact stp_move rfl rfl); apply run_step rfl; (exact stp_bin rfl rfl rfl rfl); apply run_step rfl; (exact stp_assign rfl rfl); refine run_nil ?_; refine fin_seq ?_)
  refine goes_cond rfl (fun e => ?_) (fun _ => ?_)
  · exfalso; simp at e; omega
  (repeat (first | refine goes_seq ?_ | refine fin_seq ?_ | refine goes_skip ?_ | refine goes_block ?_ | refine fin_block ?_ | refine goes_exit ?_ | refine fin_exit_eq ?_ | refine fin_exit_ne rfl ?_ | refine fin_exit_then ?_))
  refine goes_cut (St.of [(1, o1 (.ptr 1 0)), (3, vv (I6 ((m : Int) + 1))), (16, vv (.bool false))] [(1000, cxRo cs), (1, ⟨true, 152, 2, .flat [.val (I6 mv), .esl 1000 i 0 m]⟩)]) ?_ ?_
  · refine goes_region ?_
    (apply run_step rfl; (exact stp_move rfl rfl); apply run_step rfl; (exact stp_bin rfl rfl rfl rfl); apply run_step rfl; (exact stp_move rfl rfl))
    refine run_bool 19 rfl (fun e1 => ?_) (fun e1 => ?_)
    · have e1 : m = 1 := by simp at e1; omega
      have hg2 : ¬ iget labs 0 > 0 := fun h => hq ⟨e1, h⟩
      have hgl : (ivals labs)[0]? = some (I6 (iget labs 0)) := ivals_get (by omega)
      have hbf : binI .i64 .gtr (iget labs 0) 0 = some (.bool false) := by simp [binI]; omega
      (apply run_gYes rfl rfl rfl; (exact stp_fieldAddr (d := 1) rfl rfl rfl (by as_aux_lemma => kernel_rfl)); apply run_gYes rfl rfl rfl; (exact stp_loadF rfl (by as_aux_lemma => kernel_rfl) rfl rfl rfl rfl); apply run_gYes rfl rfl rfl; (first | exact stp_bin rfl rfl rfl hbf | exact stp_ixM (j := 0) rfl rfl rfl rfl rfl (by as_aux_lemma => kernel_rfl) hi (by omega) rfl (by omega) (Nat.le_refl _) | exact stp_loadEM rfl (by as_aux_lemma => kernel_rfl) rfl rfl rfl hi hgl); apply run_gYes rfl rfl rfl; (first | exact stp_bin rfl rfl rfl hbf | exact stp_ixM (j := 0) rfl rfl rfl rfl rfl (by as_aux_lemma => kernel_rfl) hi (by omega) rfl (by omega) (Nat.le_refl _) | exact stp_loadEM rfl (by as_aux_lemma => kernel_rfl) rfl rfl rfl hi hgl); apply run_gYes rfl rfl rfl; (first | exact stp_bin rfl rfl rfl hbf | exact stp_ixM (j := 0) rfl rfl rfl rfl rfl (by as_aux_lemma => kernel_rfl) hi (by omega) rfl (by omega) (Nat.le_refl _) | exact stp_loadEM rfl (by as_aux_lemma => kernel_rfl) rfl rfl rfl hi hgl); apply run_step rfl; (exact stp_pickT rfl rfl rfl); apply run_step rfl; (exact stp_assign rfl rfl); refine run_nil ?_)
      exact fin_join (Wk.of ⟨rfl, rfl, rfl, trivial⟩ ⟨rfl, rfl, trivial⟩ trivial)
    · (apply run_gNo rfl rfl rfl rfl rfl; apply run_gNo rfl rfl rfl rfl rfl; apply run_gNo rfl rfl rfl rfl rfl; apply run_gNo rfl rfl rfl rfl rfl; apply run_gNo rfl rfl rfl rfl rfl; apply run_step rfl; (exact stp_pickF rfl rfl rfl); apply run_step rfl; (exact stp_assign rfl rfl); refine run_nil ?_)
      exact fin_join (Wk.of ⟨rfl, rfl, rfl, trivial⟩ ⟨rfl, rfl, trivial⟩ trivial)
  (refine fin_seq ?_)
  refine goes_cond rfl (fun e => by cases e) (fun _ => ?_)
  (refine goes_seq ?_; refine goes_region ?_; apply run_step rfl; (exact stp_loadAgg rfl rfl rfl rfl rfl rfl (by as_aux_lemma => kernel_rfl)); apply run_step rfl; (exact stp_lit2I (E := 2) rfl (by as_aux_lemma => kernel_rfl) rfl rfl); apply run_step rfl; (first | (apply call_gate 222; exact stp_callR hE1 (by as_aux_lemma => kernel_rfl) rfl rfl ⟨⟨.inl rfl, .inl rfl, trivial⟩, rfl, trivial⟩ ⟨⟨_, rfl, .inl rfl⟩, ⟨_, rfl, .inr rfl⟩, trivial⟩ rfl rfl) | exact stp_lit3I (E := 2) rfl (by as_aux_lemma => kernel_rfl) rfl rfl rfl | exact stp_lit4I (E := 2) rfl (by as_aux_lemma => kernel_rfl) rfl rfl rfl rfl); apply run_step rfl; (exact stp_assign rfl rfl); refine run_nil ?_; refine fin_seq ?_)
  refine goes_cond rfl (fun e => by cases e) (fun _ => ?_)
  (refine goes_seq ?_; refine goes_region ?_; apply run_step rfl; (exact stp_loadAgg rfl rfl rfl rfl rfl rfl (by as_aux_lemma => kernel_rfl)); apply run_step rfl; (first | (apply call_gate 222; exact stp_callR hE2 (by as_aux_lemma => kernel_rfl) rfl rfl ⟨⟨.inl rfl, .inl rfl, trivial⟩, rfl, trivial⟩ ⟨⟨_, rfl, .inl rfl⟩, ⟨_, rfl, .inr rfl⟩, trivial⟩ rfl rfl) | exact stp_lit3I (E := 2) rfl (by as_aux_lemma => kernel_rfl) rfl rfl rfl | exact stp_lit4I (E := 2) rfl (by as_aux_lemma => kernel_rfl) rfl rfl rfl rfl); apply run_step rfl; (first | (apply call_gate 222; exact stp_callR hE2 (by as_aux_lemma => kernel_rfl) rfl rfl ⟨⟨.inl rfl, .inl rfl, trivial⟩, rfl, trivial⟩ ⟨⟨_, rfl, .inl rfl⟩, ⟨_, rfl, .inr rfl⟩, trivial⟩ rfl rfl) | exact stp_lit3I (E := 2) rfl (by as_aux_lemma => kernel_rfl) rfl rfl rfl | exact stp_lit4I (E := 2) rfl (by as_aux_lemma => kernel_rfl) rfl rfl rfl rfl); apply run_step rfl; (exact stp_assign rfl rfl); refine run_nil ?_; refine fin_seq ?_)
  refine goes_cond rfl (fun _ => ?_) (fun e => by cases e)
  (refine goes_seq ?_; refine goes_region ?_; apply run_step rfl; (first | exact stp_lit3I (E := 2) rfl (by as_aux_lemma => kernel_rfl) rfl rfl rfl | exact stp_lit4I (E := 2) rfl (by as_aux_lemma => kernel_rfl) rfl rfl rfl rfl); apply run_step rfl; (exact stp_assign rfl rfl); refine run_nil ?_; refine fin_seq ?_; refine goes_ret ?_; refine fin_ret_block ?_; refine fin_ret_then ?_)
  exact fin_ret1 (.inl rfl) rfl (.tmp rfl) ⟨rfl, trivial⟩ trivial
set_option maxRecDepth 100000 in
set_option maxHeartbeats 2000000 in
theorem deg4_fc (cs : List Cel) (mv : Int) (i m : Nat) (labs : List Int) (hi : cs[i]? = some (.r 2 1 m (ivals labs))) (hm : labs.length = m) (hm4 : m ≤ 4) (h0 : 0 < m) (hq : ¬ (m = 1 ∧ 0 < iget labs 0)) (e1 : eith labs [3, 5] = false) (e2 : eith labs [3, 3, 5] = false) (e3 : eith labs [3, 4, 3] = true) :
    FC Try.prog 205 [(1000, cxRo cs)] [cA mv i m] [(45, leOw [2, 6, 8, 12])] (o1 (.sl 45 0 4)) [] := by
  have hSz := sizeE_fc 1000 i m
  have hE1 := (either_fc cs mv i m 2 labs [3, 5] hi hm rfl (by omega) (by omega)).nm [(1000, 1000), (1001, 33)] (by kernel_rfl)
  have hE1 : FC Try.prog 222 [(1000, cxRo cs), (33, wRo [3, 5])] [cA mv i m, o1 (.sl 33 0 2)] [] (vv (.bool (eith labs [3, 5]))) [] := hE1
  rw [e1] at hE1
  have hE2 := (either_fc cs mv i m 3 labs [3, 3, 5] hi hm rfl (by omega) (by omega)).nm [(1000, 1000), (1001, 38)] (by kernel_rfl)
  have hE2 : FC Try.prog 222 [(1000, cxRo cs), (38, wRo [3, 3, 5])] [cA mv i m, o1 (.sl 38 0 3)] [] (vv (.bool (eith labs [3, 3, 5]))) [] := hE2
  rw [e2] at hE2
  have hE3 := (either_fc cs mv i m 3 labs [3, 4, 3] hi hm rfl (by omega) (by omega)).nm [(1000, 1000), (1001, 43)] (by kernel_rfl)
  have hE3 : FC Try.prog 222 [(1000, cxRo cs), (43, wRo [3, 4, 3])] [cA mv i m, o1 (.sl 43 0 3)] [] (vv (.bool (eith labs [3, 4, 3]))) [] := hE3
  rw [e3] at hE3
  refine fc_enter (nt := 75) Try.func205 rfl rfl (by simp) fun w0 ω0 => ?_
  have hw1 : IntKind.i64.wrap ((m : Int) + 1) = (m : Int) + 1 := IntWalk.i64_in _ (by omega)
  (refine goes_seq ?_; refine goes_region ?_; apply run_step rfl; (exact stp_box rfl rfl rfl rfl); apply run_step rfl; (exact stp_assign rfl rfl); refine run_nil ?_; refine fin_seq ?_; refine goes_seq ?_; refine goes_region ?_; apply run_step rfl; (exact stp_fieldAddr (d := 1) rfl rfl rfl (by as_aux_lemma => kernel_rfl)); apply run_step rfl; (exact stp_loadF rfl (by as_aux_lemma => kernel_rfl) rfl rfl rfl rfl); apply run_step rfl; (first | (apply call_gate 85; exact stp_callR hSz (by as_aux_lemma => kernel_rfl) rfl rfl ⟨rfl, trivial⟩ trivial rfl rfl) | exact stp_add rfl rfl rfl hw1); apply run_step rfl; (first | (apply call_gate 85; exact stp_callR hSz (by as_aux_lemma => kernel_rfl) rfl rfl ⟨rfl, trivial⟩ trivial rfl rfl) | exact stp_add rfl rfl rfl hw1); apply run_step rfl; (exact stp_assign rfl rfl); refine run_nil ?_; refine fin_seq ?_; refine goes_seq ?_; refine goes_block ?_; refine goes_seq ?_; refine goes_region ?_; apply run_step rfl; (exact stp_move rfl rfl); apply run_step rfl; (exact stp_bin rfl rfl rfl rfl); apply run_step rfl; (exact stp_assign rfl rfl); refine run_nil ?_; refine fin_seq ?_)
  refine goes_cond rfl (fun e => ?_) (fun _ => ?_)
  · exfalso; simp at e; omega
  (repeat (first | refine goes_seq ?_ | refine fin_seq ?_ | refine goes_skip ?_ | refine goes_block ?_ | refine fin_block ?_ | refine goes_exit ?_ | refine fin_exit_eq ?_ | refine fin_exit_ne rfl ?_ | refine fin_exit_then ?_))
  refine goes_cut (St.of [(1, o1 (.ptr 1 0)), (3, vv (I6 ((m : Int) + 1))), (16, vv (.bool false))] [(1000, cxRo cs), (1, ⟨true, 152, 2, .flat [.val (I6 mv), .esl 1000 i 0 m]⟩)]) ?_ ?_
  · refine goes_region ?_
    (apply run_step rfl; (exact stp_move rfl rfl); apply run_step rfl; (exact stp_bin rfl rfl rfl rfl); apply run_step rfl; (exact stp_move rfl rfl))
    refine run_bool 19 rfl (fun e1 => ?_) (fun e1 => ?_)
    · have e1 : m = 1 := by simp at e1; omega
      have hg2 : ¬ iget labs 0 > 0 := fun h => hq ⟨e1, h⟩
      have hgl : (ivals labs)[0]? = some (I6 (iget labs 0)) := ivals_get (by omega)
      have hbf : binI .i64 .gtr (iget labs 0) 0 = some (.bool false) := by simp [binI]; omega
      (apply run_gYes rfl rfl rfl; (exact stp_fieldAddr (d := 1) rfl rfl rfl (by as_aux_lemma => kernel_rfl)); apply run_gYes rfl rfl rfl; (exact stp_loadF rfl (by as_aux_lemma => kernel_rfl) rfl rfl rfl rfl); apply run_gYes rfl rfl rfl; (first | exact stp_bin rfl rfl rfl hbf | exact stp_ixM (j := 0) rfl rfl rfl rfl rfl (by as_aux_lemma => kernel_rfl) hi (by omega) rfl (by omega) (Nat.le_refl _) | exact stp_loadEM rfl (by as_aux_lemma => kernel_rfl) rfl rfl rfl hi hgl); apply run_gYes rfl rfl rfl; (first | exact stp_bin rfl rfl rfl hbf | exact stp_ixM (j := 0) rfl rfl rfl rfl rfl (by as_aux_lemma => kernel_rfl) hi (by omega) rfl (by omega) (Nat.le_refl _) | exact stp_loadEM rfl (by as_aux_lemma => kernel_rfl) rfl rfl rfl hi hgl); apply run_gYes rfl rfl rfl; (first | exact stp_bin rfl rfl rfl hbf | exact stp_ixM (j := 0) rfl rfl rfl rfl rfl (by as_aux_lemma => kernel_rfl) hi (by omega) rfl (by omega) (Nat.le_refl _) | exact stp_loadEM rfl (by as_aux_lemma => kernel_rfl) rfl rfl rfl hi hgl); apply run_step rfl; (exact stp_pickT rfl rfl rfl); apply run_step rfl; (exact stp_assign rfl rfl); refine run_nil ?_)
      exact fin_join (Wk.of ⟨rfl, rfl, rfl, trivial⟩ ⟨rfl, rfl, trivial⟩ trivial)
    · (apply run_gNo rfl rfl rfl rfl rfl; apply run_gNo rfl rfl rfl rfl rfl; apply run_gNo rfl rfl rfl rfl rfl; apply run_gNo rfl rfl rfl rfl rfl; apply run_gNo rfl rfl rfl rfl rfl; apply run_step rfl; (exact stp_pickF rfl rfl rfl); apply run_step rfl; (exact stp_assign rfl rfl); refine run_nil ?_)
      exact fin_join (Wk.of ⟨rfl, rfl, rfl, trivial⟩ ⟨rfl, rfl, trivial⟩ trivial)
  (refine fin_seq ?_)
  refine goes_cond rfl (fun e => by cases e) (fun _ => ?_)
  (refine goes_seq ?_; refine goes_region ?_; apply run_step rfl; (exact stp_loadAgg rfl rfl rfl rfl rfl rfl (by as_aux_lemma => kernel_rfl)); apply run_step rfl; (exact stp_lit2I (E := 2) rfl (by as_aux_lemma => kernel_rfl) rfl rfl); apply run_step rfl; (first | (apply call_gate 222; exact stp_callR hE1 (by as_aux_lemma => kernel_rfl) rfl rfl ⟨⟨.inl rfl, .inl rfl, trivial⟩, rfl, trivial⟩ ⟨⟨_, rfl, .inl rfl⟩, ⟨_, rfl, .inr rfl⟩, trivial⟩ rfl rfl) | exact stp_lit3I (E := 2) rfl (by as_aux_lemma => kernel_rfl) rfl rfl rfl | exact stp_lit4I (E := 2) rfl (by as_aux_lemma => kernel_rfl) rfl rfl rfl rfl); apply run_step rfl; (exact stp_assign rfl rfl); refine run_nil ?_; refine fin_seq ?_)
  refine goes_cond rfl (fun e => by cases e) (fun _ => ?_)
  (refine goes_seq ?_; refine goes_region ?_; apply run_step rfl; (exact stp_loadAgg rfl rfl rfl rfl rfl rfl (by as_aux_lemma => kernel_rfl)); apply run_step rfl; (first | (apply call_gate 222; exact stp_callR hE2 (by as_aux_lemma => kernel_rfl) rfl rfl ⟨⟨.inl rfl, .inl rfl, trivial⟩, rfl, trivial⟩ ⟨⟨_, rfl, .inl rfl⟩, ⟨_, rfl, .inr rfl⟩, trivial⟩ rfl rfl) | exact stp_lit3I (E := 2) rfl (by as_aux_lemma => kernel_rfl) rfl rfl rfl | exact stp_lit4I (E := 2) rfl (by as_aux_lemma => kernel_rfl) rfl rfl rfl rfl); apply run_step rfl; (first | (apply call_gate 222; exact stp_callR hE2 (by as_aux_lemma => kernel_rfl) rfl rfl ⟨⟨.inl rfl, .inl rfl, trivial⟩, rfl, trivial⟩ ⟨⟨_, rfl, .inl rfl⟩, ⟨_, rfl, .inr rfl⟩, trivial⟩ rfl rfl) | exact stp_lit3I (E := 2) rfl (by as_aux_lemma => kernel_rfl) rfl rfl rfl | exact stp_lit4I (E := 2) rfl (by as_aux_lemma => kernel_rfl) rfl rfl rfl rfl); apply run_step rfl; (exact stp_assign rfl rfl); refine run_nil ?_; refine fin_seq ?_)
  refine goes_cond rfl (fun e => by cases e) (fun _ => ?_)
  (refine goes_seq ?_; refine goes_region ?_; apply run_step rfl; (exact stp_loadAgg rfl rfl rfl rfl rfl rfl (by as_aux_lemma => kernel_rfl)); apply run_step rfl; (first | (apply call_gate 222; exact stp_callR hE3 (by as_aux_lemma => kernel_rfl) rfl rfl ⟨⟨.inl rfl, .inl rfl, trivial⟩, rfl, trivial⟩ ⟨⟨_, rfl, .inl rfl⟩, ⟨_, rfl, .inr rfl⟩, trivial⟩ rfl rfl) | exact stp_lit3I (E := 2) rfl (by as_aux_lemma => kernel_rfl) rfl rfl rfl | exact stp_lit4I (E := 2) rfl (by as_aux_lemma => kernel_rfl) rfl rfl rfl rfl); apply run_step rfl; (first | (apply call_gate 222; exact stp_callR hE3 (by as_aux_lemma => kernel_rfl) rfl rfl ⟨⟨.inl rfl, .inl rfl, trivial⟩, rfl, trivial⟩ ⟨⟨_, rfl, .inl rfl⟩, ⟨_, rfl, .inr rfl⟩, trivial⟩ rfl rfl) | exact stp_lit3I (E := 2) rfl (by as_aux_lemma => kernel_rfl) rfl rfl rfl | exact stp_lit4I (E := 2) rfl (by as_aux_lemma => kernel_rfl) rfl rfl rfl rfl); apply run_step rfl; (exact stp_assign rfl rfl); refine run_nil ?_; refine fin_seq ?_)
  refine goes_cond rfl (fun _ => ?_) (fun e => by cases e)
  (refine goes_seq ?_; refine goes_region ?_; apply run_step rfl; (first | exact stp_lit3I (E := 2) rfl (by as_aux_lemma => kernel_rfl) rfl rfl rfl | exact stp_lit4I (E := 2) rfl (by as_aux_lemma => kernel_rfl) rfl rfl rfl rfl); apply run_step rfl; (exact stp_assign rfl rfl); refine run_nil ?_; refine fin_seq ?_; refine goes_ret ?_; refine fin_ret_block ?_; refine fin_ret_then ?_)
  exact fin_ret1 (.inl rfl) rfl (.tmp rfl) ⟨rfl, trivial⟩ trivial
set_option maxRecDepth 100000 in
set_option maxHeartbeats 2000000 in
theorem deg5_fc (cs : List Cel) (mv : Int) (i m : Nat) (labs : List Int) (hi : cs[i]? = some (.r 2 1 m (ivals labs))) (hm : labs.length = m) (hm4 : m ≤ 4) (h0 : 0 < m) (hq : ¬ (m = 1 ∧ 0 < iget labs 0)) (e1 : eith labs [3, 5] = false) (e2 : eith labs [3, 3, 5] = false) (e3 : eith labs [3, 4, 3] = false) (e4 : labs = List.replicate m 3) :
    FC Try.prog 205 [(1000, cxRo cs)] [cA mv i m] [(2100, leOw (ramp (m + 1) 1))] (o1 (.sl 2100 0 (m + 1))) [] := by
  have hSz := sizeE_fc 1000 i m
  have hE1 := (either_fc cs mv i m 2 labs [3, 5] hi hm rfl (by omega) (by omega)).nm [(1000, 1000), (1001, 33)] (by kernel_rfl)
  have hE1 : FC Try.prog 222 [(1000, cxRo cs), (33, wRo [3, 5])] [cA mv i m, o1 (.sl 33 0 2)] [] (vv (.bool (eith labs [3, 5]))) [] := hE1
  rw [e1] at hE1
  have hE2 := (either_fc cs mv i m 3 labs [3, 3, 5] hi hm rfl (by omega) (by omega)).nm [(1000, 1000), (1001, 38)] (by kernel_rfl)
  have hE2 : FC Try.prog 222 [(1000, cxRo cs), (38, wRo [3, 3, 5])] [cA mv i m, o1 (.sl 38 0 3)] [] (vv (.bool (eith labs [3, 3, 5]))) [] := hE2
  rw [e2] at hE2
  have hE3 := (either_fc cs mv i m 3 labs [3, 4, 3] hi hm rfl (by omega) (by omega)).nm [(1000, 1000), (1001, 43)] (by kernel_rfl)
  have hE3 : FC Try.prog 222 [(1000, cxRo cs), (43, wRo [3, 4, 3])] [cA mv i m, o1 (.sl 43 0 3)] [] (vv (.bool (eith labs [3, 4, 3]))) [] := hE3
  rw [e3] at hE3
  refine fc_enter (nt := 75) Try.func205 rfl rfl (by simp) fun w0 ω0 => ?_
  have hR : FC Try.prog 162 [(46, ⟨false, 2, 1, .vals (ivals [3])⟩)] [o1 (.sl 46 0 1), vv (I6 m)] [(50, ⟨true, 2, 1, .vals (ivals (List.replicate m 3))⟩)] (o1 (.sl 50 0 m)) [] := repeat1_fc 46 50 m 3 (by omega) h0
  have hrl : (List.replicate m (3 : Int)).length = m := by simp
  have hQ := (equalM_fc cs i m m 152 2 labs (List.replicate m 3) hi hm hrl (by omega) (by omega)).nm [(1000, 1000), (1001, 50)] (by kernel_rfl)
  have hQ : FC Try.prog 223 [(1000, cxRo cs), (50, wRo (List.replicate m 3))] [o1 (.esl 1000 i 0 m), o1 (.sl 50 0 m)] [] (vv (.bool (labs == List.replicate m 3))) [] := hQ
  have hF := (either_fc cs mv i m m labs ((List.replicate m 3).set 0 4) hi hm (by simp) (by omega) (by omega)).nm [(1000, 1000), (1001, 50)] (by kernel_rfl)
  have hF : FC Try.prog 222 [(1000, cxRo cs), (50, wRo ((List.replicate m 3).set 0 4))] [cA mv i m, o1 (.sl 50 0 m)] [] (vv (.bool (eith labs ((List.replicate m 3).set 0 4)))) [] := hF
  have e4' : (labs == List.replicate m 3) = true := by simpa using e4
  rw [e4'] at hQ
  have hw1 : IntKind.i64.wrap ((m : Int) + 1) = (m : Int) + 1 := IntWalk.i64_in _ (by omega)
  (refine goes_seq ?_; refine goes_region ?_; apply run_step rfl; (exact stp_box rfl rfl rfl rfl); apply run_step rfl; (exact stp_assign rfl rfl); refine run_nil ?_; refine fin_seq ?_; refine goes_seq ?_; refine goes_region ?_; apply run_step rfl; (exact stp_fieldAddr (d := 1) rfl rfl rfl (by as_aux_lemma => kernel_rfl)); apply run_step rfl; (exact stp_loadF rfl (by as_aux_lemma => kernel_rfl) rfl rfl rfl rfl); apply run_step rfl; (first | (apply call_gate 85; exact stp_callR hSz (by as_aux_lemma => kernel_rfl) rfl rfl ⟨rfl, trivial⟩ trivial rfl rfl) | exact stp_add rfl rfl rfl hw1); apply run_step rfl; (first | (apply call_gate 85; exact stp_callR hSz (by as_aux_lemma => kernel_rfl) rfl rfl ⟨rfl, trivial⟩ trivial rfl rfl) | exact stp_add rfl rfl rfl hw1); apply run_step rfl; (exact stp_assign rfl rfl); refine run_nil ?_; refine fin_seq ?_; refine goes_seq ?_; refine goes_block ?_; refine goes_seq ?_; refine goes_region ?_; apply run_step rfl; (exact stp_move rfl rfl); apply run_step rfl; (exact stp_bin rfl rfl rfl rfl); apply run_step rfl; (exact stp_assign rfl rfl); refine run_nil ?_; refine fin_seq ?_)
  refine goes_cond rfl (fun e => ?_) (fun _ => ?_)
  · exfalso; simp at e; omega
  (repeat (first | refine goes_seq ?_ | refine fin_seq ?_ | refine goes_skip ?_ | refine goes_block ?_ | refine fin_block ?_ | refine goes_exit ?_ | refine fin_exit_eq ?_ | refine fin_exit_ne rfl ?_ | refine fin_exit_then ?_))
  refine goes_cut (St.of [(1, o1 (.ptr 1 0)), (3, vv (I6 ((m : Int) + 1))), (16, vv (.bool false))] [(1000, cxRo cs), (1, ⟨true, 152, 2, .flat [.val (I6 mv), .esl 1000 i 0 m]⟩)]) ?_ ?_
  · refine goes_region ?_
    (apply run_step rfl; (exact stp_move rfl rfl); apply run_step rfl; (exact stp_bin rfl rfl rfl rfl); apply run_step rfl; (exact stp_move rfl rfl))
    refine run_bool 19 rfl (fun e1 => ?_) (fun e1 => ?_)
    · have e1 : m = 1 := by simp at e1; omega
      have hg2 : ¬ iget labs 0 > 0 := fun h => hq ⟨e1, h⟩
      have hgl : (ivals labs)[0]? = some (I6 (iget labs 0)) := ivals_get (by omega)
      have hbf : binI .i64 .gtr (iget labs 0) 0 = some (.bool false) := by simp [binI]; omega
      (apply run_gYes rfl rfl rfl; (exact stp_fieldAddr (d := 1) rfl rfl rfl (by as_aux_lemma => kernel_rfl)); apply run_gYes rfl rfl rfl; (exact stp_loadF rfl (by as_aux_lemma => kernel_rfl) rfl rfl rfl rfl); apply run_gYes rfl rfl rfl; (first | exact stp_bin rfl rfl rfl hbf | exact stp_ixM (j := 0) rfl rfl rfl rfl rfl (by as_aux_lemma => kernel_rfl) hi (by omega) rfl (by omega) (Nat.le_refl _) | exact stp_loadEM rfl (by as_aux_lemma => kernel_rfl) rfl rfl rfl hi hgl); apply run_gYes rfl rfl rfl; (first | exact stp_bin rfl rfl rfl hbf | exact stp_ixM (j := 0) rfl rfl rfl rfl rfl (by as_aux_lemma => kernel_rfl) hi (by omega) rfl (by omega) (Nat.le_refl _) | exact stp_loadEM rfl (by as_aux_lemma => kernel_rfl) rfl rfl rfl hi hgl); apply run_gYes rfl rfl rfl; (first | exact stp_bin rfl rfl rfl hbf | exact stp_ixM (j := 0) rfl rfl rfl rfl rfl (by as_aux_lemma => kernel_rfl) hi (by omega) rfl (by omega) (Nat.le_refl _) | exact stp_loadEM rfl (by as_aux_lemma => kernel_rfl) rfl rfl rfl hi hgl); apply run_step rfl; (exact stp_pickT rfl rfl rfl); apply run_step rfl; (exact stp_assign rfl rfl); refine run_nil ?_)
      exact fin_join (Wk.of ⟨rfl, rfl, rfl, trivial⟩ ⟨rfl, rfl, trivial⟩ trivial)
    · (apply run_gNo rfl rfl rfl rfl rfl; apply run_gNo rfl rfl rfl rfl rfl; apply run_gNo rfl rfl rfl rfl rfl; apply run_gNo rfl rfl rfl rfl rfl; apply run_gNo rfl rfl rfl rfl rfl; apply run_step rfl; (exact stp_pickF rfl rfl rfl); apply run_step rfl; (exact stp_assign rfl rfl); refine run_nil ?_)
      exact fin_join (Wk.of ⟨rfl, rfl, rfl, trivial⟩ ⟨rfl, rfl, trivial⟩ trivial)
  (refine fin_seq ?_)
  refine goes_cond rfl (fun e => by cases e) (fun _ => ?_)
  (refine goes_seq ?_; refine goes_region ?_; apply run_step rfl; (exact stp_loadAgg rfl rfl rfl rfl rfl rfl (by as_aux_lemma => kernel_rfl)); apply run_step rfl; (exact stp_lit2I (E := 2) rfl (by as_aux_lemma => kernel_rfl) rfl rfl); apply run_step rfl; (first | (apply call_gate 222; exact stp_callR hE1 (by as_aux_lemma => kernel_rfl) rfl rfl ⟨⟨.inl rfl, .inl rfl, trivial⟩, rfl, trivial⟩ ⟨⟨_, rfl, .inl rfl⟩, ⟨_, rfl, .inr rfl⟩, trivial⟩ rfl rfl) | exact stp_lit3I (E := 2) rfl (by as_aux_lemma => kernel_rfl) rfl rfl rfl | exact stp_lit4I (E := 2) rfl (by as_aux_lemma => kernel_rfl) rfl rfl rfl rfl); apply run_step rfl; (exact stp_assign rfl rfl); refine run_nil ?_; refine fin_seq ?_)
  refine goes_cond rfl (fun e => by cases e) (fun _ => ?_)
  (refine goes_seq ?_; refine goes_region ?_; apply run_step rfl; (exact stp_loadAgg rfl rfl rfl rfl rfl rfl (by as_aux_lemma => kernel_rfl)); apply run_step rfl; (first | (apply call_gate 222; exact stp_callR hE2 (by as_aux_lemma => kernel_rfl) rfl rfl ⟨⟨.inl rfl, .inl rfl, trivial⟩, rfl, trivial⟩ ⟨⟨_, rfl, .inl rfl⟩, ⟨_, rfl, .inr rfl⟩, trivial⟩ rfl rfl) | exact stp_lit3I (E := 2) rfl (by as_aux_lemma => kernel_rfl) rfl rfl rfl | exact stp_lit4I (E := 2) rfl (by as_aux_lemma => kernel_rfl) rfl rfl rfl rfl); apply run_step rfl; (first | (apply call_gate 222; exact stp_callR hE2 (by as_aux_lemma => kernel_rfl) rfl rfl ⟨⟨.inl rfl, .inl rfl, trivial⟩, rfl, trivial⟩ ⟨⟨_, rfl, .inl rfl⟩, ⟨_, rfl, .inr rfl⟩, trivial⟩ rfl rfl) | exact stp_lit3I (E := 2) rfl (by as_aux_lemma => kernel_rfl) rfl rfl rfl | exact stp_lit4I (E := 2) rfl (by as_aux_lemma => kernel_rfl) rfl rfl rfl rfl); apply run_step rfl; (exact stp_assign rfl rfl); refine run_nil ?_; refine fin_seq ?_)
  refine goes_cond rfl (fun e => by cases e) (fun _ => ?_)
  (refine goes_seq ?_; refine goes_region ?_; apply run_step rfl; (exact stp_loadAgg rfl rfl rfl rfl rfl rfl (by as_aux_lemma => kernel_rfl)); apply run_step rfl; (first | (apply call_gate 222; exact stp_callR hE3 (by as_aux_lemma => kernel_rfl) rfl rfl ⟨⟨.inl rfl, .inl rfl, trivial⟩, rfl, trivial⟩ ⟨⟨_, rfl, .inl rfl⟩, ⟨_, rfl, .inr rfl⟩, trivial⟩ rfl rfl) | exact stp_lit3I (E := 2) rfl (by as_aux_lemma => kernel_rfl) rfl rfl rfl | exact stp_lit4I (E := 2) rfl (by as_aux_lemma => kernel_rfl) rfl rfl rfl rfl); apply run_step rfl; (first | (apply call_gate 222; exact stp_callR hE3 (by as_aux_lemma => kernel_rfl) rfl rfl ⟨⟨.inl rfl, .inl rfl, trivial⟩, rfl, trivial⟩ ⟨⟨_, rfl, .inl rfl⟩, ⟨_, rfl, .inr rfl⟩, trivial⟩ rfl rfl) | exact stp_lit3I (E := 2) rfl (by as_aux_lemma => kernel_rfl) rfl rfl rfl | exact stp_lit4I (E := 2) rfl (by as_aux_lemma => kernel_rfl) rfl rfl rfl rfl); apply run_step rfl; (exact stp_assign rfl rfl); refine run_nil ?_; refine fin_seq ?_)
  refine goes_cond rfl (fun e => by cases e) (fun _ => ?_)
  (refine goes_skip ?_; refine fin_block ?_; refine fin_seq ?_; refine goes_seq ?_; refine goes_region ?_; apply run_step rfl; (exact stp_lit1I (E := 2) rfl (by as_aux_lemma => kernel_rfl) rfl); apply run_step rfl; (exact stp_fieldAddr (d := 1) rfl rfl rfl (by as_aux_lemma => kernel_rfl)); apply run_step rfl; (exact stp_loadF rfl (by as_aux_lemma => kernel_rfl) rfl rfl rfl rfl); apply run_step rfl; (exact stp_len rfl rfl rfl (by as_aux_lemma => kernel_rfl)); apply run_step rfl; (first | (apply call_gate 162; exact stp_callN hR (by as_aux_lemma => kernel_rfl) rfl rfl ⟨rfl, rfl, trivial⟩ ⟨⟨_, rfl, .inr rfl⟩, trivial⟩ rfl rfl rfl) | (apply call_gate 223; exact stp_callR hQ (by as_aux_lemma => kernel_rfl) rfl rfl ⟨rfl, rfl, trivial⟩ ⟨⟨_, rfl, .inl rfl⟩, ⟨_, rfl, .inr rfl⟩, trivial⟩ rfl rfl)); apply run_step rfl; (exact stp_assign rfl rfl); refine run_nil ?_; refine fin_seq ?_; refine goes_seq ?_; refine goes_region ?_; apply run_step rfl; (exact stp_assign rfl rfl); refine run_nil ?_; refine fin_seq ?_; refine goes_seq ?_; refine goes_seq ?_; refine goes_region ?_; apply run_step rfl; (exact stp_fieldAddr (d := 1) rfl rfl rfl (by as_aux_lemma => kernel_rfl)); apply run_step rfl; (exact stp_loadF rfl (by as_aux_lemma => kernel_rfl) rfl rfl rfl rfl); apply run_step rfl; (exact stp_move rfl rfl); apply run_step rfl; (first | (apply call_gate 162; exact stp_callN hR (by as_aux_lemma => kernel_rfl) rfl rfl ⟨rfl, rfl, trivial⟩ ⟨⟨_, rfl, .inr rfl⟩, trivial⟩ rfl rfl rfl) | (apply call_gate 223; exact stp_callR hQ (by as_aux_lemma => kernel_rfl) rfl rfl ⟨rfl, rfl, trivial⟩ ⟨⟨_, rfl, .inl rfl⟩, ⟨_, rfl, .inr rfl⟩, trivial⟩ rfl rfl)); refine run_nil ?_; refine fin_seq ?_)
  refine goes_cond rfl (fun _ => ?_) (fun e => by cases e)
  (refine goes_region ?_; apply run_step rfl; (exact stp_assign rfl rfl); refine run_nil ?_; refine fin_seq ?_; refine goes_seq ?_; refine goes_seq ?_; refine goes_region ?_; apply run_step rfl; (exact stp_move rfl rfl); apply run_step rfl; (exact stp_bin rfl rfl rfl rfl); refine run_nil ?_; refine fin_seq ?_)
  refine goes_cond rfl (fun e => by cases e) (fun _ => ?_)
  (refine goes_skip ?_; refine fin_seq ?_; refine goes_seq ?_; refine goes_region ?_; apply run_step rfl; (exact stp_assign rfl rfl); refine run_nil ?_; refine fin_seq ?_; refine goes_seq ?_; refine goes_seq ?_; refine goes_region ?_; apply run_step rfl; (exact stp_move rfl rfl); apply run_step rfl; (exact stp_move rfl rfl); refine run_nil ?_; refine fin_seq ?_; refine goes_block ?_)
  have hlp : ∀ k : Nat, k ≤ 5 → IntKind.i64.wrap ((1 : Int) * (k : Int)) = (1 : Int) * k ∧ IntKind.i64.wrap (2 + (1 : Int) * (k : Int)) = 2 + (1 : Int) * k := fun k hk => ⟨IntWalk.i64_in _ (by omega), IntWalk.i64_in _ (by omega)⟩
  refine goes_loop (fun k : Nat => St.of [(5, vv (I6 1)), (6, o1 (.sl 2100 0 k)), (62, vv (I6 ((m : Int) + 1))), (63, vv (I6 k))] [(2100, leOw (ramp k 1))]) (fun k => k ≤ m + 1) (fun k => m + 1 - k) 0 (Nat.zero_le _) (Wk.trans (wk_nil (t := 6) (n := 2100) (k := 1) (E := 2) (d := .vals (ivals (ramp 0 1))) rfl rfl) (Wk.of ⟨rfl, rfl, rfl, rfl, trivial⟩ ⟨rfl, trivial⟩ trivial)) ?_
  rintro k hk
  have hlk := hlp k (by omega)
  (refine goes_seq ?_; refine goes_region ?_; apply run_step rfl; (exact stp_bin rfl rfl rfl rfl); refine run_nil ?_; refine fin_seq ?_; refine goes_seq ?_)
  refine goes_if rfl (fun hlt => ?_) (fun hlt => ?_)
  · (refine goes_skip ?_; refine fin_seq ?_; refine goes_seq ?_; refine goes_block ?_; refine goes_seq ?_; refine goes_region ?_; apply run_step rfl; (exact stp_move rfl rfl); apply run_step rfl; (exact stp_assign rfl rfl); refine run_nil ?_; refine fin_seq ?_; refine goes_region ?_; apply run_step rfl; (exact stp_move rfl rfl); apply run_step rfl; (exact stp_move rfl rfl); apply run_step rfl; (exact stp_move rfl rfl); apply run_step rfl; (first | exact stp_mul rfl rfl rfl hlk.1 | exact stp_add rfl rfl rfl hlk.2 | exact stp_appI rfl (by as_aux_lemma => kernel_rfl) rfl rfl rfl (ramp_len _ _) rfl rfl (by omega)); apply run_step rfl; (first | exact stp_mul rfl rfl rfl hlk.1 | exact stp_add rfl rfl rfl hlk.2 | exact stp_appI rfl (by as_aux_lemma => kernel_rfl) rfl rfl rfl (ramp_len _ _) rfl rfl (by omega)); apply run_step rfl; (exact stp_lit1I (E := 2) rfl (by as_aux_lemma => kernel_rfl) rfl); apply run_step rfl; (first | exact stp_mul rfl rfl rfl hlk.1 | exact stp_add rfl rfl rfl hlk.2 | exact stp_appI rfl (by as_aux_lemma => kernel_rfl) rfl rfl rfl (ramp_len _ _) rfl rfl (by omega)); apply run_step rfl; (exact stp_assign rfl rfl); refine run_nil ?_; refine fin_block ?_; refine fin_seq ?_; refine goes_region ?_; apply run_step rfl; (exact stp_add rfl rfl rfl (by first | exact IntWalk.i64_in _ (by omega) | rfl)); apply run_step rfl; (exact stp_move rfl rfl); refine run_nil ?_)
    exact fin_round (k + 1) (by omega) (by omega) (Wk.of ⟨rfl, rfl, rfl, rfl, trivial⟩ ⟨by rw [ramp_succ]; rfl, trivial⟩ trivial)
  · obtain rfl : k = m + 1 := by omega
    (refine goes_exit ?_; refine fin_exit_then ?_; refine fin_exit_then ?_; refine fin_exit_eq ?_; refine fin_seq ?_; refine goes_seq ?_; refine goes_region ?_; apply run_step rfl; (exact stp_move rfl rfl); apply run_step rfl; (exact stp_assign rfl rfl); refine run_nil ?_; refine fin_seq ?_; refine goes_ret ?_)
    exact fin_ret1 (.inl rfl) rfl (.tmp rfl) ⟨rfl, trivial⟩ trivial
set_option maxRecDepth 100000 in
set_option maxHeartbeats 2000000 in
theorem deg6_fc (cs : List Cel) (mv : Int) (i m : Nat) (labs : List Int) (hi : cs[i]? = some (.r 2 1 m (ivals labs))) (hm : labs.length = m) (hm4 : m ≤ 4) (h0 : 0 < m) (hq : ¬ (m = 1 ∧ 0 < iget labs 0)) (e1 : eith labs [3, 5] = false) (e2 : eith labs [3, 3, 5] = false) (e3 : eith labs [3, 4, 3] = false) (e4 : labs ≠ List.replicate m 3) (e5 : eith labs ((List.replicate m (3 : Int)).set 0 4) = true) :
    FC Try.prog 205 [(1000, cxRo cs)] [cA mv i m] [(2100, leOw (ramp (m + 1) 2))] (o1 (.sl 2100 0 (m + 1))) [] := by
  have hSz := sizeE_fc 1000 i m
  have hE1 := (either_fc cs mv i m 2 labs [3, 5] hi hm rfl (by omega) (by omega)).nm [(1000, 1000), (1001, 33)] (by kernel_rfl)
  have hE1 : FC Try.prog 222 [(1000, cxRo cs), (33, wRo [3, 5])] [cA mv i m, o1 (.sl 33 0 2)] [] (vv (.bool (eith labs [3, 5]))) [] := hE1
  rw [e1] at hE1
  have hE2 := (either_fc cs mv i m 3 labs [3, 3, 5] hi hm rfl (by omega) (by omega)).nm [(1000, 1000), (1001, 38)] (by kernel_rfl)
  have hE2 : FC Try.prog 222 [(1000, cxRo cs), (38, wRo [3, 3, 5])] [cA mv i m, o1 (.sl 38 0 3)] [] (vv (.bool (eith labs [3, 3, 5]))) [] := hE2
  rw [e2] at hE2
  have hE3 := (either_fc cs mv i m 3 labs [3, 4, 3] hi hm rfl (by omega) (by omega)).nm [(1000, 1000), (1001, 43)] (by kernel_rfl)
  have hE3 : FC Try.prog 222 [(1000, cxRo cs), (43, wRo [3, 4, 3])] [cA mv i m, o1 (.sl 43 0 3)] [] (vv (.bool (eith labs [3, 4, 3]))) [] := hE3
  rw [e3] at hE3
  refine fc_enter (nt := 75) Try.func205 rfl rfl (by simp) fun w0 ω0 => ?_
  have hR : FC Try.prog 162 [(46, ⟨false, 2, 1, .vals (ivals [3])⟩)] [o1 (.sl 46 0 1), vv (I6 m)] [(50, ⟨true, 2, 1, .vals (ivals (List.replicate m 3))⟩)] (o1 (.sl 50 0 m)) [] := repeat1_fc 46 50 m 3 (by omega) h0
  have hrl : (List.replicate m (3 : Int)).length = m := by simp
  have hQ := (equalM_fc cs i m m 152 2 labs (List.replicate m 3) hi hm hrl (by omega) (by omega)).nm [(1000, 1000), (1001, 50)] (by kernel_rfl)
  have hQ : FC Try.prog 223 [(1000, cxRo cs), (50, wRo (List.replicate m 3))] [o1 (.esl 1000 i 0 m), o1 (.sl 50 0 m)] [] (vv (.bool (labs == List.replicate m 3))) [] := hQ
  have hF := (either_fc cs mv i m m labs ((List.replicate m 3).set 0 4) hi hm (by simp) (by omega) (by omega)).nm [(1000, 1000), (1001, 50)] (by kernel_rfl)
  have hF : FC Try.prog 222 [(1000, cxRo cs), (50, wRo ((List.replicate m 3).set 0 4))] [cA mv i m, o1 (.sl 50 0 m)] [] (vv (.bool (eith labs ((List.replicate m 3).set 0 4)))) [] := hF
  have e4' : (labs == List.replicate m 3) = false := by simpa using e4
  rw [e4'] at hQ
  rw [e5] at hF
  have hw1 : IntKind.i64.wrap ((m : Int) + 1) = (m : Int) + 1 := IntWalk.i64_in _ (by omega)
  (refine goes_seq ?_; refine goes_region ?_; apply run_step rfl; (exact stp_box rfl rfl rfl rfl); apply run_step rfl; (exact stp_assign rfl rfl); refine run_nil ?_; refine fin_seq ?_; refine goes_seq ?_; refine goes_region ?_; apply run_step rfl; (exact stp_fieldAddr (d := 1) rfl rfl rfl (by as_aux_lemma => kernel_rfl)); apply run_step rfl; (exact stp_loadF rfl (by as_aux_lemma => kernel_rfl) rfl rfl rfl rfl); apply run_step rfl; (first | (apply call_gate 85; exact stp_callR hSz (by as_aux_lemma => kernel_rfl) rfl rfl ⟨rfl, trivial⟩ trivial rfl rfl) | exact stp_add rfl rfl rfl hw1); apply run_step rfl; (first | (apply call_gate 85; exact stp_callR hSz (by as_aux_lemma => kernel_rfl) rfl rfl ⟨rfl, trivial⟩ trivial rfl rfl) | exact stp_add rfl rfl rfl hw1); apply run_step rfl; (exact stp_assign rfl rfl); refine run_nil ?_; refine fin_seq ?_; refine goes_seq ?_; refine goes_block ?_; refine goes_seq ?_; refine goes_region ?_; apply run_step rfl; (exact stp_move rfl rfl); apply run_step rfl; (exact stp_bin rfl rfl rfl rfl); apply run_step rfl; (exact stp_assign rfl rfl); refine run_nil ?_; refine fin_seq ?_)
  refine goes_cond rfl (fun e => ?_) (fun _ => ?_)
  · exfalso; simp at e; omega
  (repeat (first | refine goes_seq ?_ | refine fin_seq ?_ | refine goes_skip ?_ | refine goes_block ?_ | refine fin_block ?_ | refine goes_exit ?_ | refine fin_exit_eq ?_ | refine fin_exit_ne rfl ?_ | refine fin_exit_then ?_))
  refine goes_cut (St.of [(1, o1 (.ptr 1 0)), (3, vv (I6 ((m : Int) + 1))), (16, vv (.bool false))] [(1000, cxRo cs), (1, ⟨true, 152, 2, .flat [.val (I6 mv), .esl 1000 i 0 m]⟩)]) ?_ ?_
  · refine goes_region ?_
    (apply run_step rfl; (exact stp_move rfl rfl); apply run_step rfl; (exact stp_bin rfl rfl rfl rfl); apply run_step rfl; (exact stp_move rfl rfl))
    refine run_bool 19 rfl (fun e1 => ?_) (fun e1 => ?_)
    · have e1 : m = 1 := by simp at e1; omega
      have hg2 : ¬ iget labs 0 > 0 := fun h => hq ⟨e1, h⟩
      have hgl : (ivals labs)[0]? = some (I6 (iget labs 0)) := ivals_get (by omega)
      have hbf : binI .i64 .gtr (iget labs 0) 0 = some (.bool false) := by simp [binI]; omega
      (apply run_gYes rfl rfl rfl; (exact stp_fieldAddr (d := 1) rfl rfl rfl (by as_aux_lemma => kernel_rfl)); apply run_gYes rfl rfl rfl; (exact stp_loadF rfl (by as_aux_lemma => kernel_rfl) rfl rfl rfl rfl); apply run_gYes rfl rfl rfl; (first | exact stp_bin rfl rfl rfl hbf | exact stp_ixM (j := 0) rfl rfl rfl rfl rfl (by as_aux_lemma => kernel_rfl) hi (by omega) rfl (by omega) (Nat.le_refl _) | exact stp_loadEM rfl (by as_aux_lemma => kernel_rfl) rfl rfl rfl hi hgl); apply run_gYes rfl rfl rfl; (first | exact stp_bin rfl rfl rfl hbf | exact stp_ixM (j := 0) rfl rfl rfl rfl rfl (by as_aux_lemma => kernel_rfl) hi (by omega) rfl (by omega) (Nat.le_refl _) | exact stp_loadEM rfl (by as_aux_lemma => kernel_rfl) rfl rfl rfl hi hgl); apply run_gYes rfl rfl rfl; (first | exact stp_bin rfl rfl rfl hbf | exact stp_ixM (j := 0) rfl rfl rfl rfl rfl (by as_aux_lemma => kernel_rfl) hi (by omega) rfl (by omega) (Nat.le_refl _) | exact stp_loadEM rfl (by as_aux_lemma => kernel_rfl) rfl rfl rfl hi hgl); apply run_step rfl; (exact stp_pickT rfl rfl rfl); apply run_step rfl; (exact stp_assign rfl rfl); refine run_nil ?_)
      exact fin_join (Wk.of ⟨rfl, rfl, rfl, trivial⟩ ⟨rfl, rfl, trivial⟩ trivial)
    · (apply run_gNo rfl rfl rfl rfl rfl; apply run_gNo rfl rfl rfl rfl rfl; apply run_gNo rfl rfl rfl rfl rfl; apply run_gNo rfl rfl rfl rfl rfl; apply run_gNo rfl rfl rfl rfl rfl; apply run_step rfl; (exact stp_pickF rfl rfl rfl); apply run_step rfl; (exact stp_assign rfl rfl); refine run_nil ?_)
      exact fin_join (Wk.of ⟨rfl, rfl, rfl, trivial⟩ ⟨rfl, rfl, trivial⟩ trivial)
  (refine fin_seq ?_)
  refine goes_cond rfl (fun e => by cases e) (fun _ => ?_)
  (refine goes_seq ?_; refine goes_region ?_; apply run_step rfl; (exact stp_loadAgg rfl rfl rfl rfl rfl rfl (by as_aux_lemma => kernel_rfl)); apply run_step rfl; (exact stp_lit2I (E := 2) rfl (by as_aux_lemma => kernel_rfl) rfl rfl); apply run_step rfl; (first | (apply call_gate 222; exact stp_callR hE1 (by as_aux_lemma => kernel_rfl) rfl rfl ⟨⟨.inl rfl, .inl rfl, trivial⟩, rfl, trivial⟩ ⟨⟨_, rfl, .inl rfl⟩, ⟨_, rfl, .inr rfl⟩, trivial⟩ rfl rfl) | exact stp_lit3I (E := 2) rfl (by as_aux_lemma => kernel_rfl) rfl rfl rfl | exact stp_lit4I (E := 2) rfl (by as_aux_lemma => kernel_rfl) rfl rfl rfl rfl); apply run_step rfl; (exact stp_assign rfl rfl); refine run_nil ?_; refine fin_seq ?_)
  refine goes_cond rfl (fun e => by cases e) (fun _ => ?_)
  (refine goes_seq ?_; refine goes_region ?_; apply run_step rfl; (exact stp_loadAgg rfl rfl rfl rfl rfl rfl (by as_aux_lemma => kernel_rfl)); apply run_step rfl; (first | (apply call_gate 222; exact stp_callR hE2 (by as_aux_lemma => kernel_rfl) rfl rfl ⟨⟨.inl rfl, .inl rfl, trivial⟩, rfl, trivial⟩ ⟨⟨_, rfl, .inl rfl⟩, ⟨_, rfl, .inr rfl⟩, trivial⟩ rfl rfl) | exact stp_lit3I (E := 2) rfl (by as_aux_lemma => kernel_rfl) rfl rfl rfl | exact stp_lit4I (E := 2) rfl (by as_aux_lemma => kernel_rfl) rfl rfl rfl rfl); apply run_step rfl; (first | (apply call_gate 222; exact stp_callR hE2 (by as_aux_lemma => kernel_rfl) rfl rfl ⟨⟨.inl rfl, .inl rfl, trivial⟩, rfl, trivial⟩ ⟨⟨_, rfl, .inl rfl⟩, ⟨_, rfl, .inr rfl⟩, trivial⟩ rfl rfl) | exact stp_lit3I (E := 2) rfl (by as_aux_lemma => kernel_rfl) rfl rfl rfl | exact stp_lit4I (E := 2) rfl (by as_aux_lemma => kernel_rfl) rfl rfl rfl rfl); apply run_step rfl; (exact stp_assign rfl rfl); refine run_nil ?_; refine fin_seq ?_)
  refine goes_cond rfl (fun e => by cases e) (fun _ => ?_)
  (refine goes_seq ?_; refine goes_region ?_; apply run_step rfl; (exact stp_loadAgg rfl rfl rfl rfl rfl rfl (by as_aux_lemma => kernel_rfl)); apply run_step rfl; (first | (apply call_gate 222; exact stp_callR hE3 (by as_aux_lemma => kernel_rfl) rfl rfl ⟨⟨.inl rfl, .inl rfl, trivial⟩, rfl, trivial⟩ ⟨⟨_, rfl, .inl rfl⟩, ⟨_, rfl, .inr rfl⟩, trivial⟩ rfl rfl) | exact stp_lit3I (E := 2) rfl (by as_aux_lemma => kernel_rfl) rfl rfl rfl | exact stp_lit4I (E := 2) rfl (by as_aux_lemma => kernel_rfl) rfl rfl rfl rfl); apply run_step rfl; (first | (apply call_gate 222; exact stp_callR hE3 (by as_aux_lemma => kernel_rfl) rfl rfl ⟨⟨.inl rfl, .inl rfl, trivial⟩, rfl, trivial⟩ ⟨⟨_, rfl, .inl rfl⟩, ⟨_, rfl, .inr rfl⟩, trivial⟩ rfl rfl) | exact stp_lit3I (E := 2) rfl (by as_aux_lemma => kernel_rfl) rfl rfl rfl | exact stp_lit4I (E := 2) rfl (by as_aux_lemma => kernel_rfl) rfl rfl rfl rfl); apply run_step rfl; (exact stp_assign rfl rfl); refine run_nil ?_; refine fin_seq ?_)
  refine goes_cond rfl (fun e => by cases e) (fun _ => ?_)
  (refine goes_skip ?_; refine fin_block ?_; refine fin_seq ?_; refine goes_seq ?_; refine goes_region ?_; apply run_step rfl; (exact stp_lit1I (E := 2) rfl (by as_aux_lemma => kernel_rfl) rfl); apply run_step rfl; (exact stp_fieldAddr (d := 1) rfl rfl rfl (by as_aux_lemma => kernel_rfl)); apply run_step rfl; (exact stp_loadF rfl (by as_aux_lemma => kernel_rfl) rfl rfl rfl rfl); apply run_step rfl; (exact stp_len rfl rfl rfl (by as_aux_lemma => kernel_rfl)); apply run_step rfl; (first | (apply call_gate 162; exact stp_callN hR (by as_aux_lemma => kernel_rfl) rfl rfl ⟨rfl, rfl, trivial⟩ ⟨⟨_, rfl, .inr rfl⟩, trivial⟩ rfl rfl rfl) | (apply call_gate 223; exact stp_callR hQ (by as_aux_lemma => kernel_rfl) rfl rfl ⟨rfl, rfl, trivial⟩ ⟨⟨_, rfl, .inl rfl⟩, ⟨_, rfl, .inr rfl⟩, trivial⟩ rfl rfl)); apply run_step rfl; (exact stp_assign rfl rfl); refine run_nil ?_; refine fin_seq ?_; refine goes_seq ?_; refine goes_region ?_; apply run_step rfl; (exact stp_assign rfl rfl); refine run_nil ?_; refine fin_seq ?_; refine goes_seq ?_; refine goes_seq ?_; refine goes_region ?_; apply run_step rfl; (exact stp_fieldAddr (d := 1) rfl rfl rfl (by as_aux_lemma => kernel_rfl)); apply run_step rfl; (exact stp_loadF rfl (by as_aux_lemma => kernel_rfl) rfl rfl rfl rfl); apply run_step rfl; (exact stp_move rfl rfl); apply run_step rfl; (first | (apply call_gate 162; exact stp_callN hR (by as_aux_lemma => kernel_rfl) rfl rfl ⟨rfl, rfl, trivial⟩ ⟨⟨_, rfl, .inr rfl⟩, trivial⟩ rfl rfl rfl) | (apply call_gate 223; exact stp_callR hQ (by as_aux_lemma => kernel_rfl) rfl rfl ⟨rfl, rfl, trivial⟩ ⟨⟨_, rfl, .inl rfl⟩, ⟨_, rfl, .inr rfl⟩, trivial⟩ rfl rfl)); refine run_nil ?_; refine fin_seq ?_)
  refine goes_cond rfl (fun e => by cases e) (fun _ => ?_)
  (refine goes_seq ?_; refine goes_region ?_; apply run_step rfl; (exact stp_move rfl rfl); apply run_step rfl; (exact stp_ix rfl rfl rfl rfl rfl (by as_aux_lemma => kernel_rfl) (by first | rfl | exact (Int.toNat_of_nonneg (by omega)).symm) (by first | assumption | omega | (simp; omega)) (by first | exact Nat.le_refl _ | exact Nat.le_of_eq (ivals_len _).symm | exact Nat.le_of_eq (irows_len _).symm | (refine Nat.le_trans ?_ (Nat.le_of_eq (ivals_len _).symm); (first | omega | (simp; done) | (simp; omega))) | (refine Nat.le_trans ?_ (Nat.le_of_eq (irows_len _).symm); (first | omega | (simp; done) | (simp; omega))))); apply run_step rfl; (first | exact stp_ix (j := 0) rfl rfl rfl rfl rfl (by as_aux_lemma => kernel_rfl) rfl h0 (by rw [ivals_len, hrl]; exact Nat.le_refl _) | exact stp_stI rfl rfl rfl rfl rfl (by rw [hrl]; exact h0) (by as_aux_lemma => kernel_rfl) | (apply call_gate 222; exact stp_callR hF (by as_aux_lemma => kernel_rfl) rfl rfl ⟨⟨.inl rfl, .inl rfl, trivial⟩, rfl, trivial⟩ ⟨⟨_, rfl, .inl rfl⟩, ⟨_, rfl, .inr rfl⟩, trivial⟩ rfl rfl)); refine run_nil ?_; refine fin_seq ?_; refine goes_seq ?_; refine goes_region ?_; apply run_step rfl; (exact stp_loadAgg rfl rfl rfl rfl rfl rfl (by as_aux_lemma => kernel_rfl)); apply run_step rfl; (exact stp_move rfl rfl); apply run_step rfl; (first | exact stp_ix (j := 0) rfl rfl rfl rfl rfl (by as_aux_lemma => kernel_rfl) rfl h0 (by rw [ivals_len, hrl]; exact Nat.le_refl _) | exact stp_stI rfl rfl rfl rfl rfl (by rw [hrl]; exact h0) (by as_aux_lemma => kernel_rfl) | (apply call_gate 222; exact stp_callR hF (by as_aux_lemma => kernel_rfl) rfl rfl ⟨⟨.inl rfl, .inl rfl, trivial⟩, rfl, trivial⟩ ⟨⟨_, rfl, .inl rfl⟩, ⟨_, rfl, .inr rfl⟩, trivial⟩ rfl rfl)); refine run_nil ?_; refine fin_seq ?_)
  refine goes_cond rfl (fun _ => ?_) (fun e => by cases e)
  (refine goes_region ?_; apply run_step rfl; (exact stp_assign rfl rfl); refine run_nil ?_; refine fin_seq ?_; refine goes_seq ?_; refine goes_seq ?_; refine goes_region ?_; apply run_step rfl; (exact stp_move rfl rfl); apply run_step rfl; (exact stp_bin rfl rfl rfl rfl); refine run_nil ?_; refine fin_seq ?_)
  refine goes_cond rfl (fun e => by cases e) (fun _ => ?_)
  (refine goes_skip ?_; refine fin_seq ?_; refine goes_seq ?_; refine goes_region ?_; apply run_step rfl; (exact stp_assign rfl rfl); refine run_nil ?_; refine fin_seq ?_; refine goes_seq ?_; refine goes_seq ?_; refine goes_region ?_; apply run_step rfl; (exact stp_move rfl rfl); apply run_step rfl; (exact stp_move rfl rfl); refine run_nil ?_; refine fin_seq ?_; refine goes_block ?_)
  have hlp : ∀ k : Nat, k ≤ 5 → IntKind.i64.wrap ((2 : Int) * (k : Int)) = (2 : Int) * k ∧ IntKind.i64.wrap (2 + (2 : Int) * (k : Int)) = 2 + (2 : Int) * k := fun k hk => ⟨IntWalk.i64_in _ (by omega), IntWalk.i64_in _ (by omega)⟩
  refine goes_loop (fun k : Nat => St.of [(5, vv (I6 2)), (6, o1 (.sl 2100 0 k)), (62, vv (I6 ((m : Int) + 1))), (63, vv (I6 k))] [(2100, leOw (ramp k 2))]) (fun k => k ≤ m + 1) (fun k => m + 1 - k) 0 (Nat.zero_le _) (Wk.trans (wk_nil (t := 6) (n := 2100) (k := 1) (E := 2) (d := .vals (ivals (ramp 0 2))) rfl rfl) (Wk.of ⟨rfl, rfl, rfl, rfl, trivial⟩ ⟨rfl, trivial⟩ trivial)) ?_
  rintro k hk
  have hlk := hlp k (by omega)
  (refine goes_seq ?_; refine goes_region ?_; apply run_step rfl; (exact stp_bin rfl rfl rfl rfl); refine run_nil ?_; refine fin_seq ?_; refine goes_seq ?_)
  refine goes_if rfl (fun hlt => ?_) (fun hlt => ?_)
  · (refine goes_skip ?_; refine fin_seq ?_; refine goes_seq ?_; refine goes_block ?_; refine goes_seq ?_; refine goes_region ?_; apply run_step rfl; (exact stp_move rfl rfl); apply run_step rfl; (exact stp_assign rfl rfl); refine run_nil ?_; refine fin_seq ?_; refine goes_region ?_; apply run_step rfl; (exact stp_move rfl rfl); apply run_step rfl; (exact stp_move rfl rfl); apply run_step rfl; (exact stp_move rfl rfl); apply run_step rfl; (first | exact stp_mul rfl rfl rfl hlk.1 | exact stp_add rfl rfl rfl hlk.2 | exact stp_appI rfl (by as_aux_lemma => kernel_rfl) rfl rfl rfl (ramp_len _ _) rfl rfl (by omega)); apply run_step rfl; (first | exact stp_mul rfl rfl rfl hlk.1 | exact stp_add rfl rfl rfl hlk.2 | exact stp_appI rfl (by as_aux_lemma => kernel_rfl) rfl rfl rfl (ramp_len _ _) rfl rfl (by omega)); apply run_step rfl; (exact stp_lit1I (E := 2) rfl (by as_aux_lemma => kernel_rfl) rfl); apply run_step rfl; (first | exact stp_mul rfl rfl rfl hlk.1 | exact stp_add rfl rfl rfl hlk.2 | exact stp_appI rfl (by as_aux_lemma => kernel_rfl) rfl rfl rfl (ramp_len _ _) rfl rfl (by omega)); apply run_step rfl; (exact stp_assign rfl rfl); refine run_nil ?_; refine fin_block ?_; refine fin_seq ?_; refine goes_region ?_; apply run_step rfl; (exact stp_add rfl rfl rfl (by first | exact IntWalk.i64_in _ (by omega) | rfl)); apply run_step rfl; (exact stp_move rfl rfl); refine run_nil ?_)
    exact fin_round (k + 1) (by omega) (by omega) (Wk.of ⟨rfl, rfl, rfl, rfl, trivial⟩ ⟨by rw [ramp_succ]; rfl, trivial⟩ trivial)
  · obtain rfl : k = m + 1 := by omega
    (refine goes_exit ?_; refine fin_exit_then ?_; refine fin_exit_then ?_; refine fin_exit_eq ?_; refine fin_seq ?_; refine goes_seq ?_; refine goes_region ?_; apply run_step rfl; (exact stp_move rfl rfl); apply run_step rfl; (exact stp_assign rfl rfl); refine run_nil ?_; refine fin_seq ?_; refine goes_ret ?_)
    exact fin_ret1 (.inl rfl) rfl (.tmp rfl) ⟨rfl, trivial⟩ trivial
set_option maxRecDepth 100000 in
set_option maxHeartbeats 2000000 in
theorem deg7_fc (cs : List Cel) (mv : Int) (i m : Nat) (labs : List Int) (hi : cs[i]? = some (.r 2 1 m (ivals labs))) (hm : labs.length = m) (hm4 : m ≤ 4) (h0 : 0 < m) (hq : ¬ (m = 1 ∧ 0 < iget labs 0)) (e1 : eith labs [3, 5] = false) (e2 : eith labs [3, 3, 5] = false) (e3 : eith labs [3, 4, 3] = false) (e4 : labs ≠ List.replicate m 3) (e5 : eith labs ((List.replicate m (3 : Int)).set 0 4) = false) :
    FC Try.prog 205 [(1000, cxRo cs)] [cA mv i m] [] (vv (.slice none 0 0)) [] := by
  have hSz := sizeE_fc 1000 i m
  have hE1 := (either_fc cs mv i m 2 labs [3, 5] hi hm rfl (by omega) (by omega)).nm [(1000, 1000), (1001, 33)] (by kernel_rfl)
  have hE1 : FC Try.prog 222 [(1000, cxRo cs), (33, wRo [3, 5])] [cA mv i m, o1 (.sl 33 0 2)] [] (vv (.bool (eith labs [3, 5]))) [] := hE1
  rw [e1] at hE1
  have hE2 := (either_fc cs mv i m 3 labs [3, 3, 5] hi hm rfl (by omega) (by omega)).nm [(1000, 1000), (1001, 38)] (by kernel_rfl)
  have hE2 : FC Try.prog 222 [(1000, cxRo cs), (38, wRo [3, 3, 5])] [cA mv i m, o1 (.sl 38 0 3)] [] (vv (.bool (eith labs [3, 3, 5]))) [] := hE2
  rw [e2] at hE2
  have hE3 := (either_fc cs mv i m 3 labs [3, 4, 3] hi hm rfl (by omega) (by omega)).nm [(1000, 1000), (1001, 43)] (by kernel_rfl)
  have hE3 : FC Try.prog 222 [(1000, cxRo cs), (43, wRo [3, 4, 3])] [cA mv i m, o1 (.sl 43 0 3)] [] (vv (.bool (eith labs [3, 4, 3]))) [] := hE3
  rw [e3] at hE3
  refine fc_enter (nt := 75) Try.func205 rfl rfl (by simp) fun w0 ω0 => ?_
  have hR : FC Try.prog 162 [(46, ⟨false, 2, 1, .vals (ivals [3])⟩)] [o1 (.sl 46 0 1), vv (I6 m)] [(50, ⟨true, 2, 1, .vals (ivals (List.replicate m 3))⟩)] (o1 (.sl 50 0 m)) [] := repeat1_fc 46 50 m 3 (by omega) h0
  have hrl : (List.replicate m (3 : Int)).length = m := by simp
  have hQ := (equalM_fc cs i m m 152 2 labs (List.replicate m 3) hi hm hrl (by omega) (by omega)).nm [(1000, 1000), (1001, 50)] (by kernel_rfl)
  have hQ : FC Try.prog 223 [(1000, cxRo cs), (50, wRo (List.replicate m 3))] [o1 (.esl 1000 i 0 m), o1 (.sl 50 0 m)] [] (vv (.bool (labs == List.replicate m 3))) [] := hQ
  have hF := (either_fc cs mv i m m labs ((List.replicate m 3).set 0 4) hi hm (by simp) (by omega) (by omega)).nm [(1000, 1000), (1001, 50)] (by kernel_rfl)
  have hF : FC Try.prog 222 [(1000, cxRo cs), (50, wRo ((List.replicate m 3).set 0 4))] [cA mv i m, o1 (.sl 50 0 m)] [] (vv (.bool (eith labs ((List.replicate m 3).set 0 4)))) [] := hF
  have e4' : (labs == List.replicate m 3) = false := by simpa using e4
  rw [e4'] at hQ
  rw [e5] at hF
  have hw1 : IntKind.i64.wrap ((m : Int) + 1) = (m : Int) + 1 := IntWalk.i64_in _ (by omega)
  (refine goes_seq ?_; refine goes_region ?_; apply run_step rfl; (exact stp_box rfl rfl rfl rfl); apply run_step rfl; (exact stp_assign rfl rfl); refine run_nil ?_; refine fin_seq ?_; refine goes_seq ?_; refine goes_region ?_; apply run_step rfl; (exact stp_fieldAddr (d := 1) rfl rfl rfl (by as_aux_lemma => kernel_rfl)); apply run_step rfl; (exact stp_loadF rfl (by as_aux_lemma => kernel_rfl) rfl rfl rfl rfl); apply run_step rfl; (first | (apply call_gate 85; exact stp_callR hSz (by as_aux_lemma => kernel_rfl) rfl rfl ⟨rfl, trivial⟩ trivial rfl rfl) | exact stp_add rfl rfl rfl hw1); apply run_step rfl; (first | (apply call_gate 85; exact stp_callR hSz (by as_aux_lemma => kernel_rfl) rfl rfl ⟨rfl, trivial⟩ trivial rfl rfl) | exact stp_add rfl rfl rfl hw1); apply run_step rfl; (exact stp_assign rfl rfl); refine run_nil ?_; refine fin_seq ?_; refine goes_seq ?_; refine goes_block ?_; refine goes_seq ?_; refine goes_region ?_; apply run_step rfl; (exact stp_move rfl rfl); apply run_step rfl; (exact stp_bin rfl rfl rfl rfl); apply run_step rfl; (exact stp_assign rfl rfl); refine run_nil ?_; refine fin_seq ?_)
  refine goes_cond rfl (fun e => ?_) (fun _ => ?_)
  · exfalso; simp at e; omega
  (repeat (first | refine goes_seq ?_ | refine fin_seq ?_ | refine goes_skip ?_ | refine goes_block ?_ | refine fin_block ?_ | refine goes_exit ?_ | refine fin_exit_eq ?_ | refine fin_exit_ne rfl ?_ | refine fin_exit_then ?_))
  refine goes_cut (St.of [(1, o1 (.ptr 1 0)), (3, vv (I6 ((m : Int) + 1))), (16, vv (.bool false))] [(1000, cxRo cs), (1, ⟨true, 152, 2, .flat [.val (I6 mv), .esl 1000 i 0 m]⟩)]) ?_ ?_
  · refine goes_region ?_
    (apply run_step rfl; (exact stp_move rfl rfl); apply run_step rfl; (exact stp_bin rfl rfl rfl rfl); apply run_step rfl; (exact stp_move rfl rfl))
    refine run_bool 19 rfl (fun e1 => ?_) (fun e1 => ?_)
    · have e1 : m = 1 := by simp at e1; omega
      have hg2 : ¬ iget labs 0 > 0 := fun h => hq ⟨e1, h⟩
      have hgl : (ivals labs)[0]? = some (I6 (iget labs 0)) := ivals_get (by omega)
      have hbf : binI .i64 .gtr (iget labs 0) 0 = some (.bool false) := by simp [binI]; omega
      (apply run_gYes rfl rfl rfl; (exact stp_fieldAddr (d := 1) rfl rfl rfl (by as_aux_lemma => kernel_rfl)); apply run_gYes rfl rfl rfl; (exact stp_loadF rfl (by as_aux_lemma => kernel_rfl) rfl rfl rfl rfl); apply run_gYes rfl rfl rfl; (first | exact stp_bin rfl rfl rfl hbf | exact stp_ixM (j := 0) rfl rfl rfl rfl rfl (by as_aux_lemma => kernel_rfl) hi (by omega) rfl (by omega) (Nat.le_refl _) | exact stp_loadEM rfl (by as_aux_lemma => kernel_rfl) rfl rfl rfl hi hgl); apply run_gYes rfl rfl rfl; (first | exact stp_bin rfl rfl rfl hbf | exact stp_ixM (j := 0) rfl rfl rfl rfl rfl (by as_aux_lemma => kernel_rfl) hi (by omega) rfl (by omega) (Nat.le_refl _) | exact stp_loadEM rfl (by as_aux_lemma => kernel_rfl) rfl rfl rfl hi hgl); apply run_gYes rfl rfl rfl; (first | exact stp_bin rfl rfl rfl hbf | exact stp_ixM (j := 0) rfl rfl rfl rfl rfl (by as_aux_lemma => kernel_rfl) hi (by omega) rfl (by omega) (Nat.le_refl _) | exact stp_loadEM rfl (by as_aux_lemma => kernel_rfl) rfl rfl rfl hi hgl); apply run_step rfl; (exact stp_pickT rfl rfl rfl); apply run_step rfl; (exact stp_assign rfl rfl); refine run_nil ?_)
      exact fin_join (Wk.of ⟨rfl, rfl, rfl, trivial⟩ ⟨rfl, rfl, trivial⟩ trivial)
    · (apply run_gNo rfl rfl rfl rfl rfl; apply run_gNo rfl rfl rfl rfl rfl; apply run_gNo rfl rfl rfl rfl rfl; apply run_gNo rfl rfl rfl rfl rfl; apply run_gNo rfl rfl rfl rfl rfl; apply run_step rfl; (exact stp_pickF rfl rfl rfl); apply run_step rfl; (exact stp_assign rfl rfl); refine run_nil ?_)
      exact fin_join (Wk.of ⟨rfl, rfl, rfl, trivial⟩ ⟨rfl, rfl, trivial⟩ trivial)
  (refine fin_seq ?_)
  refine goes_cond rfl (fun e => by cases e) (fun _ => ?_)
  (refine goes_seq ?_; refine goes_region ?_; apply run_step rfl; (exact stp_loadAgg rfl rfl rfl rfl rfl rfl (by as_aux_lemma => kernel_rfl)); apply run_step rfl; (exact stp_lit2I (E := 2) rfl (by as_aux_lemma => kernel_rfl) rfl rfl); apply run_step rfl; (first | (apply call_gate 222; exact stp_callR hE1 (by as_aux_lemma => kernel_rfl) rfl rfl ⟨⟨.inl rfl, .inl rfl, trivial⟩, rfl, trivial⟩ ⟨⟨_, rfl, .inl rfl⟩, ⟨_, rfl, .inr rfl⟩, trivial⟩ rfl rfl) | exact stp_lit3I (E := 2) rfl (by as_aux_lemma => kernel_rfl) rfl rfl rfl | exact stp_lit4I (E := 2) rfl (by as_aux_lemma => kernel_rfl) rfl rfl rfl rfl); apply run_step rfl; (exact stp_assign rfl rfl); refine run_nil ?_; refine fin_seq ?_)
  refine goes_cond rfl (fun e => by cases e) (fun _ => ?_)
  (refine goes_seq ?_; refine goes_region ?_; apply run_step rfl; (exact stp_loadAgg rfl rfl rfl rfl rfl rfl (by as_aux_lemma => kernel_rfl)); apply run_step rfl; (first | (apply call_gate 222; exact stp_callR hE2 (by as_aux_lemma => kernel_rfl) rfl rfl ⟨⟨.inl rfl, .inl rfl, trivial⟩, rfl, trivial⟩ ⟨⟨_, rfl, .inl rfl⟩, ⟨_, rfl, .inr rfl⟩, trivial⟩ rfl rfl) | exact stp_lit3I (E := 2) rfl (by as_aux_lemma => kernel_rfl) rfl rfl rfl | exact stp_lit4I (E := 2) rfl (by as_aux_lemma => kernel_rfl) rfl rfl rfl rfl); apply run_step rfl; (first | (apply call_gate 222; exact stp_callR hE2 (by as_aux_lemma => kernel_rfl) rfl rfl ⟨⟨.inl rfl, .inl rfl, trivial⟩, rfl, trivial⟩ ⟨⟨_, rfl, .inl rfl⟩, ⟨_, rfl, .inr rfl⟩, trivial⟩ rfl rfl) | exact stp_lit3I (E := 2) rfl (by as_aux_lemma => kernel_rfl) rfl rfl rfl | exact stp_lit4I (E := 2) rfl (by as_aux_lemma => kernel_rfl) rfl rfl rfl rfl); apply run_step rfl; (exact stp_assign rfl rfl); refine run_nil ?_; refine fin_seq ?_)
  refine goes_cond rfl (fun e => by cases e) (fun _ => ?_)
  (refine goes_seq ?_; refine goes_region ?_; apply run_step rfl; (exact stp_loadAgg rfl rfl rfl rfl rfl rfl (by as_aux_lemma => kernel_rfl)); apply run_step rfl; (first | (apply call_gate 222; exact stp_callR hE3 (by as_aux_lemma => kernel_rfl) rfl rfl ⟨⟨.inl rfl, .inl rfl, trivial⟩, rfl, trivial⟩ ⟨⟨_, rfl, .inl rfl⟩, ⟨_, rfl, .inr rfl⟩, trivial⟩ rfl rfl) | exact stp_lit3I (E := 2) rfl (by as_aux_lemma => kernel_rfl) rfl rfl rfl | exact stp_lit4I (E := 2) rfl (by as_aux_lemma => kernel_rfl) rfl rfl rfl rfl); apply run_step rfl; (first | (apply call_gate 222; exact stp_callR hE3 (by as_aux_lemma => kernel_rfl) rfl rfl ⟨⟨.inl rfl, .inl rfl, trivial⟩, rfl, trivial⟩ ⟨⟨_, rfl, .inl rfl⟩, ⟨_, rfl, .inr rfl⟩, trivial⟩ rfl rfl) | exact stp_lit3I (E := 2) rfl (by as_aux_lemma => kernel_rfl) rfl rfl rfl | exact stp_lit4I (E := 2) rfl (by as_aux_lemma => kernel_rfl) rfl rfl rfl rfl); apply run_step rfl; (exact stp_assign rfl rfl); refine run_nil ?_; refine fin_seq ?_)
  refine goes_cond rfl (fun e => by cases e) (fun _ => ?_)
  (refine goes_skip ?_; refine fin_block ?_; refine fin_seq ?_; refine goes_seq ?_; refine goes_region ?_; apply run_step rfl; (exact stp_lit1I (E := 2) rfl (by as_aux_lemma => kernel_rfl) rfl); apply run_step rfl; (exact stp_fieldAddr (d := 1) rfl rfl rfl (by as_aux_lemma => kernel_rfl)); apply run_step rfl; (exact stp_loadF rfl (by as_aux_lemma => kernel_rfl) rfl rfl rfl rfl); apply run_step rfl; (exact stp_len rfl rfl rfl (by as_aux_lemma => kernel_rfl)); apply run_step rfl; (first | (apply call_gate 162; exact stp_callN hR (by as_aux_lemma => kernel_rfl) rfl rfl ⟨rfl, rfl, trivial⟩ ⟨⟨_, rfl, .inr rfl⟩, trivial⟩ rfl rfl rfl) | (apply call_gate 223; exact stp_callR hQ (by as_aux_lemma => kernel_rfl) rfl rfl ⟨rfl, rfl, trivial⟩ ⟨⟨_, rfl, .inl rfl⟩, ⟨_, rfl, .inr rfl⟩, trivial⟩ rfl rfl)); apply run_step rfl; (exact stp_assign rfl rfl); refine run_nil ?_; refine fin_seq ?_; refine goes_seq ?_; refine goes_region ?_; apply run_step rfl; (exact stp_assign rfl rfl); refine run_nil ?_; refine fin_seq ?_; refine goes_seq ?_; refine goes_seq ?_; refine goes_region ?_; apply run_step rfl; (exact stp_fieldAddr (d := 1) rfl rfl rfl (by as_aux_lemma => kernel_rfl)); apply run_step rfl; (exact stp_loadF rfl (by as_aux_lemma => kernel_rfl) rfl rfl rfl rfl); apply run_step rfl; (exact stp_move rfl rfl); apply run_step rfl; (first | (apply call_gate 162; exact stp_callN hR (by as_aux_lemma => kernel_rfl) rfl rfl ⟨rfl, rfl, trivial⟩ ⟨⟨_, rfl, .inr rfl⟩, trivial⟩ rfl rfl rfl) | (apply call_gate 223; exact stp_callR hQ (by as_aux_lemma => kernel_rfl) rfl rfl ⟨rfl, rfl, trivial⟩ ⟨⟨_, rfl, .inl rfl⟩, ⟨_, rfl, .inr rfl⟩, trivial⟩ rfl rfl)); refine run_nil ?_; refine fin_seq ?_)
  refine goes_cond rfl (fun e => by cases e) (fun _ => ?_)
  (refine goes_seq ?_; refine goes_region ?_; apply run_step rfl; (exact stp_move rfl rfl); apply run_step rfl; (exact stp_ix rfl rfl rfl rfl rfl (by as_aux_lemma => kernel_rfl) (by first | rfl | exact (Int.toNat_of_nonneg (by omega)).symm) (by first | assumption | omega | (simp; omega)) (by first | exact Nat.le_refl _ | exact Nat.le_of_eq (ivals_len _).symm | exact Nat.le_of_eq (irows_len _).symm | (refine Nat.le_trans ?_ (Nat.le_of_eq (ivals_len _).symm); (first | omega | (simp; done) | (simp; omega))) | (refine Nat.le_trans ?_ (Nat.le_of_eq (irows_len _).symm); (first | omega | (simp; done) | (simp; omega))))); apply run_step rfl; (first | exact stp_ix (j := 0) rfl rfl rfl rfl rfl (by as_aux_lemma => kernel_rfl) rfl h0 (by rw [ivals_len, hrl]; exact Nat.le_refl _) | exact stp_stI rfl rfl rfl rfl rfl (by rw [hrl]; exact h0) (by as_aux_lemma => kernel_rfl) | (apply call_gate 222; exact stp_callR hF (by as_aux_lemma => kernel_rfl) rfl rfl ⟨⟨.inl rfl, .inl rfl, trivial⟩, rfl, trivial⟩ ⟨⟨_, rfl, .inl rfl⟩, ⟨_, rfl, .inr rfl⟩, trivial⟩ rfl rfl)); refine run_nil ?_; refine fin_seq ?_; refine goes_seq ?_; refine goes_region ?_; apply run_step rfl; (exact stp_loadAgg rfl rfl rfl rfl rfl rfl (by as_aux_lemma => kernel_rfl)); apply run_step rfl; (exact stp_move rfl rfl); apply run_step rfl; (first | exact stp_ix (j := 0) rfl rfl rfl rfl rfl (by as_aux_lemma => kernel_rfl) rfl h0 (by rw [ivals_len, hrl]; exact Nat.le_refl _) | exact stp_stI rfl rfl rfl rfl rfl (by rw [hrl]; exact h0) (by as_aux_lemma => kernel_rfl) | (apply call_gate 222; exact stp_callR hF (by as_aux_lemma => kernel_rfl) rfl rfl ⟨⟨.inl rfl, .inl rfl, trivial⟩, rfl, trivial⟩ ⟨⟨_, rfl, .inl rfl⟩, ⟨_, rfl, .inr rfl⟩, trivial⟩ rfl rfl)); refine run_nil ?_; refine fin_seq ?_)
  refine goes_cond rfl (fun e => by cases e) (fun _ => ?_)
  (refine goes_skip ?_; refine fin_seq ?_; refine goes_seq ?_; refine goes_seq ?_; refine goes_region ?_; apply run_step rfl; (exact stp_move rfl rfl); apply run_step rfl; (exact stp_bin rfl rfl rfl rfl); refine run_nil ?_; refine fin_seq ?_)
  refine goes_cond rfl (fun _ => ?_) (fun e => by cases e)
  (refine goes_seq ?_; refine goes_region ?_; apply run_step rfl; (exact stp_assign rfl rfl); refine run_nil ?_; refine fin_seq ?_; refine goes_ret ?_; refine fin_ret_then ?_)
  exact fin_ret1 (.inl rfl) rfl (.tmp rfl) trivial trivial
/-- degreesOf: nil, or a list of the call's own -/
theorem degI_fc (cs : List Cel) (mv : Int) (i m : Nat) (labs : List Int) (hi : cs[i]? = some (.r 2 1 m (ivals labs))) (hm : labs.length = m) (hm4 : m ≤ 4) :
    (degs labs = [] ∧ FC Try.prog 205 [(1000, cxRo cs)] [cA mv i m] [] (vv (.slice none 0 0)) []) ∨ ((degs labs).length = m + 1 ∧ FC Try.prog 205 [(1000, cxRo cs)] [cA mv i m] [(2100, leOw (degs labs))] (o1 (.sl 2100 0 (m + 1))) []) := by
  unfold degs
  rw [hm]
  by_cases h0 : m = 0
  · rw [if_pos h0]
    subst h0
    exact .inr ⟨rfl, (deg0_fc cs mv i 0 labs hi hm hm4 rfl).nm [(1000, 1000), (15, 2100)] (by kernel_rfl)⟩
  rw [if_neg h0]
  by_cases hq : m = 1 ∧ 0 < iget labs 0
  · rw [if_pos hq]
    obtain ⟨rfl, hp⟩ := hq
    exact .inr ⟨rfl, (deg1_fc cs mv i 1 labs hi hm hm4 rfl hp).nm [(1000, 1000), (30, 2100)] (by kernel_rfl)⟩
  rw [if_neg hq]
  have h0' : 0 < m := by omega
  cases e1 : eith labs [3, 5] with
  | true =>
    obtain rfl : m = 2 := by rcases eith_iff.1 e1 with rfl | rfl <;> exact hm.symm
    exact .inr ⟨rfl, (deg2_fc cs mv i 2 labs hi hm hm4 h0' hq e1).nm [(1000, 1000), (35, 2100)] (by kernel_rfl)⟩
  | false =>
  cases e2 : eith labs [3, 3, 5] with
  | true =>
    obtain rfl : m = 3 := by rcases eith_iff.1 e2 with rfl | rfl <;> exact hm.symm
    exact .inr ⟨rfl, (deg3_fc cs mv i 3 labs hi hm hm4 h0' hq e1 e2).nm [(1000, 1000), (40, 2100)] (by kernel_rfl)⟩
  | false =>
  cases e3 : eith labs [3, 4, 3] with
  | true =>
    obtain rfl : m = 3 := by rcases eith_iff.1 e3 with rfl | rfl <;> exact hm.symm
    exact .inr ⟨rfl, (deg4_fc cs mv i 3 labs hi hm hm4 h0' hq e1 e2 e3).nm [(1000, 1000), (45, 2100)] (by kernel_rfl)⟩
  | false =>
  by_cases e4 : labs = List.replicate m 3
  · rw [if_pos e4]
    exact .inr ⟨ramp_len _ _, deg5_fc cs mv i m labs hi hm hm4 h0' hq e1 e2 e3 e4⟩
  rw [if_neg e4]
  cases e5 : eith labs ((List.replicate m (3 : Int)).set 0 4) with
  | true => exact .inr ⟨ramp_len _ _, deg6_fc cs mv i m labs hi hm hm4 h0' hq e1 e2 e3 e4 e5⟩
  | false => exact .inl ⟨rfl, deg7_fc cs mv i m labs hi hm hm4 h0' hq e1 e2 e3 e4 e5⟩
end Go.Proofs.Ytnfkhgamnapgmaa

/- KindOfDiagram, the program's. guards: -/
namespace Go.Proofs.Ytnfkhgamnapgmaa
open Go.RowKit

theorem comp_agg {ps : Cmps} {j : Nat} (hj : j < ps.length) (x : Nm) : ∀ (i : Nat) (b : A1), [A1.val (I6 ((cget ps j).1 : Int)), A1.esl x (j * 2 + 1) 0 (cget ps j).2.length][i]? = some b → (Dat.mix (mixC ps)).at_ x (j * 2 + i) = some b := by
  intro i b hb
  have hg := mixC_get hj
  match i, hb with
  | 0, hb => simp at hb; subst hb; simp only [Dat.at_, Nat.add_zero]; rw [hg.1]
  | 1, hb => simp at hb; subst hb; simp only [Dat.at_]; rw [hg.2]
end Go.Proofs.Ytnfkhgamnapgmaa

/- slices.insertionSortOrdered at []int64. -/
namespace Go.Proofs.Ytnfkhgamnapgmaa
open Go.RowKit

set_option maxHeartbeats 800000 in
theorem insertion_any (ao : Option Addr) (n c : Nat) (zs : List Int) (w : World) (base : Nat) (h : Own w base 2 ao n c (zs.map (Value.int .i64))) (hn : n ≤ 5) :
    Calls Try.prog 231 #[.slice ao n c, .int .i64 0, .int .i64 n] w fun e w' => e = .returned (.tuple #[]) ∧ Own w' base 2 ao n c ((sortL zs).map (Value.int .i64)) ∧ w.grownBy w' (bk ao) := by
  have hl : zs.length = n := by have := h.len; simpa using this
  have HL := Lib.hid hl
  clear hl
  go_enter Try.func231, Try.ntmps231
  go_wp2
  go_loopw [6] (fun i wr => ∃ (k : Nat) (cur : List Int), 1 ≤ k ∧ (k ≤ n ∨ k = 1) ∧ i = .int .i64 k ∧ cur.length = n ∧ cur.Perm zs ∧ (∀ x y, x < y → y < k → iget cur x ≤ iget cur y) ∧ Own wr base 2 ao n c (cur.map (Value.int .i64)) ∧ w.grownBy wr (bk ao)) (fun i _ => n + 1 - (intOf i).toNat)
  case atStart => exact ⟨1, zs, Nat.le_refl _, .inr rfl, rfl, HL.out, List.Perm.refl _, fun x y h1 h2 => by omega, h, World.grownBy.refl _ _⟩
  case round =>
    obtain ⟨k, cur, hk1, hk, rfl, hcl, hcp, hca, ho, hg⟩ := hrel
    have HC := Lib.hid hcl
    have HP := Lib.hid hcp
    have HA := Lib.hid hca
    have HO := Lib.hid ho
    have HG := Lib.hid hg
    clear hcl hcp hca ho hg
    by_cases hlt : k < n
    · go_wp2_with fail
      go_loopw [7] (fun i wr => ∃ (j : Nat) (cur : List Int), j ≤ k ∧ i = .int .i64 j ∧ cur.length = n ∧ cur.Perm zs ∧ asc cur k j ∧ Own wr base 2 ao n c (cur.map (Value.int .i64)) ∧ w.grownBy wr (bk ao)) (fun i _ => (intOf i).toNat)
      case atStart => exact ⟨k, cur, Nat.le_refl _, rfl, HC.out, HP.out, fun x y h1 h2 h3 => HA.out x y h1 (by omega), HO.out, HG.out⟩
      case round =>
        clear HC HP HA HO HG
        obtain ⟨j, cur, hj, rfl, hcl, hcp, hca, ho, hg⟩ := hrel
        have HC := Lib.hid hcl
        have HP := Lib.hid hcp
        have HA := Lib.hid hca
        have HO := Lib.hid ho
        have HG := Lib.hid hg
        clear hcl hcp hca ho hg
        by_cases hj0 : 0 < j
        · obtain ⟨i, hij⟩ : ∃ i, j = i + 1 := ⟨j - 1, by omega⟩
          obtain ⟨g, rfl, -, hgl, -, -, -⟩ := HO.out.form (by omega)
          have hjn : j < n := by omega
          have hin : i < n := by omega
          have hc1 := own_iget HO.out hjn
          have hc2 := own_iget HO.out hin
          have hS : ∀ w', Below wr.heap.size wr w' → (w'.cell? ⟨g, j, none⟩ = some (.int .i64 (iget cur j)) ∧ w'.cell? ⟨g, i, none⟩ = some (.int .i64 (iget cur i))) := fun w' hb => ⟨(hb.cell (p := ⟨g, j, none⟩) (World.block_lt_of_cell? wr _ hc1)).trans hc1, (hb.cell (p := ⟨g, i, none⟩) (World.block_lt_of_cell? wr _ hc2)).trans hc2⟩
          have HS := Lib.hid hS
          clear hS
          have e1 : ((j : Int) - 1) = (i : Int) := by omega
          have e2 : IntKind.i64.wrap (i : Int) = (i : Int) := IntWalk.i64_in _ (by omega)
          have HIJ := Lib.hid hij
          clear hij
          by_cases hlt2 : iget cur j < iget cur i
          · have HLT := Lib.hid hlt2
            clear hlt2 hc1 hc2
            go_wp2_with fail
            (refine wp_region_calm (by kernel_rfl) (by kernel_rfl) ?_; (repeat (first | go_big_quiet_skip | (go_big_quiet_want; first | (go_big_quiet_op; go_big_quiet_on) | (apply quiet_val; (· (intro _ hw; have f1 := (HS.out _ hw).1; have f0 := (HS.out _ hw).2; go_simp; exact rfl)); go_simp; go_big_quiet_on) | (apply quiet_call; (· (intro _ _; go_simp; exact ⟨rfl, rfl⟩)); (· (intro _ hw; go_at_call 237; refine (less_any _ _ _).mono ?_; rintro e w2 ⟨rfl, rfl⟩; rw [decide_eq_true HLT.out]; exact ⟨rfl, hw⟩)); go_simp; go_big_quiet_on)))); refine wpQuiet_nil ?_; intro wq bq)
            have b3 := bq
            clear bq
            have ho := HO.out.below b3
            have hg3 := grown_tr HG.out (grown_of_below b3 (bk (some ⟨g, 0, none⟩)))
            have HG3 := Lib.hid hg3
            have hc1 := own_iget ho hjn
            have hc2 := own_iget ho hin
            have hf1 := ho.1.frozenAt j
            have hf2 := ho.1.frozenAt i
            have ho1 : Own wq.drew base 2 (some ⟨g, 0, none⟩) n c (cur.map (Value.int .i64)) := ho
            obtain ⟨s1, t1⟩ := ho1.stored j (.int .i64 (iget cur i))
            obtain ⟨s2, t2⟩ := s1.stored i (.int .i64 (iget cur j))
            have S2 := Lib.hid s2
            have T1 := Lib.hid t1
            have T2 := Lib.hid t2
            clear s1 t1 s2 t2 ho1 ho hg3 b3
            go_wp2_with fail
            go_region
            go_wp2
            go_roundw
            case rel =>
              have hcl := HC.out
              obtain rfl := HIJ.out
              refine ⟨i, (cur.set (i + 1) (iget cur i)).set i (iget cur (i + 1)), by omega, by go_num, by simp [HC.out], (swap_perm cur i (by omega)).trans HP.out, asc_swap (by omega) (by omega) HA.out HLT.out, ?_, ?_⟩
              · rw [List.map_set, List.map_set]; exact S2.out
              · exact grown_tr HG3.out (grown_tr (⟨rfl, rfl, rfl, Nat.le_refl _, fun _ _ _ => rfl⟩ : wq.grownBy wq.drew _) (grown_tr T1.out T2.out))
            case measure => have := HIJ.out; simp [intOf]; omega
          · have HLT := Lib.hid hlt2
            have hd : decide (iget cur j < iget cur i) = false := decide_eq_false hlt2
            have HD := Lib.hid hd
            clear hlt2 hc1 hc2 hd
            go_wp2_with fail
            (refine wp_region_calm (by kernel_rfl) (by kernel_rfl) ?_; (repeat (first | go_big_quiet_skip | (go_big_quiet_want; first | (go_big_quiet_op; go_big_quiet_on) | (apply quiet_val; (· (intro _ hw; have f1 := (HS.out _ hw).1; have f0 := (HS.out _ hw).2; go_simp; exact rfl)); go_simp; go_big_quiet_on) | (apply quiet_call; (· (intro _ _; go_simp; exact ⟨rfl, rfl⟩)); (· (intro _ hw; go_at_call 237; refine (less_any _ _ _).mono ?_; rintro e w2 ⟨rfl, rfl⟩; rw [HD.out]; exact ⟨rfl, hw⟩)); go_simp; go_big_quiet_on)))); refine wpQuiet_nil ?_; intro wq bq)
            go_wp2_with fail
            go_roundw
            case rel =>
              have hs := asc_stop HA.out (.inr (by have h1 := HIJ.out; have h2 := HLT.out; rw [show j - 1 = i by omega]; omega))
              exact ⟨k + 1, cur, by omega, by omega, by go_num, HC.out, HP.out, fun x y h1 h2 => hs x y h1 (by omega), HO.out.below bq, grown_tr HG.out (grown_of_below bq _)⟩
            case measure => simp [intOf]; omega
        · obtain rfl : j = 0 := by omega
          go_wp2_with fail
          (refine wp_region_calm (by kernel_rfl) (by kernel_rfl) ?_; (repeat (first | go_big_quiet_skip | (go_big_quiet_want; first | (go_big_quiet_op; go_big_quiet_on) | (apply quiet_val; (· (intro _ hw; skip; go_simp; exact rfl)); go_simp; go_big_quiet_on) | (apply quiet_call; (· (intro _ _; go_simp; exact ⟨rfl, rfl⟩)); (· (intro _ hw; fail)); go_simp; go_big_quiet_on)))); refine wpQuiet_nil ?_; intro wq bq)
          go_wp2_with fail
          go_roundw
          case rel =>
            have hs := asc_stop HA.out (.inl rfl)
            exact ⟨k + 1, cur, by omega, by omega, by go_num, HC.out, HP.out, fun x y h1 h2 => hs x y h1 (by omega), HO.out.below bq, grown_tr HG.out (grown_of_below bq _)⟩
          case measure => simp [intOf]; omega
    · go_wp2
      go_end0
      have hs : cur = sortL zs := sortL_uniq HP.out (pair_of_iget fun x y h1 h2 => HA.out x y h1 (by have := HC.out; omega))
      exact ⟨rfl, by rw [← hs]; exact HO.out, HG.out⟩
end Go.Proofs.Ytnfkhgamnapgmaa

/- slices.Sort at []int64, at most five elements. -/
namespace Go.Proofs.Ytnfkhgamnapgmaa
open Go.RowKit

set_option maxHeartbeats 800000 in
theorem pdq_any (ao : Option Addr) (n c : Nat) (r : Int) (zs : List Int) (w : World) (base : Nat) (h : Own w base 2 ao n c (zs.map (Value.int .i64))) (hn : n ≤ 5) :
    Calls Try.prog 224 #[.slice ao n c, .int .i64 0, .int .i64 n, .int .i64 r] w fun e w' => e = .returned (.tuple #[]) ∧ Own w' base 2 ao n c ((sortL zs).map (Value.int .i64)) ∧ w.grownBy w' (bk ao) := by
  have h12 : (n : Int) ≤ 12 := by omega
  go_enter Try.func224, Try.ntmps224
  go_wp2_with fail
  go_loopw [1, 2] (fun x y wr => x = .int .i64 0 ∧ y = .int .i64 n ∧ wr = w) (fun _ _ _ => 0)
  case atStart => exact ⟨rfl, rfl, rfl⟩
  case round =>
    obtain ⟨rfl, rfl, rfl⟩ := hrel
    go_wp2_with fail
    refine (insertion_any ao n c zs _ base h hn).mono ?_
    rintro e w1 ⟨rfl, ho, hg⟩
    go_wp2
    refine bodyPost_ret (results_none rfl _ _ _) rfl ?_
    exact ⟨rfl, ho, hg⟩

set_option maxHeartbeats 800000 in
theorem sort_any (ao : Option Addr) (n c : Nat) (zs : List Int) (w : World) (base : Nat) (h : Own w base 2 ao n c (zs.map (Value.int .i64))) (hn : n ≤ 5) :
    Calls Try.prog 208 #[.slice ao n c] w fun e w' => e = .returned (.tuple #[]) ∧ Own w' base 2 ao n c ((sortL zs).map (Value.int .i64)) ∧ w.grownBy w' (bk ao) := by
  have hw : IntKind.u64.wrap (n : Int) = (n : Int) := by simp [IntKind.wrap, IntKind.bits, IntKind.signed]; omega
  go_enter Try.func208, Try.ntmps208
  go_wp2_with fail
  refine (len_any n hn _).mono ?_
  rintro e w1 ⟨⟨r, rfl⟩, rfl⟩
  go_wp2_with fail
  refine (pdq_any ao n c r zs _ base h hn).mono ?_
  rintro e w1 ⟨rfl, ho, hg⟩
  go_wp2
  go_end0
  exact ⟨rfl, ho, hg⟩
end Go.Proofs.Ytnfkhgamnapgmaa

/- All degrees of a finite diagram: the program's. guards: -/
namespace Go.Proofs.Ytnfkhgamnapgmaa
open Go.RowKit

section
variable {P : Program} {nt : Nat} {S : St} {t : Nat} {ty : TypeId} {ps : String} {af : Array Edge} {gd : Option (Nat × Bool)} {x y : Operand}
/-- append of a list of integers -/
theorem stp_appL {T E n len m : Nat} {c : Ch} {zs ys : List Int} {b : A1} (ht : Nat.blt t nt = true) (hT : elZ P T E 1 = true) (hx : S.op x = some (o1 (.sl n 0 len))) (hc : S.ch n = some c) (hce : c = ⟨true, E, 1, .vals (ivals zs)⟩) (hl : zs.length = len)
    (hy : S.op y = some (o1 b)) (hr : Reads S b m 1 (ivals ys)) (hm : 0 < m) (hb : len + m ≤ 2199023255552) :
    Stp P nt ⟨some t, .call { callee := .builtin .append, args := #[x, y], argTypes := #[T, T] }, ty, ps, af, gd⟩ S ((S.new n ⟨true, E, 1, .vals (ivals (zs ++ ys))⟩).put t (o1 (.sl n 0 (len + m)))) := by
  have := stp_append (P := P) (nt := nt) (ty := ty) (ps := ps) (af := af) (gd := gd) (vs := ivals zs) (news := ivals ys) (m := m) (k := 1) ht hT rfl hx hc hce rfl (by rw [ivals_len]; omega) hy hr hm (by intro v hv; simp [ivals] at hv; obtain ⟨a, _, rfl⟩ := hv; rfl) hb
  rw [Nat.zero_mul, List.drop_zero, show ivals zs ++ ivals ys = ivals (zs ++ ys) by simp [ivals]] at this
  exact this
end

abbrev aRes (zs : List Int) (mask : Nat) : AV := .tup [.one (.sl 2200 0 (catD (comps zs mask) (comps zs mask).length).length), .one (.val (I6 (mulA zs mask : Nat))), .one (.val (.bool true))]
set_option maxRecDepth 100000 in
set_option maxHeartbeats 2000000 in
theorem allYes_fc (zs : List Int) (L mask : Nat) (hL : zs.length = L) (hd : isDiag zs = true) (hmk : mask < 1000) (hf : finB zs mask = true) :
    FC Try.prog 179 [(1003, wRo zs)] [o1 (.sl 1003 0 L), vv (I6 mask)] [(2200, leOw (allD zs mask))] (aRes zs mask) [] := by
  have h4 : L ≤ 4 := by have := isDiag_len hd; omega
  have hC := (comps_fc zs L mask hL h4 hmk).nm [(1003, 1003), (2000, 15)] (by kernel_rfl)
  have hC : FC Try.prog 175 [(1003, wRo zs)] [o1 (.sl 1003 0 L), vv (I6 mask)] [(15, cpOw (comps zs mask))] (o1 (.sl 15 0 (comps zs mask).length)) [] := hC
  have hlab : ∀ k, k < (comps zs mask).length → Labs (cget (comps zs mask) k).2 := fun k hk => labs_of hd hk
  have hcs : csum (comps zs mask) ≤ 5 := by have := (comps_ok zs mask).sum; omega
  have hnp : (comps zs mask).length ≤ 5 := by have := csum_len (comps zs mask); omega
  have hfa := (fin_all (ps := comps zs mask) (comps zs mask).length (Nat.le_refl _)).1 (by simpa [finB] using hf)
  have hcl : ∀ j, j ≤ (comps zs mask).length → (catD (comps zs mask) j).length ≤ 5 := fun j hj => Nat.le_trans (catD_len hlab j hj) (Nat.le_trans (csum_take _ _) hcs)
  have hml := fun j hj h5 => mulD_lt hlab (j := j) hj h5
  unfold allD aRes mulA
  refine fc_enter (nt := 42) Try.func179 rfl rfl (by simp) fun w0 ω0 => ?_
  generalize comps zs mask = ps at *
  generalize hN : ps.length = N at *
  have hmx := mixC_len ps
  rw [hN] at hmx
  (refine goes_seq ?_; refine goes_region ?_; apply run_step rfl; (exact stp_assign rfl rfl); apply run_step rfl; (exact stp_assign rfl rfl); apply run_step rfl; (exact stp_assign rfl rfl); refine run_nil ?_; refine fin_seq ?_; refine goes_seq ?_; refine goes_region ?_; apply run_step rfl; (exact stp_assign rfl rfl); refine run_nil ?_; refine fin_seq ?_; refine goes_seq ?_; refine goes_region ?_; apply run_step rfl; (exact stp_assign rfl rfl); refine run_nil ?_; refine fin_seq ?_; refine goes_seq ?_; refine goes_seq ?_; refine goes_region ?_; apply run_step rfl; (exact stp_move rfl rfl); apply run_step rfl; (exact stp_move rfl rfl); apply run_step rfl; (apply call_gate 175; exact stp_callN hC (by as_aux_lemma => kernel_rfl) rfl rfl ⟨rfl, rfl, trivial⟩ ⟨⟨_, rfl, .inl rfl⟩, trivial⟩ rfl rfl rfl); apply run_step rfl; (exact stp_len rfl rfl rfl (by as_aux_lemma => kernel_rfl)); apply run_step rfl; (exact stp_move rfl rfl); refine run_nil ?_; refine fin_seq ?_; refine goes_block ?_)
  refine goes_loop (fun j : Nat => St.of [(7, o1 (.sl 2200 0 (catD ps j).length)), (8, vv (I6 (mulD ps j : Nat))), (15, o1 (.sl 15 0 N)), (16, vv (I6 N)), (17, vv (I6 j))] [(15, cpOw ps), (2200, leOw (catD ps j))]) (fun j => j ≤ N) (fun j => N - j) 0 (Nat.zero_le _) (Wk.trans (wk_nil (t := 7) (n := 2200) (k := 1) (E := 2) (d := .vals (ivals [])) rfl rfl) (Wk.of ⟨rfl, rfl, rfl, rfl, rfl, trivial⟩ ⟨rfl, rfl, trivial⟩ trivial)) ?_
  rintro j hj
  (refine goes_seq ?_; refine goes_region ?_; apply run_step rfl; (exact stp_bin rfl rfl rfl rfl); refine run_nil ?_; refine fin_seq ?_; refine goes_seq ?_)
  refine goes_if rfl (fun hlt => ?_) (fun hlt => ?_)
  · have hjN : j < N := by omega
    have hjp : j < ps.length := by omega
    have hL := hlab j hjN
    have hne := hfa j hjN
    have hagg := comp_agg hjp 15
    have hcel := (mixC_get hjp).2
    have hix : N * 2 ≤ (mixC ps).length := Nat.le_of_eq hmx.symm
    have hcat := catD_succ hjp
    have hmul := mulD_succ hjp
    have hc5 := hcl (j + 1) (by omega)
    have hm1 := hml j hj (by omega)
    have hm2 := hml (j + 1) (by omega) (by omega)
    generalize (cget ps j).2 = labs at *
    have hm4 := hL.1
    rcases degI_fc (mixC ps) ((cget ps j).1 : Int) (j * 2 + 1) labs.length labs hcel rfl hm4 with ⟨hnil, hD⟩ | ⟨hsome, hD⟩
    · exact absurd (by rw [hnil]; rfl) hne
    have hD := hD.nm [(1000, 15), (2100, 22)] (by kernel_rfl)
    have hD : FC Try.prog 205 [(15, cxRo (mixC ps))] [.s (.agg [.val (I6 ((cget ps j).1 : Int)), .esl 15 (j * 2 + 1) 0 labs.length])] [(22, leOw (degs labs))] (o1 (.sl 22 0 (labs.length + 1))) [] := hD
    have hMx := (maxA_fc (degs labs) (labs.length + 1) hsome (by omega) (by omega) (fun i hi => degs_asc hL i (by omega))).nm [(1005, 22)] (by kernel_rfl)
    have htop := topD_int hL hne
    rw [hsome] at htop
    have hMx : FC Try.prog 206 [(22, leRo (degs labs))] [o1 (.sl 22 0 (labs.length + 1))] [] (vv (I6 (iget (degs labs) (labs.length + 1 - 1)))) [] := hMx
    rw [htop] at hMx
    have htp := topD_pos hL hne
    have htl := topD_le hL
    have hG := gcd_fc (mulD ps j) (topD labs) (by omega) (by omega)
    have hgp := gcd_pos' (m := mulD ps j) htp
    rw [← lcm_quo] at hmul
    have hw : IntKind.i64.wrap (((mulD ps j : Nat) : Int) * ((topD labs / Nat.gcd (mulD ps j) (topD labs) : Nat) : Int)) = ((mulD ps (j + 1) : Nat) : Int) := by
      rw [← Int.natCast_mul, ← hmul]; exact IntWalk.i64_in _ (by omega)
    have hd0 : 0 < (ivals (degs labs)).length := by rw [ivals_len]; omega
    have hdl : (ivals (degs labs)).length = labs.length + 1 := by rw [ivals_len]; exact hsome
    have hcl1 : (catD ps j).length + (labs.length + 1) = (catD ps (j + 1)).length := by rw [hcat, List.length_append, hsome]
    have hcb : (catD ps j).length + (labs.length + 1) ≤ 2199023255552 := by omega
    have ht1 : topD labs < 1000000000000 := by omega
    (refine goes_skip ?_; refine fin_seq ?_; refine goes_seq ?_; refine goes_block ?_; refine goes_seq ?_; refine goes_region ?_; apply run_step rfl; (first | exact stp_ixT (k := 2) (j := j) rfl rfl rfl rfl rfl (by as_aux_lemma => kernel_rfl) rfl hjN hix (by omega) rfl | exact stp_loadAggD (k := 2) rfl rfl rfl rfl rfl (by as_aux_lemma => kernel_rfl) hagg | (apply call_gate 205; exact stp_callN hD (by as_aux_lemma => kernel_rfl) rfl rfl ⟨⟨.inl rfl, .inl rfl, trivial⟩, trivial⟩ ⟨⟨_, rfl, .inr rfl⟩, trivial⟩ rfl rfl rfl) | exact stp_nilNo (b := false) rfl (by as_aux_lemma => kernel_rfl) rfl rfl hd0 (.inl ⟨rfl, rfl⟩)); apply run_step rfl; (first | exact stp_ixT (k := 2) (j := j) rfl rfl rfl rfl rfl (by as_aux_lemma => kernel_rfl) rfl hjN hix (by omega) rfl | exact stp_loadAggD (k := 2) rfl rfl rfl rfl rfl (by as_aux_lemma => kernel_rfl) hagg | (apply call_gate 205; exact stp_callN hD (by as_aux_lemma => kernel_rfl) rfl rfl ⟨⟨.inl rfl, .inl rfl, trivial⟩, trivial⟩ ⟨⟨_, rfl, .inr rfl⟩, trivial⟩ rfl rfl rfl) | exact stp_nilNo (b := false) rfl (by as_aux_lemma => kernel_rfl) rfl rfl hd0 (.inl ⟨rfl, rfl⟩)); apply run_step rfl; (exact stp_allocZ [I6 0, .slice none 0 0] rfl (by as_aux_lemma => kernel_rfl)); apply run_step rfl; (exact stp_storeAgg rfl rfl rfl rfl rfl rfl rfl rfl (by as_aux_lemma => kernel_rfl) rfl); refine run_nil ?_; refine fin_seq ?_; refine goes_seq ?_; refine goes_region ?_; apply run_step rfl; (exact stp_loadAgg rfl rfl rfl rfl rfl rfl (by as_aux_lemma => kernel_rfl)); apply run_step rfl; (first | exact stp_ixT (k := 2) (j := j) rfl rfl rfl rfl rfl (by as_aux_lemma => kernel_rfl) rfl hjN hix (by omega) rfl | exact stp_loadAggD (k := 2) rfl rfl rfl rfl rfl (by as_aux_lemma => kernel_rfl) hagg | (apply call_gate 205; exact stp_callN hD (by as_aux_lemma => kernel_rfl) rfl rfl ⟨⟨.inl rfl, .inl rfl, trivial⟩, trivial⟩ ⟨⟨_, rfl, .inr rfl⟩, trivial⟩ rfl rfl rfl) | exact stp_nilNo (b := false) rfl (by as_aux_lemma => kernel_rfl) rfl rfl hd0 (.inl ⟨rfl, rfl⟩)); apply run_step rfl; (exact stp_assign rfl rfl); refine run_nil ?_; refine fin_seq ?_; refine goes_seq ?_; refine goes_seq ?_; refine goes_region ?_; apply run_step rfl; (exact stp_move rfl rfl); apply run_step rfl; (first | exact stp_ixT (k := 2) (j := j) rfl rfl rfl rfl rfl (by as_aux_lemma => kernel_rfl) rfl hjN hix (by omega) rfl | exact stp_loadAggD (k := 2) rfl rfl rfl rfl rfl (by as_aux_lemma => kernel_rfl) hagg | (apply call_gate 205; exact stp_callN hD (by as_aux_lemma => kernel_rfl) rfl rfl ⟨⟨.inl rfl, .inl rfl, trivial⟩, trivial⟩ ⟨⟨_, rfl, .inr rfl⟩, trivial⟩ rfl rfl rfl) | exact stp_nilNo (b := false) rfl (by as_aux_lemma => kernel_rfl) rfl rfl hd0 (.inl ⟨rfl, rfl⟩)); refine run_nil ?_; refine fin_seq ?_)
    refine goes_cond rfl (fun e => by cases e) (fun _ => ?_)
    (refine goes_skip ?_; refine fin_seq ?_; refine goes_seq ?_; refine goes_region ?_; apply run_step rfl; (exact stp_move rfl rfl); apply run_step rfl; (exact stp_move rfl rfl); apply run_step rfl; (first | exact stp_appL (E := 2) rfl (by as_aux_lemma => kernel_rfl) rfl rfl rfl rfl rfl (reads_all rfl rfl rfl hdl) (by omega) hcb | (apply call_gate 206; exact stp_callR hMx (by as_aux_lemma => kernel_rfl) rfl rfl ⟨rfl, trivial⟩ ⟨⟨_, rfl, .inr rfl⟩, trivial⟩ rfl rfl) | (apply call_gate 207; exact stp_callR hG (by as_aux_lemma => kernel_rfl) rfl rfl ⟨rfl, rfl, trivial⟩ trivial rfl rfl) | exact stp_quoN rfl rfl rfl hgp ht1 | exact stp_mul rfl rfl rfl hw); apply run_step rfl; (exact stp_assign rfl rfl); refine run_nil ?_; refine fin_seq ?_; refine goes_seq ?_; refine goes_region ?_; apply run_step rfl; (exact stp_move rfl rfl); apply run_step rfl; (first | exact stp_appL (E := 2) rfl (by as_aux_lemma => kernel_rfl) rfl rfl rfl rfl rfl (reads_all rfl rfl rfl hdl) (by omega) hcb | (apply call_gate 206; exact stp_callR hMx (by as_aux_lemma => kernel_rfl) rfl rfl ⟨rfl, trivial⟩ ⟨⟨_, rfl, .inr rfl⟩, trivial⟩ rfl rfl) | (apply call_gate 207; exact stp_callR hG (by as_aux_lemma => kernel_rfl) rfl rfl ⟨rfl, rfl, trivial⟩ trivial rfl rfl) | exact stp_quoN rfl rfl rfl hgp ht1 | exact stp_mul rfl rfl rfl hw); apply run_step rfl; (exact stp_assign rfl rfl); refine run_nil ?_; refine fin_seq ?_; refine goes_region ?_; apply run_step rfl; (exact stp_move rfl rfl); apply run_step rfl; (exact stp_move rfl rfl); apply run_step rfl; (exact stp_move rfl rfl); apply run_step rfl; (exact stp_move rfl rfl); apply run_step rfl; (first | exact stp_appL (E := 2) rfl (by as_aux_lemma => kernel_rfl) rfl rfl rfl rfl rfl (reads_all rfl rfl rfl hdl) (by omega) hcb | (apply call_gate 206; exact stp_callR hMx (by as_aux_lemma => kernel_rfl) rfl rfl ⟨rfl, trivial⟩ ⟨⟨_, rfl, .inr rfl⟩, trivial⟩ rfl rfl) | (apply call_gate 207; exact stp_callR hG (by as_aux_lemma => kernel_rfl) rfl rfl ⟨rfl, rfl, trivial⟩ trivial rfl rfl) | exact stp_quoN rfl rfl rfl hgp ht1 | exact stp_mul rfl rfl rfl hw); apply run_step rfl; (first | exact stp_appL (E := 2) rfl (by as_aux_lemma => kernel_rfl) rfl rfl rfl rfl rfl (reads_all rfl rfl rfl hdl) (by omega) hcb | (apply call_gate 206; exact stp_callR hMx (by as_aux_lemma => kernel_rfl) rfl rfl ⟨rfl, trivial⟩ ⟨⟨_, rfl, .inr rfl⟩, trivial⟩ rfl rfl) | (apply call_gate 207; exact stp_callR hG (by as_aux_lemma => kernel_rfl) rfl rfl ⟨rfl, rfl, trivial⟩ trivial rfl rfl) | exact stp_quoN rfl rfl rfl hgp ht1 | exact stp_mul rfl rfl rfl hw); apply run_step rfl; (first | exact stp_appL (E := 2) rfl (by as_aux_lemma => kernel_rfl) rfl rfl rfl rfl rfl (reads_all rfl rfl rfl hdl) (by omega) hcb | (apply call_gate 206; exact stp_callR hMx (by as_aux_lemma => kernel_rfl) rfl rfl ⟨rfl, trivial⟩ ⟨⟨_, rfl, .inr rfl⟩, trivial⟩ rfl rfl) | (apply call_gate 207; exact stp_callR hG (by as_aux_lemma => kernel_rfl) rfl rfl ⟨rfl, rfl, trivial⟩ trivial rfl rfl) | exact stp_quoN rfl rfl rfl hgp ht1 | exact stp_mul rfl rfl rfl hw); apply run_step rfl; (exact stp_assign rfl rfl); refine run_nil ?_; refine fin_block ?_; refine fin_seq ?_; refine goes_region ?_; apply run_step rfl; (exact stp_add rfl rfl rfl (by first | exact IntWalk.i64_in _ (by omega) | rfl)); apply run_step rfl; (exact stp_move rfl rfl); refine run_nil ?_)
    exact fin_round (j + 1) (by omega) (by omega) (Wk.of ⟨congrArg (fun z : Nat => some (o1 (.sl 2200 0 z))) hcl1, rfl, rfl, rfl, rfl, trivial⟩ ⟨rfl, congrArg (fun z => some (leOw z)) hcat.symm, trivial⟩ trivial)
  · obtain rfl : j = N := by omega
    have hc5 := hcl j (Nat.le_refl _)
    (refine goes_exit ?_; refine fin_exit_then ?_; refine fin_exit_then ?_; refine fin_exit_eq ?_; refine fin_seq ?_; refine goes_seq ?_; refine goes_region ?_; apply run_step rfl; (exact stp_move rfl rfl); apply run_step rfl; (apply call_gate 208; exact stp_turn (zs := catD ps j) (zs' := sortL (catD ps j)) rfl (by as_aux_lemma => kernel_rfl) rfl rfl rfl (sortL_len _) (by omega) (fun ao c w hO => sort_any ao _ c _ w 0 hO hc5)); refine run_nil ?_; refine fin_seq ?_; refine goes_seq ?_; refine goes_region ?_; apply run_step rfl; (exact stp_move rfl rfl); apply run_step rfl; (exact stp_move rfl rfl); apply run_step rfl; (exact stp_assign rfl rfl); apply run_step rfl; (exact stp_assign rfl rfl); apply run_step rfl; (exact stp_assign rfl rfl); refine run_nil ?_; refine fin_seq ?_; refine goes_ret ?_)
    exact fin_ret3 (.inl rfl) rfl (.tmp rfl) (.tmp rfl) (.tmp rfl) ⟨rfl, trivial⟩ trivial
abbrev nRes : AV := .tup [.one (.val (.slice none 0 0)), .one (.val (I6 0)), .one (.val (.bool false))]
set_option maxRecDepth 100000 in
set_option maxHeartbeats 2000000 in
theorem allNo_fc (zs : List Int) (L mask : Nat) (hL : zs.length = L) (hd : isDiag zs = true) (hmk : mask < 1000) (hf : finB zs mask = false) :
    FC Try.prog 179 [(1003, wRo zs)] [o1 (.sl 1003 0 L), vv (I6 mask)] [] nRes [] := by
  have h4 : L ≤ 4 := by have := isDiag_len hd; omega
  have hC := (comps_fc zs L mask hL h4 hmk).nm [(1003, 1003), (2000, 15)] (by kernel_rfl)
  have hC : FC Try.prog 175 [(1003, wRo zs)] [o1 (.sl 1003 0 L), vv (I6 mask)] [(15, cpOw (comps zs mask))] (o1 (.sl 15 0 (comps zs mask).length)) [] := hC
  have hlab : ∀ k, k < (comps zs mask).length → Labs (cget (comps zs mask) k).2 := fun k hk => labs_of hd hk
  have hcs : csum (comps zs mask) ≤ 5 := by have := (comps_ok zs mask).sum; omega
  have hnp : (comps zs mask).length ≤ 5 := by have := csum_len (comps zs mask); omega
  have hfa := fin_all (ps := comps zs mask) (comps zs mask).length (Nat.le_refl _)
  have hfn : kindN (comps zs mask) (comps zs mask).length ≠ 0 := by simpa [finB] using hf
  have hcl : ∀ j, j ≤ (comps zs mask).length → (catD (comps zs mask) j).length ≤ 5 := fun j hj => Nat.le_trans (catD_len hlab j hj) (Nat.le_trans (csum_take _ _) hcs)
  have hml := fun j hj h5 => mulD_lt hlab (j := j) hj h5
  refine fc_enter (nt := 42) Try.func179 rfl rfl (by simp) fun w0 ω0 => ?_
  generalize comps zs mask = ps at *
  generalize hN : ps.length = N at *
  have hmx := mixC_len ps
  rw [hN] at hmx
  (refine goes_seq ?_; refine goes_region ?_; apply run_step rfl; (exact stp_assign rfl rfl); apply run_step rfl; (exact stp_assign rfl rfl); apply run_step rfl; (exact stp_assign rfl rfl); refine run_nil ?_; refine fin_seq ?_; refine goes_seq ?_; refine goes_region ?_; apply run_step rfl; (exact stp_assign rfl rfl); refine run_nil ?_; refine fin_seq ?_; refine goes_seq ?_; refine goes_region ?_; apply run_step rfl; (exact stp_assign rfl rfl); refine run_nil ?_; refine fin_seq ?_; refine goes_seq ?_; refine goes_seq ?_; refine goes_region ?_; apply run_step rfl; (exact stp_move rfl rfl); apply run_step rfl; (exact stp_move rfl rfl); apply run_step rfl; (apply call_gate 175; exact stp_callN hC (by as_aux_lemma => kernel_rfl) rfl rfl ⟨rfl, rfl, trivial⟩ ⟨⟨_, rfl, .inl rfl⟩, trivial⟩ rfl rfl rfl); apply run_step rfl; (exact stp_len rfl rfl rfl (by as_aux_lemma => kernel_rfl)); apply run_step rfl; (exact stp_move rfl rfl); refine run_nil ?_; refine fin_seq ?_; refine goes_block ?_)
  refine goes_loop (fun j : Nat => St.of [(7, o1 (.sl 2200 0 (catD ps j).length)), (8, vv (I6 (mulD ps j : Nat))), (15, o1 (.sl 15 0 N)), (16, vv (I6 N)), (17, vv (I6 j))] [(15, cpOw ps), (2200, leOw (catD ps j))]) (fun j => j ≤ N ∧ ∀ k, k < j → (degs (cget ps k).2).length ≠ 0) (fun j => N - j) 0 ⟨Nat.zero_le _, fun k hk => absurd hk (by omega)⟩ (Wk.trans (wk_nil (t := 7) (n := 2200) (k := 1) (E := 2) (d := .vals (ivals [])) rfl rfl) (Wk.of ⟨rfl, rfl, rfl, rfl, rfl, trivial⟩ ⟨rfl, rfl, trivial⟩ trivial)) ?_
  rintro j ⟨hj, hal⟩
  (refine goes_seq ?_; refine goes_region ?_; apply run_step rfl; (exact stp_bin rfl rfl rfl rfl); refine run_nil ?_; refine fin_seq ?_; refine goes_seq ?_)
  refine goes_if rfl (fun hlt => ?_) (fun hlt => ?_)
  · have hjN : j < N := by omega
    have hjp : j < ps.length := by omega
    have hL := hlab j hjN
    have hagg := comp_agg hjp 15
    have hcel := (mixC_get hjp).2
    have hix : N * 2 ≤ (mixC ps).length := Nat.le_of_eq hmx.symm
    have hcat := catD_succ hjp
    have hmul := mulD_succ hjp
    have hc5 := hcl (j + 1) (by omega)
    have hm1 := hml j hj (by omega)
    have hm2 := hml (j + 1) (by omega) (by omega)
    have hal' : (degs (cget ps j).2).length ≠ 0 → ∀ k, k < j + 1 → (degs (cget ps k).2).length ≠ 0 := fun h1 k hk => by
      by_cases e : k = j
      · rw [e]; exact h1
      · exact hal k (by omega)
    obtain ⟨labs, hlb⟩ : ∃ labs, (cget ps j).2 = labs := ⟨_, rfl⟩
    rw [hlb] at hL hagg hcel hcat hmul hal'
    have hm4 := hL.1
    rcases degI_fc (mixC ps) ((cget ps j).1 : Int) (j * 2 + 1) labs.length labs hcel rfl hm4 with ⟨hnil, hD⟩ | ⟨hsome, hD⟩
    · have hD := hD.nm [(1000, 15)] (by kernel_rfl)
      have hD : FC Try.prog 205 [(15, cxRo (mixC ps))] [.s (.agg [.val (I6 ((cget ps j).1 : Int)), .esl 15 (j * 2 + 1) 0 labs.length])] [] (vv (.slice none 0 0)) [] := hD
      (refine goes_skip ?_; refine fin_seq ?_; refine goes_seq ?_; refine goes_block ?_; refine goes_seq ?_; refine goes_region ?_; apply run_step rfl; (first | exact stp_ixT (k := 2) (j := j) rfl rfl rfl rfl rfl (by as_aux_lemma => kernel_rfl) rfl hjN hix (by omega) rfl | exact stp_loadAggD (k := 2) rfl rfl rfl rfl rfl (by as_aux_lemma => kernel_rfl) hagg | (apply call_gate 205; exact stp_callR hD (by as_aux_lemma => kernel_rfl) rfl rfl ⟨⟨.inl rfl, .inl rfl, trivial⟩, trivial⟩ ⟨⟨_, rfl, .inr rfl⟩, trivial⟩ rfl rfl) | exact stp_nilYes (b := true) rfl (by as_aux_lemma => kernel_rfl) rfl (.inl ⟨rfl, rfl⟩)); apply run_step rfl; (first | exact stp_ixT (k := 2) (j := j) rfl rfl rfl rfl rfl (by as_aux_lemma => kernel_rfl) rfl hjN hix (by omega) rfl | exact stp_loadAggD (k := 2) rfl rfl rfl rfl rfl (by as_aux_lemma => kernel_rfl) hagg | (apply call_gate 205; exact stp_callR hD (by as_aux_lemma => kernel_rfl) rfl rfl ⟨⟨.inl rfl, .inl rfl, trivial⟩, trivial⟩ ⟨⟨_, rfl, .inr rfl⟩, trivial⟩ rfl rfl) | exact stp_nilYes (b := true) rfl (by as_aux_lemma => kernel_rfl) rfl (.inl ⟨rfl, rfl⟩)); apply run_step rfl; (exact stp_allocZ [I6 0, .slice none 0 0] rfl (by as_aux_lemma => kernel_rfl)); apply run_step rfl; (exact stp_storeAgg rfl rfl rfl rfl rfl rfl rfl rfl (by as_aux_lemma => kernel_rfl) rfl); refine run_nil ?_; refine fin_seq ?_; refine goes_seq ?_; refine goes_region ?_; apply run_step rfl; (exact stp_loadAgg rfl rfl rfl rfl rfl rfl (by as_aux_lemma => kernel_rfl)); apply run_step rfl; (first | exact stp_ixT (k := 2) (j := j) rfl rfl rfl rfl rfl (by as_aux_lemma => kernel_rfl) rfl hjN hix (by omega) rfl | exact stp_loadAggD (k := 2) rfl rfl rfl rfl rfl (by as_aux_lemma => kernel_rfl) hagg | (apply call_gate 205; exact stp_callR hD (by as_aux_lemma => kernel_rfl) rfl rfl ⟨⟨.inl rfl, .inl rfl, trivial⟩, trivial⟩ ⟨⟨_, rfl, .inr rfl⟩, trivial⟩ rfl rfl) | exact stp_nilYes (b := true) rfl (by as_aux_lemma => kernel_rfl) rfl (.inl ⟨rfl, rfl⟩)); apply run_step rfl; (exact stp_assign rfl rfl); refine run_nil ?_; refine fin_seq ?_; refine goes_seq ?_; refine goes_seq ?_; refine goes_region ?_; apply run_step rfl; (exact stp_move rfl rfl); apply run_step rfl; (first | exact stp_ixT (k := 2) (j := j) rfl rfl rfl rfl rfl (by as_aux_lemma => kernel_rfl) rfl hjN hix (by omega) rfl | exact stp_loadAggD (k := 2) rfl rfl rfl rfl rfl (by as_aux_lemma => kernel_rfl) hagg | (apply call_gate 205; exact stp_callR hD (by as_aux_lemma => kernel_rfl) rfl rfl ⟨⟨.inl rfl, .inl rfl, trivial⟩, trivial⟩ ⟨⟨_, rfl, .inr rfl⟩, trivial⟩ rfl rfl) | exact stp_nilYes (b := true) rfl (by as_aux_lemma => kernel_rfl) rfl (.inl ⟨rfl, rfl⟩)); refine run_nil ?_; refine fin_seq ?_)
      refine goes_cond rfl (fun _ => ?_) (fun e => by cases e)
      (refine goes_seq ?_; refine goes_region ?_; apply run_step rfl; (exact stp_assign rfl rfl); apply run_step rfl; (exact stp_assign rfl rfl); apply run_step rfl; (exact stp_assign rfl rfl); refine run_nil ?_; refine fin_seq ?_; refine goes_ret ?_; refine fin_ret_then ?_; refine fin_ret_block ?_; refine fin_ret_then ?_; refine fin_ret_then ?_; refine fin_ret_block ?_; refine fin_ret_then ?_)
      exact fin_ret3 (.inl rfl) rfl (.tmp rfl) (.tmp rfl) (.tmp rfl) trivial trivial
    have hne : (degs labs).length ≠ 0 := by omega
    have hD := hD.nm [(1000, 15), (2100, 22)] (by kernel_rfl)
    have hD : FC Try.prog 205 [(15, cxRo (mixC ps))] [.s (.agg [.val (I6 ((cget ps j).1 : Int)), .esl 15 (j * 2 + 1) 0 labs.length])] [(22, leOw (degs labs))] (o1 (.sl 22 0 (labs.length + 1))) [] := hD
    have hMx := (maxA_fc (degs labs) (labs.length + 1) hsome (by omega) (by omega) (fun i hi => degs_asc hL i (by omega))).nm [(1005, 22)] (by kernel_rfl)
    have htop := topD_int hL hne
    rw [hsome] at htop
    have hMx : FC Try.prog 206 [(22, leRo (degs labs))] [o1 (.sl 22 0 (labs.length + 1))] [] (vv (I6 (iget (degs labs) (labs.length + 1 - 1)))) [] := hMx
    rw [htop] at hMx
    have htp := topD_pos hL hne
    have htl := topD_le hL
    have hG := gcd_fc (mulD ps j) (topD labs) (by omega) (by omega)
    have hgp := gcd_pos' (m := mulD ps j) htp
    rw [← lcm_quo] at hmul
    have hw : IntKind.i64.wrap (((mulD ps j : Nat) : Int) * ((topD labs / Nat.gcd (mulD ps j) (topD labs) : Nat) : Int)) = ((mulD ps (j + 1) : Nat) : Int) := by
      rw [← Int.natCast_mul, ← hmul]; exact IntWalk.i64_in _ (by omega)
    have hd0 : 0 < (ivals (degs labs)).length := by rw [ivals_len]; omega
    have hdl : (ivals (degs labs)).length = labs.length + 1 := by rw [ivals_len]; exact hsome
    have hcl1 : (catD ps j).length + (labs.length + 1) = (catD ps (j + 1)).length := by rw [hcat, List.length_append, hsome]
    have hcb : (catD ps j).length + (labs.length + 1) ≤ 2199023255552 := by omega
    have ht1 : topD labs < 1000000000000 := by omega
    (refine goes_skip ?_; refine fin_seq ?_; refine goes_seq ?_; refine goes_block ?_; refine goes_seq ?_; refine goes_region ?_; apply run_step rfl; (first | exact stp_ixT (k := 2) (j := j) rfl rfl rfl rfl rfl (by as_aux_lemma => kernel_rfl) rfl hjN hix (by omega) rfl | exact stp_loadAggD (k := 2) rfl rfl rfl rfl rfl (by as_aux_lemma => kernel_rfl) hagg | (apply call_gate 205; exact stp_callN hD (by as_aux_lemma => kernel_rfl) rfl rfl ⟨⟨.inl rfl, .inl rfl, trivial⟩, trivial⟩ ⟨⟨_, rfl, .inr rfl⟩, trivial⟩ rfl rfl rfl) | exact stp_nilNo (b := false) rfl (by as_aux_lemma => kernel_rfl) rfl rfl hd0 (.inl ⟨rfl, rfl⟩)); apply run_step rfl; (first | exact stp_ixT (k := 2) (j := j) rfl rfl rfl rfl rfl (by as_aux_lemma => kernel_rfl) rfl hjN hix (by omega) rfl | exact stp_loadAggD (k := 2) rfl rfl rfl rfl rfl (by as_aux_lemma => kernel_rfl) hagg | (apply call_gate 205; exact stp_callN hD (by as_aux_lemma => kernel_rfl) rfl rfl ⟨⟨.inl rfl, .inl rfl, trivial⟩, trivial⟩ ⟨⟨_, rfl, .inr rfl⟩, trivial⟩ rfl rfl rfl) | exact stp_nilNo (b := false) rfl (by as_aux_lemma => kernel_rfl) rfl rfl hd0 (.inl ⟨rfl, rfl⟩)); apply run_step rfl; (exact stp_allocZ [I6 0, .slice none 0 0] rfl (by as_aux_lemma => kernel_rfl)); apply run_step rfl; (exact stp_storeAgg rfl rfl rfl rfl rfl rfl rfl rfl (by as_aux_lemma => kernel_rfl) rfl); refine run_nil ?_; refine fin_seq ?_; refine goes_seq ?_; refine goes_region ?_; apply run_step rfl; (exact stp_loadAgg rfl rfl rfl rfl rfl rfl (by as_aux_lemma => kernel_rfl)); apply run_step rfl; (first | exact stp_ixT (k := 2) (j := j) rfl rfl rfl rfl rfl (by as_aux_lemma => kernel_rfl) rfl hjN hix (by omega) rfl | exact stp_loadAggD (k := 2) rfl rfl rfl rfl rfl (by as_aux_lemma => kernel_rfl) hagg | (apply call_gate 205; exact stp_callN hD (by as_aux_lemma => kernel_rfl) rfl rfl ⟨⟨.inl rfl, .inl rfl, trivial⟩, trivial⟩ ⟨⟨_, rfl, .inr rfl⟩, trivial⟩ rfl rfl rfl) | exact stp_nilNo (b := false) rfl (by as_aux_lemma => kernel_rfl) rfl rfl hd0 (.inl ⟨rfl, rfl⟩)); apply run_step rfl; (exact stp_assign rfl rfl); refine run_nil ?_; refine fin_seq ?_; refine goes_seq ?_; refine goes_seq ?_; refine goes_region ?_; apply run_step rfl; (exact stp_move rfl rfl); apply run_step rfl; (first | exact stp_ixT (k := 2) (j := j) rfl rfl rfl rfl rfl (by as_aux_lemma => kernel_rfl) rfl hjN hix (by omega) rfl | exact stp_loadAggD (k := 2) rfl rfl rfl rfl rfl (by as_aux_lemma => kernel_rfl) hagg | (apply call_gate 205; exact stp_callN hD (by as_aux_lemma => kernel_rfl) rfl rfl ⟨⟨.inl rfl, .inl rfl, trivial⟩, trivial⟩ ⟨⟨_, rfl, .inr rfl⟩, trivial⟩ rfl rfl rfl) | exact stp_nilNo (b := false) rfl (by as_aux_lemma => kernel_rfl) rfl rfl hd0 (.inl ⟨rfl, rfl⟩)); refine run_nil ?_; refine fin_seq ?_)
    refine goes_cond rfl (fun e => by cases e) (fun _ => ?_)
    (refine goes_skip ?_; refine fin_seq ?_; refine goes_seq ?_; refine goes_region ?_; apply run_step rfl; (exact stp_move rfl rfl); apply run_step rfl; (exact stp_move rfl rfl); apply run_step rfl; (first | exact stp_appL (E := 2) rfl (by as_aux_lemma => kernel_rfl) rfl rfl rfl rfl rfl (reads_all rfl rfl rfl hdl) (by omega) hcb | (apply call_gate 206; exact stp_callR hMx (by as_aux_lemma => kernel_rfl) rfl rfl ⟨rfl, trivial⟩ ⟨⟨_, rfl, .inr rfl⟩, trivial⟩ rfl rfl) | (apply call_gate 207; exact stp_callR hG (by as_aux_lemma => kernel_rfl) rfl rfl ⟨rfl, rfl, trivial⟩ trivial rfl rfl) | exact stp_quoN rfl rfl rfl hgp ht1 | exact stp_mul rfl rfl rfl hw); apply run_step rfl; (exact stp_assign rfl rfl); refine run_nil ?_; refine fin_seq ?_; refine goes_seq ?_; refine goes_region ?_; apply run_step rfl; (exact stp_move rfl rfl); apply run_step rfl; (first | exact stp_appL (E := 2) rfl (by as_aux_lemma => kernel_rfl) rfl rfl rfl rfl rfl (reads_all rfl rfl rfl hdl) (by omega) hcb | (apply call_gate 206; exact stp_callR hMx (by as_aux_lemma => kernel_rfl) rfl rfl ⟨rfl, trivial⟩ ⟨⟨_, rfl, .inr rfl⟩, trivial⟩ rfl rfl) | (apply call_gate 207; exact stp_callR hG (by as_aux_lemma => kernel_rfl) rfl rfl ⟨rfl, rfl, trivial⟩ trivial rfl rfl) | exact stp_quoN rfl rfl rfl hgp ht1 | exact stp_mul rfl rfl rfl hw); apply run_step rfl; (exact stp_assign rfl rfl); refine run_nil ?_; refine fin_seq ?_; refine goes_region ?_; apply run_step rfl; (exact stp_move rfl rfl); apply run_step rfl; (exact stp_move rfl rfl); apply run_step rfl; (exact stp_move rfl rfl); apply run_step rfl; (exact stp_move rfl rfl); apply run_step rfl; (first | exact stp_appL (E := 2) rfl (by as_aux_lemma => kernel_rfl) rfl rfl rfl rfl rfl (reads_all rfl rfl rfl hdl) (by omega) hcb | (apply call_gate 206; exact stp_callR hMx (by as_aux_lemma => kernel_rfl) rfl rfl ⟨rfl, trivial⟩ ⟨⟨_, rfl, .inr rfl⟩, trivial⟩ rfl rfl) | (apply call_gate 207; exact stp_callR hG (by as_aux_lemma => kernel_rfl) rfl rfl ⟨rfl, rfl, trivial⟩ trivial rfl rfl) | exact stp_quoN rfl rfl rfl hgp ht1 | exact stp_mul rfl rfl rfl hw); apply run_step rfl; (first | exact stp_appL (E := 2) rfl (by as_aux_lemma => kernel_rfl) rfl rfl rfl rfl rfl (reads_all rfl rfl rfl hdl) (by omega) hcb | (apply call_gate 206; exact stp_callR hMx (by as_aux_lemma => kernel_rfl) rfl rfl ⟨rfl, trivial⟩ ⟨⟨_, rfl, .inr rfl⟩, trivial⟩ rfl rfl) | (apply call_gate 207; exact stp_callR hG (by as_aux_lemma => kernel_rfl) rfl rfl ⟨rfl, rfl, trivial⟩ trivial rfl rfl) | exact stp_quoN rfl rfl rfl hgp ht1 | exact stp_mul rfl rfl rfl hw); apply run_step rfl; (first | exact stp_appL (E := 2) rfl (by as_aux_lemma => kernel_rfl) rfl rfl rfl rfl rfl (reads_all rfl rfl rfl hdl) (by omega) hcb | (apply call_gate 206; exact stp_callR hMx (by as_aux_lemma => kernel_rfl) rfl rfl ⟨rfl, trivial⟩ ⟨⟨_, rfl, .inr rfl⟩, trivial⟩ rfl rfl) | (apply call_gate 207; exact stp_callR hG (by as_aux_lemma => kernel_rfl) rfl rfl ⟨rfl, rfl, trivial⟩ trivial rfl rfl) | exact stp_quoN rfl rfl rfl hgp ht1 | exact stp_mul rfl rfl rfl hw); apply run_step rfl; (exact stp_assign rfl rfl); refine run_nil ?_; refine fin_block ?_; refine fin_seq ?_; refine goes_region ?_; apply run_step rfl; (exact stp_add rfl rfl rfl (by first | exact IntWalk.i64_in _ (by omega) | rfl)); apply run_step rfl; (exact stp_move rfl rfl); refine run_nil ?_)
    exact fin_round (j + 1) ⟨by omega, hal' hne⟩ (by omega) (Wk.of ⟨congrArg (fun z : Nat => some (o1 (.sl 2200 0 z))) hcl1, rfl, rfl, rfl, rfl, trivial⟩ ⟨rfl, congrArg (fun z => some (leOw z)) hcat.symm, trivial⟩ trivial)
  · obtain rfl : j = N := by omega
    exact absurd (hfa.2 hal) hfn
end Go.Proofs.Ytnfkhgamnapgmaa
