/- The degrees of a component, the reference's: l12Either, l12Degrees, l12Affine. guards: -/
import Derived.Test.YtnfkhgamnapgmaaPart4
import Derived.Test.YtnfkhgamnapgmaaPart3
namespace Go.Proofs.Ytnfkhgamnapgmaa
open Go.RowKit

theorem rev_eq (a b : List Int) : (a.reverse == b) = (a == b.reverse) := by
  by_cases h : a.reverse = b
  · subst h; simp
  · have h2 : a ≠ b.reverse := fun e => h (by rw [e, List.reverse_reverse])
    rw [beq_eq_false_iff_ne.2 h, beq_eq_false_iff_ne.2 h2]
set_option maxRecDepth 100000 in
set_option maxHeartbeats 1000000 in
theorem eitherS_fc (zss : List (List Int)) (i m n : Nat) (labs list : List Int) (hi : i < zss.length) (hlb : lget zss i = labs) (hm : labs.length = m) (hn : list.length = n) (hm4 : m ≤ 1000000) (hn4 : n ≤ 1000000) :
    FC Try.prog 209 [(1000, rowsRo zss), (1001, wRo list)] [o1 (.esl 1000 i 0 m), o1 (.sl 1001 0 n)] [] (vv (.bool (eith labs list))) [] := by
  have hlen : (lget zss i).length = m := by rw [hlb]; exact hm
  have hS := sameR_fc zss i n 2 list hi hn (by omega) hn4
  have hT := turnedR_fc 10 zss i hi (by omega)
  rw [hlen, hlb] at hS hT
  have hS2 := (sameS_fc labs.reverse list m n (by simpa using hm) hn hm4 hn4).nm [(1000, 10), (1001, 1001)] (by kernel_rfl)
  have hS2 : FC Try.prog 226 [(10, wRo labs.reverse), (1001, wRo list)] [o1 (.sl 10 0 m), o1 (.sl 1001 0 n)] [] (vv (.bool (labs.reverse == list))) [] := hS2
  rw [rev_eq] at hS2
  refine fc_enter (nt := 14) Try.func209 rfl rfl (by simp) fun w0 ω0 => ?_
  (refine goes_seq ?_; refine goes_region ?_; apply run_step rfl; (exact stp_assign rfl rfl); refine run_nil ?_; refine fin_seq ?_; refine goes_seq ?_; refine goes_region ?_; apply run_step rfl; (exact stp_move rfl rfl); apply run_step rfl; (exact stp_move rfl rfl); apply run_step rfl; (apply call_gate 226; exact stp_callR hS (by as_aux_lemma => kernel_rfl) rfl rfl ⟨rfl, rfl, trivial⟩ ⟨⟨_, rfl, .inl rfl⟩, ⟨_, rfl, .inl rfl⟩, trivial⟩ rfl rfl); apply run_step rfl; (exact stp_move rfl rfl))
  refine run_bool 8 rfl (fun h1 => ?_) (fun h1 => ?_)
  · have hv : eith labs list = true := by unfold eith; rw [h1]; rfl
    rw [hv]
    (apply run_gNo rfl rfl rfl rfl rfl; apply run_gNo rfl rfl rfl rfl rfl; apply run_gNo rfl rfl rfl rfl rfl; apply run_gNo rfl rfl rfl rfl rfl; apply run_step rfl; (exact stp_pickT rfl rfl rfl); apply run_step rfl; (exact stp_assign rfl rfl); refine run_nil ?_; refine fin_seq ?_; refine goes_ret ?_)
    exact fin_ret1 (.inl rfl) rfl (.tmp rfl) trivial trivial
  · have hv : eith labs list = (labs == list.reverse) := by unfold eith; rw [h1]; rfl
    rw [hv]
    (apply run_gYes rfl rfl rfl; (exact stp_move rfl rfl); apply run_gYes rfl rfl rfl; (first | (apply call_gate 210; exact stp_callN hT (by as_aux_lemma => kernel_rfl) rfl rfl ⟨rfl, trivial⟩ ⟨⟨_, rfl, .inl rfl⟩, trivial⟩ rfl rfl rfl) | (apply call_gate 226; exact stp_callR hS2 (by as_aux_lemma => kernel_rfl) rfl rfl ⟨rfl, rfl, trivial⟩ ⟨⟨_, rfl, .inr rfl⟩, ⟨_, rfl, .inl rfl⟩, trivial⟩ rfl rfl)); apply run_gYes rfl rfl rfl; (exact stp_move rfl rfl); apply run_gYes rfl rfl rfl; (first | (apply call_gate 210; exact stp_callN hT (by as_aux_lemma => kernel_rfl) rfl rfl ⟨rfl, trivial⟩ ⟨⟨_, rfl, .inl rfl⟩, trivial⟩ rfl rfl rfl) | (apply call_gate 226; exact stp_callR hS2 (by as_aux_lemma => kernel_rfl) rfl rfl ⟨rfl, rfl, trivial⟩ ⟨⟨_, rfl, .inr rfl⟩, ⟨_, rfl, .inl rfl⟩, trivial⟩ rfl rfl)); apply run_step rfl; (exact stp_pickF rfl rfl rfl); apply run_step rfl; (exact stp_assign rfl rfl); refine run_nil ?_; refine fin_seq ?_; refine goes_ret ?_)
    exact fin_ret1 (.inl rfl) rfl (.tmp rfl) trivial trivial
set_option maxRecDepth 100000 in
set_option maxHeartbeats 2000000 in
theorem degS0_fc (zss : List (List Int)) (i m : Nat) (labs : List Int) (hi : i < zss.length) (hlb : lget zss i = labs) (hm : labs.length = m) (hm4 : m ≤ 4) (h0 : m = 0) :
    FC Try.prog 181 [(1000, rowsRo zss)] [o1 (.esl 1000 i 0 m)] [(15, leOw [2])] (o1 (.sl 15 0 1)) [] := by
  have hrow : (irows zss)[i]? = some (ivals labs) := by rw [← hlb]; exact irows_get hi
  have hilm : m ≤ (ivals labs).length := by rw [ivals_len, hm]; exact Nat.le_refl _
  refine fc_enter (nt := 97) Try.func181 rfl rfl (by simp) fun w0 ω0 => ?_
  have hw1 : IntKind.i64.wrap ((m : Int) + 1) = (m : Int) + 1 := IntWalk.i64_in _ (by omega)
  (refine goes_seq ?_; refine goes_region ?_; apply run_step rfl; (exact stp_assign rfl rfl); refine run_nil ?_; refine fin_seq ?_; refine goes_seq ?_; refine goes_region ?_; apply run_step rfl; (exact stp_move rfl rfl); apply run_step rfl; (exact stp_len rfl rfl rfl (by as_aux_lemma => kernel_rfl)); apply run_step rfl; (exact stp_add rfl rfl rfl hw1); apply run_step rfl; (exact stp_assign rfl rfl); refine run_nil ?_; refine fin_seq ?_; refine goes_seq ?_; refine goes_block ?_; refine goes_seq ?_; refine goes_region ?_; apply run_step rfl; (exact stp_move rfl rfl); apply run_step rfl; (exact stp_bin rfl rfl rfl rfl); apply run_step rfl; (exact stp_assign rfl rfl); refine run_nil ?_; refine fin_seq ?_)
  refine goes_cond rfl (fun _ => ?_) (fun e => ?_)
  · (refine goes_seq ?_; refine goes_region ?_; apply run_step rfl; (exact stp_lit1I (E := 2) rfl (by as_aux_lemma => kernel_rfl) rfl); apply run_step rfl; (exact stp_assign rfl rfl); refine run_nil ?_; refine fin_seq ?_; refine goes_ret ?_; refine fin_ret_block ?_; refine fin_ret_then ?_)
    exact fin_ret1 (.inl rfl) rfl (.tmp rfl) ⟨rfl, trivial⟩ trivial
  · exfalso; simp at e; omega
set_option maxRecDepth 100000 in
set_option maxHeartbeats 2000000 in
theorem degS1_fc (zss : List (List Int)) (i m : Nat) (labs : List Int) (hi : i < zss.length) (hlb : lget zss i = labs) (hm : labs.length = m) (hm4 : m ≤ 4) (h0 : m = 1) (hp : 0 < iget labs 0) :
    FC Try.prog 181 [(1000, rowsRo zss)] [o1 (.esl 1000 i 0 m)] [(28, leOw [2, iget labs 0])] (o1 (.sl 28 0 2)) [] := by
  have hrow : (irows zss)[i]? = some (ivals labs) := by rw [← hlb]; exact irows_get hi
  have hilm : m ≤ (ivals labs).length := by rw [ivals_len, hm]; exact Nat.le_refl _
  refine fc_enter (nt := 97) Try.func181 rfl rfl (by simp) fun w0 ω0 => ?_
  have hgl : (ivals labs)[0]? = some (I6 (iget labs 0)) := ivals_get (by omega)
  have hw1 : IntKind.i64.wrap ((m : Int) + 1) = (m : Int) + 1 := IntWalk.i64_in _ (by omega)
  (refine goes_seq ?_; refine goes_region ?_; apply run_step rfl; (exact stp_assign rfl rfl); refine run_nil ?_; refine fin_seq ?_; refine goes_seq ?_; refine goes_region ?_; apply run_step rfl; (exact stp_move rfl rfl); apply run_step rfl; (exact stp_len rfl rfl rfl (by as_aux_lemma => kernel_rfl)); apply run_step rfl; (exact stp_add rfl rfl rfl hw1); apply run_step rfl; (exact stp_assign rfl rfl); refine run_nil ?_; refine fin_seq ?_; refine goes_seq ?_; refine goes_block ?_; refine goes_seq ?_; refine goes_region ?_; apply run_step rfl; (exact stp_move rfl rfl); apply run_step rfl; (exact stp_bin rfl rfl rfl rfl); apply run_step rfl; (exact stp_assign rfl rfl); refine run_nil ?_; refine fin_seq ?_)
  refine goes_cond rfl (fun e => ?_) (fun _ => ?_)
  · exfalso; simp at e; omega
  (refine goes_seq ?_; refine goes_region ?_; apply run_step rfl; (exact stp_move rfl rfl); apply run_step rfl; (exact stp_bin rfl rfl rfl rfl); apply run_step rfl; (exact stp_move rfl rfl))
  refine run_bool 19 rfl (fun _ => ?_) (fun e => ?_)
  · (apply run_gYes rfl rfl rfl; (exact stp_move rfl rfl); apply run_gYes rfl rfl rfl; (first | exact stp_ixE (j := 0) rfl rfl rfl rfl rfl (by as_aux_lemma => kernel_rfl) hrow rfl (by omega) hilm | exact stp_loadE' rfl (by as_aux_lemma => kernel_rfl) rfl rfl rfl hrow hgl); apply run_gYes rfl rfl rfl; (first | exact stp_ixE (j := 0) rfl rfl rfl rfl rfl (by as_aux_lemma => kernel_rfl) hrow rfl (by omega) hilm | exact stp_loadE' rfl (by as_aux_lemma => kernel_rfl) rfl rfl rfl hrow hgl); apply run_gYes rfl rfl rfl; (exact stp_bin rfl rfl rfl rfl); apply run_step rfl; (exact stp_pickT rfl rfl rfl); apply run_step rfl; (exact stp_assign rfl rfl); refine run_nil ?_; refine fin_seq ?_)
    refine goes_cond rfl (fun _ => ?_) (fun e => ?_)
    · (refine goes_seq ?_; refine goes_region ?_; apply run_step rfl; (exact stp_move rfl rfl); apply run_step rfl; (first | exact stp_ixE (j := 0) rfl rfl rfl rfl rfl (by as_aux_lemma => kernel_rfl) hrow rfl (by omega) hilm | exact stp_loadE' rfl (by as_aux_lemma => kernel_rfl) rfl rfl rfl hrow hgl); apply run_step rfl; (first | exact stp_ixE (j := 0) rfl rfl rfl rfl rfl (by as_aux_lemma => kernel_rfl) hrow rfl (by omega) hilm | exact stp_loadE' rfl (by as_aux_lemma => kernel_rfl) rfl rfl rfl hrow hgl); apply run_step rfl; (exact stp_lit2I (E := 2) rfl (by as_aux_lemma => kernel_rfl) rfl rfl); apply run_step rfl; (exact stp_assign rfl rfl); refine run_nil ?_; refine fin_seq ?_; refine goes_ret ?_; refine fin_ret_block ?_; refine fin_ret_then ?_)
      exact fin_ret1 (.inl rfl) rfl (.tmp rfl) ⟨rfl, trivial⟩ trivial
    · exfalso; simp at e; omega
  · exfalso; simp at e; omega
set_option maxRecDepth 100000 in
set_option maxHeartbeats 2000000 in
theorem degS2_fc (zss : List (List Int)) (i m : Nat) (labs : List Int) (hi : i < zss.length) (hlb : lget zss i = labs) (hm : labs.length = m) (hm4 : m ≤ 4) (h0 : 0 < m) (hq : ¬ (m = 1 ∧ 0 < iget labs 0)) (e1 : eith labs [3, 5] = true) :
    FC Try.prog 181 [(1000, rowsRo zss)] [o1 (.esl 1000 i 0 m)] [(33, leOw [2, 6, 10])] (o1 (.sl 33 0 3)) [] := by
  have hrow : (irows zss)[i]? = some (ivals labs) := by rw [← hlb]; exact irows_get hi
  have hilm : m ≤ (ivals labs).length := by rw [ivals_len, hm]; exact Nat.le_refl _
  have hE1 := (eitherS_fc zss i m 2 labs [3, 5] hi hlb hm rfl (by omega) (by omega)).nm [(1000, 1000), (1001, 31)] (by kernel_rfl)
  have hE1 : FC Try.prog 209 [(1000, rowsRo zss), (31, wRo [3, 5])] [o1 (.esl 1000 i 0 m), o1 (.sl 31 0 2)] [] (vv (.bool (eith labs [3, 5]))) [] := hE1
  rw [e1] at hE1
  refine fc_enter (nt := 97) Try.func181 rfl rfl (by simp) fun w0 ω0 => ?_
  have hw1 : IntKind.i64.wrap ((m : Int) + 1) = (m : Int) + 1 := IntWalk.i64_in _ (by omega)
  (refine goes_seq ?_; refine goes_region ?_; apply run_step rfl; (exact stp_assign rfl rfl); refine run_nil ?_; refine fin_seq ?_; refine goes_seq ?_; refine goes_region ?_; apply run_step rfl; (exact stp_move rfl rfl); apply run_step rfl; (exact stp_len rfl rfl rfl (by as_aux_lemma => kernel_rfl)); apply run_step rfl; (exact stp_add rfl rfl rfl hw1); apply run_step rfl; (exact stp_assign rfl rfl); refine run_nil ?_; refine fin_seq ?_; refine goes_seq ?_; refine goes_block ?_; refine goes_seq ?_; refine goes_region ?_; apply run_step rfl; (exact stp_move rfl rfl); apply run_step rfl; (exact stp_bin rfl rfl rfl rfl); apply run_step rfl; (exact stp_assign rfl rfl); refine run_nil ?_; refine fin_seq ?_)
  refine goes_cond rfl (fun e => ?_) (fun _ => ?_)
  · exfalso; simp at e; omega
  (repeat (first | refine goes_seq ?_ | refine fin_seq ?_ | refine goes_skip ?_ | refine goes_block ?_ | refine fin_block ?_ | refine goes_exit ?_ | refine fin_exit_eq ?_ | refine fin_exit_ne rfl ?_ | refine fin_exit_then ?_))
  refine goes_cut (St.of [(0, o1 (.esl 1000 i 0 m)), (3, vv (I6 ((m : Int) + 1))), (16, vv (.bool false))] [(1000, rowsRo zss)]) ?_ ?_
  · refine goes_region ?_
    (apply run_step rfl; (exact stp_move rfl rfl); apply run_step rfl; (exact stp_bin rfl rfl rfl rfl); apply run_step rfl; (exact stp_move rfl rfl))
    refine run_bool 19 rfl (fun e1 => ?_) (fun e1 => ?_)
    · have e1 : m = 1 := by simp at e1; omega
      have hg2 : ¬ iget labs 0 > 0 := fun h => hq ⟨e1, h⟩
      have hgl : (ivals labs)[0]? = some (I6 (iget labs 0)) := ivals_get (by omega)
      have hbf : binI .i64 .gtr (iget labs 0) 0 = some (.bool false) := by simp [binI]; omega
      (apply run_gYes rfl rfl rfl; (exact stp_move rfl rfl); apply run_gYes rfl rfl rfl; (first | exact stp_bin rfl rfl rfl hbf | exact stp_ixE (j := 0) rfl rfl rfl rfl rfl (by as_aux_lemma => kernel_rfl) hrow rfl (by omega) hilm | exact stp_loadE' rfl (by as_aux_lemma => kernel_rfl) rfl rfl rfl hrow hgl); apply run_gYes rfl rfl rfl; (first | exact stp_bin rfl rfl rfl hbf | exact stp_ixE (j := 0) rfl rfl rfl rfl rfl (by as_aux_lemma => kernel_rfl) hrow rfl (by omega) hilm | exact stp_loadE' rfl (by as_aux_lemma => kernel_rfl) rfl rfl rfl hrow hgl); apply run_gYes rfl rfl rfl; (first | exact stp_bin rfl rfl rfl hbf | exact stp_ixE (j := 0) rfl rfl rfl rfl rfl (by as_aux_lemma => kernel_rfl) hrow rfl (by omega) hilm | exact stp_loadE' rfl (by as_aux_lemma => kernel_rfl) rfl rfl rfl hrow hgl); apply run_step rfl; (exact stp_pickT rfl rfl rfl); apply run_step rfl; (exact stp_assign rfl rfl); refine run_nil ?_)
      exact fin_join (Wk.of ⟨rfl, rfl, rfl, trivial⟩ ⟨rfl, trivial⟩ trivial)
    · (apply run_gNo rfl rfl rfl rfl rfl; apply run_gNo rfl rfl rfl rfl rfl; apply run_gNo rfl rfl rfl rfl rfl; apply run_gNo rfl rfl rfl rfl rfl; apply run_step rfl; (exact stp_pickF rfl rfl rfl); apply run_step rfl; (exact stp_assign rfl rfl); refine run_nil ?_)
      exact fin_join (Wk.of ⟨rfl, rfl, rfl, trivial⟩ ⟨rfl, trivial⟩ trivial)
  (refine fin_seq ?_)
  refine goes_cond rfl (fun e => by cases e) (fun _ => ?_)
  (refine goes_seq ?_; refine goes_region ?_; apply run_step rfl; (exact stp_move rfl rfl); apply run_step rfl; (exact stp_lit2I (E := 2) rfl (by as_aux_lemma => kernel_rfl) rfl rfl); apply run_step rfl; (first | (apply call_gate 209; exact stp_callR hE1 (by as_aux_lemma => kernel_rfl) rfl rfl ⟨rfl, rfl, trivial⟩ ⟨⟨_, rfl, .inl rfl⟩, ⟨_, rfl, .inr rfl⟩, trivial⟩ rfl rfl) | exact stp_lit3I (E := 2) rfl (by as_aux_lemma => kernel_rfl) rfl rfl rfl | exact stp_lit4I (E := 2) rfl (by as_aux_lemma => kernel_rfl) rfl rfl rfl rfl); apply run_step rfl; (exact stp_assign rfl rfl); refine run_nil ?_; refine fin_seq ?_)
  refine goes_cond rfl (fun _ => ?_) (fun e => by cases e)
  (refine goes_seq ?_; refine goes_region ?_; apply run_step rfl; (first | exact stp_lit3I (E := 2) rfl (by as_aux_lemma => kernel_rfl) rfl rfl rfl | exact stp_lit4I (E := 2) rfl (by as_aux_lemma => kernel_rfl) rfl rfl rfl rfl); apply run_step rfl; (exact stp_assign rfl rfl); refine run_nil ?_; refine fin_seq ?_; refine goes_ret ?_; refine fin_ret_block ?_; refine fin_ret_then ?_)
  exact fin_ret1 (.inl rfl) rfl (.tmp rfl) ⟨rfl, trivial⟩ trivial
set_option maxRecDepth 100000 in
set_option maxHeartbeats 2000000 in
theorem degS3_fc (zss : List (List Int)) (i m : Nat) (labs : List Int) (hi : i < zss.length) (hlb : lget zss i = labs) (hm : labs.length = m) (hm4 : m ≤ 4) (h0 : 0 < m) (hq : ¬ (m = 1 ∧ 0 < iget labs 0)) (e1 : eith labs [3, 5] = false) (e2 : eith labs [3, 3, 5] = true) :
    FC Try.prog 181 [(1000, rowsRo zss)] [o1 (.esl 1000 i 0 m)] [(38, leOw [2, 12, 20, 30])] (o1 (.sl 38 0 4)) [] := by
  have hrow : (irows zss)[i]? = some (ivals labs) := by rw [← hlb]; exact irows_get hi
  have hilm : m ≤ (ivals labs).length := by rw [ivals_len, hm]; exact Nat.le_refl _
  have hE1 := (eitherS_fc zss i m 2 labs [3, 5] hi hlb hm rfl (by omega) (by omega)).nm [(1000, 1000), (1001, 31)] (by kernel_rfl)
  have hE1 : FC Try.prog 209 [(1000, rowsRo zss), (31, wRo [3, 5])] [o1 (.esl 1000 i 0 m), o1 (.sl 31 0 2)] [] (vv (.bool (eith labs [3, 5]))) [] := hE1
  rw [e1] at hE1
  have hE2 := (eitherS_fc zss i m 3 labs [3, 3, 5] hi hlb hm rfl (by omega) (by omega)).nm [(1000, 1000), (1001, 36)] (by kernel_rfl)
  have hE2 : FC Try.prog 209 [(1000, rowsRo zss), (36, wRo [3, 3, 5])] [o1 (.esl 1000 i 0 m), o1 (.sl 36 0 3)] [] (vv (.bool (eith labs [3, 3, 5]))) [] := hE2
  rw [e2] at hE2
  refine fc_enter (nt := 97) Try.func181 rfl rfl (by simp) fun w0 ω0 => ?_
  have hw1 : IntKind.i64.wrap ((m : Int) + 1) = (m : Int) + 1 := IntWalk.i64_in _ (by omega)
  (refine goes_seq ?_; refine goes_region ?_; apply run_step rfl; (exact stp_assign rfl rfl); refine run_nil ?_; refine fin_seq ?_; refine goes_seq ?_; refine goes_region ?_; apply run_step rfl; (exact stp_move rfl rfl); apply run_step rfl; (exact stp_len rfl rfl rfl (by as_aux_lemma => kernel_rfl)); apply run_step rfl; (exact stp_add rfl rfl rfl hw1); apply run_step rfl; (exact stp_assign rfl rfl); refine run_nil ?_; refine fin_seq ?_; refine goes_seq ?_; refine goes_block ?_; refine goes_seq ?_; refine goes_region ?_; apply run_step rfl; (exact stp_move rfl rfl); apply run_step rfl; (exact stp_bin rfl rfl rfl rfl); apply run_step rfl; (exact stp_assign rfl rfl); refine run_nil ?_; refine fin_seq ?_)
  refine goes_cond rfl (fun e => ?_) (fun _ => ?_)
  · exfalso; simp at e; omega
  (repeat (first | refine goes_seq ?_ | refine fin_seq ?_ | refine goes_skip ?_ | refine goes_block ?_ | refine fin_block ?_ | refine goes_exit ?_ | refine fin_exit_eq ?_ | refine fin_exit_ne rfl ?_ | refine fin_exit_then ?_))
  refine goes_cut (St.of [(0, o1 (.esl 1000 i 0 m)), (3, vv (I6 ((m : Int) + 1))), (16, vv (.bool false))] [(1000, rowsRo zss)]) ?_ ?_
  · refine goes_region ?_
    (apply run_step rfl; (exact stp_move rfl rfl); apply run_step rfl; (exact stp_bin rfl rfl rfl rfl); apply run_step rfl; (exact stp_move rfl rfl))
    refine run_bool 19 rfl (fun e1 => ?_) (fun e1 => ?_)
    · have e1 : m = 1 := by simp at e1; omega
      have hg2 : ¬ iget labs 0 > 0 := fun h => hq ⟨e1, h⟩
      have hgl : (ivals labs)[0]? = some (I6 (iget labs 0)) := ivals_get (by omega)
      have hbf : binI .i64 .gtr (iget labs 0) 0 = some (.bool false) := by simp [binI]; omega
      (apply run_gYes rfl rfl rfl; (exact stp_move rfl rfl); apply run_gYes rfl rfl rfl; (first | exact stp_bin rfl rfl rfl hbf | exact stp_ixE (j := 0) rfl rfl rfl rfl rfl (by as_aux_lemma => kernel_rfl) hrow rfl (by omega) hilm | exact stp_loadE' rfl (by as_aux_lemma => kernel_rfl) rfl rfl rfl hrow hgl); apply run_gYes rfl rfl rfl; (first | exact stp_bin rfl rfl rfl hbf | exact stp_ixE (j := 0) rfl rfl rfl rfl rfl (by as_aux_lemma => kernel_rfl) hrow rfl (by omega) hilm | exact stp_loadE' rfl (by as_aux_lemma => kernel_rfl) rfl rfl rfl hrow hgl); apply run_gYes rfl rfl rfl; (first | exact stp_bin rfl rfl rfl hbf | exact stp_ixE (j := 0) rfl rfl rfl rfl rfl (by as_aux_lemma => kernel_rfl) hrow rfl (by omega) hilm | exact stp_loadE' rfl (by as_aux_lemma => kernel_rfl) rfl rfl rfl hrow hgl); apply run_step rfl; (exact stp_pickT rfl rfl rfl); apply run_step rfl; (exact stp_assign rfl rfl); refine run_nil ?_)
      exact fin_join (Wk.of ⟨rfl, rfl, rfl, trivial⟩ ⟨rfl, trivial⟩ trivial)
    · (apply run_gNo rfl rfl rfl rfl rfl; apply run_gNo rfl rfl rfl rfl rfl; apply run_gNo rfl rfl rfl rfl rfl; apply run_gNo rfl rfl rfl rfl rfl; apply run_step rfl; (exact stp_pickF rfl rfl rfl); apply run_step rfl; (exact stp_assign rfl rfl); refine run_nil ?_)
      exact fin_join (Wk.of ⟨rfl, rfl, rfl, trivial⟩ ⟨rfl, trivial⟩ trivial)
  (refine fin_seq ?_)
  refine goes_cond rfl (fun e => by cases e) (fun _ => ?_)
  (refine goes_seq ?_; refine goes_region ?_; apply run_step rfl; (exact stp_move rfl rfl); apply run_step rfl; (exact stp_lit2I (E := 2) rfl (by as_aux_lemma => kernel_rfl) rfl rfl); apply run_step rfl; (first | (apply call_gate 209; exact stp_callR hE1 (by as_aux_lemma => kernel_rfl) rfl rfl ⟨rfl, rfl, trivial⟩ ⟨⟨_, rfl, .inl rfl⟩, ⟨_, rfl, .inr rfl⟩, trivial⟩ rfl rfl) | exact stp_lit3I (E := 2) rfl (by as_aux_lemma => kernel_rfl) rfl rfl rfl | exact stp_lit4I (E := 2) rfl (by as_aux_lemma => kernel_rfl) rfl rfl rfl rfl); apply run_step rfl; (exact stp_assign rfl rfl); refine run_nil ?_; refine fin_seq ?_)
  refine goes_cond rfl (fun e => by cases e) (fun _ => ?_)
  (refine goes_seq ?_; refine goes_region ?_; apply run_step rfl; (exact stp_move rfl rfl); apply run_step rfl; (first | (apply call_gate 209; exact stp_callR hE2 (by as_aux_lemma => kernel_rfl) rfl rfl ⟨rfl, rfl, trivial⟩ ⟨⟨_, rfl, .inl rfl⟩, ⟨_, rfl, .inr rfl⟩, trivial⟩ rfl rfl) | exact stp_lit3I (E := 2) rfl (by as_aux_lemma => kernel_rfl) rfl rfl rfl | exact stp_lit4I (E := 2) rfl (by as_aux_lemma => kernel_rfl) rfl rfl rfl rfl); apply run_step rfl; (first | (apply call_gate 209; exact stp_callR hE2 (by as_aux_lemma => kernel_rfl) rfl rfl ⟨rfl, rfl, trivial⟩ ⟨⟨_, rfl, .inl rfl⟩, ⟨_, rfl, .inr rfl⟩, trivial⟩ rfl rfl) | exact stp_lit3I (E := 2) rfl (by as_aux_lemma => kernel_rfl) rfl rfl rfl | exact stp_lit4I (E := 2) rfl (by as_aux_lemma => kernel_rfl) rfl rfl rfl rfl); apply run_step rfl; (exact stp_assign rfl rfl); refine run_nil ?_; refine fin_seq ?_)
  refine goes_cond rfl (fun _ => ?_) (fun e => by cases e)
  (refine goes_seq ?_; refine goes_region ?_; apply run_step rfl; (first | exact stp_lit3I (E := 2) rfl (by as_aux_lemma => kernel_rfl) rfl rfl rfl | exact stp_lit4I (E := 2) rfl (by as_aux_lemma => kernel_rfl) rfl rfl rfl rfl); apply run_step rfl; (exact stp_assign rfl rfl); refine run_nil ?_; refine fin_seq ?_; refine goes_ret ?_; refine fin_ret_block ?_; refine fin_ret_then ?_)
  exact fin_ret1 (.inl rfl) rfl (.tmp rfl) ⟨rfl, trivial⟩ trivial
set_option maxRecDepth 100000 in
set_option maxHeartbeats 2000000 in
theorem degS4_fc (zss : List (List Int)) (i m : Nat) (labs : List Int) (hi : i < zss.length) (hlb : lget zss i = labs) (hm : labs.length = m) (hm4 : m ≤ 4) (h0 : 0 < m) (hq : ¬ (m = 1 ∧ 0 < iget labs 0)) (e1 : eith labs [3, 5] = false) (e2 : eith labs [3, 3, 5] = false) (e3 : eith labs [3, 4, 3] = true) :
    FC Try.prog 181 [(1000, rowsRo zss)] [o1 (.esl 1000 i 0 m)] [(43, leOw [2, 6, 8, 12])] (o1 (.sl 43 0 4)) [] := by
  have hrow : (irows zss)[i]? = some (ivals labs) := by rw [← hlb]; exact irows_get hi
  have hilm : m ≤ (ivals labs).length := by rw [ivals_len, hm]; exact Nat.le_refl _
  have hE1 := (eitherS_fc zss i m 2 labs [3, 5] hi hlb hm rfl (by omega) (by omega)).nm [(1000, 1000), (1001, 31)] (by kernel_rfl)
  have hE1 : FC Try.prog 209 [(1000, rowsRo zss), (31, wRo [3, 5])] [o1 (.esl 1000 i 0 m), o1 (.sl 31 0 2)] [] (vv (.bool (eith labs [3, 5]))) [] := hE1
  rw [e1] at hE1
  have hE2 := (eitherS_fc zss i m 3 labs [3, 3, 5] hi hlb hm rfl (by omega) (by omega)).nm [(1000, 1000), (1001, 36)] (by kernel_rfl)
  have hE2 : FC Try.prog 209 [(1000, rowsRo zss), (36, wRo [3, 3, 5])] [o1 (.esl 1000 i 0 m), o1 (.sl 36 0 3)] [] (vv (.bool (eith labs [3, 3, 5]))) [] := hE2
  rw [e2] at hE2
  have hE3 := (eitherS_fc zss i m 3 labs [3, 4, 3] hi hlb hm rfl (by omega) (by omega)).nm [(1000, 1000), (1001, 41)] (by kernel_rfl)
  have hE3 : FC Try.prog 209 [(1000, rowsRo zss), (41, wRo [3, 4, 3])] [o1 (.esl 1000 i 0 m), o1 (.sl 41 0 3)] [] (vv (.bool (eith labs [3, 4, 3]))) [] := hE3
  rw [e3] at hE3
  refine fc_enter (nt := 97) Try.func181 rfl rfl (by simp) fun w0 ω0 => ?_
  have hw1 : IntKind.i64.wrap ((m : Int) + 1) = (m : Int) + 1 := IntWalk.i64_in _ (by omega)
  (refine goes_seq ?_; refine goes_region ?_; apply run_step rfl; (exact stp_assign rfl rfl); refine run_nil ?_; refine fin_seq ?_; refine goes_seq ?_; refine goes_region ?_; apply run_step rfl; (exact stp_move rfl rfl); apply run_step rfl; (exact stp_len rfl rfl rfl (by as_aux_lemma => kernel_rfl)); apply run_step rfl; (exact stp_add rfl rfl rfl hw1); apply run_step rfl; (exact stp_assign rfl rfl); refine run_nil ?_; refine fin_seq ?_; refine goes_seq ?_; refine goes_block ?_; refine goes_seq ?_; refine goes_region ?_; apply run_step rfl; (exact stp_move rfl rfl); apply run_step rfl; (exact stp_bin rfl rfl rfl rfl); apply run_step rfl; (exact stp_assign rfl rfl); refine run_nil ?_; refine fin_seq ?_)
  refine goes_cond rfl (fun e => ?_) (fun _ => ?_)
  · exfalso; simp at e; omega
  (repeat (first | refine goes_seq ?_ | refine fin_seq ?_ | refine goes_skip ?_ | refine goes_block ?_ | refine fin_block ?_ | refine goes_exit ?_ | refine fin_exit_eq ?_ | refine fin_exit_ne rfl ?_ | refine fin_exit_then ?_))
  refine goes_cut (St.of [(0, o1 (.esl 1000 i 0 m)), (3, vv (I6 ((m : Int) + 1))), (16, vv (.bool false))] [(1000, rowsRo zss)]) ?_ ?_
  · refine goes_region ?_
    (apply run_step rfl; (exact stp_move rfl rfl); apply run_step rfl; (exact stp_bin rfl rfl rfl rfl); apply run_step rfl; (exact stp_move rfl rfl))
    refine run_bool 19 rfl (fun e1 => ?_) (fun e1 => ?_)
    · have e1 : m = 1 := by simp at e1; omega
      have hg2 : ¬ iget labs 0 > 0 := fun h => hq ⟨e1, h⟩
      have hgl : (ivals labs)[0]? = some (I6 (iget labs 0)) := ivals_get (by omega)
      have hbf : binI .i64 .gtr (iget labs 0) 0 = some (.bool false) := by simp [binI]; omega
      (apply run_gYes rfl rfl rfl; (exact stp_move rfl rfl); apply run_gYes rfl rfl rfl; (first | exact stp_bin rfl rfl rfl hbf | exact stp_ixE (j := 0) rfl rfl rfl rfl rfl (by as_aux_lemma => kernel_rfl) hrow rfl (by omega) hilm | exact stp_loadE' rfl (by as_aux_lemma => kernel_rfl) rfl rfl rfl hrow hgl); apply run_gYes rfl rfl rfl; (first | exact stp_bin rfl rfl rfl hbf | exact stp_ixE (j := 0) rfl rfl rfl rfl rfl (by as_aux_lemma => kernel_rfl) hrow rfl (by omega) hilm | exact stp_loadE' rfl (by as_aux_lemma => kernel_rfl) rfl rfl rfl hrow hgl); apply run_gYes rfl rfl rfl; (first | exact stp_bin rfl rfl rfl hbf | exact stp_ixE (j := 0) rfl rfl rfl rfl rfl (by as_aux_lemma => kernel_rfl) hrow rfl (by omega) hilm | exact stp_loadE' rfl (by as_aux_lemma => kernel_rfl) rfl rfl rfl hrow hgl); apply run_step rfl; (exact stp_pickT rfl rfl rfl); apply run_step rfl; (exact stp_assign rfl rfl); refine run_nil ?_)
      exact fin_join (Wk.of ⟨rfl, rfl, rfl, trivial⟩ ⟨rfl, trivial⟩ trivial)
    · (apply run_gNo rfl rfl rfl rfl rfl; apply run_gNo rfl rfl rfl rfl rfl; apply run_gNo rfl rfl rfl rfl rfl; apply run_gNo rfl rfl rfl rfl rfl; apply run_step rfl; (exact stp_pickF rfl rfl rfl); apply run_step rfl; (exact stp_assign rfl rfl); refine run_nil ?_)
      exact fin_join (Wk.of ⟨rfl, rfl, rfl, trivial⟩ ⟨rfl, trivial⟩ trivial)
  (refine fin_seq ?_)
  refine goes_cond rfl (fun e => by cases e) (fun _ => ?_)
  (refine goes_seq ?_; refine goes_region ?_; apply run_step rfl; (exact stp_move rfl rfl); apply run_step rfl; (exact stp_lit2I (E := 2) rfl (by as_aux_lemma => kernel_rfl) rfl rfl); apply run_step rfl; (first | (apply call_gate 209; exact stp_callR hE1 (by as_aux_lemma => kernel_rfl) rfl rfl ⟨rfl, rfl, trivial⟩ ⟨⟨_, rfl, .inl rfl⟩, ⟨_, rfl, .inr rfl⟩, trivial⟩ rfl rfl) | exact stp_lit3I (E := 2) rfl (by as_aux_lemma => kernel_rfl) rfl rfl rfl | exact stp_lit4I (E := 2) rfl (by as_aux_lemma => kernel_rfl) rfl rfl rfl rfl); apply run_step rfl; (exact stp_assign rfl rfl); refine run_nil ?_; refine fin_seq ?_)
  refine goes_cond rfl (fun e => by cases e) (fun _ => ?_)
  (refine goes_seq ?_; refine goes_region ?_; apply run_step rfl; (exact stp_move rfl rfl); apply run_step rfl; (first | (apply call_gate 209; exact stp_callR hE2 (by as_aux_lemma => kernel_rfl) rfl rfl ⟨rfl, rfl, trivial⟩ ⟨⟨_, rfl, .inl rfl⟩, ⟨_, rfl, .inr rfl⟩, trivial⟩ rfl rfl) | exact stp_lit3I (E := 2) rfl (by as_aux_lemma => kernel_rfl) rfl rfl rfl | exact stp_lit4I (E := 2) rfl (by as_aux_lemma => kernel_rfl) rfl rfl rfl rfl); apply run_step rfl; (first | (apply call_gate 209; exact stp_callR hE2 (by as_aux_lemma => kernel_rfl) rfl rfl ⟨rfl, rfl, trivial⟩ ⟨⟨_, rfl, .inl rfl⟩, ⟨_, rfl, .inr rfl⟩, trivial⟩ rfl rfl) | exact stp_lit3I (E := 2) rfl (by as_aux_lemma => kernel_rfl) rfl rfl rfl | exact stp_lit4I (E := 2) rfl (by as_aux_lemma => kernel_rfl) rfl rfl rfl rfl); apply run_step rfl; (exact stp_assign rfl rfl); refine run_nil ?_; refine fin_seq ?_)
  refine goes_cond rfl (fun e => by cases e) (fun _ => ?_)
  (refine goes_seq ?_; refine goes_region ?_; apply run_step rfl; (exact stp_move rfl rfl); apply run_step rfl; (first | (apply call_gate 209; exact stp_callR hE3 (by as_aux_lemma => kernel_rfl) rfl rfl ⟨rfl, rfl, trivial⟩ ⟨⟨_, rfl, .inl rfl⟩, ⟨_, rfl, .inr rfl⟩, trivial⟩ rfl rfl) | exact stp_lit3I (E := 2) rfl (by as_aux_lemma => kernel_rfl) rfl rfl rfl | exact stp_lit4I (E := 2) rfl (by as_aux_lemma => kernel_rfl) rfl rfl rfl rfl); apply run_step rfl; (first | (apply call_gate 209; exact stp_callR hE3 (by as_aux_lemma => kernel_rfl) rfl rfl ⟨rfl, rfl, trivial⟩ ⟨⟨_, rfl, .inl rfl⟩, ⟨_, rfl, .inr rfl⟩, trivial⟩ rfl rfl) | exact stp_lit3I (E := 2) rfl (by as_aux_lemma => kernel_rfl) rfl rfl rfl | exact stp_lit4I (E := 2) rfl (by as_aux_lemma => kernel_rfl) rfl rfl rfl rfl); apply run_step rfl; (exact stp_assign rfl rfl); refine run_nil ?_; refine fin_seq ?_)
  refine goes_cond rfl (fun _ => ?_) (fun e => by cases e)
  (refine goes_seq ?_; refine goes_region ?_; apply run_step rfl; (first | exact stp_lit3I (E := 2) rfl (by as_aux_lemma => kernel_rfl) rfl rfl rfl | exact stp_lit4I (E := 2) rfl (by as_aux_lemma => kernel_rfl) rfl rfl rfl rfl); apply run_step rfl; (exact stp_assign rfl rfl); refine run_nil ?_; refine fin_seq ?_; refine goes_ret ?_; refine fin_ret_block ?_; refine fin_ret_then ?_)
  exact fin_ret1 (.inl rfl) rfl (.tmp rfl) ⟨rfl, trivial⟩ trivial
set_option maxRecDepth 100000 in
set_option maxHeartbeats 2000000 in
theorem degS5_fc (zss : List (List Int)) (i m : Nat) (labs : List Int) (hi : i < zss.length) (hlb : lget zss i = labs) (hm : labs.length = m) (hm4 : m ≤ 4) (h0 : 0 < m) (hq : ¬ (m = 1 ∧ 0 < iget labs 0)) (e1 : eith labs [3, 5] = false) (e2 : eith labs [3, 3, 5] = false) (e3 : eith labs [3, 4, 3] = false) (h1 : m = 1) :
    FC Try.prog 181 [(1000, rowsRo zss)] [o1 (.esl 1000 i 0 m)] [] (vv (.slice none 0 0)) [] := by
  have hrow : (irows zss)[i]? = some (ivals labs) := by rw [← hlb]; exact irows_get hi
  have hilm : m ≤ (ivals labs).length := by rw [ivals_len, hm]; exact Nat.le_refl _
  have hE1 := (eitherS_fc zss i m 2 labs [3, 5] hi hlb hm rfl (by omega) (by omega)).nm [(1000, 1000), (1001, 31)] (by kernel_rfl)
  have hE1 : FC Try.prog 209 [(1000, rowsRo zss), (31, wRo [3, 5])] [o1 (.esl 1000 i 0 m), o1 (.sl 31 0 2)] [] (vv (.bool (eith labs [3, 5]))) [] := hE1
  rw [e1] at hE1
  have hE2 := (eitherS_fc zss i m 3 labs [3, 3, 5] hi hlb hm rfl (by omega) (by omega)).nm [(1000, 1000), (1001, 36)] (by kernel_rfl)
  have hE2 : FC Try.prog 209 [(1000, rowsRo zss), (36, wRo [3, 3, 5])] [o1 (.esl 1000 i 0 m), o1 (.sl 36 0 3)] [] (vv (.bool (eith labs [3, 3, 5]))) [] := hE2
  rw [e2] at hE2
  have hE3 := (eitherS_fc zss i m 3 labs [3, 4, 3] hi hlb hm rfl (by omega) (by omega)).nm [(1000, 1000), (1001, 41)] (by kernel_rfl)
  have hE3 : FC Try.prog 209 [(1000, rowsRo zss), (41, wRo [3, 4, 3])] [o1 (.esl 1000 i 0 m), o1 (.sl 41 0 3)] [] (vv (.bool (eith labs [3, 4, 3]))) [] := hE3
  rw [e3] at hE3
  refine fc_enter (nt := 97) Try.func181 rfl rfl (by simp) fun w0 ω0 => ?_
  have hw1 : IntKind.i64.wrap ((m : Int) + 1) = (m : Int) + 1 := IntWalk.i64_in _ (by omega)
  (refine goes_seq ?_; refine goes_region ?_; apply run_step rfl; (exact stp_assign rfl rfl); refine run_nil ?_; refine fin_seq ?_; refine goes_seq ?_; refine goes_region ?_; apply run_step rfl; (exact stp_move rfl rfl); apply run_step rfl; (exact stp_len rfl rfl rfl (by as_aux_lemma => kernel_rfl)); apply run_step rfl; (exact stp_add rfl rfl rfl hw1); apply run_step rfl; (exact stp_assign rfl rfl); refine run_nil ?_; refine fin_seq ?_; refine goes_seq ?_; refine goes_block ?_; refine goes_seq ?_; refine goes_region ?_; apply run_step rfl; (exact stp_move rfl rfl); apply run_step rfl; (exact stp_bin rfl rfl rfl rfl); apply run_step rfl; (exact stp_assign rfl rfl); refine run_nil ?_; refine fin_seq ?_)
  refine goes_cond rfl (fun e => ?_) (fun _ => ?_)
  · exfalso; simp at e; omega
  (repeat (first | refine goes_seq ?_ | refine fin_seq ?_ | refine goes_skip ?_ | refine goes_block ?_ | refine fin_block ?_ | refine goes_exit ?_ | refine fin_exit_eq ?_ | refine fin_exit_ne rfl ?_ | refine fin_exit_then ?_))
  refine goes_cut (St.of [(0, o1 (.esl 1000 i 0 m)), (3, vv (I6 ((m : Int) + 1))), (16, vv (.bool false))] [(1000, rowsRo zss)]) ?_ ?_
  · refine goes_region ?_
    (apply run_step rfl; (exact stp_move rfl rfl); apply run_step rfl; (exact stp_bin rfl rfl rfl rfl); apply run_step rfl; (exact stp_move rfl rfl))
    refine run_bool 19 rfl (fun e1 => ?_) (fun e1 => ?_)
    · have e1 : m = 1 := by simp at e1; omega
      have hg2 : ¬ iget labs 0 > 0 := fun h => hq ⟨e1, h⟩
      have hgl : (ivals labs)[0]? = some (I6 (iget labs 0)) := ivals_get (by omega)
      have hbf : binI .i64 .gtr (iget labs 0) 0 = some (.bool false) := by simp [binI]; omega
      (apply run_gYes rfl rfl rfl; (exact stp_move rfl rfl); apply run_gYes rfl rfl rfl; (first | exact stp_bin rfl rfl rfl hbf | exact stp_ixE (j := 0) rfl rfl rfl rfl rfl (by as_aux_lemma => kernel_rfl) hrow rfl (by omega) hilm | exact stp_loadE' rfl (by as_aux_lemma => kernel_rfl) rfl rfl rfl hrow hgl); apply run_gYes rfl rfl rfl; (first | exact stp_bin rfl rfl rfl hbf | exact stp_ixE (j := 0) rfl rfl rfl rfl rfl (by as_aux_lemma => kernel_rfl) hrow rfl (by omega) hilm | exact stp_loadE' rfl (by as_aux_lemma => kernel_rfl) rfl rfl rfl hrow hgl); apply run_gYes rfl rfl rfl; (first | exact stp_bin rfl rfl rfl hbf | exact stp_ixE (j := 0) rfl rfl rfl rfl rfl (by as_aux_lemma => kernel_rfl) hrow rfl (by omega) hilm | exact stp_loadE' rfl (by as_aux_lemma => kernel_rfl) rfl rfl rfl hrow hgl); apply run_step rfl; (exact stp_pickT rfl rfl rfl); apply run_step rfl; (exact stp_assign rfl rfl); refine run_nil ?_)
      exact fin_join (Wk.of ⟨rfl, rfl, rfl, trivial⟩ ⟨rfl, trivial⟩ trivial)
    · (apply run_gNo rfl rfl rfl rfl rfl; apply run_gNo rfl rfl rfl rfl rfl; apply run_gNo rfl rfl rfl rfl rfl; apply run_gNo rfl rfl rfl rfl rfl; apply run_step rfl; (exact stp_pickF rfl rfl rfl); apply run_step rfl; (exact stp_assign rfl rfl); refine run_nil ?_)
      exact fin_join (Wk.of ⟨rfl, rfl, rfl, trivial⟩ ⟨rfl, trivial⟩ trivial)
  (refine fin_seq ?_)
  refine goes_cond rfl (fun e => by cases e) (fun _ => ?_)
  (refine goes_seq ?_; refine goes_region ?_; apply run_step rfl; (exact stp_move rfl rfl); apply run_step rfl; (exact stp_lit2I (E := 2) rfl (by as_aux_lemma => kernel_rfl) rfl rfl); apply run_step rfl; (first | (apply call_gate 209; exact stp_callR hE1 (by as_aux_lemma => kernel_rfl) rfl rfl ⟨rfl, rfl, trivial⟩ ⟨⟨_, rfl, .inl rfl⟩, ⟨_, rfl, .inr rfl⟩, trivial⟩ rfl rfl) | exact stp_lit3I (E := 2) rfl (by as_aux_lemma => kernel_rfl) rfl rfl rfl | exact stp_lit4I (E := 2) rfl (by as_aux_lemma => kernel_rfl) rfl rfl rfl rfl); apply run_step rfl; (exact stp_assign rfl rfl); refine run_nil ?_; refine fin_seq ?_)
  refine goes_cond rfl (fun e => by cases e) (fun _ => ?_)
  (refine goes_seq ?_; refine goes_region ?_; apply run_step rfl; (exact stp_move rfl rfl); apply run_step rfl; (first | (apply call_gate 209; exact stp_callR hE2 (by as_aux_lemma => kernel_rfl) rfl rfl ⟨rfl, rfl, trivial⟩ ⟨⟨_, rfl, .inl rfl⟩, ⟨_, rfl, .inr rfl⟩, trivial⟩ rfl rfl) | exact stp_lit3I (E := 2) rfl (by as_aux_lemma => kernel_rfl) rfl rfl rfl | exact stp_lit4I (E := 2) rfl (by as_aux_lemma => kernel_rfl) rfl rfl rfl rfl); apply run_step rfl; (first | (apply call_gate 209; exact stp_callR hE2 (by as_aux_lemma => kernel_rfl) rfl rfl ⟨rfl, rfl, trivial⟩ ⟨⟨_, rfl, .inl rfl⟩, ⟨_, rfl, .inr rfl⟩, trivial⟩ rfl rfl) | exact stp_lit3I (E := 2) rfl (by as_aux_lemma => kernel_rfl) rfl rfl rfl | exact stp_lit4I (E := 2) rfl (by as_aux_lemma => kernel_rfl) rfl rfl rfl rfl); apply run_step rfl; (exact stp_assign rfl rfl); refine run_nil ?_; refine fin_seq ?_)
  refine goes_cond rfl (fun e => by cases e) (fun _ => ?_)
  (refine goes_seq ?_; refine goes_region ?_; apply run_step rfl; (exact stp_move rfl rfl); apply run_step rfl; (first | (apply call_gate 209; exact stp_callR hE3 (by as_aux_lemma => kernel_rfl) rfl rfl ⟨rfl, rfl, trivial⟩ ⟨⟨_, rfl, .inl rfl⟩, ⟨_, rfl, .inr rfl⟩, trivial⟩ rfl rfl) | exact stp_lit3I (E := 2) rfl (by as_aux_lemma => kernel_rfl) rfl rfl rfl | exact stp_lit4I (E := 2) rfl (by as_aux_lemma => kernel_rfl) rfl rfl rfl rfl); apply run_step rfl; (first | (apply call_gate 209; exact stp_callR hE3 (by as_aux_lemma => kernel_rfl) rfl rfl ⟨rfl, rfl, trivial⟩ ⟨⟨_, rfl, .inl rfl⟩, ⟨_, rfl, .inr rfl⟩, trivial⟩ rfl rfl) | exact stp_lit3I (E := 2) rfl (by as_aux_lemma => kernel_rfl) rfl rfl rfl | exact stp_lit4I (E := 2) rfl (by as_aux_lemma => kernel_rfl) rfl rfl rfl rfl); apply run_step rfl; (exact stp_assign rfl rfl); refine run_nil ?_; refine fin_seq ?_)
  refine goes_cond rfl (fun e => by cases e) (fun _ => ?_)
  (refine goes_skip ?_; refine fin_block ?_; refine fin_seq ?_; refine goes_seq ?_; refine goes_seq ?_; refine goes_region ?_; apply run_step rfl; (exact stp_move rfl rfl); apply run_step rfl; (exact stp_bin rfl rfl rfl rfl); refine run_nil ?_; refine fin_seq ?_)
  refine goes_cond rfl (fun _ => ?_) (fun e => ?_)
  · (refine goes_seq ?_; refine goes_region ?_; apply run_step rfl; (exact stp_assign rfl rfl); refine run_nil ?_; refine fin_seq ?_; refine goes_ret ?_; refine fin_ret_then ?_)
    exact fin_ret1 (.inl rfl) rfl (.tmp rfl) trivial trivial
  · exfalso; simp at e; omega
theorem tailOk_at {labs : List Int} (h : tailOk labs = true) {k : Nat} (hk : k < labs.length - 1) : iget (ends labs) k = 3 := by
  unfold tailOk at h
  have := (List.all_eq_true.1 h) k (List.mem_range.2 hk)
  simpa using this
theorem tailOk_of {labs : List Int} (h : ∀ q, q < labs.length - 1 → iget (ends labs) q = 3) : tailOk labs = true := by
  unfold tailOk
  rw [List.all_eq_true]
  intro q hq
  have := h q (List.mem_range.1 hq)
  simpa using this
set_option maxRecDepth 100000 in
set_option maxHeartbeats 2000000 in
theorem degS6nA_fc (zss : List (List Int)) (i m : Nat) (labs : List Int) (hi : i < zss.length) (hlb : lget zss i = labs) (hm : labs.length = m) (hm4 : m ≤ 4) (h0 : 0 < m) (hq : ¬ (m = 1 ∧ 0 < iget labs 0)) (e1 : eith labs [3, 5] = false) (e2 : eith labs [3, 3, 5] = false) (e3 : eith labs [3, 4, 3] = false) (h2 : 2 ≤ m) (hA : iget labs 0 = 3) (ht : tailOk labs = false) :
    FC Try.prog 181 [(1000, rowsRo zss)] [o1 (.esl 1000 i 0 m)] [] (vv (.slice none 0 0)) [] := by
  have hrow : (irows zss)[i]? = some (ivals labs) := by rw [← hlb]; exact irows_get hi
  have hilm : m ≤ (ivals labs).length := by rw [ivals_len, hm]; exact Nat.le_refl _
  have hE1 := (eitherS_fc zss i m 2 labs [3, 5] hi hlb hm rfl (by omega) (by omega)).nm [(1000, 1000), (1001, 31)] (by kernel_rfl)
  have hE1 : FC Try.prog 209 [(1000, rowsRo zss), (31, wRo [3, 5])] [o1 (.esl 1000 i 0 m), o1 (.sl 31 0 2)] [] (vv (.bool (eith labs [3, 5]))) [] := hE1
  rw [e1] at hE1
  have hE2 := (eitherS_fc zss i m 3 labs [3, 3, 5] hi hlb hm rfl (by omega) (by omega)).nm [(1000, 1000), (1001, 36)] (by kernel_rfl)
  have hE2 : FC Try.prog 209 [(1000, rowsRo zss), (36, wRo [3, 3, 5])] [o1 (.esl 1000 i 0 m), o1 (.sl 36 0 3)] [] (vv (.bool (eith labs [3, 3, 5]))) [] := hE2
  rw [e2] at hE2
  have hE3 := (eitherS_fc zss i m 3 labs [3, 4, 3] hi hlb hm rfl (by omega) (by omega)).nm [(1000, 1000), (1001, 41)] (by kernel_rfl)
  have hE3 : FC Try.prog 209 [(1000, rowsRo zss), (41, wRo [3, 4, 3])] [o1 (.esl 1000 i 0 m), o1 (.sl 41 0 3)] [] (vv (.bool (eith labs [3, 4, 3]))) [] := hE3
  rw [e3] at hE3
  refine fc_enter (nt := 97) Try.func181 rfl rfl (by simp) fun w0 ω0 => ?_
  have hgl : (ivals labs)[0]? = some (I6 (iget labs 0)) := ivals_get (by omega)
  have hE : ends labs = labs := by unfold ends; rw [if_pos hA]
  have hw1 : IntKind.i64.wrap ((m : Int) + 1) = (m : Int) + 1 := IntWalk.i64_in _ (by omega)
  (refine goes_seq ?_; refine goes_region ?_; apply run_step rfl; (exact stp_assign rfl rfl); refine run_nil ?_; refine fin_seq ?_; refine goes_seq ?_; refine goes_region ?_; apply run_step rfl; (exact stp_move rfl rfl); apply run_step rfl; (exact stp_len rfl rfl rfl (by as_aux_lemma => kernel_rfl)); apply run_step rfl; (exact stp_add rfl rfl rfl hw1); apply run_step rfl; (exact stp_assign rfl rfl); refine run_nil ?_; refine fin_seq ?_; refine goes_seq ?_; refine goes_block ?_; refine goes_seq ?_; refine goes_region ?_; apply run_step rfl; (exact stp_move rfl rfl); apply run_step rfl; (exact stp_bin rfl rfl rfl rfl); apply run_step rfl; (exact stp_assign rfl rfl); refine run_nil ?_; refine fin_seq ?_)
  refine goes_cond rfl (fun e => ?_) (fun _ => ?_)
  · exfalso; simp at e; omega
  (repeat (first | refine goes_seq ?_ | refine fin_seq ?_ | refine goes_skip ?_ | refine goes_block ?_ | refine fin_block ?_ | refine goes_exit ?_ | refine fin_exit_eq ?_ | refine fin_exit_ne rfl ?_ | refine fin_exit_then ?_))
  refine goes_cut (St.of [(0, o1 (.esl 1000 i 0 m)), (3, vv (I6 ((m : Int) + 1))), (16, vv (.bool false))] [(1000, rowsRo zss)]) ?_ ?_
  · refine goes_region ?_
    (apply run_step rfl; (exact stp_move rfl rfl); apply run_step rfl; (exact stp_bin rfl rfl rfl rfl); apply run_step rfl; (exact stp_move rfl rfl))
    refine run_bool 19 rfl (fun e1 => ?_) (fun e1 => ?_)
    · have e1 : m = 1 := by simp at e1; omega
      have hg2 : ¬ iget labs 0 > 0 := fun h => hq ⟨e1, h⟩
      have hgl : (ivals labs)[0]? = some (I6 (iget labs 0)) := ivals_get (by omega)
      have hbf : binI .i64 .gtr (iget labs 0) 0 = some (.bool false) := by simp [binI]; omega
      (apply run_gYes rfl rfl rfl; (exact stp_move rfl rfl); apply run_gYes rfl rfl rfl; (first | exact stp_bin rfl rfl rfl hbf | exact stp_ixE (j := 0) rfl rfl rfl rfl rfl (by as_aux_lemma => kernel_rfl) hrow rfl (by omega) hilm | exact stp_loadE' rfl (by as_aux_lemma => kernel_rfl) rfl rfl rfl hrow hgl); apply run_gYes rfl rfl rfl; (first | exact stp_bin rfl rfl rfl hbf | exact stp_ixE (j := 0) rfl rfl rfl rfl rfl (by as_aux_lemma => kernel_rfl) hrow rfl (by omega) hilm | exact stp_loadE' rfl (by as_aux_lemma => kernel_rfl) rfl rfl rfl hrow hgl); apply run_gYes rfl rfl rfl; (first | exact stp_bin rfl rfl rfl hbf | exact stp_ixE (j := 0) rfl rfl rfl rfl rfl (by as_aux_lemma => kernel_rfl) hrow rfl (by omega) hilm | exact stp_loadE' rfl (by as_aux_lemma => kernel_rfl) rfl rfl rfl hrow hgl); apply run_step rfl; (exact stp_pickT rfl rfl rfl); apply run_step rfl; (exact stp_assign rfl rfl); refine run_nil ?_)
      exact fin_join (Wk.of ⟨rfl, rfl, rfl, trivial⟩ ⟨rfl, trivial⟩ trivial)
    · (apply run_gNo rfl rfl rfl rfl rfl; apply run_gNo rfl rfl rfl rfl rfl; apply run_gNo rfl rfl rfl rfl rfl; apply run_gNo rfl rfl rfl rfl rfl; apply run_step rfl; (exact stp_pickF rfl rfl rfl); apply run_step rfl; (exact stp_assign rfl rfl); refine run_nil ?_)
      exact fin_join (Wk.of ⟨rfl, rfl, rfl, trivial⟩ ⟨rfl, trivial⟩ trivial)
  (refine fin_seq ?_)
  refine goes_cond rfl (fun e => by cases e) (fun _ => ?_)
  (refine goes_seq ?_; refine goes_region ?_; apply run_step rfl; (exact stp_move rfl rfl); apply run_step rfl; (exact stp_lit2I (E := 2) rfl (by as_aux_lemma => kernel_rfl) rfl rfl); apply run_step rfl; (first | (apply call_gate 209; exact stp_callR hE1 (by as_aux_lemma => kernel_rfl) rfl rfl ⟨rfl, rfl, trivial⟩ ⟨⟨_, rfl, .inl rfl⟩, ⟨_, rfl, .inr rfl⟩, trivial⟩ rfl rfl) | exact stp_lit3I (E := 2) rfl (by as_aux_lemma => kernel_rfl) rfl rfl rfl | exact stp_lit4I (E := 2) rfl (by as_aux_lemma => kernel_rfl) rfl rfl rfl rfl); apply run_step rfl; (exact stp_assign rfl rfl); refine run_nil ?_; refine fin_seq ?_)
  refine goes_cond rfl (fun e => by cases e) (fun _ => ?_)
  (refine goes_seq ?_; refine goes_region ?_; apply run_step rfl; (exact stp_move rfl rfl); apply run_step rfl; (first | (apply call_gate 209; exact stp_callR hE2 (by as_aux_lemma => kernel_rfl) rfl rfl ⟨rfl, rfl, trivial⟩ ⟨⟨_, rfl, .inl rfl⟩, ⟨_, rfl, .inr rfl⟩, trivial⟩ rfl rfl) | exact stp_lit3I (E := 2) rfl (by as_aux_lemma => kernel_rfl) rfl rfl rfl | exact stp_lit4I (E := 2) rfl (by as_aux_lemma => kernel_rfl) rfl rfl rfl rfl); apply run_step rfl; (first | (apply call_gate 209; exact stp_callR hE2 (by as_aux_lemma => kernel_rfl) rfl rfl ⟨rfl, rfl, trivial⟩ ⟨⟨_, rfl, .inl rfl⟩, ⟨_, rfl, .inr rfl⟩, trivial⟩ rfl rfl) | exact stp_lit3I (E := 2) rfl (by as_aux_lemma => kernel_rfl) rfl rfl rfl | exact stp_lit4I (E := 2) rfl (by as_aux_lemma => kernel_rfl) rfl rfl rfl rfl); apply run_step rfl; (exact stp_assign rfl rfl); refine run_nil ?_; refine fin_seq ?_)
  refine goes_cond rfl (fun e => by cases e) (fun _ => ?_)
  (refine goes_seq ?_; refine goes_region ?_; apply run_step rfl; (exact stp_move rfl rfl); apply run_step rfl; (first | (apply call_gate 209; exact stp_callR hE3 (by as_aux_lemma => kernel_rfl) rfl rfl ⟨rfl, rfl, trivial⟩ ⟨⟨_, rfl, .inl rfl⟩, ⟨_, rfl, .inr rfl⟩, trivial⟩ rfl rfl) | exact stp_lit3I (E := 2) rfl (by as_aux_lemma => kernel_rfl) rfl rfl rfl | exact stp_lit4I (E := 2) rfl (by as_aux_lemma => kernel_rfl) rfl rfl rfl rfl); apply run_step rfl; (first | (apply call_gate 209; exact stp_callR hE3 (by as_aux_lemma => kernel_rfl) rfl rfl ⟨rfl, rfl, trivial⟩ ⟨⟨_, rfl, .inl rfl⟩, ⟨_, rfl, .inr rfl⟩, trivial⟩ rfl rfl) | exact stp_lit3I (E := 2) rfl (by as_aux_lemma => kernel_rfl) rfl rfl rfl | exact stp_lit4I (E := 2) rfl (by as_aux_lemma => kernel_rfl) rfl rfl rfl rfl); apply run_step rfl; (exact stp_assign rfl rfl); refine run_nil ?_; refine fin_seq ?_)
  refine goes_cond rfl (fun e => by cases e) (fun _ => ?_)
  (refine goes_skip ?_; refine fin_block ?_; refine fin_seq ?_; refine goes_seq ?_; refine goes_seq ?_; refine goes_region ?_; apply run_step rfl; (exact stp_move rfl rfl); apply run_step rfl; (exact stp_bin rfl rfl rfl rfl); refine run_nil ?_; refine fin_seq ?_)
  refine goes_cond rfl (fun e => ?_) (fun _ => ?_)
  · exfalso; simp at e; omega
  (refine goes_skip ?_; refine fin_seq ?_; refine goes_seq ?_; refine goes_region ?_; apply run_step rfl; (exact stp_move rfl rfl); apply run_step rfl; (exact stp_assign rfl rfl); refine run_nil ?_; refine fin_seq ?_; refine goes_seq ?_; refine goes_seq ?_; refine goes_region ?_; apply run_step rfl; (exact stp_move rfl rfl); apply run_step rfl; (first | exact stp_ixE (j := 0) rfl rfl rfl rfl rfl (by as_aux_lemma => kernel_rfl) hrow rfl (by omega) hilm | exact stp_loadE' rfl (by as_aux_lemma => kernel_rfl) rfl rfl rfl hrow hgl); apply run_step rfl; (first | exact stp_ixE (j := 0) rfl rfl rfl rfl rfl (by as_aux_lemma => kernel_rfl) hrow rfl (by omega) hilm | exact stp_loadE' rfl (by as_aux_lemma => kernel_rfl) rfl rfl rfl hrow hgl); apply run_step rfl; (exact stp_bin rfl rfl rfl rfl); refine run_nil ?_; refine fin_seq ?_)
  refine goes_cond rfl (fun e => ?_) (fun e => ?_)
  · exfalso; simp at e; exact e hA
  (refine goes_skip ?_; refine fin_seq ?_; refine goes_seq ?_; refine goes_seq ?_; refine goes_region ?_; apply run_step rfl; (exact stp_assign rfl rfl); refine run_nil ?_; refine fin_seq ?_; refine goes_block ?_)
  refine goes_loop (fun k : Nat => St.of [(3, vv (I6 ((m : Int) + 1))), (4, o1 (.esl 1000 i 0 m)), (5, vv (I6 k))] [(1000, rowsRo zss)]) (fun k => k ≤ m - 1 ∧ ∀ q, q < k → iget (ends labs) q = 3) (fun k => m - k) 0 ⟨Nat.zero_le _, fun q h => absurd h (by omega)⟩ (Wk.of ⟨rfl, rfl, rfl, trivial⟩ ⟨rfl, trivial⟩ trivial) ?_
  rintro k ⟨hk, hq3⟩
  have hkm : k < m := by omega
  have hgk : (ivals labs)[k]? = some (I6 (iget (ends labs) k)) := by rw [hE]; exact ivals_get (by first | omega | (rw [List.length_reverse]; omega))
  have hwk : IntKind.i64.wrap ((k : Int) + 1) = (k : Int) + 1 := IntWalk.i64_in _ (by omega)
  (refine goes_seq ?_; refine goes_seq ?_; refine goes_region ?_; apply run_step rfl; (exact stp_move rfl rfl); apply run_step rfl; (exact stp_add rfl rfl rfl hwk); apply run_step rfl; (exact stp_move rfl rfl); apply run_step rfl; (exact stp_len rfl rfl rfl (by as_aux_lemma => kernel_rfl)); apply run_step rfl; (exact stp_bin rfl rfl rfl rfl); refine run_nil ?_; refine fin_seq ?_)
  refine goes_if rfl (fun hlt => ?_) (fun hlt => ?_)
  · (refine goes_skip ?_; refine fin_seq ?_; refine goes_seq ?_; refine goes_block ?_; refine goes_seq ?_; refine goes_region ?_; apply run_step rfl; (exact stp_move rfl rfl); apply run_step rfl; (exact stp_move rfl rfl); apply run_step rfl; (first | exact stp_ixE (j := k) rfl rfl rfl rfl rfl (by as_aux_lemma => kernel_rfl) hrow rfl hkm hilm | exact stp_loadE' rfl (by as_aux_lemma => kernel_rfl) rfl rfl rfl hrow hgk); apply run_step rfl; (first | exact stp_ixE (j := k) rfl rfl rfl rfl rfl (by as_aux_lemma => kernel_rfl) hrow rfl hkm hilm | exact stp_loadE' rfl (by as_aux_lemma => kernel_rfl) rfl rfl rfl hrow hgk); apply run_step rfl; (exact stp_bin rfl rfl rfl rfl); refine run_nil ?_; refine fin_seq ?_)
    refine goes_cond rfl (fun e => ?_) (fun e => ?_)
    · (refine goes_seq ?_; refine goes_region ?_; apply run_step rfl; (exact stp_assign rfl rfl); refine run_nil ?_; refine fin_seq ?_; refine goes_ret ?_; refine fin_ret_block ?_; refine fin_ret_then ?_; refine fin_ret_then ?_; refine fin_ret_block ?_; refine fin_ret_then ?_)
      exact fin_ret1 (.inl rfl) rfl (.tmp rfl) trivial trivial
    · have e : iget (ends labs) k = 3 := by simpa using e
      (refine goes_skip ?_; refine fin_block ?_; refine fin_seq ?_; refine goes_region ?_; apply run_step rfl; (exact stp_move rfl rfl); apply run_step rfl; (exact stp_add rfl rfl rfl hwk); apply run_step rfl; (exact stp_assign rfl rfl); refine run_nil ?_)
      exact fin_round (k + 1) ⟨by omega, fun q h => by
        by_cases e' : q = k
        · subst e'; exact e
        · exact hq3 q (by omega)⟩ (by omega) (Wk.of ⟨rfl, rfl, rfl, trivial⟩ ⟨rfl, trivial⟩ trivial)
  · exfalso
    rw [tailOk_of (fun q h => hq3 q (by omega))] at ht
    cases ht
set_option maxRecDepth 100000 in
set_option maxHeartbeats 2000000 in
theorem degS6tA_fc (zss : List (List Int)) (i m : Nat) (labs : List Int) (hi : i < zss.length) (hlb : lget zss i = labs) (hm : labs.length = m) (hm4 : m ≤ 4) (h0 : 0 < m) (hq : ¬ (m = 1 ∧ 0 < iget labs 0)) (e1 : eith labs [3, 5] = false) (e2 : eith labs [3, 3, 5] = false) (e3 : eith labs [3, 4, 3] = false) (h2 : 2 ≤ m) (hA : iget labs 0 = 3) (ht : tailOk labs = true) (hlast : iget (ends labs) (labs.length - 1) = 3) :
    FC Try.prog 181 [(1000, rowsRo zss)] [o1 (.esl 1000 i 0 m)] [(65, leOw (ramp (m + 1) 1))] (o1 (.sl 65 0 (m + 1))) [] := by
  have hrow : (irows zss)[i]? = some (ivals labs) := by rw [← hlb]; exact irows_get hi
  have hilm : m ≤ (ivals labs).length := by rw [ivals_len, hm]; exact Nat.le_refl _
  have hE1 := (eitherS_fc zss i m 2 labs [3, 5] hi hlb hm rfl (by omega) (by omega)).nm [(1000, 1000), (1001, 31)] (by kernel_rfl)
  have hE1 : FC Try.prog 209 [(1000, rowsRo zss), (31, wRo [3, 5])] [o1 (.esl 1000 i 0 m), o1 (.sl 31 0 2)] [] (vv (.bool (eith labs [3, 5]))) [] := hE1
  rw [e1] at hE1
  have hE2 := (eitherS_fc zss i m 3 labs [3, 3, 5] hi hlb hm rfl (by omega) (by omega)).nm [(1000, 1000), (1001, 36)] (by kernel_rfl)
  have hE2 : FC Try.prog 209 [(1000, rowsRo zss), (36, wRo [3, 3, 5])] [o1 (.esl 1000 i 0 m), o1 (.sl 36 0 3)] [] (vv (.bool (eith labs [3, 3, 5]))) [] := hE2
  rw [e2] at hE2
  have hE3 := (eitherS_fc zss i m 3 labs [3, 4, 3] hi hlb hm rfl (by omega) (by omega)).nm [(1000, 1000), (1001, 41)] (by kernel_rfl)
  have hE3 : FC Try.prog 209 [(1000, rowsRo zss), (41, wRo [3, 4, 3])] [o1 (.esl 1000 i 0 m), o1 (.sl 41 0 3)] [] (vv (.bool (eith labs [3, 4, 3]))) [] := hE3
  rw [e3] at hE3
  refine fc_enter (nt := 97) Try.func181 rfl rfl (by simp) fun w0 ω0 => ?_
  have hgl : (ivals labs)[0]? = some (I6 (iget labs 0)) := ivals_get (by omega)
  have hE : ends labs = labs := by unfold ends; rw [if_pos hA]
  have hw1 : IntKind.i64.wrap ((m : Int) + 1) = (m : Int) + 1 := IntWalk.i64_in _ (by omega)
  (refine goes_seq ?_; refine goes_region ?_; apply run_step rfl; (exact stp_assign rfl rfl); refine run_nil ?_; refine fin_seq ?_; refine goes_seq ?_; refine goes_region ?_; apply run_step rfl; (exact stp_move rfl rfl); apply run_step rfl; (exact stp_len rfl rfl rfl (by as_aux_lemma => kernel_rfl)); apply run_step rfl; (exact stp_add rfl rfl rfl hw1); apply run_step rfl; (exact stp_assign rfl rfl); refine run_nil ?_; refine fin_seq ?_; refine goes_seq ?_; refine goes_block ?_; refine goes_seq ?_; refine goes_region ?_; apply run_step rfl; (exact stp_move rfl rfl); apply run_step rfl; (exact stp_bin rfl rfl rfl rfl); apply run_step rfl; (exact stp_assign rfl rfl); refine run_nil ?_; refine fin_seq ?_)
  refine goes_cond rfl (fun e => ?_) (fun _ => ?_)
  · exfalso; simp at e; omega
  (repeat (first | refine goes_seq ?_ | refine fin_seq ?_ | refine goes_skip ?_ | refine goes_block ?_ | refine fin_block ?_ | refine goes_exit ?_ | refine fin_exit_eq ?_ | refine fin_exit_ne rfl ?_ | refine fin_exit_then ?_))
  refine goes_cut (St.of [(0, o1 (.esl 1000 i 0 m)), (3, vv (I6 ((m : Int) + 1))), (16, vv (.bool false))] [(1000, rowsRo zss)]) ?_ ?_
  · refine goes_region ?_
    (apply run_step rfl; (exact stp_move rfl rfl); apply run_step rfl; (exact stp_bin rfl rfl rfl rfl); apply run_step rfl; (exact stp_move rfl rfl))
    refine run_bool 19 rfl (fun e1 => ?_) (fun e1 => ?_)
    · have e1 : m = 1 := by simp at e1; omega
      have hg2 : ¬ iget labs 0 > 0 := fun h => hq ⟨e1, h⟩
      have hgl : (ivals labs)[0]? = some (I6 (iget labs 0)) := ivals_get (by omega)
      have hbf : binI .i64 .gtr (iget labs 0) 0 = some (.bool false) := by simp [binI]; omega
      (apply run_gYes rfl rfl rfl; (exact stp_move rfl rfl); apply run_gYes rfl rfl rfl; (first | exact stp_bin rfl rfl rfl hbf | exact stp_ixE (j := 0) rfl rfl rfl rfl rfl (by as_aux_lemma => kernel_rfl) hrow rfl (by omega) hilm | exact stp_loadE' rfl (by as_aux_lemma => kernel_rfl) rfl rfl rfl hrow hgl); apply run_gYes rfl rfl rfl; (first | exact stp_bin rfl rfl rfl hbf | exact stp_ixE (j := 0) rfl rfl rfl rfl rfl (by as_aux_lemma => kernel_rfl) hrow rfl (by omega) hilm | exact stp_loadE' rfl (by as_aux_lemma => kernel_rfl) rfl rfl rfl hrow hgl); apply run_gYes rfl rfl rfl; (first | exact stp_bin rfl rfl rfl hbf | exact stp_ixE (j := 0) rfl rfl rfl rfl rfl (by as_aux_lemma => kernel_rfl) hrow rfl (by omega) hilm | exact stp_loadE' rfl (by as_aux_lemma => kernel_rfl) rfl rfl rfl hrow hgl); apply run_step rfl; (exact stp_pickT rfl rfl rfl); apply run_step rfl; (exact stp_assign rfl rfl); refine run_nil ?_)
      exact fin_join (Wk.of ⟨rfl, rfl, rfl, trivial⟩ ⟨rfl, trivial⟩ trivial)
    · (apply run_gNo rfl rfl rfl rfl rfl; apply run_gNo rfl rfl rfl rfl rfl; apply run_gNo rfl rfl rfl rfl rfl; apply run_gNo rfl rfl rfl rfl rfl; apply run_step rfl; (exact stp_pickF rfl rfl rfl); apply run_step rfl; (exact stp_assign rfl rfl); refine run_nil ?_)
      exact fin_join (Wk.of ⟨rfl, rfl, rfl, trivial⟩ ⟨rfl, trivial⟩ trivial)
  (refine fin_seq ?_)
  refine goes_cond rfl (fun e => by cases e) (fun _ => ?_)
  (refine goes_seq ?_; refine goes_region ?_; apply run_step rfl; (exact stp_move rfl rfl); apply run_step rfl; (exact stp_lit2I (E := 2) rfl (by as_aux_lemma => kernel_rfl) rfl rfl); apply run_step rfl; (first | (apply call_gate 209; exact stp_callR hE1 (by as_aux_lemma => kernel_rfl) rfl rfl ⟨rfl, rfl, trivial⟩ ⟨⟨_, rfl, .inl rfl⟩, ⟨_, rfl, .inr rfl⟩, trivial⟩ rfl rfl) | exact stp_lit3I (E := 2) rfl (by as_aux_lemma => kernel_rfl) rfl rfl rfl | exact stp_lit4I (E := 2) rfl (by as_aux_lemma => kernel_rfl) rfl rfl rfl rfl); apply run_step rfl; (exact stp_assign rfl rfl); refine run_nil ?_; refine fin_seq ?_)
  refine goes_cond rfl (fun e => by cases e) (fun _ => ?_)
  (refine goes_seq ?_; refine goes_region ?_; apply run_step rfl; (exact stp_move rfl rfl); apply run_step rfl; (first | (apply call_gate 209; exact stp_callR hE2 (by as_aux_lemma => kernel_rfl) rfl rfl ⟨rfl, rfl, trivial⟩ ⟨⟨_, rfl, .inl rfl⟩, ⟨_, rfl, .inr rfl⟩, trivial⟩ rfl rfl) | exact stp_lit3I (E := 2) rfl (by as_aux_lemma => kernel_rfl) rfl rfl rfl | exact stp_lit4I (E := 2) rfl (by as_aux_lemma => kernel_rfl) rfl rfl rfl rfl); apply run_step rfl; (first | (apply call_gate 209; exact stp_callR hE2 (by as_aux_lemma => kernel_rfl) rfl rfl ⟨rfl, rfl, trivial⟩ ⟨⟨_, rfl, .inl rfl⟩, ⟨_, rfl, .inr rfl⟩, trivial⟩ rfl rfl) | exact stp_lit3I (E := 2) rfl (by as_aux_lemma => kernel_rfl) rfl rfl rfl | exact stp_lit4I (E := 2) rfl (by as_aux_lemma => kernel_rfl) rfl rfl rfl rfl); apply run_step rfl; (exact stp_assign rfl rfl); refine run_nil ?_; refine fin_seq ?_)
  refine goes_cond rfl (fun e => by cases e) (fun _ => ?_)
  (refine goes_seq ?_; refine goes_region ?_; apply run_step rfl; (exact stp_move rfl rfl); apply run_step rfl; (first | (apply call_gate 209; exact stp_callR hE3 (by as_aux_lemma => kernel_rfl) rfl rfl ⟨rfl, rfl, trivial⟩ ⟨⟨_, rfl, .inl rfl⟩, ⟨_, rfl, .inr rfl⟩, trivial⟩ rfl rfl) | exact stp_lit3I (E := 2) rfl (by as_aux_lemma => kernel_rfl) rfl rfl rfl | exact stp_lit4I (E := 2) rfl (by as_aux_lemma => kernel_rfl) rfl rfl rfl rfl); apply run_step rfl; (first | (apply call_gate 209; exact stp_callR hE3 (by as_aux_lemma => kernel_rfl) rfl rfl ⟨rfl, rfl, trivial⟩ ⟨⟨_, rfl, .inl rfl⟩, ⟨_, rfl, .inr rfl⟩, trivial⟩ rfl rfl) | exact stp_lit3I (E := 2) rfl (by as_aux_lemma => kernel_rfl) rfl rfl rfl | exact stp_lit4I (E := 2) rfl (by as_aux_lemma => kernel_rfl) rfl rfl rfl rfl); apply run_step rfl; (exact stp_assign rfl rfl); refine run_nil ?_; refine fin_seq ?_)
  refine goes_cond rfl (fun e => by cases e) (fun _ => ?_)
  (refine goes_skip ?_; refine fin_block ?_; refine fin_seq ?_; refine goes_seq ?_; refine goes_seq ?_; refine goes_region ?_; apply run_step rfl; (exact stp_move rfl rfl); apply run_step rfl; (exact stp_bin rfl rfl rfl rfl); refine run_nil ?_; refine fin_seq ?_)
  refine goes_cond rfl (fun e => ?_) (fun _ => ?_)
  · exfalso; simp at e; omega
  (refine goes_skip ?_; refine fin_seq ?_; refine goes_seq ?_; refine goes_region ?_; apply run_step rfl; (exact stp_move rfl rfl); apply run_step rfl; (exact stp_assign rfl rfl); refine run_nil ?_; refine fin_seq ?_; refine goes_seq ?_; refine goes_seq ?_; refine goes_region ?_; apply run_step rfl; (exact stp_move rfl rfl); apply run_step rfl; (first | exact stp_ixE (j := 0) rfl rfl rfl rfl rfl (by as_aux_lemma => kernel_rfl) hrow rfl (by omega) hilm | exact stp_loadE' rfl (by as_aux_lemma => kernel_rfl) rfl rfl rfl hrow hgl); apply run_step rfl; (first | exact stp_ixE (j := 0) rfl rfl rfl rfl rfl (by as_aux_lemma => kernel_rfl) hrow rfl (by omega) hilm | exact stp_loadE' rfl (by as_aux_lemma => kernel_rfl) rfl rfl rfl hrow hgl); apply run_step rfl; (exact stp_bin rfl rfl rfl rfl); refine run_nil ?_; refine fin_seq ?_)
  refine goes_cond rfl (fun e => ?_) (fun e => ?_)
  · exfalso; simp at e; exact e hA
  (refine goes_skip ?_; refine fin_seq ?_; refine goes_seq ?_; refine goes_seq ?_; refine goes_region ?_; apply run_step rfl; (exact stp_assign rfl rfl); refine run_nil ?_; refine fin_seq ?_; refine goes_block ?_)
  refine goes_loop (fun k : Nat => St.of [(3, vv (I6 ((m : Int) + 1))), (4, o1 (.esl 1000 i 0 m)), (5, vv (I6 k))] [(1000, rowsRo zss)]) (fun k => k ≤ m - 1 ∧ ∀ q, q < k → iget (ends labs) q = 3) (fun k => m - k) 0 ⟨Nat.zero_le _, fun q h => absurd h (by omega)⟩ (Wk.of ⟨rfl, rfl, rfl, trivial⟩ ⟨rfl, trivial⟩ trivial) ?_
  rintro k ⟨hk, hq3⟩
  have hkm : k < m := by omega
  have hgk : (ivals labs)[k]? = some (I6 (iget (ends labs) k)) := by rw [hE]; exact ivals_get (by first | omega | (rw [List.length_reverse]; omega))
  have hwk : IntKind.i64.wrap ((k : Int) + 1) = (k : Int) + 1 := IntWalk.i64_in _ (by omega)
  (refine goes_seq ?_; refine goes_seq ?_; refine goes_region ?_; apply run_step rfl; (exact stp_move rfl rfl); apply run_step rfl; (exact stp_add rfl rfl rfl hwk); apply run_step rfl; (exact stp_move rfl rfl); apply run_step rfl; (exact stp_len rfl rfl rfl (by as_aux_lemma => kernel_rfl)); apply run_step rfl; (exact stp_bin rfl rfl rfl rfl); refine run_nil ?_; refine fin_seq ?_)
  refine goes_if rfl (fun hlt => ?_) (fun hlt => ?_)
  · (refine goes_skip ?_; refine fin_seq ?_; refine goes_seq ?_; refine goes_block ?_; refine goes_seq ?_; refine goes_region ?_; apply run_step rfl; (exact stp_move rfl rfl); apply run_step rfl; (exact stp_move rfl rfl); apply run_step rfl; (first | exact stp_ixE (j := k) rfl rfl rfl rfl rfl (by as_aux_lemma => kernel_rfl) hrow rfl hkm hilm | exact stp_loadE' rfl (by as_aux_lemma => kernel_rfl) rfl rfl rfl hrow hgk); apply run_step rfl; (first | exact stp_ixE (j := k) rfl rfl rfl rfl rfl (by as_aux_lemma => kernel_rfl) hrow rfl hkm hilm | exact stp_loadE' rfl (by as_aux_lemma => kernel_rfl) rfl rfl rfl hrow hgk); apply run_step rfl; (exact stp_bin rfl rfl rfl rfl); refine run_nil ?_; refine fin_seq ?_)
    refine goes_cond rfl (fun e => ?_) (fun e => ?_)
    · exfalso
      have := tailOk_at ht (k := k) (by omega)
      simp at e
      exact e this
    · have e : iget (ends labs) k = 3 := by simpa using e
      (refine goes_skip ?_; refine fin_block ?_; refine fin_seq ?_; refine goes_region ?_; apply run_step rfl; (exact stp_move rfl rfl); apply run_step rfl; (exact stp_add rfl rfl rfl hwk); apply run_step rfl; (exact stp_assign rfl rfl); refine run_nil ?_)
      exact fin_round (k + 1) ⟨by omega, fun q h => by
        by_cases e' : q = k
        · subst e'; exact e
        · exact hq3 q (by omega)⟩ (by omega) (Wk.of ⟨rfl, rfl, rfl, trivial⟩ ⟨rfl, trivial⟩ trivial)
  · have hgm : (ivals labs)[m - 1]? = some (I6 (iget (ends labs) (m - 1))) := by rw [hE]; exact ivals_get (by first | omega | (rw [List.length_reverse]; omega))
    have hm1 : (m : Int) - 1 = ((m - 1 : Nat) : Int) := by omega
    have hws : IntKind.i64.wrap ((m : Int) - 1) = (m : Int) - 1 := IntWalk.i64_in _ (by omega)
    rw [hm] at hlast
    (refine goes_exit ?_; refine fin_exit_then ?_; refine fin_exit_then ?_; refine fin_exit_eq ?_; refine fin_seq ?_; refine goes_seq ?_; refine goes_region ?_; apply run_step rfl; (exact stp_lit0 (E := 2) (k := 1) rfl (by as_aux_lemma => kernel_rfl)); apply run_step rfl; (exact stp_assign rfl rfl); refine run_nil ?_; refine fin_seq ?_; refine goes_seq ?_; refine goes_seq ?_; refine goes_region ?_; apply run_step rfl; (exact stp_move rfl rfl); apply run_step rfl; (exact stp_move rfl rfl); apply run_step rfl; (exact stp_len rfl rfl rfl (by as_aux_lemma => kernel_rfl)); apply run_step rfl; (first | exact stp_sub rfl rfl rfl hws | exact stp_ixE (j := m - 1) rfl rfl rfl rfl rfl (by as_aux_lemma => kernel_rfl) hrow hm1 (by omega) hilm | exact stp_loadE' rfl (by as_aux_lemma => kernel_rfl) rfl rfl rfl hrow hgm); apply run_step rfl; (first | exact stp_sub rfl rfl rfl hws | exact stp_ixE (j := m - 1) rfl rfl rfl rfl rfl (by as_aux_lemma => kernel_rfl) hrow hm1 (by omega) hilm | exact stp_loadE' rfl (by as_aux_lemma => kernel_rfl) rfl rfl rfl hrow hgm); apply run_step rfl; (first | exact stp_sub rfl rfl rfl hws | exact stp_ixE (j := m - 1) rfl rfl rfl rfl rfl (by as_aux_lemma => kernel_rfl) hrow hm1 (by omega) hilm | exact stp_loadE' rfl (by as_aux_lemma => kernel_rfl) rfl rfl rfl hrow hgm); refine run_nil ?_; refine fin_seq ?_; refine goes_block ?_; refine goes_seq ?_; refine goes_region ?_; apply run_step rfl; (exact stp_bin rfl rfl rfl rfl); apply run_step rfl; (exact stp_assign rfl rfl); refine run_nil ?_; refine fin_seq ?_)
    refine goes_cond rfl (fun _ => ?_) (fun e => ?_)
    rotate_left
    · exfalso; simp at e; exact e hlast
    (refine goes_seq ?_; refine goes_region ?_; apply run_step rfl; (exact stp_assign rfl rfl); refine run_nil ?_; refine fin_seq ?_; refine goes_block ?_)
    have hw2 : IntKind.i64.wrap ((m : Int) + 1 + 1) = (m : Int) + 1 + 1 := IntWalk.i64_in _ (by omega)
    refine goes_loop (fun k : Nat => St.of [(3, vv (I6 ((m : Int) + 1))), (6, o1 (.sl 65 0 k)), (7, vv (I6 (2 + 1 * (k : Int))))] [(65, leOw (ramp k 1))]) (fun k => k ≤ m + 1) (fun k => m + 1 - k) 0 (Nat.zero_le _) (Wk.of ⟨rfl, rfl, rfl, trivial⟩ ⟨rfl, trivial⟩ trivial) ?_
    rintro k hk
    have hwa : IntKind.i64.wrap (2 + 1 * (k : Int) + 1) = 2 + 1 * ((k + 1 : Nat) : Int) := (IntWalk.i64_in _ (by omega)).trans (by omega)
    (refine goes_seq ?_; refine goes_seq ?_; refine goes_region ?_; apply run_step rfl; (exact stp_move rfl rfl); apply run_step rfl; (exact stp_move rfl rfl); apply run_step rfl; (exact stp_add rfl rfl rfl hw2); apply run_step rfl; (exact stp_bin rfl rfl rfl rfl); refine run_nil ?_; refine fin_seq ?_)
    refine goes_if rfl (fun hlt => ?_) (fun hlt => ?_)
    · (refine goes_skip ?_; refine fin_seq ?_; refine goes_seq ?_; refine goes_block ?_; refine goes_region ?_; apply run_step rfl; (exact stp_move rfl rfl); apply run_step rfl; (exact stp_move rfl rfl); apply run_step rfl; (exact stp_lit1I (E := 2) rfl (by as_aux_lemma => kernel_rfl) rfl); apply run_step rfl; (first | exact stp_add rfl rfl rfl hwa | exact stp_appI rfl (by as_aux_lemma => kernel_rfl) rfl rfl rfl (ramp_len _ _) rfl rfl (by omega)); apply run_step rfl; (exact stp_assign rfl rfl); refine run_nil ?_; refine fin_block ?_; refine fin_seq ?_; refine goes_region ?_; apply run_step rfl; (exact stp_move rfl rfl); apply run_step rfl; (first | exact stp_add rfl rfl rfl hwa | exact stp_appI rfl (by as_aux_lemma => kernel_rfl) rfl rfl rfl (ramp_len _ _) rfl rfl (by omega)); apply run_step rfl; (exact stp_assign rfl rfl); refine run_nil ?_)
      exact fin_round (k + 1) (by omega) (by omega) (Wk.of ⟨rfl, rfl, rfl, trivial⟩ ⟨by rw [ramp_succ]; rfl, trivial⟩ trivial)
    · obtain rfl : k = m + 1 := by omega
      (refine goes_exit ?_; refine fin_exit_then ?_; refine fin_exit_then ?_; refine fin_exit_eq ?_; refine fin_block ?_; refine fin_seq ?_; refine goes_seq ?_; refine goes_region ?_; apply run_step rfl; (exact stp_move rfl rfl); apply run_step rfl; (exact stp_assign rfl rfl); refine run_nil ?_; refine fin_seq ?_; refine goes_ret ?_)
      exact fin_ret1 (.inl rfl) rfl (.tmp rfl) ⟨rfl, trivial⟩ trivial
set_option maxRecDepth 100000 in
set_option maxHeartbeats 2000000 in
theorem degS6fA_fc (zss : List (List Int)) (i m : Nat) (labs : List Int) (hi : i < zss.length) (hlb : lget zss i = labs) (hm : labs.length = m) (hm4 : m ≤ 4) (h0 : 0 < m) (hq : ¬ (m = 1 ∧ 0 < iget labs 0)) (e1 : eith labs [3, 5] = false) (e2 : eith labs [3, 3, 5] = false) (e3 : eith labs [3, 4, 3] = false) (h2 : 2 ≤ m) (hA : iget labs 0 = 3) (ht : tailOk labs = true) (hlast : iget (ends labs) (labs.length - 1) = 4) :
    FC Try.prog 181 [(1000, rowsRo zss)] [o1 (.esl 1000 i 0 m)] [(65, leOw (ramp (m + 1) 2))] (o1 (.sl 65 0 (m + 1))) [] := by
  have hrow : (irows zss)[i]? = some (ivals labs) := by rw [← hlb]; exact irows_get hi
  have hilm : m ≤ (ivals labs).length := by rw [ivals_len, hm]; exact Nat.le_refl _
  have hE1 := (eitherS_fc zss i m 2 labs [3, 5] hi hlb hm rfl (by omega) (by omega)).nm [(1000, 1000), (1001, 31)] (by kernel_rfl)
  have hE1 : FC Try.prog 209 [(1000, rowsRo zss), (31, wRo [3, 5])] [o1 (.esl 1000 i 0 m), o1 (.sl 31 0 2)] [] (vv (.bool (eith labs [3, 5]))) [] := hE1
  rw [e1] at hE1
  have hE2 := (eitherS_fc zss i m 3 labs [3, 3, 5] hi hlb hm rfl (by omega) (by omega)).nm [(1000, 1000), (1001, 36)] (by kernel_rfl)
  have hE2 : FC Try.prog 209 [(1000, rowsRo zss), (36, wRo [3, 3, 5])] [o1 (.esl 1000 i 0 m), o1 (.sl 36 0 3)] [] (vv (.bool (eith labs [3, 3, 5]))) [] := hE2
  rw [e2] at hE2
  have hE3 := (eitherS_fc zss i m 3 labs [3, 4, 3] hi hlb hm rfl (by omega) (by omega)).nm [(1000, 1000), (1001, 41)] (by kernel_rfl)
  have hE3 : FC Try.prog 209 [(1000, rowsRo zss), (41, wRo [3, 4, 3])] [o1 (.esl 1000 i 0 m), o1 (.sl 41 0 3)] [] (vv (.bool (eith labs [3, 4, 3]))) [] := hE3
  rw [e3] at hE3
  refine fc_enter (nt := 97) Try.func181 rfl rfl (by simp) fun w0 ω0 => ?_
  have hgl : (ivals labs)[0]? = some (I6 (iget labs 0)) := ivals_get (by omega)
  have hE : ends labs = labs := by unfold ends; rw [if_pos hA]
  have hw1 : IntKind.i64.wrap ((m : Int) + 1) = (m : Int) + 1 := IntWalk.i64_in _ (by omega)
  (refine goes_seq ?_; refine goes_region ?_; apply run_step rfl; (exact stp_assign rfl rfl); refine run_nil ?_; refine fin_seq ?_; refine goes_seq ?_; refine goes_region ?_; apply run_step rfl; (exact stp_move rfl rfl); apply run_step rfl; (exact stp_len rfl rfl rfl (by as_aux_lemma => kernel_rfl)); apply run_step rfl; (exact stp_add rfl rfl rfl hw1); apply run_step rfl; (exact stp_assign rfl rfl); refine run_nil ?_; refine fin_seq ?_; refine goes_seq ?_; refine goes_block ?_; refine goes_seq ?_; refine goes_region ?_; apply run_step rfl; (exact stp_move rfl rfl); apply run_step rfl; (exact stp_bin rfl rfl rfl rfl); apply run_step rfl; (exact stp_assign rfl rfl); refine run_nil ?_; refine fin_seq ?_)
  refine goes_cond rfl (fun e => ?_) (fun _ => ?_)
  · exfalso; simp at e; omega
  (repeat (first | refine goes_seq ?_ | refine fin_seq ?_ | refine goes_skip ?_ | refine goes_block ?_ | refine fin_block ?_ | refine goes_exit ?_ | refine fin_exit_eq ?_ | refine fin_exit_ne rfl ?_ | refine fin_exit_then ?_))
  refine goes_cut (St.of [(0, o1 (.esl 1000 i 0 m)), (3, vv (I6 ((m : Int) + 1))), (16, vv (.bool false))] [(1000, rowsRo zss)]) ?_ ?_
  · refine goes_region ?_
    (apply run_step rfl; (exact stp_move rfl rfl); apply run_step rfl; (exact stp_bin rfl rfl rfl rfl); apply run_step rfl; (exact stp_move rfl rfl))
    refine run_bool 19 rfl (fun e1 => ?_) (fun e1 => ?_)
    · have e1 : m = 1 := by simp at e1; omega
      have hg2 : ¬ iget labs 0 > 0 := fun h => hq ⟨e1, h⟩
      have hgl : (ivals labs)[0]? = some (I6 (iget labs 0)) := ivals_get (by omega)
      have hbf : binI .i64 .gtr (iget labs 0) 0 = some (.bool false) := by simp [binI]; omega
      (apply run_gYes rfl rfl rfl; (exact stp_move rfl rfl); apply run_gYes rfl rfl rfl; (first | exact stp_bin rfl rfl rfl hbf | exact stp_ixE (j := 0) rfl rfl rfl rfl rfl (by as_aux_lemma => kernel_rfl) hrow rfl (by omega) hilm | exact stp_loadE' rfl (by as_aux_lemma => kernel_rfl) rfl rfl rfl hrow hgl); apply run_gYes rfl rfl rfl; (first | exact stp_bin rfl rfl rfl hbf | exact stp_ixE (j := 0) rfl rfl rfl rfl rfl (by as_aux_lemma => kernel_rfl) hrow rfl (by omega) hilm | exact stp_loadE' rfl (by as_aux_lemma => kernel_rfl) rfl rfl rfl hrow hgl); apply run_gYes rfl rfl rfl; (first | exact stp_bin rfl rfl rfl hbf | exact stp_ixE (j := 0) rfl rfl rfl rfl rfl (by as_aux_lemma => kernel_rfl) hrow rfl (by omega) hilm | exact stp_loadE' rfl (by as_aux_lemma => kernel_rfl) rfl rfl rfl hrow hgl); apply run_step rfl; (exact stp_pickT rfl rfl rfl); apply run_step rfl; (exact stp_assign rfl rfl); refine run_nil ?_)
      exact fin_join (Wk.of ⟨rfl, rfl, rfl, trivial⟩ ⟨rfl, trivial⟩ trivial)
    · (apply run_gNo rfl rfl rfl rfl rfl; apply run_gNo rfl rfl rfl rfl rfl; apply run_gNo rfl rfl rfl rfl rfl; apply run_gNo rfl rfl rfl rfl rfl; apply run_step rfl; (exact stp_pickF rfl rfl rfl); apply run_step rfl; (exact stp_assign rfl rfl); refine run_nil ?_)
      exact fin_join (Wk.of ⟨rfl, rfl, rfl, trivial⟩ ⟨rfl, trivial⟩ trivial)
  (refine fin_seq ?_)
  refine goes_cond rfl (fun e => by cases e) (fun _ => ?_)
  (refine goes_seq ?_; refine goes_region ?_; apply run_step rfl; (exact stp_move rfl rfl); apply run_step rfl; (exact stp_lit2I (E := 2) rfl (by as_aux_lemma => kernel_rfl) rfl rfl); apply run_step rfl; (first | (apply call_gate 209; exact stp_callR hE1 (by as_aux_lemma => kernel_rfl) rfl rfl ⟨rfl, rfl, trivial⟩ ⟨⟨_, rfl, .inl rfl⟩, ⟨_, rfl, .inr rfl⟩, trivial⟩ rfl rfl) | exact stp_lit3I (E := 2) rfl (by as_aux_lemma => kernel_rfl) rfl rfl rfl | exact stp_lit4I (E := 2) rfl (by as_aux_lemma => kernel_rfl) rfl rfl rfl rfl); apply run_step rfl; (exact stp_assign rfl rfl); refine run_nil ?_; refine fin_seq ?_)
  refine goes_cond rfl (fun e => by cases e) (fun _ => ?_)
  (refine goes_seq ?_; refine goes_region ?_; apply run_step rfl; (exact stp_move rfl rfl); apply run_step rfl; (first | (apply call_gate 209; exact stp_callR hE2 (by as_aux_lemma => kernel_rfl) rfl rfl ⟨rfl, rfl, trivial⟩ ⟨⟨_, rfl, .inl rfl⟩, ⟨_, rfl, .inr rfl⟩, trivial⟩ rfl rfl) | exact stp_lit3I (E := 2) rfl (by as_aux_lemma => kernel_rfl) rfl rfl rfl | exact stp_lit4I (E := 2) rfl (by as_aux_lemma => kernel_rfl) rfl rfl rfl rfl); apply run_step rfl; (first | (apply call_gate 209; exact stp_callR hE2 (by as_aux_lemma => kernel_rfl) rfl rfl ⟨rfl, rfl, trivial⟩ ⟨⟨_, rfl, .inl rfl⟩, ⟨_, rfl, .inr rfl⟩, trivial⟩ rfl rfl) | exact stp_lit3I (E := 2) rfl (by as_aux_lemma => kernel_rfl) rfl rfl rfl | exact stp_lit4I (E := 2) rfl (by as_aux_lemma => kernel_rfl) rfl rfl rfl rfl); apply run_step rfl; (exact stp_assign rfl rfl); refine run_nil ?_; refine fin_seq ?_)
  refine goes_cond rfl (fun e => by cases e) (fun _ => ?_)
  (refine goes_seq ?_; refine goes_region ?_; apply run_step rfl; (exact stp_move rfl rfl); apply run_step rfl; (first | (apply call_gate 209; exact stp_callR hE3 (by as_aux_lemma => kernel_rfl) rfl rfl ⟨rfl, rfl, trivial⟩ ⟨⟨_, rfl, .inl rfl⟩, ⟨_, rfl, .inr rfl⟩, trivial⟩ rfl rfl) | exact stp_lit3I (E := 2) rfl (by as_aux_lemma => kernel_rfl) rfl rfl rfl | exact stp_lit4I (E := 2) rfl (by as_aux_lemma => kernel_rfl) rfl rfl rfl rfl); apply run_step rfl; (first | (apply call_gate 209; exact stp_callR hE3 (by as_aux_lemma => kernel_rfl) rfl rfl ⟨rfl, rfl, trivial⟩ ⟨⟨_, rfl, .inl rfl⟩, ⟨_, rfl, .inr rfl⟩, trivial⟩ rfl rfl) | exact stp_lit3I (E := 2) rfl (by as_aux_lemma => kernel_rfl) rfl rfl rfl | exact stp_lit4I (E := 2) rfl (by as_aux_lemma => kernel_rfl) rfl rfl rfl rfl); apply run_step rfl; (exact stp_assign rfl rfl); refine run_nil ?_; refine fin_seq ?_)
  refine goes_cond rfl (fun e => by cases e) (fun _ => ?_)
  (refine goes_skip ?_; refine fin_block ?_; refine fin_seq ?_; refine goes_seq ?_; refine goes_seq ?_; refine goes_region ?_; apply run_step rfl; (exact stp_move rfl rfl); apply run_step rfl; (exact stp_bin rfl rfl rfl rfl); refine run_nil ?_; refine fin_seq ?_)
  refine goes_cond rfl (fun e => ?_) (fun _ => ?_)
  · exfalso; simp at e; omega
  (refine goes_skip ?_; refine fin_seq ?_; refine goes_seq ?_; refine goes_region ?_; apply run_step rfl; (exact stp_move rfl rfl); apply run_step rfl; (exact stp_assign rfl rfl); refine run_nil ?_; refine fin_seq ?_; refine goes_seq ?_; refine goes_seq ?_; refine goes_region ?_; apply run_step rfl; (exact stp_move rfl rfl); apply run_step rfl; (first | exact stp_ixE (j := 0) rfl rfl rfl rfl rfl (by as_aux_lemma => kernel_rfl) hrow rfl (by omega) hilm | exact stp_loadE' rfl (by as_aux_lemma => kernel_rfl) rfl rfl rfl hrow hgl); apply run_step rfl; (first | exact stp_ixE (j := 0) rfl rfl rfl rfl rfl (by as_aux_lemma => kernel_rfl) hrow rfl (by omega) hilm | exact stp_loadE' rfl (by as_aux_lemma => kernel_rfl) rfl rfl rfl hrow hgl); apply run_step rfl; (exact stp_bin rfl rfl rfl rfl); refine run_nil ?_; refine fin_seq ?_)
  refine goes_cond rfl (fun e => ?_) (fun e => ?_)
  · exfalso; simp at e; exact e hA
  (refine goes_skip ?_; refine fin_seq ?_; refine goes_seq ?_; refine goes_seq ?_; refine goes_region ?_; apply run_step rfl; (exact stp_assign rfl rfl); refine run_nil ?_; refine fin_seq ?_; refine goes_block ?_)
  refine goes_loop (fun k : Nat => St.of [(3, vv (I6 ((m : Int) + 1))), (4, o1 (.esl 1000 i 0 m)), (5, vv (I6 k))] [(1000, rowsRo zss)]) (fun k => k ≤ m - 1 ∧ ∀ q, q < k → iget (ends labs) q = 3) (fun k => m - k) 0 ⟨Nat.zero_le _, fun q h => absurd h (by omega)⟩ (Wk.of ⟨rfl, rfl, rfl, trivial⟩ ⟨rfl, trivial⟩ trivial) ?_
  rintro k ⟨hk, hq3⟩
  have hkm : k < m := by omega
  have hgk : (ivals labs)[k]? = some (I6 (iget (ends labs) k)) := by rw [hE]; exact ivals_get (by first | omega | (rw [List.length_reverse]; omega))
  have hwk : IntKind.i64.wrap ((k : Int) + 1) = (k : Int) + 1 := IntWalk.i64_in _ (by omega)
  (refine goes_seq ?_; refine goes_seq ?_; refine goes_region ?_; apply run_step rfl; (exact stp_move rfl rfl); apply run_step rfl; (exact stp_add rfl rfl rfl hwk); apply run_step rfl; (exact stp_move rfl rfl); apply run_step rfl; (exact stp_len rfl rfl rfl (by as_aux_lemma => kernel_rfl)); apply run_step rfl; (exact stp_bin rfl rfl rfl rfl); refine run_nil ?_; refine fin_seq ?_)
  refine goes_if rfl (fun hlt => ?_) (fun hlt => ?_)
  · (refine goes_skip ?_; refine fin_seq ?_; refine goes_seq ?_; refine goes_block ?_; refine goes_seq ?_; refine goes_region ?_; apply run_step rfl; (exact stp_move rfl rfl); apply run_step rfl; (exact stp_move rfl rfl); apply run_step rfl; (first | exact stp_ixE (j := k) rfl rfl rfl rfl rfl (by as_aux_lemma => kernel_rfl) hrow rfl hkm hilm | exact stp_loadE' rfl (by as_aux_lemma => kernel_rfl) rfl rfl rfl hrow hgk); apply run_step rfl; (first | exact stp_ixE (j := k) rfl rfl rfl rfl rfl (by as_aux_lemma => kernel_rfl) hrow rfl hkm hilm | exact stp_loadE' rfl (by as_aux_lemma => kernel_rfl) rfl rfl rfl hrow hgk); apply run_step rfl; (exact stp_bin rfl rfl rfl rfl); refine run_nil ?_; refine fin_seq ?_)
    refine goes_cond rfl (fun e => ?_) (fun e => ?_)
    · exfalso
      have := tailOk_at ht (k := k) (by omega)
      simp at e
      exact e this
    · have e : iget (ends labs) k = 3 := by simpa using e
      (refine goes_skip ?_; refine fin_block ?_; refine fin_seq ?_; refine goes_region ?_; apply run_step rfl; (exact stp_move rfl rfl); apply run_step rfl; (exact stp_add rfl rfl rfl hwk); apply run_step rfl; (exact stp_assign rfl rfl); refine run_nil ?_)
      exact fin_round (k + 1) ⟨by omega, fun q h => by
        by_cases e' : q = k
        · subst e'; exact e
        · exact hq3 q (by omega)⟩ (by omega) (Wk.of ⟨rfl, rfl, rfl, trivial⟩ ⟨rfl, trivial⟩ trivial)
  · have hgm : (ivals labs)[m - 1]? = some (I6 (iget (ends labs) (m - 1))) := by rw [hE]; exact ivals_get (by first | omega | (rw [List.length_reverse]; omega))
    have hm1 : (m : Int) - 1 = ((m - 1 : Nat) : Int) := by omega
    have hws : IntKind.i64.wrap ((m : Int) - 1) = (m : Int) - 1 := IntWalk.i64_in _ (by omega)
    rw [hm] at hlast
    (refine goes_exit ?_; refine fin_exit_then ?_; refine fin_exit_then ?_; refine fin_exit_eq ?_; refine fin_seq ?_; refine goes_seq ?_; refine goes_region ?_; apply run_step rfl; (exact stp_lit0 (E := 2) (k := 1) rfl (by as_aux_lemma => kernel_rfl)); apply run_step rfl; (exact stp_assign rfl rfl); refine run_nil ?_; refine fin_seq ?_; refine goes_seq ?_; refine goes_seq ?_; refine goes_region ?_; apply run_step rfl; (exact stp_move rfl rfl); apply run_step rfl; (exact stp_move rfl rfl); apply run_step rfl; (exact stp_len rfl rfl rfl (by as_aux_lemma => kernel_rfl)); apply run_step rfl; (first | exact stp_sub rfl rfl rfl hws | exact stp_ixE (j := m - 1) rfl rfl rfl rfl rfl (by as_aux_lemma => kernel_rfl) hrow hm1 (by omega) hilm | exact stp_loadE' rfl (by as_aux_lemma => kernel_rfl) rfl rfl rfl hrow hgm); apply run_step rfl; (first | exact stp_sub rfl rfl rfl hws | exact stp_ixE (j := m - 1) rfl rfl rfl rfl rfl (by as_aux_lemma => kernel_rfl) hrow hm1 (by omega) hilm | exact stp_loadE' rfl (by as_aux_lemma => kernel_rfl) rfl rfl rfl hrow hgm); apply run_step rfl; (first | exact stp_sub rfl rfl rfl hws | exact stp_ixE (j := m - 1) rfl rfl rfl rfl rfl (by as_aux_lemma => kernel_rfl) hrow hm1 (by omega) hilm | exact stp_loadE' rfl (by as_aux_lemma => kernel_rfl) rfl rfl rfl hrow hgm); refine run_nil ?_; refine fin_seq ?_; refine goes_block ?_; refine goes_seq ?_; refine goes_region ?_; apply run_step rfl; (exact stp_bin rfl rfl rfl rfl); apply run_step rfl; (exact stp_assign rfl rfl); refine run_nil ?_; refine fin_seq ?_)
    refine goes_cond rfl (fun e => ?_) (fun _ => ?_)
    · exfalso; simp at e; omega
    (refine goes_seq ?_; refine goes_region ?_; apply run_step rfl; (exact stp_bin rfl rfl rfl rfl); apply run_step rfl; (exact stp_assign rfl rfl); refine run_nil ?_; refine fin_seq ?_)
    refine goes_cond rfl (fun _ => ?_) (fun e => ?_)
    rotate_left
    · exfalso; simp at e; exact e hlast
    (refine goes_seq ?_; refine goes_region ?_; apply run_step rfl; (exact stp_assign rfl rfl); refine run_nil ?_; refine fin_seq ?_; refine goes_block ?_)
    have hw2 : IntKind.i64.wrap (2 * ((m : Int) + 1)) = 2 * ((m : Int) + 1) := IntWalk.i64_in _ (by omega)
    refine goes_loop (fun k : Nat => St.of [(3, vv (I6 ((m : Int) + 1))), (6, o1 (.sl 65 0 k)), (8, vv (I6 (2 + 2 * (k : Int))))] [(65, leOw (ramp k 2))]) (fun k => k ≤ m + 1) (fun k => m + 1 - k) 0 (Nat.zero_le _) (Wk.of ⟨rfl, rfl, rfl, trivial⟩ ⟨rfl, trivial⟩ trivial) ?_
    rintro k hk
    have hwa : IntKind.i64.wrap (2 + 2 * (k : Int) + 2) = 2 + 2 * ((k + 1 : Nat) : Int) := (IntWalk.i64_in _ (by omega)).trans (by omega)
    (refine goes_seq ?_; refine goes_seq ?_; refine goes_region ?_; apply run_step rfl; (exact stp_move rfl rfl); apply run_step rfl; (exact stp_move rfl rfl); apply run_step rfl; (exact stp_mul rfl rfl rfl hw2); apply run_step rfl; (exact stp_bin rfl rfl rfl rfl); refine run_nil ?_; refine fin_seq ?_)
    refine goes_if rfl (fun hlt => ?_) (fun hlt => ?_)
    · (refine goes_skip ?_; refine fin_seq ?_; refine goes_seq ?_; refine goes_block ?_; refine goes_region ?_; apply run_step rfl; (exact stp_move rfl rfl); apply run_step rfl; (exact stp_move rfl rfl); apply run_step rfl; (exact stp_lit1I (E := 2) rfl (by as_aux_lemma => kernel_rfl) rfl); apply run_step rfl; (first | exact stp_add rfl rfl rfl hwa | exact stp_appI rfl (by as_aux_lemma => kernel_rfl) rfl rfl rfl (ramp_len _ _) rfl rfl (by omega)); apply run_step rfl; (exact stp_assign rfl rfl); refine run_nil ?_; refine fin_block ?_; refine fin_seq ?_; refine goes_region ?_; apply run_step rfl; (exact stp_move rfl rfl); apply run_step rfl; (first | exact stp_add rfl rfl rfl hwa | exact stp_appI rfl (by as_aux_lemma => kernel_rfl) rfl rfl rfl (ramp_len _ _) rfl rfl (by omega)); apply run_step rfl; (exact stp_assign rfl rfl); refine run_nil ?_)
      exact fin_round (k + 1) (by omega) (by omega) (Wk.of ⟨rfl, rfl, rfl, trivial⟩ ⟨by rw [ramp_succ]; rfl, trivial⟩ trivial)
    · obtain rfl : k = m + 1 := by omega
      (refine goes_exit ?_; refine fin_exit_then ?_; refine fin_exit_then ?_; refine fin_exit_eq ?_; refine fin_block ?_; refine fin_seq ?_; refine goes_seq ?_; refine goes_region ?_; apply run_step rfl; (exact stp_move rfl rfl); apply run_step rfl; (exact stp_assign rfl rfl); refine run_nil ?_; refine fin_seq ?_; refine goes_ret ?_)
      exact fin_ret1 (.inl rfl) rfl (.tmp rfl) ⟨rfl, trivial⟩ trivial
set_option maxRecDepth 100000 in
set_option maxHeartbeats 2000000 in
theorem degS6oA_fc (zss : List (List Int)) (i m : Nat) (labs : List Int) (hi : i < zss.length) (hlb : lget zss i = labs) (hm : labs.length = m) (hm4 : m ≤ 4) (h0 : 0 < m) (hq : ¬ (m = 1 ∧ 0 < iget labs 0)) (e1 : eith labs [3, 5] = false) (e2 : eith labs [3, 3, 5] = false) (e3 : eith labs [3, 4, 3] = false) (h2 : 2 ≤ m) (hA : iget labs 0 = 3) (ht : tailOk labs = true) (hlast : iget (ends labs) (labs.length - 1) ≠ 3 ∧ iget (ends labs) (labs.length - 1) ≠ 4) :
    FC Try.prog 181 [(1000, rowsRo zss)] [o1 (.esl 1000 i 0 m)] [(65, leOw [])] (o1 (.sl 65 0 0)) [] := by
  have hrow : (irows zss)[i]? = some (ivals labs) := by rw [← hlb]; exact irows_get hi
  have hilm : m ≤ (ivals labs).length := by rw [ivals_len, hm]; exact Nat.le_refl _
  have hE1 := (eitherS_fc zss i m 2 labs [3, 5] hi hlb hm rfl (by omega) (by omega)).nm [(1000, 1000), (1001, 31)] (by kernel_rfl)
  have hE1 : FC Try.prog 209 [(1000, rowsRo zss), (31, wRo [3, 5])] [o1 (.esl 1000 i 0 m), o1 (.sl 31 0 2)] [] (vv (.bool (eith labs [3, 5]))) [] := hE1
  rw [e1] at hE1
  have hE2 := (eitherS_fc zss i m 3 labs [3, 3, 5] hi hlb hm rfl (by omega) (by omega)).nm [(1000, 1000), (1001, 36)] (by kernel_rfl)
  have hE2 : FC Try.prog 209 [(1000, rowsRo zss), (36, wRo [3, 3, 5])] [o1 (.esl 1000 i 0 m), o1 (.sl 36 0 3)] [] (vv (.bool (eith labs [3, 3, 5]))) [] := hE2
  rw [e2] at hE2
  have hE3 := (eitherS_fc zss i m 3 labs [3, 4, 3] hi hlb hm rfl (by omega) (by omega)).nm [(1000, 1000), (1001, 41)] (by kernel_rfl)
  have hE3 : FC Try.prog 209 [(1000, rowsRo zss), (41, wRo [3, 4, 3])] [o1 (.esl 1000 i 0 m), o1 (.sl 41 0 3)] [] (vv (.bool (eith labs [3, 4, 3]))) [] := hE3
  rw [e3] at hE3
  refine fc_enter (nt := 97) Try.func181 rfl rfl (by simp) fun w0 ω0 => ?_
  have hgl : (ivals labs)[0]? = some (I6 (iget labs 0)) := ivals_get (by omega)
  have hE : ends labs = labs := by unfold ends; rw [if_pos hA]
  have hw1 : IntKind.i64.wrap ((m : Int) + 1) = (m : Int) + 1 := IntWalk.i64_in _ (by omega)
  (refine goes_seq ?_; refine goes_region ?_; apply run_step rfl; (exact stp_assign rfl rfl); refine run_nil ?_; refine fin_seq ?_; refine goes_seq ?_; refine goes_region ?_; apply run_step rfl; (exact stp_move rfl rfl); apply run_step rfl; (exact stp_len rfl rfl rfl (by as_aux_lemma => kernel_rfl)); apply run_step rfl; (exact stp_add rfl rfl rfl hw1); apply run_step rfl; (exact stp_assign rfl rfl); refine run_nil ?_; refine fin_seq ?_; refine goes_seq ?_; refine goes_block ?_; refine goes_seq ?_; refine goes_region ?_; apply run_step rfl; (exact stp_move rfl rfl); apply run_step rfl; (exact stp_bin rfl rfl rfl rfl); apply run_step rfl; (exact stp_assign rfl rfl); refine run_nil ?_; refine fin_seq ?_)
  refine goes_cond rfl (fun e => ?_) (fun _ => ?_)
  · exfalso; simp at e; omega
  (repeat (first | refine goes_seq ?_ | refine fin_seq ?_ | refine goes_skip ?_ | refine goes_block ?_ | refine fin_block ?_ | refine goes_exit ?_ | refine fin_exit_eq ?_ | refine fin_exit_ne rfl ?_ | refine fin_exit_then ?_))
  refine goes_cut (St.of [(0, o1 (.esl 1000 i 0 m)), (3, vv (I6 ((m : Int) + 1))), (16, vv (.bool false))] [(1000, rowsRo zss)]) ?_ ?_
  · refine goes_region ?_
    (apply run_step rfl; (exact stp_move rfl rfl); apply run_step rfl; (exact stp_bin rfl rfl rfl rfl); apply run_step rfl; (exact stp_move rfl rfl))
    refine run_bool 19 rfl (fun e1 => ?_) (fun e1 => ?_)
    · have e1 : m = 1 := by simp at e1; omega
      have hg2 : ¬ iget labs 0 > 0 := fun h => hq ⟨e1, h⟩
      have hgl : (ivals labs)[0]? = some (I6 (iget labs 0)) := ivals_get (by omega)
      have hbf : binI .i64 .gtr (iget labs 0) 0 = some (.bool false) := by simp [binI]; omega
      (apply run_gYes rfl rfl rfl; (exact stp_move rfl rfl); apply run_gYes rfl rfl rfl; (first | exact stp_bin rfl rfl rfl hbf | exact stp_ixE (j := 0) rfl rfl rfl rfl rfl (by as_aux_lemma => kernel_rfl) hrow rfl (by omega) hilm | exact stp_loadE' rfl (by as_aux_lemma => kernel_rfl) rfl rfl rfl hrow hgl); apply run_gYes rfl rfl rfl; (first | exact stp_bin rfl rfl rfl hbf | exact stp_ixE (j := 0) rfl rfl rfl rfl rfl (by as_aux_lemma => kernel_rfl) hrow rfl (by omega) hilm | exact stp_loadE' rfl (by as_aux_lemma => kernel_rfl) rfl rfl rfl hrow hgl); apply run_gYes rfl rfl rfl; (first | exact stp_bin rfl rfl rfl hbf | exact stp_ixE (j := 0) rfl rfl rfl rfl rfl (by as_aux_lemma => kernel_rfl) hrow rfl (by omega) hilm | exact stp_loadE' rfl (by as_aux_lemma => kernel_rfl) rfl rfl rfl hrow hgl); apply run_step rfl; (exact stp_pickT rfl rfl rfl); apply run_step rfl; (exact stp_assign rfl rfl); refine run_nil ?_)
      exact fin_join (Wk.of ⟨rfl, rfl, rfl, trivial⟩ ⟨rfl, trivial⟩ trivial)
    · (apply run_gNo rfl rfl rfl rfl rfl; apply run_gNo rfl rfl rfl rfl rfl; apply run_gNo rfl rfl rfl rfl rfl; apply run_gNo rfl rfl rfl rfl rfl; apply run_step rfl; (exact stp_pickF rfl rfl rfl); apply run_step rfl; (exact stp_assign rfl rfl); refine run_nil ?_)
      exact fin_join (Wk.of ⟨rfl, rfl, rfl, trivial⟩ ⟨rfl, trivial⟩ trivial)
  (refine fin_seq ?_)
  refine goes_cond rfl (fun e => by cases e) (fun _ => ?_)
  (refine goes_seq ?_; refine goes_region ?_; apply run_step rfl; (exact stp_move rfl rfl); apply run_step rfl; (exact stp_lit2I (E := 2) rfl (by as_aux_lemma => kernel_rfl) rfl rfl); apply run_step rfl; (first | (apply call_gate 209; exact stp_callR hE1 (by as_aux_lemma => kernel_rfl) rfl rfl ⟨rfl, rfl, trivial⟩ ⟨⟨_, rfl, .inl rfl⟩, ⟨_, rfl, .inr rfl⟩, trivial⟩ rfl rfl) | exact stp_lit3I (E := 2) rfl (by as_aux_lemma => kernel_rfl) rfl rfl rfl | exact stp_lit4I (E := 2) rfl (by as_aux_lemma => kernel_rfl) rfl rfl rfl rfl); apply run_step rfl; (exact stp_assign rfl rfl); refine run_nil ?_; refine fin_seq ?_)
  refine goes_cond rfl (fun e => by cases e) (fun _ => ?_)
  (refine goes_seq ?_; refine goes_region ?_; apply run_step rfl; (exact stp_move rfl rfl); apply run_step rfl; (first | (apply call_gate 209; exact stp_callR hE2 (by as_aux_lemma => kernel_rfl) rfl rfl ⟨rfl, rfl, trivial⟩ ⟨⟨_, rfl, .inl rfl⟩, ⟨_, rfl, .inr rfl⟩, trivial⟩ rfl rfl) | exact stp_lit3I (E := 2) rfl (by as_aux_lemma => kernel_rfl) rfl rfl rfl | exact stp_lit4I (E := 2) rfl (by as_aux_lemma => kernel_rfl) rfl rfl rfl rfl); apply run_step rfl; (first | (apply call_gate 209; exact stp_callR hE2 (by as_aux_lemma => kernel_rfl) rfl rfl ⟨rfl, rfl, trivial⟩ ⟨⟨_, rfl, .inl rfl⟩, ⟨_, rfl, .inr rfl⟩, trivial⟩ rfl rfl) | exact stp_lit3I (E := 2) rfl (by as_aux_lemma => kernel_rfl) rfl rfl rfl | exact stp_lit4I (E := 2) rfl (by as_aux_lemma => kernel_rfl) rfl rfl rfl rfl); apply run_step rfl; (exact stp_assign rfl rfl); refine run_nil ?_; refine fin_seq ?_)
  refine goes_cond rfl (fun e => by cases e) (fun _ => ?_)
  (refine goes_seq ?_; refine goes_region ?_; apply run_step rfl; (exact stp_move rfl rfl); apply run_step rfl; (first | (apply call_gate 209; exact stp_callR hE3 (by as_aux_lemma => kernel_rfl) rfl rfl ⟨rfl, rfl, trivial⟩ ⟨⟨_, rfl, .inl rfl⟩, ⟨_, rfl, .inr rfl⟩, trivial⟩ rfl rfl) | exact stp_lit3I (E := 2) rfl (by as_aux_lemma => kernel_rfl) rfl rfl rfl | exact stp_lit4I (E := 2) rfl (by as_aux_lemma => kernel_rfl) rfl rfl rfl rfl); apply run_step rfl; (first | (apply call_gate 209; exact stp_callR hE3 (by as_aux_lemma => kernel_rfl) rfl rfl ⟨rfl, rfl, trivial⟩ ⟨⟨_, rfl, .inl rfl⟩, ⟨_, rfl, .inr rfl⟩, trivial⟩ rfl rfl) | exact stp_lit3I (E := 2) rfl (by as_aux_lemma => kernel_rfl) rfl rfl rfl | exact stp_lit4I (E := 2) rfl (by as_aux_lemma => kernel_rfl) rfl rfl rfl rfl); apply run_step rfl; (exact stp_assign rfl rfl); refine run_nil ?_; refine fin_seq ?_)
  refine goes_cond rfl (fun e => by cases e) (fun _ => ?_)
  (refine goes_skip ?_; refine fin_block ?_; refine fin_seq ?_; refine goes_seq ?_; refine goes_seq ?_; refine goes_region ?_; apply run_step rfl; (exact stp_move rfl rfl); apply run_step rfl; (exact stp_bin rfl rfl rfl rfl); refine run_nil ?_; refine fin_seq ?_)
  refine goes_cond rfl (fun e => ?_) (fun _ => ?_)
  · exfalso; simp at e; omega
  (refine goes_skip ?_; refine fin_seq ?_; refine goes_seq ?_; refine goes_region ?_; apply run_step rfl; (exact stp_move rfl rfl); apply run_step rfl; (exact stp_assign rfl rfl); refine run_nil ?_; refine fin_seq ?_; refine goes_seq ?_; refine goes_seq ?_; refine goes_region ?_; apply run_step rfl; (exact stp_move rfl rfl); apply run_step rfl; (first | exact stp_ixE (j := 0) rfl rfl rfl rfl rfl (by as_aux_lemma => kernel_rfl) hrow rfl (by omega) hilm | exact stp_loadE' rfl (by as_aux_lemma => kernel_rfl) rfl rfl rfl hrow hgl); apply run_step rfl; (first | exact stp_ixE (j := 0) rfl rfl rfl rfl rfl (by as_aux_lemma => kernel_rfl) hrow rfl (by omega) hilm | exact stp_loadE' rfl (by as_aux_lemma => kernel_rfl) rfl rfl rfl hrow hgl); apply run_step rfl; (exact stp_bin rfl rfl rfl rfl); refine run_nil ?_; refine fin_seq ?_)
  refine goes_cond rfl (fun e => ?_) (fun e => ?_)
  · exfalso; simp at e; exact e hA
  (refine goes_skip ?_; refine fin_seq ?_; refine goes_seq ?_; refine goes_seq ?_; refine goes_region ?_; apply run_step rfl; (exact stp_assign rfl rfl); refine run_nil ?_; refine fin_seq ?_; refine goes_block ?_)
  refine goes_loop (fun k : Nat => St.of [(3, vv (I6 ((m : Int) + 1))), (4, o1 (.esl 1000 i 0 m)), (5, vv (I6 k))] [(1000, rowsRo zss)]) (fun k => k ≤ m - 1 ∧ ∀ q, q < k → iget (ends labs) q = 3) (fun k => m - k) 0 ⟨Nat.zero_le _, fun q h => absurd h (by omega)⟩ (Wk.of ⟨rfl, rfl, rfl, trivial⟩ ⟨rfl, trivial⟩ trivial) ?_
  rintro k ⟨hk, hq3⟩
  have hkm : k < m := by omega
  have hgk : (ivals labs)[k]? = some (I6 (iget (ends labs) k)) := by rw [hE]; exact ivals_get (by first | omega | (rw [List.length_reverse]; omega))
  have hwk : IntKind.i64.wrap ((k : Int) + 1) = (k : Int) + 1 := IntWalk.i64_in _ (by omega)
  (refine goes_seq ?_; refine goes_seq ?_; refine goes_region ?_; apply run_step rfl; (exact stp_move rfl rfl); apply run_step rfl; (exact stp_add rfl rfl rfl hwk); apply run_step rfl; (exact stp_move rfl rfl); apply run_step rfl; (exact stp_len rfl rfl rfl (by as_aux_lemma => kernel_rfl)); apply run_step rfl; (exact stp_bin rfl rfl rfl rfl); refine run_nil ?_; refine fin_seq ?_)
  refine goes_if rfl (fun hlt => ?_) (fun hlt => ?_)
  · (refine goes_skip ?_; refine fin_seq ?_; refine goes_seq ?_; refine goes_block ?_; refine goes_seq ?_; refine goes_region ?_; apply run_step rfl; (exact stp_move rfl rfl); apply run_step rfl; (exact stp_move rfl rfl); apply run_step rfl; (first | exact stp_ixE (j := k) rfl rfl rfl rfl rfl (by as_aux_lemma => kernel_rfl) hrow rfl hkm hilm | exact stp_loadE' rfl (by as_aux_lemma => kernel_rfl) rfl rfl rfl hrow hgk); apply run_step rfl; (first | exact stp_ixE (j := k) rfl rfl rfl rfl rfl (by as_aux_lemma => kernel_rfl) hrow rfl hkm hilm | exact stp_loadE' rfl (by as_aux_lemma => kernel_rfl) rfl rfl rfl hrow hgk); apply run_step rfl; (exact stp_bin rfl rfl rfl rfl); refine run_nil ?_; refine fin_seq ?_)
    refine goes_cond rfl (fun e => ?_) (fun e => ?_)
    · exfalso
      have := tailOk_at ht (k := k) (by omega)
      simp at e
      exact e this
    · have e : iget (ends labs) k = 3 := by simpa using e
      (refine goes_skip ?_; refine fin_block ?_; refine fin_seq ?_; refine goes_region ?_; apply run_step rfl; (exact stp_move rfl rfl); apply run_step rfl; (exact stp_add rfl rfl rfl hwk); apply run_step rfl; (exact stp_assign rfl rfl); refine run_nil ?_)
      exact fin_round (k + 1) ⟨by omega, fun q h => by
        by_cases e' : q = k
        · subst e'; exact e
        · exact hq3 q (by omega)⟩ (by omega) (Wk.of ⟨rfl, rfl, rfl, trivial⟩ ⟨rfl, trivial⟩ trivial)
  · have hgm : (ivals labs)[m - 1]? = some (I6 (iget (ends labs) (m - 1))) := by rw [hE]; exact ivals_get (by first | omega | (rw [List.length_reverse]; omega))
    have hm1 : (m : Int) - 1 = ((m - 1 : Nat) : Int) := by omega
    have hws : IntKind.i64.wrap ((m : Int) - 1) = (m : Int) - 1 := IntWalk.i64_in _ (by omega)
    rw [hm] at hlast
    (refine goes_exit ?_; refine fin_exit_then ?_; refine fin_exit_then ?_; refine fin_exit_eq ?_; refine fin_seq ?_; refine goes_seq ?_; refine goes_region ?_; apply run_step rfl; (exact stp_lit0 (E := 2) (k := 1) rfl (by as_aux_lemma => kernel_rfl)); apply run_step rfl; (exact stp_assign rfl rfl); refine run_nil ?_; refine fin_seq ?_; refine goes_seq ?_; refine goes_seq ?_; refine goes_region ?_; apply run_step rfl; (exact stp_move rfl rfl); apply run_step rfl; (exact stp_move rfl rfl); apply run_step rfl; (exact stp_len rfl rfl rfl (by as_aux_lemma => kernel_rfl)); apply run_step rfl; (first | exact stp_sub rfl rfl rfl hws | exact stp_ixE (j := m - 1) rfl rfl rfl rfl rfl (by as_aux_lemma => kernel_rfl) hrow hm1 (by omega) hilm | exact stp_loadE' rfl (by as_aux_lemma => kernel_rfl) rfl rfl rfl hrow hgm); apply run_step rfl; (first | exact stp_sub rfl rfl rfl hws | exact stp_ixE (j := m - 1) rfl rfl rfl rfl rfl (by as_aux_lemma => kernel_rfl) hrow hm1 (by omega) hilm | exact stp_loadE' rfl (by as_aux_lemma => kernel_rfl) rfl rfl rfl hrow hgm); apply run_step rfl; (first | exact stp_sub rfl rfl rfl hws | exact stp_ixE (j := m - 1) rfl rfl rfl rfl rfl (by as_aux_lemma => kernel_rfl) hrow hm1 (by omega) hilm | exact stp_loadE' rfl (by as_aux_lemma => kernel_rfl) rfl rfl rfl hrow hgm); refine run_nil ?_; refine fin_seq ?_; refine goes_block ?_; refine goes_seq ?_; refine goes_region ?_; apply run_step rfl; (exact stp_bin rfl rfl rfl rfl); apply run_step rfl; (exact stp_assign rfl rfl); refine run_nil ?_; refine fin_seq ?_)
    refine goes_cond rfl (fun e => ?_) (fun _ => ?_)
    · exfalso; simp at e; exact hlast.1 e
    (refine goes_seq ?_; refine goes_region ?_; apply run_step rfl; (exact stp_bin rfl rfl rfl rfl); apply run_step rfl; (exact stp_assign rfl rfl); refine run_nil ?_; refine fin_seq ?_)
    refine goes_cond rfl (fun e => ?_) (fun _ => ?_)
    · exfalso; simp at e; exact hlast.2 e
    (refine goes_skip ?_; refine fin_block ?_; refine fin_seq ?_; refine goes_seq ?_; refine goes_region ?_; apply run_step rfl; (exact stp_move rfl rfl); apply run_step rfl; (exact stp_assign rfl rfl); refine run_nil ?_; refine fin_seq ?_; refine goes_ret ?_)
    exact fin_ret1 (.inl rfl) rfl (.tmp rfl) ⟨rfl, trivial⟩ trivial
set_option maxRecDepth 100000 in
set_option maxHeartbeats 2000000 in
theorem degS6nB_fc (zss : List (List Int)) (i m : Nat) (labs : List Int) (hi : i < zss.length) (hlb : lget zss i = labs) (hm : labs.length = m) (hm4 : m ≤ 4) (h0 : 0 < m) (hq : ¬ (m = 1 ∧ 0 < iget labs 0)) (e1 : eith labs [3, 5] = false) (e2 : eith labs [3, 3, 5] = false) (e3 : eith labs [3, 4, 3] = false) (h2 : 2 ≤ m) (hA : iget labs 0 ≠ 3) (ht : tailOk labs = false) :
    FC Try.prog 181 [(1000, rowsRo zss)] [o1 (.esl 1000 i 0 m)] [] (vv (.slice none 0 0)) [] := by
  have hrow : (irows zss)[i]? = some (ivals labs) := by rw [← hlb]; exact irows_get hi
  have hilm : m ≤ (ivals labs).length := by rw [ivals_len, hm]; exact Nat.le_refl _
  have hE1 := (eitherS_fc zss i m 2 labs [3, 5] hi hlb hm rfl (by omega) (by omega)).nm [(1000, 1000), (1001, 31)] (by kernel_rfl)
  have hE1 : FC Try.prog 209 [(1000, rowsRo zss), (31, wRo [3, 5])] [o1 (.esl 1000 i 0 m), o1 (.sl 31 0 2)] [] (vv (.bool (eith labs [3, 5]))) [] := hE1
  rw [e1] at hE1
  have hE2 := (eitherS_fc zss i m 3 labs [3, 3, 5] hi hlb hm rfl (by omega) (by omega)).nm [(1000, 1000), (1001, 36)] (by kernel_rfl)
  have hE2 : FC Try.prog 209 [(1000, rowsRo zss), (36, wRo [3, 3, 5])] [o1 (.esl 1000 i 0 m), o1 (.sl 36 0 3)] [] (vv (.bool (eith labs [3, 3, 5]))) [] := hE2
  rw [e2] at hE2
  have hE3 := (eitherS_fc zss i m 3 labs [3, 4, 3] hi hlb hm rfl (by omega) (by omega)).nm [(1000, 1000), (1001, 41)] (by kernel_rfl)
  have hE3 : FC Try.prog 209 [(1000, rowsRo zss), (41, wRo [3, 4, 3])] [o1 (.esl 1000 i 0 m), o1 (.sl 41 0 3)] [] (vv (.bool (eith labs [3, 4, 3]))) [] := hE3
  rw [e3] at hE3
  refine fc_enter (nt := 97) Try.func181 rfl rfl (by simp) fun w0 ω0 => ?_
  have hgl : (ivals labs)[0]? = some (I6 (iget labs 0)) := ivals_get (by omega)
  have hE : ends labs = labs.reverse := by unfold ends; rw [if_neg hA]
  have hrl : labs.reverse.length = m := by simpa using hm
  have hilr : m ≤ (ivals labs.reverse).length := by rw [ivals_len, hrl]; exact Nat.le_refl _
  have hTn := turnedR_fc 52 zss i hi (by rw [hlb]; omega)
  rw [hlb, hm] at hTn
  have hw1 : IntKind.i64.wrap ((m : Int) + 1) = (m : Int) + 1 := IntWalk.i64_in _ (by omega)
  (refine goes_seq ?_; refine goes_region ?_; apply run_step rfl; (exact stp_assign rfl rfl); refine run_nil ?_; refine fin_seq ?_; refine goes_seq ?_; refine goes_region ?_; apply run_step rfl; (exact stp_move rfl rfl); apply run_step rfl; (exact stp_len rfl rfl rfl (by as_aux_lemma => kernel_rfl)); apply run_step rfl; (exact stp_add rfl rfl rfl hw1); apply run_step rfl; (exact stp_assign rfl rfl); refine run_nil ?_; refine fin_seq ?_; refine goes_seq ?_; refine goes_block ?_; refine goes_seq ?_; refine goes_region ?_; apply run_step rfl; (exact stp_move rfl rfl); apply run_step rfl; (exact stp_bin rfl rfl rfl rfl); apply run_step rfl; (exact stp_assign rfl rfl); refine run_nil ?_; refine fin_seq ?_)
  refine goes_cond rfl (fun e => ?_) (fun _ => ?_)
  · exfalso; simp at e; omega
  (repeat (first | refine goes_seq ?_ | refine fin_seq ?_ | refine goes_skip ?_ | refine goes_block ?_ | refine fin_block ?_ | refine goes_exit ?_ | refine fin_exit_eq ?_ | refine fin_exit_ne rfl ?_ | refine fin_exit_then ?_))
  refine goes_cut (St.of [(0, o1 (.esl 1000 i 0 m)), (3, vv (I6 ((m : Int) + 1))), (16, vv (.bool false))] [(1000, rowsRo zss)]) ?_ ?_
  · refine goes_region ?_
    (apply run_step rfl; (exact stp_move rfl rfl); apply run_step rfl; (exact stp_bin rfl rfl rfl rfl); apply run_step rfl; (exact stp_move rfl rfl))
    refine run_bool 19 rfl (fun e1 => ?_) (fun e1 => ?_)
    · have e1 : m = 1 := by simp at e1; omega
      have hg2 : ¬ iget labs 0 > 0 := fun h => hq ⟨e1, h⟩
      have hgl : (ivals labs)[0]? = some (I6 (iget labs 0)) := ivals_get (by omega)
      have hbf : binI .i64 .gtr (iget labs 0) 0 = some (.bool false) := by simp [binI]; omega
      (apply run_gYes rfl rfl rfl; (exact stp_move rfl rfl); apply run_gYes rfl rfl rfl; (first | exact stp_bin rfl rfl rfl hbf | exact stp_ixE (j := 0) rfl rfl rfl rfl rfl (by as_aux_lemma => kernel_rfl) hrow rfl (by omega) hilm | exact stp_loadE' rfl (by as_aux_lemma => kernel_rfl) rfl rfl rfl hrow hgl); apply run_gYes rfl rfl rfl; (first | exact stp_bin rfl rfl rfl hbf | exact stp_ixE (j := 0) rfl rfl rfl rfl rfl (by as_aux_lemma => kernel_rfl) hrow rfl (by omega) hilm | exact stp_loadE' rfl (by as_aux_lemma => kernel_rfl) rfl rfl rfl hrow hgl); apply run_gYes rfl rfl rfl; (first | exact stp_bin rfl rfl rfl hbf | exact stp_ixE (j := 0) rfl rfl rfl rfl rfl (by as_aux_lemma => kernel_rfl) hrow rfl (by omega) hilm | exact stp_loadE' rfl (by as_aux_lemma => kernel_rfl) rfl rfl rfl hrow hgl); apply run_step rfl; (exact stp_pickT rfl rfl rfl); apply run_step rfl; (exact stp_assign rfl rfl); refine run_nil ?_)
      exact fin_join (Wk.of ⟨rfl, rfl, rfl, trivial⟩ ⟨rfl, trivial⟩ trivial)
    · (apply run_gNo rfl rfl rfl rfl rfl; apply run_gNo rfl rfl rfl rfl rfl; apply run_gNo rfl rfl rfl rfl rfl; apply run_gNo rfl rfl rfl rfl rfl; apply run_step rfl; (exact stp_pickF rfl rfl rfl); apply run_step rfl; (exact stp_assign rfl rfl); refine run_nil ?_)
      exact fin_join (Wk.of ⟨rfl, rfl, rfl, trivial⟩ ⟨rfl, trivial⟩ trivial)
  (refine fin_seq ?_)
  refine goes_cond rfl (fun e => by cases e) (fun _ => ?_)
  (refine goes_seq ?_; refine goes_region ?_; apply run_step rfl; (exact stp_move rfl rfl); apply run_step rfl; (exact stp_lit2I (E := 2) rfl (by as_aux_lemma => kernel_rfl) rfl rfl); apply run_step rfl; (first | (apply call_gate 209; exact stp_callR hE1 (by as_aux_lemma => kernel_rfl) rfl rfl ⟨rfl, rfl, trivial⟩ ⟨⟨_, rfl, .inl rfl⟩, ⟨_, rfl, .inr rfl⟩, trivial⟩ rfl rfl) | exact stp_lit3I (E := 2) rfl (by as_aux_lemma => kernel_rfl) rfl rfl rfl | exact stp_lit4I (E := 2) rfl (by as_aux_lemma => kernel_rfl) rfl rfl rfl rfl); apply run_step rfl; (exact stp_assign rfl rfl); refine run_nil ?_; refine fin_seq ?_)
  refine goes_cond rfl (fun e => by cases e) (fun _ => ?_)
  (refine goes_seq ?_; refine goes_region ?_; apply run_step rfl; (exact stp_move rfl rfl); apply run_step rfl; (first | (apply call_gate 209; exact stp_callR hE2 (by as_aux_lemma => kernel_rfl) rfl rfl ⟨rfl, rfl, trivial⟩ ⟨⟨_, rfl, .inl rfl⟩, ⟨_, rfl, .inr rfl⟩, trivial⟩ rfl rfl) | exact stp_lit3I (E := 2) rfl (by as_aux_lemma => kernel_rfl) rfl rfl rfl | exact stp_lit4I (E := 2) rfl (by as_aux_lemma => kernel_rfl) rfl rfl rfl rfl); apply run_step rfl; (first | (apply call_gate 209; exact stp_callR hE2 (by as_aux_lemma => kernel_rfl) rfl rfl ⟨rfl, rfl, trivial⟩ ⟨⟨_, rfl, .inl rfl⟩, ⟨_, rfl, .inr rfl⟩, trivial⟩ rfl rfl) | exact stp_lit3I (E := 2) rfl (by as_aux_lemma => kernel_rfl) rfl rfl rfl | exact stp_lit4I (E := 2) rfl (by as_aux_lemma => kernel_rfl) rfl rfl rfl rfl); apply run_step rfl; (exact stp_assign rfl rfl); refine run_nil ?_; refine fin_seq ?_)
  refine goes_cond rfl (fun e => by cases e) (fun _ => ?_)
  (refine goes_seq ?_; refine goes_region ?_; apply run_step rfl; (exact stp_move rfl rfl); apply run_step rfl; (first | (apply call_gate 209; exact stp_callR hE3 (by as_aux_lemma => kernel_rfl) rfl rfl ⟨rfl, rfl, trivial⟩ ⟨⟨_, rfl, .inl rfl⟩, ⟨_, rfl, .inr rfl⟩, trivial⟩ rfl rfl) | exact stp_lit3I (E := 2) rfl (by as_aux_lemma => kernel_rfl) rfl rfl rfl | exact stp_lit4I (E := 2) rfl (by as_aux_lemma => kernel_rfl) rfl rfl rfl rfl); apply run_step rfl; (first | (apply call_gate 209; exact stp_callR hE3 (by as_aux_lemma => kernel_rfl) rfl rfl ⟨rfl, rfl, trivial⟩ ⟨⟨_, rfl, .inl rfl⟩, ⟨_, rfl, .inr rfl⟩, trivial⟩ rfl rfl) | exact stp_lit3I (E := 2) rfl (by as_aux_lemma => kernel_rfl) rfl rfl rfl | exact stp_lit4I (E := 2) rfl (by as_aux_lemma => kernel_rfl) rfl rfl rfl rfl); apply run_step rfl; (exact stp_assign rfl rfl); refine run_nil ?_; refine fin_seq ?_)
  refine goes_cond rfl (fun e => by cases e) (fun _ => ?_)
  (refine goes_skip ?_; refine fin_block ?_; refine fin_seq ?_; refine goes_seq ?_; refine goes_seq ?_; refine goes_region ?_; apply run_step rfl; (exact stp_move rfl rfl); apply run_step rfl; (exact stp_bin rfl rfl rfl rfl); refine run_nil ?_; refine fin_seq ?_)
  refine goes_cond rfl (fun e => ?_) (fun _ => ?_)
  · exfalso; simp at e; omega
  (refine goes_skip ?_; refine fin_seq ?_; refine goes_seq ?_; refine goes_region ?_; apply run_step rfl; (exact stp_move rfl rfl); apply run_step rfl; (exact stp_assign rfl rfl); refine run_nil ?_; refine fin_seq ?_; refine goes_seq ?_; refine goes_seq ?_; refine goes_region ?_; apply run_step rfl; (exact stp_move rfl rfl); apply run_step rfl; (first | exact stp_ixE (j := 0) rfl rfl rfl rfl rfl (by as_aux_lemma => kernel_rfl) hrow rfl (by omega) hilm | exact stp_loadE' rfl (by as_aux_lemma => kernel_rfl) rfl rfl rfl hrow hgl); apply run_step rfl; (first | exact stp_ixE (j := 0) rfl rfl rfl rfl rfl (by as_aux_lemma => kernel_rfl) hrow rfl (by omega) hilm | exact stp_loadE' rfl (by as_aux_lemma => kernel_rfl) rfl rfl rfl hrow hgl); apply run_step rfl; (exact stp_bin rfl rfl rfl rfl); refine run_nil ?_; refine fin_seq ?_)
  refine goes_cond rfl (fun e => ?_) (fun e => ?_)
  rotate_left
  · exfalso; simp at e; exact hA e
  (refine goes_region ?_; apply run_step rfl; (exact stp_move rfl rfl); apply run_step rfl; (apply call_gate 210; exact stp_callN hTn (by as_aux_lemma => kernel_rfl) rfl rfl ⟨rfl, trivial⟩ ⟨⟨_, rfl, .inl rfl⟩, trivial⟩ rfl rfl rfl); apply run_step rfl; (exact stp_assign rfl rfl); refine run_nil ?_; refine fin_seq ?_; refine goes_seq ?_; refine goes_seq ?_; refine goes_region ?_; apply run_step rfl; (exact stp_assign rfl rfl); refine run_nil ?_; refine fin_seq ?_; refine goes_block ?_)
  refine goes_loop (fun k : Nat => St.of [(3, vv (I6 ((m : Int) + 1))), (4, o1 (.sl 52 0 m)), (5, vv (I6 k))] [(52, leOw labs.reverse)]) (fun k => k ≤ m - 1 ∧ ∀ q, q < k → iget (ends labs) q = 3) (fun k => m - k) 0 ⟨Nat.zero_le _, fun q h => absurd h (by omega)⟩ (Wk.of ⟨rfl, rfl, rfl, trivial⟩ ⟨rfl, trivial⟩ trivial) ?_
  rintro k ⟨hk, hq3⟩
  have hkm : k < m := by omega
  have hgk : (ivals labs.reverse)[k]? = some (I6 (iget (ends labs) k)) := by rw [hE]; exact ivals_get (by first | omega | (rw [List.length_reverse]; omega))
  have hwk : IntKind.i64.wrap ((k : Int) + 1) = (k : Int) + 1 := IntWalk.i64_in _ (by omega)
  (refine goes_seq ?_; refine goes_seq ?_; refine goes_region ?_; apply run_step rfl; (exact stp_move rfl rfl); apply run_step rfl; (exact stp_add rfl rfl rfl hwk); apply run_step rfl; (exact stp_move rfl rfl); apply run_step rfl; (exact stp_len rfl rfl rfl (by as_aux_lemma => kernel_rfl)); apply run_step rfl; (exact stp_bin rfl rfl rfl rfl); refine run_nil ?_; refine fin_seq ?_)
  refine goes_if rfl (fun hlt => ?_) (fun hlt => ?_)
  · (refine goes_skip ?_; refine fin_seq ?_; refine goes_seq ?_; refine goes_block ?_; refine goes_seq ?_; refine goes_region ?_; apply run_step rfl; (exact stp_move rfl rfl); apply run_step rfl; (exact stp_move rfl rfl); apply run_step rfl; (first | exact stp_ix (j := k) rfl rfl rfl rfl rfl (by as_aux_lemma => kernel_rfl) rfl hkm hilr | exact stp_loadV rfl (by as_aux_lemma => kernel_rfl) rfl rfl rfl hgk); apply run_step rfl; (first | exact stp_ix (j := k) rfl rfl rfl rfl rfl (by as_aux_lemma => kernel_rfl) rfl hkm hilr | exact stp_loadV rfl (by as_aux_lemma => kernel_rfl) rfl rfl rfl hgk); apply run_step rfl; (exact stp_bin rfl rfl rfl rfl); refine run_nil ?_; refine fin_seq ?_)
    refine goes_cond rfl (fun e => ?_) (fun e => ?_)
    · (refine goes_seq ?_; refine goes_region ?_; apply run_step rfl; (exact stp_assign rfl rfl); refine run_nil ?_; refine fin_seq ?_; refine goes_ret ?_; refine fin_ret_block ?_; refine fin_ret_then ?_; refine fin_ret_then ?_; refine fin_ret_block ?_; refine fin_ret_then ?_)
      exact fin_ret1 (.inl rfl) rfl (.tmp rfl) trivial trivial
    · have e : iget (ends labs) k = 3 := by simpa using e
      (refine goes_skip ?_; refine fin_block ?_; refine fin_seq ?_; refine goes_region ?_; apply run_step rfl; (exact stp_move rfl rfl); apply run_step rfl; (exact stp_add rfl rfl rfl hwk); apply run_step rfl; (exact stp_assign rfl rfl); refine run_nil ?_)
      exact fin_round (k + 1) ⟨by omega, fun q h => by
        by_cases e' : q = k
        · subst e'; exact e
        · exact hq3 q (by omega)⟩ (by omega) (Wk.of ⟨rfl, rfl, rfl, trivial⟩ ⟨rfl, trivial⟩ trivial)
  · exfalso
    rw [tailOk_of (fun q h => hq3 q (by omega))] at ht
    cases ht
set_option maxRecDepth 100000 in
set_option maxHeartbeats 2000000 in
theorem degS6tB_fc (zss : List (List Int)) (i m : Nat) (labs : List Int) (hi : i < zss.length) (hlb : lget zss i = labs) (hm : labs.length = m) (hm4 : m ≤ 4) (h0 : 0 < m) (hq : ¬ (m = 1 ∧ 0 < iget labs 0)) (e1 : eith labs [3, 5] = false) (e2 : eith labs [3, 3, 5] = false) (e3 : eith labs [3, 4, 3] = false) (h2 : 2 ≤ m) (hA : iget labs 0 ≠ 3) (ht : tailOk labs = true) (hlast : iget (ends labs) (labs.length - 1) = 3) :
    FC Try.prog 181 [(1000, rowsRo zss)] [o1 (.esl 1000 i 0 m)] [(65, leOw (ramp (m + 1) 1))] (o1 (.sl 65 0 (m + 1))) [] := by
  have hrow : (irows zss)[i]? = some (ivals labs) := by rw [← hlb]; exact irows_get hi
  have hilm : m ≤ (ivals labs).length := by rw [ivals_len, hm]; exact Nat.le_refl _
  have hE1 := (eitherS_fc zss i m 2 labs [3, 5] hi hlb hm rfl (by omega) (by omega)).nm [(1000, 1000), (1001, 31)] (by kernel_rfl)
  have hE1 : FC Try.prog 209 [(1000, rowsRo zss), (31, wRo [3, 5])] [o1 (.esl 1000 i 0 m), o1 (.sl 31 0 2)] [] (vv (.bool (eith labs [3, 5]))) [] := hE1
  rw [e1] at hE1
  have hE2 := (eitherS_fc zss i m 3 labs [3, 3, 5] hi hlb hm rfl (by omega) (by omega)).nm [(1000, 1000), (1001, 36)] (by kernel_rfl)
  have hE2 : FC Try.prog 209 [(1000, rowsRo zss), (36, wRo [3, 3, 5])] [o1 (.esl 1000 i 0 m), o1 (.sl 36 0 3)] [] (vv (.bool (eith labs [3, 3, 5]))) [] := hE2
  rw [e2] at hE2
  have hE3 := (eitherS_fc zss i m 3 labs [3, 4, 3] hi hlb hm rfl (by omega) (by omega)).nm [(1000, 1000), (1001, 41)] (by kernel_rfl)
  have hE3 : FC Try.prog 209 [(1000, rowsRo zss), (41, wRo [3, 4, 3])] [o1 (.esl 1000 i 0 m), o1 (.sl 41 0 3)] [] (vv (.bool (eith labs [3, 4, 3]))) [] := hE3
  rw [e3] at hE3
  refine fc_enter (nt := 97) Try.func181 rfl rfl (by simp) fun w0 ω0 => ?_
  have hgl : (ivals labs)[0]? = some (I6 (iget labs 0)) := ivals_get (by omega)
  have hE : ends labs = labs.reverse := by unfold ends; rw [if_neg hA]
  have hrl : labs.reverse.length = m := by simpa using hm
  have hilr : m ≤ (ivals labs.reverse).length := by rw [ivals_len, hrl]; exact Nat.le_refl _
  have hTn := turnedR_fc 52 zss i hi (by rw [hlb]; omega)
  rw [hlb, hm] at hTn
  have hw1 : IntKind.i64.wrap ((m : Int) + 1) = (m : Int) + 1 := IntWalk.i64_in _ (by omega)
  (refine goes_seq ?_; refine goes_region ?_; apply run_step rfl; (exact stp_assign rfl rfl); refine run_nil ?_; refine fin_seq ?_; refine goes_seq ?_; refine goes_region ?_; apply run_step rfl; (exact stp_move rfl rfl); apply run_step rfl; (exact stp_len rfl rfl rfl (by as_aux_lemma => kernel_rfl)); apply run_step rfl; (exact stp_add rfl rfl rfl hw1); apply run_step rfl; (exact stp_assign rfl rfl); refine run_nil ?_; refine fin_seq ?_; refine goes_seq ?_; refine goes_block ?_; refine goes_seq ?_; refine goes_region ?_; apply run_step rfl; (exact stp_move rfl rfl); apply run_step rfl; (exact stp_bin rfl rfl rfl rfl); apply run_step rfl; (exact stp_assign rfl rfl); refine run_nil ?_; refine fin_seq ?_)
  refine goes_cond rfl (fun e => ?_) (fun _ => ?_)
  · exfalso; simp at e; omega
  (repeat (first | refine goes_seq ?_ | refine fin_seq ?_ | refine goes_skip ?_ | refine goes_block ?_ | refine fin_block ?_ | refine goes_exit ?_ | refine fin_exit_eq ?_ | refine fin_exit_ne rfl ?_ | refine fin_exit_then ?_))
  refine goes_cut (St.of [(0, o1 (.esl 1000 i 0 m)), (3, vv (I6 ((m : Int) + 1))), (16, vv (.bool false))] [(1000, rowsRo zss)]) ?_ ?_
  · refine goes_region ?_
    (apply run_step rfl; (exact stp_move rfl rfl); apply run_step rfl; (exact stp_bin rfl rfl rfl rfl); apply run_step rfl; (exact stp_move rfl rfl))
    refine run_bool 19 rfl (fun e1 => ?_) (fun e1 => ?_)
    · have e1 : m = 1 := by simp at e1; omega
      have hg2 : ¬ iget labs 0 > 0 := fun h => hq ⟨e1, h⟩
      have hgl : (ivals labs)[0]? = some (I6 (iget labs 0)) := ivals_get (by omega)
      have hbf : binI .i64 .gtr (iget labs 0) 0 = some (.bool false) := by simp [binI]; omega
      (apply run_gYes rfl rfl rfl; (exact stp_move rfl rfl); apply run_gYes rfl rfl rfl; (first | exact stp_bin rfl rfl rfl hbf | exact stp_ixE (j := 0) rfl rfl rfl rfl rfl (by as_aux_lemma => kernel_rfl) hrow rfl (by omega) hilm | exact stp_loadE' rfl (by as_aux_lemma => kernel_rfl) rfl rfl rfl hrow hgl); apply run_gYes rfl rfl rfl; (first | exact stp_bin rfl rfl rfl hbf | exact stp_ixE (j := 0) rfl rfl rfl rfl rfl (by as_aux_lemma => kernel_rfl) hrow rfl (by omega) hilm | exact stp_loadE' rfl (by as_aux_lemma => kernel_rfl) rfl rfl rfl hrow hgl); apply run_gYes rfl rfl rfl; (first | exact stp_bin rfl rfl rfl hbf | exact stp_ixE (j := 0) rfl rfl rfl rfl rfl (by as_aux_lemma => kernel_rfl) hrow rfl (by omega) hilm | exact stp_loadE' rfl (by as_aux_lemma => kernel_rfl) rfl rfl rfl hrow hgl); apply run_step rfl; (exact stp_pickT rfl rfl rfl); apply run_step rfl; (exact stp_assign rfl rfl); refine run_nil ?_)
      exact fin_join (Wk.of ⟨rfl, rfl, rfl, trivial⟩ ⟨rfl, trivial⟩ trivial)
    · (apply run_gNo rfl rfl rfl rfl rfl; apply run_gNo rfl rfl rfl rfl rfl; apply run_gNo rfl rfl rfl rfl rfl; apply run_gNo rfl rfl rfl rfl rfl; apply run_step rfl; (exact stp_pickF rfl rfl rfl); apply run_step rfl; (exact stp_assign rfl rfl); refine run_nil ?_)
      exact fin_join (Wk.of ⟨rfl, rfl, rfl, trivial⟩ ⟨rfl, trivial⟩ trivial)
  (refine fin_seq ?_)
  refine goes_cond rfl (fun e => by cases e) (fun _ => ?_)
  (refine goes_seq ?_; refine goes_region ?_; apply run_step rfl; (exact stp_move rfl rfl); apply run_step rfl; (exact stp_lit2I (E := 2) rfl (by as_aux_lemma => kernel_rfl) rfl rfl); apply run_step rfl; (first | (apply call_gate 209; exact stp_callR hE1 (by as_aux_lemma => kernel_rfl) rfl rfl ⟨rfl, rfl, trivial⟩ ⟨⟨_, rfl, .inl rfl⟩, ⟨_, rfl, .inr rfl⟩, trivial⟩ rfl rfl) | exact stp_lit3I (E := 2) rfl (by as_aux_lemma => kernel_rfl) rfl rfl rfl | exact stp_lit4I (E := 2) rfl (by as_aux_lemma => kernel_rfl) rfl rfl rfl rfl); apply run_step rfl; (exact stp_assign rfl rfl); refine run_nil ?_; refine fin_seq ?_)
  refine goes_cond rfl (fun e => by cases e) (fun _ => ?_)
  (refine goes_seq ?_; refine goes_region ?_; apply run_step rfl; (exact stp_move rfl rfl); apply run_step rfl; (first | (apply call_gate 209; exact stp_callR hE2 (by as_aux_lemma => kernel_rfl) rfl rfl ⟨rfl, rfl, trivial⟩ ⟨⟨_, rfl, .inl rfl⟩, ⟨_, rfl, .inr rfl⟩, trivial⟩ rfl rfl) | exact stp_lit3I (E := 2) rfl (by as_aux_lemma => kernel_rfl) rfl rfl rfl | exact stp_lit4I (E := 2) rfl (by as_aux_lemma => kernel_rfl) rfl rfl rfl rfl); apply run_step rfl; (first | (apply call_gate 209; exact stp_callR hE2 (by as_aux_lemma => kernel_rfl) rfl rfl ⟨rfl, rfl, trivial⟩ ⟨⟨_, rfl, .inl rfl⟩, ⟨_, rfl, .inr rfl⟩, trivial⟩ rfl rfl) | exact stp_lit3I (E := 2) rfl (by as_aux_lemma => kernel_rfl) rfl rfl rfl | exact stp_lit4I (E := 2) rfl (by as_aux_lemma => kernel_rfl) rfl rfl rfl rfl); apply run_step rfl; (exact stp_assign rfl rfl); refine run_nil ?_; refine fin_seq ?_)
  refine goes_cond rfl (fun e => by cases e) (fun _ => ?_)
  (refine goes_seq ?_; refine goes_region ?_; apply run_step rfl; (exact stp_move rfl rfl); apply run_step rfl; (first | (apply call_gate 209; exact stp_callR hE3 (by as_aux_lemma => kernel_rfl) rfl rfl ⟨rfl, rfl, trivial⟩ ⟨⟨_, rfl, .inl rfl⟩, ⟨_, rfl, .inr rfl⟩, trivial⟩ rfl rfl) | exact stp_lit3I (E := 2) rfl (by as_aux_lemma => kernel_rfl) rfl rfl rfl | exact stp_lit4I (E := 2) rfl (by as_aux_lemma => kernel_rfl) rfl rfl rfl rfl); apply run_step rfl; (first | (apply call_gate 209; exact stp_callR hE3 (by as_aux_lemma => kernel_rfl) rfl rfl ⟨rfl, rfl, trivial⟩ ⟨⟨_, rfl, .inl rfl⟩, ⟨_, rfl, .inr rfl⟩, trivial⟩ rfl rfl) | exact stp_lit3I (E := 2) rfl (by as_aux_lemma => kernel_rfl) rfl rfl rfl | exact stp_lit4I (E := 2) rfl (by as_aux_lemma => kernel_rfl) rfl rfl rfl rfl); apply run_step rfl; (exact stp_assign rfl rfl); refine run_nil ?_; refine fin_seq ?_)
  refine goes_cond rfl (fun e => by cases e) (fun _ => ?_)
  (refine goes_skip ?_; refine fin_block ?_; refine fin_seq ?_; refine goes_seq ?_; refine goes_seq ?_; refine goes_region ?_; apply run_step rfl; (exact stp_move rfl rfl); apply run_step rfl; (exact stp_bin rfl rfl rfl rfl); refine run_nil ?_; refine fin_seq ?_)
  refine goes_cond rfl (fun e => ?_) (fun _ => ?_)
  · exfalso; simp at e; omega
  (refine goes_skip ?_; refine fin_seq ?_; refine goes_seq ?_; refine goes_region ?_; apply run_step rfl; (exact stp_move rfl rfl); apply run_step rfl; (exact stp_assign rfl rfl); refine run_nil ?_; refine fin_seq ?_; refine goes_seq ?_; refine goes_seq ?_; refine goes_region ?_; apply run_step rfl; (exact stp_move rfl rfl); apply run_step rfl; (first | exact stp_ixE (j := 0) rfl rfl rfl rfl rfl (by as_aux_lemma => kernel_rfl) hrow rfl (by omega) hilm | exact stp_loadE' rfl (by as_aux_lemma => kernel_rfl) rfl rfl rfl hrow hgl); apply run_step rfl; (first | exact stp_ixE (j := 0) rfl rfl rfl rfl rfl (by as_aux_lemma => kernel_rfl) hrow rfl (by omega) hilm | exact stp_loadE' rfl (by as_aux_lemma => kernel_rfl) rfl rfl rfl hrow hgl); apply run_step rfl; (exact stp_bin rfl rfl rfl rfl); refine run_nil ?_; refine fin_seq ?_)
  refine goes_cond rfl (fun e => ?_) (fun e => ?_)
  rotate_left
  · exfalso; simp at e; exact hA e
  (refine goes_region ?_; apply run_step rfl; (exact stp_move rfl rfl); apply run_step rfl; (apply call_gate 210; exact stp_callN hTn (by as_aux_lemma => kernel_rfl) rfl rfl ⟨rfl, trivial⟩ ⟨⟨_, rfl, .inl rfl⟩, trivial⟩ rfl rfl rfl); apply run_step rfl; (exact stp_assign rfl rfl); refine run_nil ?_; refine fin_seq ?_; refine goes_seq ?_; refine goes_seq ?_; refine goes_region ?_; apply run_step rfl; (exact stp_assign rfl rfl); refine run_nil ?_; refine fin_seq ?_; refine goes_block ?_)
  refine goes_loop (fun k : Nat => St.of [(3, vv (I6 ((m : Int) + 1))), (4, o1 (.sl 52 0 m)), (5, vv (I6 k))] [(52, leOw labs.reverse)]) (fun k => k ≤ m - 1 ∧ ∀ q, q < k → iget (ends labs) q = 3) (fun k => m - k) 0 ⟨Nat.zero_le _, fun q h => absurd h (by omega)⟩ (Wk.of ⟨rfl, rfl, rfl, trivial⟩ ⟨rfl, trivial⟩ trivial) ?_
  rintro k ⟨hk, hq3⟩
  have hkm : k < m := by omega
  have hgk : (ivals labs.reverse)[k]? = some (I6 (iget (ends labs) k)) := by rw [hE]; exact ivals_get (by first | omega | (rw [List.length_reverse]; omega))
  have hwk : IntKind.i64.wrap ((k : Int) + 1) = (k : Int) + 1 := IntWalk.i64_in _ (by omega)
  (refine goes_seq ?_; refine goes_seq ?_; refine goes_region ?_; apply run_step rfl; (exact stp_move rfl rfl); apply run_step rfl; (exact stp_add rfl rfl rfl hwk); apply run_step rfl; (exact stp_move rfl rfl); apply run_step rfl; (exact stp_len rfl rfl rfl (by as_aux_lemma => kernel_rfl)); apply run_step rfl; (exact stp_bin rfl rfl rfl rfl); refine run_nil ?_; refine fin_seq ?_)
  refine goes_if rfl (fun hlt => ?_) (fun hlt => ?_)
  · (refine goes_skip ?_; refine fin_seq ?_; refine goes_seq ?_; refine goes_block ?_; refine goes_seq ?_; refine goes_region ?_; apply run_step rfl; (exact stp_move rfl rfl); apply run_step rfl; (exact stp_move rfl rfl); apply run_step rfl; (first | exact stp_ix (j := k) rfl rfl rfl rfl rfl (by as_aux_lemma => kernel_rfl) rfl hkm hilr | exact stp_loadV rfl (by as_aux_lemma => kernel_rfl) rfl rfl rfl hgk); apply run_step rfl; (first | exact stp_ix (j := k) rfl rfl rfl rfl rfl (by as_aux_lemma => kernel_rfl) rfl hkm hilr | exact stp_loadV rfl (by as_aux_lemma => kernel_rfl) rfl rfl rfl hgk); apply run_step rfl; (exact stp_bin rfl rfl rfl rfl); refine run_nil ?_; refine fin_seq ?_)
    refine goes_cond rfl (fun e => ?_) (fun e => ?_)
    · exfalso
      have := tailOk_at ht (k := k) (by omega)
      simp at e
      exact e this
    · have e : iget (ends labs) k = 3 := by simpa using e
      (refine goes_skip ?_; refine fin_block ?_; refine fin_seq ?_; refine goes_region ?_; apply run_step rfl; (exact stp_move rfl rfl); apply run_step rfl; (exact stp_add rfl rfl rfl hwk); apply run_step rfl; (exact stp_assign rfl rfl); refine run_nil ?_)
      exact fin_round (k + 1) ⟨by omega, fun q h => by
        by_cases e' : q = k
        · subst e'; exact e
        · exact hq3 q (by omega)⟩ (by omega) (Wk.of ⟨rfl, rfl, rfl, trivial⟩ ⟨rfl, trivial⟩ trivial)
  · have hgm : (ivals labs.reverse)[m - 1]? = some (I6 (iget (ends labs) (m - 1))) := by rw [hE]; exact ivals_get (by first | omega | (rw [List.length_reverse]; omega))
    have hm1 : (m : Int) - 1 = ((m - 1 : Nat) : Int) := by omega
    have hws : IntKind.i64.wrap ((m : Int) - 1) = (m : Int) - 1 := IntWalk.i64_in _ (by omega)
    rw [hm] at hlast
    (refine goes_exit ?_; refine fin_exit_then ?_; refine fin_exit_then ?_; refine fin_exit_eq ?_; refine fin_seq ?_; refine goes_seq ?_; refine goes_region ?_; apply run_step rfl; (exact stp_lit0 (E := 2) (k := 1) rfl (by as_aux_lemma => kernel_rfl)); apply run_step rfl; (exact stp_assign rfl rfl); refine run_nil ?_; refine fin_seq ?_; refine goes_seq ?_; refine goes_seq ?_; refine goes_region ?_; apply run_step rfl; (exact stp_move rfl rfl); apply run_step rfl; (exact stp_move rfl rfl); apply run_step rfl; (exact stp_len rfl rfl rfl (by as_aux_lemma => kernel_rfl)); apply run_step rfl; (first | exact stp_sub rfl rfl rfl hws | exact stp_ix (j := m - 1) rfl rfl rfl rfl rfl (by as_aux_lemma => kernel_rfl) hm1 (by omega) hilr | exact stp_loadV rfl (by as_aux_lemma => kernel_rfl) rfl rfl rfl hgm); apply run_step rfl; (first | exact stp_sub rfl rfl rfl hws | exact stp_ix (j := m - 1) rfl rfl rfl rfl rfl (by as_aux_lemma => kernel_rfl) hm1 (by omega) hilr | exact stp_loadV rfl (by as_aux_lemma => kernel_rfl) rfl rfl rfl hgm); apply run_step rfl; (first | exact stp_sub rfl rfl rfl hws | exact stp_ix (j := m - 1) rfl rfl rfl rfl rfl (by as_aux_lemma => kernel_rfl) hm1 (by omega) hilr | exact stp_loadV rfl (by as_aux_lemma => kernel_rfl) rfl rfl rfl hgm); refine run_nil ?_; refine fin_seq ?_; refine goes_block ?_; refine goes_seq ?_; refine goes_region ?_; apply run_step rfl; (exact stp_bin rfl rfl rfl rfl); apply run_step rfl; (exact stp_assign rfl rfl); refine run_nil ?_; refine fin_seq ?_)
    refine goes_cond rfl (fun _ => ?_) (fun e => ?_)
    rotate_left
    · exfalso; simp at e; exact e hlast
    (refine goes_seq ?_; refine goes_region ?_; apply run_step rfl; (exact stp_assign rfl rfl); refine run_nil ?_; refine fin_seq ?_; refine goes_block ?_)
    have hw2 : IntKind.i64.wrap ((m : Int) + 1 + 1) = (m : Int) + 1 + 1 := IntWalk.i64_in _ (by omega)
    refine goes_loop (fun k : Nat => St.of [(3, vv (I6 ((m : Int) + 1))), (6, o1 (.sl 65 0 k)), (7, vv (I6 (2 + 1 * (k : Int))))] [(65, leOw (ramp k 1))]) (fun k => k ≤ m + 1) (fun k => m + 1 - k) 0 (Nat.zero_le _) (Wk.of ⟨rfl, rfl, rfl, trivial⟩ ⟨rfl, trivial⟩ trivial) ?_
    rintro k hk
    have hwa : IntKind.i64.wrap (2 + 1 * (k : Int) + 1) = 2 + 1 * ((k + 1 : Nat) : Int) := (IntWalk.i64_in _ (by omega)).trans (by omega)
    (refine goes_seq ?_; refine goes_seq ?_; refine goes_region ?_; apply run_step rfl; (exact stp_move rfl rfl); apply run_step rfl; (exact stp_move rfl rfl); apply run_step rfl; (exact stp_add rfl rfl rfl hw2); apply run_step rfl; (exact stp_bin rfl rfl rfl rfl); refine run_nil ?_; refine fin_seq ?_)
    refine goes_if rfl (fun hlt => ?_) (fun hlt => ?_)
    · (refine goes_skip ?_; refine fin_seq ?_; refine goes_seq ?_; refine goes_block ?_; refine goes_region ?_; apply run_step rfl; (exact stp_move rfl rfl); apply run_step rfl; (exact stp_move rfl rfl); apply run_step rfl; (exact stp_lit1I (E := 2) rfl (by as_aux_lemma => kernel_rfl) rfl); apply run_step rfl; (first | exact stp_add rfl rfl rfl hwa | exact stp_appI rfl (by as_aux_lemma => kernel_rfl) rfl rfl rfl (ramp_len _ _) rfl rfl (by omega)); apply run_step rfl; (exact stp_assign rfl rfl); refine run_nil ?_; refine fin_block ?_; refine fin_seq ?_; refine goes_region ?_; apply run_step rfl; (exact stp_move rfl rfl); apply run_step rfl; (first | exact stp_add rfl rfl rfl hwa | exact stp_appI rfl (by as_aux_lemma => kernel_rfl) rfl rfl rfl (ramp_len _ _) rfl rfl (by omega)); apply run_step rfl; (exact stp_assign rfl rfl); refine run_nil ?_)
      exact fin_round (k + 1) (by omega) (by omega) (Wk.of ⟨rfl, rfl, rfl, trivial⟩ ⟨by rw [ramp_succ]; rfl, trivial⟩ trivial)
    · obtain rfl : k = m + 1 := by omega
      (refine goes_exit ?_; refine fin_exit_then ?_; refine fin_exit_then ?_; refine fin_exit_eq ?_; refine fin_block ?_; refine fin_seq ?_; refine goes_seq ?_; refine goes_region ?_; apply run_step rfl; (exact stp_move rfl rfl); apply run_step rfl; (exact stp_assign rfl rfl); refine run_nil ?_; refine fin_seq ?_; refine goes_ret ?_)
      exact fin_ret1 (.inl rfl) rfl (.tmp rfl) ⟨rfl, trivial⟩ trivial
set_option maxRecDepth 100000 in
set_option maxHeartbeats 2000000 in
theorem degS6fB_fc (zss : List (List Int)) (i m : Nat) (labs : List Int) (hi : i < zss.length) (hlb : lget zss i = labs) (hm : labs.length = m) (hm4 : m ≤ 4) (h0 : 0 < m) (hq : ¬ (m = 1 ∧ 0 < iget labs 0)) (e1 : eith labs [3, 5] = false) (e2 : eith labs [3, 3, 5] = false) (e3 : eith labs [3, 4, 3] = false) (h2 : 2 ≤ m) (hA : iget labs 0 ≠ 3) (ht : tailOk labs = true) (hlast : iget (ends labs) (labs.length - 1) = 4) :
    FC Try.prog 181 [(1000, rowsRo zss)] [o1 (.esl 1000 i 0 m)] [(65, leOw (ramp (m + 1) 2))] (o1 (.sl 65 0 (m + 1))) [] := by
  have hrow : (irows zss)[i]? = some (ivals labs) := by rw [← hlb]; exact irows_get hi
  have hilm : m ≤ (ivals labs).length := by rw [ivals_len, hm]; exact Nat.le_refl _
  have hE1 := (eitherS_fc zss i m 2 labs [3, 5] hi hlb hm rfl (by omega) (by omega)).nm [(1000, 1000), (1001, 31)] (by kernel_rfl)
  have hE1 : FC Try.prog 209 [(1000, rowsRo zss), (31, wRo [3, 5])] [o1 (.esl 1000 i 0 m), o1 (.sl 31 0 2)] [] (vv (.bool (eith labs [3, 5]))) [] := hE1
  rw [e1] at hE1
  have hE2 := (eitherS_fc zss i m 3 labs [3, 3, 5] hi hlb hm rfl (by omega) (by omega)).nm [(1000, 1000), (1001, 36)] (by kernel_rfl)
  have hE2 : FC Try.prog 209 [(1000, rowsRo zss), (36, wRo [3, 3, 5])] [o1 (.esl 1000 i 0 m), o1 (.sl 36 0 3)] [] (vv (.bool (eith labs [3, 3, 5]))) [] := hE2
  rw [e2] at hE2
  have hE3 := (eitherS_fc zss i m 3 labs [3, 4, 3] hi hlb hm rfl (by omega) (by omega)).nm [(1000, 1000), (1001, 41)] (by kernel_rfl)
  have hE3 : FC Try.prog 209 [(1000, rowsRo zss), (41, wRo [3, 4, 3])] [o1 (.esl 1000 i 0 m), o1 (.sl 41 0 3)] [] (vv (.bool (eith labs [3, 4, 3]))) [] := hE3
  rw [e3] at hE3
  refine fc_enter (nt := 97) Try.func181 rfl rfl (by simp) fun w0 ω0 => ?_
  have hgl : (ivals labs)[0]? = some (I6 (iget labs 0)) := ivals_get (by omega)
  have hE : ends labs = labs.reverse := by unfold ends; rw [if_neg hA]
  have hrl : labs.reverse.length = m := by simpa using hm
  have hilr : m ≤ (ivals labs.reverse).length := by rw [ivals_len, hrl]; exact Nat.le_refl _
  have hTn := turnedR_fc 52 zss i hi (by rw [hlb]; omega)
  rw [hlb, hm] at hTn
  have hw1 : IntKind.i64.wrap ((m : Int) + 1) = (m : Int) + 1 := IntWalk.i64_in _ (by omega)
  (refine goes_seq ?_; refine goes_region ?_; apply run_step rfl; (exact stp_assign rfl rfl); refine run_nil ?_; refine fin_seq ?_; refine goes_seq ?_; refine goes_region ?_; apply run_step rfl; (exact stp_move rfl rfl); apply run_step rfl; (exact stp_len rfl rfl rfl (by as_aux_lemma => kernel_rfl)); apply run_step rfl; (exact stp_add rfl rfl rfl hw1); apply run_step rfl; (exact stp_assign rfl rfl); refine run_nil ?_; refine fin_seq ?_; refine goes_seq ?_; refine goes_block ?_; refine goes_seq ?_; refine goes_region ?_; apply run_step rfl; (exact stp_move rfl rfl); apply run_step rfl; (exact stp_bin rfl rfl rfl rfl); apply run_step rfl; (exact stp_assign rfl rfl); refine run_nil ?_; refine fin_seq ?_)
  refine goes_cond rfl (fun e => ?_) (fun _ => ?_)
  · exfalso; simp at e; omega
  (repeat (first | refine goes_seq ?_ | refine fin_seq ?_ | refine goes_skip ?_ | refine goes_block ?_ | refine fin_block ?_ | refine goes_exit ?_ | refine fin_exit_eq ?_ | refine fin_exit_ne rfl ?_ | refine fin_exit_then ?_))
  refine goes_cut (St.of [(0, o1 (.esl 1000 i 0 m)), (3, vv (I6 ((m : Int) + 1))), (16, vv (.bool false))] [(1000, rowsRo zss)]) ?_ ?_
  · refine goes_region ?_
    (apply run_step rfl; (exact stp_move rfl rfl); apply run_step rfl; (exact stp_bin rfl rfl rfl rfl); apply run_step rfl; (exact stp_move rfl rfl))
    refine run_bool 19 rfl (fun e1 => ?_) (fun e1 => ?_)
    · have e1 : m = 1 := by simp at e1; omega
      have hg2 : ¬ iget labs 0 > 0 := fun h => hq ⟨e1, h⟩
      have hgl : (ivals labs)[0]? = some (I6 (iget labs 0)) := ivals_get (by omega)
      have hbf : binI .i64 .gtr (iget labs 0) 0 = some (.bool false) := by simp [binI]; omega
      (apply run_gYes rfl rfl rfl; (exact stp_move rfl rfl); apply run_gYes rfl rfl rfl; (first | exact stp_bin rfl rfl rfl hbf | exact stp_ixE (j := 0) rfl rfl rfl rfl rfl (by as_aux_lemma => kernel_rfl) hrow rfl (by omega) hilm | exact stp_loadE' rfl (by as_aux_lemma => kernel_rfl) rfl rfl rfl hrow hgl); apply run_gYes rfl rfl rfl; (first | exact stp_bin rfl rfl rfl hbf | exact stp_ixE (j := 0) rfl rfl rfl rfl rfl (by as_aux_lemma => kernel_rfl) hrow rfl (by omega) hilm | exact stp_loadE' rfl (by as_aux_lemma => kernel_rfl) rfl rfl rfl hrow hgl); apply run_gYes rfl rfl rfl; (first | exact stp_bin rfl rfl rfl hbf | exact stp_ixE (j := 0) rfl rfl rfl rfl rfl (by as_aux_lemma => kernel_rfl) hrow rfl (by omega) hilm | exact stp_loadE' rfl (by as_aux_lemma => kernel_rfl) rfl rfl rfl hrow hgl); apply run_step rfl; (exact stp_pickT rfl rfl rfl); apply run_step rfl; (exact stp_assign rfl rfl); refine run_nil ?_)
      exact fin_join (Wk.of ⟨rfl, rfl, rfl, trivial⟩ ⟨rfl, trivial⟩ trivial)
    · (apply run_gNo rfl rfl rfl rfl rfl; apply run_gNo rfl rfl rfl rfl rfl; apply run_gNo rfl rfl rfl rfl rfl; apply run_gNo rfl rfl rfl rfl rfl; apply run_step rfl; (exact stp_pickF rfl rfl rfl); apply run_step rfl; (exact stp_assign rfl rfl); refine run_nil ?_)
      exact fin_join (Wk.of ⟨rfl, rfl, rfl, trivial⟩ ⟨rfl, trivial⟩ trivial)
  (refine fin_seq ?_)
  refine goes_cond rfl (fun e => by cases e) (fun _ => ?_)
  (refine goes_seq ?_; refine goes_region ?_; apply run_step rfl; (exact stp_move rfl rfl); apply run_step rfl; (exact stp_lit2I (E := 2) rfl (by as_aux_lemma => kernel_rfl) rfl rfl); apply run_step rfl; (first | (apply call_gate 209; exact stp_callR hE1 (by as_aux_lemma => kernel_rfl) rfl rfl ⟨rfl, rfl, trivial⟩ ⟨⟨_, rfl, .inl rfl⟩, ⟨_, rfl, .inr rfl⟩, trivial⟩ rfl rfl) | exact stp_lit3I (E := 2) rfl (by as_aux_lemma => kernel_rfl) rfl rfl rfl | exact stp_lit4I (E := 2) rfl (by as_aux_lemma => kernel_rfl) rfl rfl rfl rfl); apply run_step rfl; (exact stp_assign rfl rfl); refine run_nil ?_; refine fin_seq ?_)
  refine goes_cond rfl (fun e => by cases e) (fun _ => ?_)
  (refine goes_seq ?_; refine goes_region ?_; apply run_step rfl; (exact stp_move rfl rfl); apply run_step rfl; (first | (apply call_gate 209; exact stp_callR hE2 (by as_aux_lemma => kernel_rfl) rfl rfl ⟨rfl, rfl, trivial⟩ ⟨⟨_, rfl, .inl rfl⟩, ⟨_, rfl, .inr rfl⟩, trivial⟩ rfl rfl) | exact stp_lit3I (E := 2) rfl (by as_aux_lemma => kernel_rfl) rfl rfl rfl | exact stp_lit4I (E := 2) rfl (by as_aux_lemma => kernel_rfl) rfl rfl rfl rfl); apply run_step rfl; (first | (apply call_gate 209; exact stp_callR hE2 (by as_aux_lemma => kernel_rfl) rfl rfl ⟨rfl, rfl, trivial⟩ ⟨⟨_, rfl, .inl rfl⟩, ⟨_, rfl, .inr rfl⟩, trivial⟩ rfl rfl) | exact stp_lit3I (E := 2) rfl (by as_aux_lemma => kernel_rfl) rfl rfl rfl | exact stp_lit4I (E := 2) rfl (by as_aux_lemma => kernel_rfl) rfl rfl rfl rfl); apply run_step rfl; (exact stp_assign rfl rfl); refine run_nil ?_; refine fin_seq ?_)
  refine goes_cond rfl (fun e => by cases e) (fun _ => ?_)
  (refine goes_seq ?_; refine goes_region ?_; apply run_step rfl; (exact stp_move rfl rfl); apply run_step rfl; (first | (apply call_gate 209; exact stp_callR hE3 (by as_aux_lemma => kernel_rfl) rfl rfl ⟨rfl, rfl, trivial⟩ ⟨⟨_, rfl, .inl rfl⟩, ⟨_, rfl, .inr rfl⟩, trivial⟩ rfl rfl) | exact stp_lit3I (E := 2) rfl (by as_aux_lemma => kernel_rfl) rfl rfl rfl | exact stp_lit4I (E := 2) rfl (by as_aux_lemma => kernel_rfl) rfl rfl rfl rfl); apply run_step rfl; (first | (apply call_gate 209; exact stp_callR hE3 (by as_aux_lemma => kernel_rfl) rfl rfl ⟨rfl, rfl, trivial⟩ ⟨⟨_, rfl, .inl rfl⟩, ⟨_, rfl, .inr rfl⟩, trivial⟩ rfl rfl) | exact stp_lit3I (E := 2) rfl (by as_aux_lemma => kernel_rfl) rfl rfl rfl | exact stp_lit4I (E := 2) rfl (by as_aux_lemma => kernel_rfl) rfl rfl rfl rfl); apply run_step rfl; (exact stp_assign rfl rfl); refine run_nil ?_; refine fin_seq ?_)
  refine goes_cond rfl (fun e => by cases e) (fun _ => ?_)
  (refine goes_skip ?_; refine fin_block ?_; refine fin_seq ?_; refine goes_seq ?_; refine goes_seq ?_; refine goes_region ?_; apply run_step rfl; (exact stp_move rfl rfl); apply run_step rfl; (exact stp_bin rfl rfl rfl rfl); refine run_nil ?_; refine fin_seq ?_)
  refine goes_cond rfl (fun e => ?_) (fun _ => ?_)
  · exfalso; simp at e; omega
  (refine goes_skip ?_; refine fin_seq ?_; refine goes_seq ?_; refine goes_region ?_; apply run_step rfl; (exact stp_move rfl rfl); apply run_step rfl; (exact stp_assign rfl rfl); refine run_nil ?_; refine fin_seq ?_; refine goes_seq ?_; refine goes_seq ?_; refine goes_region ?_; apply run_step rfl; (exact stp_move rfl rfl); apply run_step rfl; (first | exact stp_ixE (j := 0) rfl rfl rfl rfl rfl (by as_aux_lemma => kernel_rfl) hrow rfl (by omega) hilm | exact stp_loadE' rfl (by as_aux_lemma => kernel_rfl) rfl rfl rfl hrow hgl); apply run_step rfl; (first | exact stp_ixE (j := 0) rfl rfl rfl rfl rfl (by as_aux_lemma => kernel_rfl) hrow rfl (by omega) hilm | exact stp_loadE' rfl (by as_aux_lemma => kernel_rfl) rfl rfl rfl hrow hgl); apply run_step rfl; (exact stp_bin rfl rfl rfl rfl); refine run_nil ?_; refine fin_seq ?_)
  refine goes_cond rfl (fun e => ?_) (fun e => ?_)
  rotate_left
  · exfalso; simp at e; exact hA e
  (refine goes_region ?_; apply run_step rfl; (exact stp_move rfl rfl); apply run_step rfl; (apply call_gate 210; exact stp_callN hTn (by as_aux_lemma => kernel_rfl) rfl rfl ⟨rfl, trivial⟩ ⟨⟨_, rfl, .inl rfl⟩, trivial⟩ rfl rfl rfl); apply run_step rfl; (exact stp_assign rfl rfl); refine run_nil ?_; refine fin_seq ?_; refine goes_seq ?_; refine goes_seq ?_; refine goes_region ?_; apply run_step rfl; (exact stp_assign rfl rfl); refine run_nil ?_; refine fin_seq ?_; refine goes_block ?_)
  refine goes_loop (fun k : Nat => St.of [(3, vv (I6 ((m : Int) + 1))), (4, o1 (.sl 52 0 m)), (5, vv (I6 k))] [(52, leOw labs.reverse)]) (fun k => k ≤ m - 1 ∧ ∀ q, q < k → iget (ends labs) q = 3) (fun k => m - k) 0 ⟨Nat.zero_le _, fun q h => absurd h (by omega)⟩ (Wk.of ⟨rfl, rfl, rfl, trivial⟩ ⟨rfl, trivial⟩ trivial) ?_
  rintro k ⟨hk, hq3⟩
  have hkm : k < m := by omega
  have hgk : (ivals labs.reverse)[k]? = some (I6 (iget (ends labs) k)) := by rw [hE]; exact ivals_get (by first | omega | (rw [List.length_reverse]; omega))
  have hwk : IntKind.i64.wrap ((k : Int) + 1) = (k : Int) + 1 := IntWalk.i64_in _ (by omega)
  (refine goes_seq ?_; refine goes_seq ?_; refine goes_region ?_; apply run_step rfl; (exact stp_move rfl rfl); apply run_step rfl; (exact stp_add rfl rfl rfl hwk); apply run_step rfl; (exact stp_move rfl rfl); apply run_step rfl; (exact stp_len rfl rfl rfl (by as_aux_lemma => kernel_rfl)); apply run_step rfl; (exact stp_bin rfl rfl rfl rfl); refine run_nil ?_; refine fin_seq ?_)
  refine goes_if rfl (fun hlt => ?_) (fun hlt => ?_)
  · (refine goes_skip ?_; refine fin_seq ?_; refine goes_seq ?_; refine goes_block ?_; refine goes_seq ?_; refine goes_region ?_; apply run_step rfl; (exact stp_move rfl rfl); apply run_step rfl; (exact stp_move rfl rfl); apply run_step rfl; (first | exact stp_ix (j := k) rfl rfl rfl rfl rfl (by as_aux_lemma => kernel_rfl) rfl hkm hilr | exact stp_loadV rfl (by as_aux_lemma => kernel_rfl) rfl rfl rfl hgk); apply run_step rfl; (first | exact stp_ix (j := k) rfl rfl rfl rfl rfl (by as_aux_lemma => kernel_rfl) rfl hkm hilr | exact stp_loadV rfl (by as_aux_lemma => kernel_rfl) rfl rfl rfl hgk); apply run_step rfl; (exact stp_bin rfl rfl rfl rfl); refine run_nil ?_; refine fin_seq ?_)
    refine goes_cond rfl (fun e => ?_) (fun e => ?_)
    · exfalso
      have := tailOk_at ht (k := k) (by omega)
      simp at e
      exact e this
    · have e : iget (ends labs) k = 3 := by simpa using e
      (refine goes_skip ?_; refine fin_block ?_; refine fin_seq ?_; refine goes_region ?_; apply run_step rfl; (exact stp_move rfl rfl); apply run_step rfl; (exact stp_add rfl rfl rfl hwk); apply run_step rfl; (exact stp_assign rfl rfl); refine run_nil ?_)
      exact fin_round (k + 1) ⟨by omega, fun q h => by
        by_cases e' : q = k
        · subst e'; exact e
        · exact hq3 q (by omega)⟩ (by omega) (Wk.of ⟨rfl, rfl, rfl, trivial⟩ ⟨rfl, trivial⟩ trivial)
  · have hgm : (ivals labs.reverse)[m - 1]? = some (I6 (iget (ends labs) (m - 1))) := by rw [hE]; exact ivals_get (by first | omega | (rw [List.length_reverse]; omega))
    have hm1 : (m : Int) - 1 = ((m - 1 : Nat) : Int) := by omega
    have hws : IntKind.i64.wrap ((m : Int) - 1) = (m : Int) - 1 := IntWalk.i64_in _ (by omega)
    rw [hm] at hlast
    (refine goes_exit ?_; refine fin_exit_then ?_; refine fin_exit_then ?_; refine fin_exit_eq ?_; refine fin_seq ?_; refine goes_seq ?_; refine goes_region ?_; apply run_step rfl; (exact stp_lit0 (E := 2) (k := 1) rfl (by as_aux_lemma => kernel_rfl)); apply run_step rfl; (exact stp_assign rfl rfl); refine run_nil ?_; refine fin_seq ?_; refine goes_seq ?_; refine goes_seq ?_; refine goes_region ?_; apply run_step rfl; (exact stp_move rfl rfl); apply run_step rfl; (exact stp_move rfl rfl); apply run_step rfl; (exact stp_len rfl rfl rfl (by as_aux_lemma => kernel_rfl)); apply run_step rfl; (first | exact stp_sub rfl rfl rfl hws | exact stp_ix (j := m - 1) rfl rfl rfl rfl rfl (by as_aux_lemma => kernel_rfl) hm1 (by omega) hilr | exact stp_loadV rfl (by as_aux_lemma => kernel_rfl) rfl rfl rfl hgm); apply run_step rfl; (first | exact stp_sub rfl rfl rfl hws | exact stp_ix (j := m - 1) rfl rfl rfl rfl rfl (by as_aux_lemma => kernel_rfl) hm1 (by omega) hilr | exact stp_loadV rfl (by as_aux_lemma => kernel_rfl) rfl rfl rfl hgm); apply run_step rfl; (first | exact stp_sub rfl rfl rfl hws | exact stp_ix (j := m - 1) rfl rfl rfl rfl rfl (by as_aux_lemma => kernel_rfl) hm1 (by omega) hilr | exact stp_loadV rfl (by as_aux_lemma => kernel_rfl) rfl rfl rfl hgm); refine run_nil ?_; refine fin_seq ?_; refine goes_block ?_; refine goes_seq ?_; refine goes_region ?_; apply run_step rfl; (exact stp_bin rfl rfl rfl rfl); apply run_step rfl; (exact stp_assign rfl rfl); refine run_nil ?_; refine fin_seq ?_)
    refine goes_cond rfl (fun e => ?_) (fun _ => ?_)
    · exfalso; simp at e; omega
    (refine goes_seq ?_; refine goes_region ?_; apply run_step rfl; (exact stp_bin rfl rfl rfl rfl); apply run_step rfl; (exact stp_assign rfl rfl); refine run_nil ?_; refine fin_seq ?_)
    refine goes_cond rfl (fun _ => ?_) (fun e => ?_)
    rotate_left
    · exfalso; simp at e; exact e hlast
    (refine goes_seq ?_; refine goes_region ?_; apply run_step rfl; (exact stp_assign rfl rfl); refine run_nil ?_; refine fin_seq ?_; refine goes_block ?_)
    have hw2 : IntKind.i64.wrap (2 * ((m : Int) + 1)) = 2 * ((m : Int) + 1) := IntWalk.i64_in _ (by omega)
    refine goes_loop (fun k : Nat => St.of [(3, vv (I6 ((m : Int) + 1))), (6, o1 (.sl 65 0 k)), (8, vv (I6 (2 + 2 * (k : Int))))] [(65, leOw (ramp k 2))]) (fun k => k ≤ m + 1) (fun k => m + 1 - k) 0 (Nat.zero_le _) (Wk.of ⟨rfl, rfl, rfl, trivial⟩ ⟨rfl, trivial⟩ trivial) ?_
    rintro k hk
    have hwa : IntKind.i64.wrap (2 + 2 * (k : Int) + 2) = 2 + 2 * ((k + 1 : Nat) : Int) := (IntWalk.i64_in _ (by omega)).trans (by omega)
    (refine goes_seq ?_; refine goes_seq ?_; refine goes_region ?_; apply run_step rfl; (exact stp_move rfl rfl); apply run_step rfl; (exact stp_move rfl rfl); apply run_step rfl; (exact stp_mul rfl rfl rfl hw2); apply run_step rfl; (exact stp_bin rfl rfl rfl rfl); refine run_nil ?_; refine fin_seq ?_)
    refine goes_if rfl (fun hlt => ?_) (fun hlt => ?_)
    · (refine goes_skip ?_; refine fin_seq ?_; refine goes_seq ?_; refine goes_block ?_; refine goes_region ?_; apply run_step rfl; (exact stp_move rfl rfl); apply run_step rfl; (exact stp_move rfl rfl); apply run_step rfl; (exact stp_lit1I (E := 2) rfl (by as_aux_lemma => kernel_rfl) rfl); apply run_step rfl; (first | exact stp_add rfl rfl rfl hwa | exact stp_appI rfl (by as_aux_lemma => kernel_rfl) rfl rfl rfl (ramp_len _ _) rfl rfl (by omega)); apply run_step rfl; (exact stp_assign rfl rfl); refine run_nil ?_; refine fin_block ?_; refine fin_seq ?_; refine goes_region ?_; apply run_step rfl; (exact stp_move rfl rfl); apply run_step rfl; (first | exact stp_add rfl rfl rfl hwa | exact stp_appI rfl (by as_aux_lemma => kernel_rfl) rfl rfl rfl (ramp_len _ _) rfl rfl (by omega)); apply run_step rfl; (exact stp_assign rfl rfl); refine run_nil ?_)
      exact fin_round (k + 1) (by omega) (by omega) (Wk.of ⟨rfl, rfl, rfl, trivial⟩ ⟨by rw [ramp_succ]; rfl, trivial⟩ trivial)
    · obtain rfl : k = m + 1 := by omega
      (refine goes_exit ?_; refine fin_exit_then ?_; refine fin_exit_then ?_; refine fin_exit_eq ?_; refine fin_block ?_; refine fin_seq ?_; refine goes_seq ?_; refine goes_region ?_; apply run_step rfl; (exact stp_move rfl rfl); apply run_step rfl; (exact stp_assign rfl rfl); refine run_nil ?_; refine fin_seq ?_; refine goes_ret ?_)
      exact fin_ret1 (.inl rfl) rfl (.tmp rfl) ⟨rfl, trivial⟩ trivial
set_option maxRecDepth 100000 in
set_option maxHeartbeats 2000000 in
theorem degS6oB_fc (zss : List (List Int)) (i m : Nat) (labs : List Int) (hi : i < zss.length) (hlb : lget zss i = labs) (hm : labs.length = m) (hm4 : m ≤ 4) (h0 : 0 < m) (hq : ¬ (m = 1 ∧ 0 < iget labs 0)) (e1 : eith labs [3, 5] = false) (e2 : eith labs [3, 3, 5] = false) (e3 : eith labs [3, 4, 3] = false) (h2 : 2 ≤ m) (hA : iget labs 0 ≠ 3) (ht : tailOk labs = true) (hlast : iget (ends labs) (labs.length - 1) ≠ 3 ∧ iget (ends labs) (labs.length - 1) ≠ 4) :
    FC Try.prog 181 [(1000, rowsRo zss)] [o1 (.esl 1000 i 0 m)] [(65, leOw [])] (o1 (.sl 65 0 0)) [] := by
  have hrow : (irows zss)[i]? = some (ivals labs) := by rw [← hlb]; exact irows_get hi
  have hilm : m ≤ (ivals labs).length := by rw [ivals_len, hm]; exact Nat.le_refl _
  have hE1 := (eitherS_fc zss i m 2 labs [3, 5] hi hlb hm rfl (by omega) (by omega)).nm [(1000, 1000), (1001, 31)] (by kernel_rfl)
  have hE1 : FC Try.prog 209 [(1000, rowsRo zss), (31, wRo [3, 5])] [o1 (.esl 1000 i 0 m), o1 (.sl 31 0 2)] [] (vv (.bool (eith labs [3, 5]))) [] := hE1
  rw [e1] at hE1
  have hE2 := (eitherS_fc zss i m 3 labs [3, 3, 5] hi hlb hm rfl (by omega) (by omega)).nm [(1000, 1000), (1001, 36)] (by kernel_rfl)
  have hE2 : FC Try.prog 209 [(1000, rowsRo zss), (36, wRo [3, 3, 5])] [o1 (.esl 1000 i 0 m), o1 (.sl 36 0 3)] [] (vv (.bool (eith labs [3, 3, 5]))) [] := hE2
  rw [e2] at hE2
  have hE3 := (eitherS_fc zss i m 3 labs [3, 4, 3] hi hlb hm rfl (by omega) (by omega)).nm [(1000, 1000), (1001, 41)] (by kernel_rfl)
  have hE3 : FC Try.prog 209 [(1000, rowsRo zss), (41, wRo [3, 4, 3])] [o1 (.esl 1000 i 0 m), o1 (.sl 41 0 3)] [] (vv (.bool (eith labs [3, 4, 3]))) [] := hE3
  rw [e3] at hE3
  refine fc_enter (nt := 97) Try.func181 rfl rfl (by simp) fun w0 ω0 => ?_
  have hgl : (ivals labs)[0]? = some (I6 (iget labs 0)) := ivals_get (by omega)
  have hE : ends labs = labs.reverse := by unfold ends; rw [if_neg hA]
  have hrl : labs.reverse.length = m := by simpa using hm
  have hilr : m ≤ (ivals labs.reverse).length := by rw [ivals_len, hrl]; exact Nat.le_refl _
  have hTn := turnedR_fc 52 zss i hi (by rw [hlb]; omega)
  rw [hlb, hm] at hTn
  have hw1 : IntKind.i64.wrap ((m : Int) + 1) = (m : Int) + 1 := IntWalk.i64_in _ (by omega)
  (refine goes_seq ?_; refine goes_region ?_; apply run_step rfl; (exact stp_assign rfl rfl); refine run_nil ?_; refine fin_seq ?_; refine goes_seq ?_; refine goes_region ?_; apply run_step rfl; (exact stp_move rfl rfl); apply run_step rfl; (exact stp_len rfl rfl rfl (by as_aux_lemma => kernel_rfl)); apply run_step rfl; (exact stp_add rfl rfl rfl hw1); apply run_step rfl; (exact stp_assign rfl rfl); refine run_nil ?_; refine fin_seq ?_; refine goes_seq ?_; refine goes_block ?_; refine goes_seq ?_; refine goes_region ?_; apply run_step rfl; (exact stp_move rfl rfl); apply run_step rfl; (exact stp_bin rfl rfl rfl rfl); apply run_step rfl; (exact stp_assign rfl rfl); refine run_nil ?_; refine fin_seq ?_)
  refine goes_cond rfl (fun e => ?_) (fun _ => ?_)
  · exfalso; simp at e; omega
  (repeat (first | refine goes_seq ?_ | refine fin_seq ?_ | refine goes_skip ?_ | refine goes_block ?_ | refine fin_block ?_ | refine goes_exit ?_ | refine fin_exit_eq ?_ | refine fin_exit_ne rfl ?_ | refine fin_exit_then ?_))
  refine goes_cut (St.of [(0, o1 (.esl 1000 i 0 m)), (3, vv (I6 ((m : Int) + 1))), (16, vv (.bool false))] [(1000, rowsRo zss)]) ?_ ?_
  · refine goes_region ?_
    (apply run_step rfl; (exact stp_move rfl rfl); apply run_step rfl; (exact stp_bin rfl rfl rfl rfl); apply run_step rfl; (exact stp_move rfl rfl))
    refine run_bool 19 rfl (fun e1 => ?_) (fun e1 => ?_)
    · have e1 : m = 1 := by simp at e1; omega
      have hg2 : ¬ iget labs 0 > 0 := fun h => hq ⟨e1, h⟩
      have hgl : (ivals labs)[0]? = some (I6 (iget labs 0)) := ivals_get (by omega)
      have hbf : binI .i64 .gtr (iget labs 0) 0 = some (.bool false) := by simp [binI]; omega
      (apply run_gYes rfl rfl rfl; (exact stp_move rfl rfl); apply run_gYes rfl rfl rfl; (first | exact stp_bin rfl rfl rfl hbf | exact stp_ixE (j := 0) rfl rfl rfl rfl rfl (by as_aux_lemma => kernel_rfl) hrow rfl (by omega) hilm | exact stp_loadE' rfl (by as_aux_lemma => kernel_rfl) rfl rfl rfl hrow hgl); apply run_gYes rfl rfl rfl; (first | exact stp_bin rfl rfl rfl hbf | exact stp_ixE (j := 0) rfl rfl rfl rfl rfl (by as_aux_lemma => kernel_rfl) hrow rfl (by omega) hilm | exact stp_loadE' rfl (by as_aux_lemma => kernel_rfl) rfl rfl rfl hrow hgl); apply run_gYes rfl rfl rfl; (first | exact stp_bin rfl rfl rfl hbf | exact stp_ixE (j := 0) rfl rfl rfl rfl rfl (by as_aux_lemma => kernel_rfl) hrow rfl (by omega) hilm | exact stp_loadE' rfl (by as_aux_lemma => kernel_rfl) rfl rfl rfl hrow hgl); apply run_step rfl; (exact stp_pickT rfl rfl rfl); apply run_step rfl; (exact stp_assign rfl rfl); refine run_nil ?_)
      exact fin_join (Wk.of ⟨rfl, rfl, rfl, trivial⟩ ⟨rfl, trivial⟩ trivial)
    · (apply run_gNo rfl rfl rfl rfl rfl; apply run_gNo rfl rfl rfl rfl rfl; apply run_gNo rfl rfl rfl rfl rfl; apply run_gNo rfl rfl rfl rfl rfl; apply run_step rfl; (exact stp_pickF rfl rfl rfl); apply run_step rfl; (exact stp_assign rfl rfl); refine run_nil ?_)
      exact fin_join (Wk.of ⟨rfl, rfl, rfl, trivial⟩ ⟨rfl, trivial⟩ trivial)
  (refine fin_seq ?_)
  refine goes_cond rfl (fun e => by cases e) (fun _ => ?_)
  (refine goes_seq ?_; refine goes_region ?_; apply run_step rfl; (exact stp_move rfl rfl); apply run_step rfl; (exact stp_lit2I (E := 2) rfl (by as_aux_lemma => kernel_rfl) rfl rfl); apply run_step rfl; (first | (apply call_gate 209; exact stp_callR hE1 (by as_aux_lemma => kernel_rfl) rfl rfl ⟨rfl, rfl, trivial⟩ ⟨⟨_, rfl, .inl rfl⟩, ⟨_, rfl, .inr rfl⟩, trivial⟩ rfl rfl) | exact stp_lit3I (E := 2) rfl (by as_aux_lemma => kernel_rfl) rfl rfl rfl | exact stp_lit4I (E := 2) rfl (by as_aux_lemma => kernel_rfl) rfl rfl rfl rfl); apply run_step rfl; (exact stp_assign rfl rfl); refine run_nil ?_; refine fin_seq ?_)
  refine goes_cond rfl (fun e => by cases e) (fun _ => ?_)
  (refine goes_seq ?_; refine goes_region ?_; apply run_step rfl; (exact stp_move rfl rfl); apply run_step rfl; (first | (apply call_gate 209; exact stp_callR hE2 (by as_aux_lemma => kernel_rfl) rfl rfl ⟨rfl, rfl, trivial⟩ ⟨⟨_, rfl, .inl rfl⟩, ⟨_, rfl, .inr rfl⟩, trivial⟩ rfl rfl) | exact stp_lit3I (E := 2) rfl (by as_aux_lemma => kernel_rfl) rfl rfl rfl | exact stp_lit4I (E := 2) rfl (by as_aux_lemma => kernel_rfl) rfl rfl rfl rfl); apply run_step rfl; (first | (apply call_gate 209; exact stp_callR hE2 (by as_aux_lemma => kernel_rfl) rfl rfl ⟨rfl, rfl, trivial⟩ ⟨⟨_, rfl, .inl rfl⟩, ⟨_, rfl, .inr rfl⟩, trivial⟩ rfl rfl) | exact stp_lit3I (E := 2) rfl (by as_aux_lemma => kernel_rfl) rfl rfl rfl | exact stp_lit4I (E := 2) rfl (by as_aux_lemma => kernel_rfl) rfl rfl rfl rfl); apply run_step rfl; (exact stp_assign rfl rfl); refine run_nil ?_; refine fin_seq ?_)
  refine goes_cond rfl (fun e => by cases e) (fun _ => ?_)
  (refine goes_seq ?_; refine goes_region ?_; apply run_step rfl; (exact stp_move rfl rfl); apply run_step rfl; (first | (apply call_gate 209; exact stp_callR hE3 (by as_aux_lemma => kernel_rfl) rfl rfl ⟨rfl, rfl, trivial⟩ ⟨⟨_, rfl, .inl rfl⟩, ⟨_, rfl, .inr rfl⟩, trivial⟩ rfl rfl) | exact stp_lit3I (E := 2) rfl (by as_aux_lemma => kernel_rfl) rfl rfl rfl | exact stp_lit4I (E := 2) rfl (by as_aux_lemma => kernel_rfl) rfl rfl rfl rfl); apply run_step rfl; (first | (apply call_gate 209; exact stp_callR hE3 (by as_aux_lemma => kernel_rfl) rfl rfl ⟨rfl, rfl, trivial⟩ ⟨⟨_, rfl, .inl rfl⟩, ⟨_, rfl, .inr rfl⟩, trivial⟩ rfl rfl) | exact stp_lit3I (E := 2) rfl (by as_aux_lemma => kernel_rfl) rfl rfl rfl | exact stp_lit4I (E := 2) rfl (by as_aux_lemma => kernel_rfl) rfl rfl rfl rfl); apply run_step rfl; (exact stp_assign rfl rfl); refine run_nil ?_; refine fin_seq ?_)
  refine goes_cond rfl (fun e => by cases e) (fun _ => ?_)
  (refine goes_skip ?_; refine fin_block ?_; refine fin_seq ?_; refine goes_seq ?_; refine goes_seq ?_; refine goes_region ?_; apply run_step rfl; (exact stp_move rfl rfl); apply run_step rfl; (exact stp_bin rfl rfl rfl rfl); refine run_nil ?_; refine fin_seq ?_)
  refine goes_cond rfl (fun e => ?_) (fun _ => ?_)
  · exfalso; simp at e; omega
  (refine goes_skip ?_; refine fin_seq ?_; refine goes_seq ?_; refine goes_region ?_; apply run_step rfl; (exact stp_move rfl rfl); apply run_step rfl; (exact stp_assign rfl rfl); refine run_nil ?_; refine fin_seq ?_; refine goes_seq ?_; refine goes_seq ?_; refine goes_region ?_; apply run_step rfl; (exact stp_move rfl rfl); apply run_step rfl; (first | exact stp_ixE (j := 0) rfl rfl rfl rfl rfl (by as_aux_lemma => kernel_rfl) hrow rfl (by omega) hilm | exact stp_loadE' rfl (by as_aux_lemma => kernel_rfl) rfl rfl rfl hrow hgl); apply run_step rfl; (first | exact stp_ixE (j := 0) rfl rfl rfl rfl rfl (by as_aux_lemma => kernel_rfl) hrow rfl (by omega) hilm | exact stp_loadE' rfl (by as_aux_lemma => kernel_rfl) rfl rfl rfl hrow hgl); apply run_step rfl; (exact stp_bin rfl rfl rfl rfl); refine run_nil ?_; refine fin_seq ?_)
  refine goes_cond rfl (fun e => ?_) (fun e => ?_)
  rotate_left
  · exfalso; simp at e; exact hA e
  (refine goes_region ?_; apply run_step rfl; (exact stp_move rfl rfl); apply run_step rfl; (apply call_gate 210; exact stp_callN hTn (by as_aux_lemma => kernel_rfl) rfl rfl ⟨rfl, trivial⟩ ⟨⟨_, rfl, .inl rfl⟩, trivial⟩ rfl rfl rfl); apply run_step rfl; (exact stp_assign rfl rfl); refine run_nil ?_; refine fin_seq ?_; refine goes_seq ?_; refine goes_seq ?_; refine goes_region ?_; apply run_step rfl; (exact stp_assign rfl rfl); refine run_nil ?_; refine fin_seq ?_; refine goes_block ?_)
  refine goes_loop (fun k : Nat => St.of [(3, vv (I6 ((m : Int) + 1))), (4, o1 (.sl 52 0 m)), (5, vv (I6 k))] [(52, leOw labs.reverse)]) (fun k => k ≤ m - 1 ∧ ∀ q, q < k → iget (ends labs) q = 3) (fun k => m - k) 0 ⟨Nat.zero_le _, fun q h => absurd h (by omega)⟩ (Wk.of ⟨rfl, rfl, rfl, trivial⟩ ⟨rfl, trivial⟩ trivial) ?_
  rintro k ⟨hk, hq3⟩
  have hkm : k < m := by omega
  have hgk : (ivals labs.reverse)[k]? = some (I6 (iget (ends labs) k)) := by rw [hE]; exact ivals_get (by first | omega | (rw [List.length_reverse]; omega))
  have hwk : IntKind.i64.wrap ((k : Int) + 1) = (k : Int) + 1 := IntWalk.i64_in _ (by omega)
  (refine goes_seq ?_; refine goes_seq ?_; refine goes_region ?_; apply run_step rfl; (exact stp_move rfl rfl); apply run_step rfl; (exact stp_add rfl rfl rfl hwk); apply run_step rfl; (exact stp_move rfl rfl); apply run_step rfl; (exact stp_len rfl rfl rfl (by as_aux_lemma => kernel_rfl)); apply run_step rfl; (exact stp_bin rfl rfl rfl rfl); refine run_nil ?_; refine fin_seq ?_)
  refine goes_if rfl (fun hlt => ?_) (fun hlt => ?_)
  · (refine goes_skip ?_; refine fin_seq ?_; refine goes_seq ?_; refine goes_block ?_; refine goes_seq ?_; refine goes_region ?_; apply run_step rfl; (exact stp_move rfl rfl); apply run_step rfl; (exact stp_move rfl rfl); apply run_step rfl; (first | exact stp_ix (j := k) rfl rfl rfl rfl rfl (by as_aux_lemma => kernel_rfl) rfl hkm hilr | exact stp_loadV rfl (by as_aux_lemma => kernel_rfl) rfl rfl rfl hgk); apply run_step rfl; (first | exact stp_ix (j := k) rfl rfl rfl rfl rfl (by as_aux_lemma => kernel_rfl) rfl hkm hilr | exact stp_loadV rfl (by as_aux_lemma => kernel_rfl) rfl rfl rfl hgk); apply run_step rfl; (exact stp_bin rfl rfl rfl rfl); refine run_nil ?_; refine fin_seq ?_)
    refine goes_cond rfl (fun e => ?_) (fun e => ?_)
    · exfalso
      have := tailOk_at ht (k := k) (by omega)
      simp at e
      exact e this
    · have e : iget (ends labs) k = 3 := by simpa using e
      (refine goes_skip ?_; refine fin_block ?_; refine fin_seq ?_; refine goes_region ?_; apply run_step rfl; (exact stp_move rfl rfl); apply run_step rfl; (exact stp_add rfl rfl rfl hwk); apply run_step rfl; (exact stp_assign rfl rfl); refine run_nil ?_)
      exact fin_round (k + 1) ⟨by omega, fun q h => by
        by_cases e' : q = k
        · subst e'; exact e
        · exact hq3 q (by omega)⟩ (by omega) (Wk.of ⟨rfl, rfl, rfl, trivial⟩ ⟨rfl, trivial⟩ trivial)
  · have hgm : (ivals labs.reverse)[m - 1]? = some (I6 (iget (ends labs) (m - 1))) := by rw [hE]; exact ivals_get (by first | omega | (rw [List.length_reverse]; omega))
    have hm1 : (m : Int) - 1 = ((m - 1 : Nat) : Int) := by omega
    have hws : IntKind.i64.wrap ((m : Int) - 1) = (m : Int) - 1 := IntWalk.i64_in _ (by omega)
    rw [hm] at hlast
    (refine goes_exit ?_; refine fin_exit_then ?_; refine fin_exit_then ?_; refine fin_exit_eq ?_; refine fin_seq ?_; refine goes_seq ?_; refine goes_region ?_; apply run_step rfl; (exact stp_lit0 (E := 2) (k := 1) rfl (by as_aux_lemma => kernel_rfl)); apply run_step rfl; (exact stp_assign rfl rfl); refine run_nil ?_; refine fin_seq ?_; refine goes_seq ?_; refine goes_seq ?_; refine goes_region ?_; apply run_step rfl; (exact stp_move rfl rfl); apply run_step rfl; (exact stp_move rfl rfl); apply run_step rfl; (exact stp_len rfl rfl rfl (by as_aux_lemma => kernel_rfl)); apply run_step rfl; (first | exact stp_sub rfl rfl rfl hws | exact stp_ix (j := m - 1) rfl rfl rfl rfl rfl (by as_aux_lemma => kernel_rfl) hm1 (by omega) hilr | exact stp_loadV rfl (by as_aux_lemma => kernel_rfl) rfl rfl rfl hgm); apply run_step rfl; (first | exact stp_sub rfl rfl rfl hws | exact stp_ix (j := m - 1) rfl rfl rfl rfl rfl (by as_aux_lemma => kernel_rfl) hm1 (by omega) hilr | exact stp_loadV rfl (by as_aux_lemma => kernel_rfl) rfl rfl rfl hgm); apply run_step rfl; (first | exact stp_sub rfl rfl rfl hws | exact stp_ix (j := m - 1) rfl rfl rfl rfl rfl (by as_aux_lemma => kernel_rfl) hm1 (by omega) hilr | exact stp_loadV rfl (by as_aux_lemma => kernel_rfl) rfl rfl rfl hgm); refine run_nil ?_; refine fin_seq ?_; refine goes_block ?_; refine goes_seq ?_; refine goes_region ?_; apply run_step rfl; (exact stp_bin rfl rfl rfl rfl); apply run_step rfl; (exact stp_assign rfl rfl); refine run_nil ?_; refine fin_seq ?_)
    refine goes_cond rfl (fun e => ?_) (fun _ => ?_)
    · exfalso; simp at e; exact hlast.1 e
    (refine goes_seq ?_; refine goes_region ?_; apply run_step rfl; (exact stp_bin rfl rfl rfl rfl); apply run_step rfl; (exact stp_assign rfl rfl); refine run_nil ?_; refine fin_seq ?_)
    refine goes_cond rfl (fun e => ?_) (fun _ => ?_)
    · exfalso; simp at e; exact hlast.2 e
    (refine goes_skip ?_; refine fin_block ?_; refine fin_seq ?_; refine goes_seq ?_; refine goes_region ?_; apply run_step rfl; (exact stp_move rfl rfl); apply run_step rfl; (exact stp_assign rfl rfl); refine run_nil ?_; refine fin_seq ?_; refine goes_ret ?_)
    exact fin_ret1 (.inl rfl) rfl (.tmp rfl) ⟨rfl, trivial⟩ trivial
/-- l12Degrees: nil, or a list of the call's own -/
theorem degS_fc (zss : List (List Int)) (i m : Nat) (labs : List Int) (hi : i < zss.length) (hlb : lget zss i = labs) (hm : labs.length = m) (hm4 : m ≤ 4) :
    (degs labs = [] ∧ FC Try.prog 181 [(1000, rowsRo zss)] [o1 (.esl 1000 i 0 m)] [] (vv (.slice none 0 0)) []) ∨ FC Try.prog 181 [(1000, rowsRo zss)] [o1 (.esl 1000 i 0 m)] [(2100, leOw (degs labs))] (o1 (.sl 2100 0 (degs labs).length)) [] := by
  unfold degs
  rw [hm]
  by_cases h0 : m = 0
  · rw [if_pos h0]
    subst h0
    exact .inr ((degS0_fc zss i 0 labs hi hlb hm hm4 rfl).nm [(1000, 1000), (15, 2100)] (by kernel_rfl))
  rw [if_neg h0]
  by_cases hq : m = 1 ∧ 0 < iget labs 0
  · rw [if_pos hq]
    obtain ⟨rfl, hp⟩ := hq
    exact .inr ((degS1_fc zss i 1 labs hi hlb hm hm4 rfl hp).nm [(1000, 1000), (28, 2100)] (by kernel_rfl))
  rw [if_neg hq]
  have h0' : 0 < m := by omega
  cases e1 : eith labs [3, 5] with
  | true =>
    obtain rfl : m = 2 := by rcases eith_iff.1 e1 with rfl | rfl <;> exact hm.symm
    exact .inr ((degS2_fc zss i 2 labs hi hlb hm hm4 h0' hq e1).nm [(1000, 1000), (33, 2100)] (by kernel_rfl))
  | false =>
  cases e2 : eith labs [3, 3, 5] with
  | true =>
    obtain rfl : m = 3 := by rcases eith_iff.1 e2 with rfl | rfl <;> exact hm.symm
    exact .inr ((degS3_fc zss i 3 labs hi hlb hm hm4 h0' hq e1 e2).nm [(1000, 1000), (38, 2100)] (by kernel_rfl))
  | false =>
  cases e3 : eith labs [3, 4, 3] with
  | true =>
    obtain rfl : m = 3 := by rcases eith_iff.1 e3 with rfl | rfl <;> exact hm.symm
    exact .inr ((degS4_fc zss i 3 labs hi hlb hm hm4 h0' hq e1 e2 e3).nm [(1000, 1000), (43, 2100)] (by kernel_rfl))
  | false =>
  by_cases h1 : m = 1
  · have hl : labs = [iget labs 0] := by
      match labs, hm, h1 with
      | [a], _, _ => rfl
    have hz : ¬ 0 < iget labs 0 := fun h => hq ⟨h1, h⟩
    have e4 : labs ≠ List.replicate m 3 := by
      rw [hl, h1]; intro e; simp at e; omega
    have e5 : eith labs ((List.replicate m (3 : Int)).set 0 4) = false := by
      rw [hl, h1]
      cases h : eith [iget labs 0] ((List.replicate 1 (3 : Int)).set 0 4) with
      | false => rfl
      | true =>
        rcases eith_iff.1 h with h | h <;> (simp at h; omega)
    simp only [Bool.false_eq_true, if_false]
    rw [if_neg e4, e5]
    exact .inl ⟨rfl, degS5_fc zss i m labs hi hlb hm hm4 h0' hq e1 e2 e3 h1⟩
  have h2 : 2 ≤ m := by omega
  have hte := tailS_eq (part := labs) (by omega) (by omega)
  rw [hm] at hte
  simp only [Bool.false_eq_true, if_false]
  rw [← hte]
  unfold tailS
  rw [hm]
  cases ht : tailOk labs with
  | false =>
    rw [if_neg (by simp)]
    refine .inl ⟨rfl, ?_⟩
    by_cases hA : iget labs 0 = 3
    · exact degS6nA_fc zss i m labs hi hlb hm hm4 h0' hq e1 e2 e3 h2 hA ht
    · exact degS6nB_fc zss i m labs hi hlb hm hm4 h0' hq e1 e2 e3 h2 hA ht
  | true =>
    rw [if_pos rfl]
    refine .inr ?_
    by_cases l3 : iget (ends labs) (m - 1) = 3
    · rw [if_pos l3, ramp_len]
      have l3' : iget (ends labs) (labs.length - 1) = 3 := by rw [hm]; exact l3
      by_cases hA : iget labs 0 = 3
      · exact (degS6tA_fc zss i m labs hi hlb hm hm4 h0' hq e1 e2 e3 h2 hA ht l3').nm [(1000, 1000), (65, 2100)] (by kernel_rfl)
      · exact (degS6tB_fc zss i m labs hi hlb hm hm4 h0' hq e1 e2 e3 h2 hA ht l3').nm [(1000, 1000), (65, 2100)] (by kernel_rfl)
    rw [if_neg l3]
    by_cases l4 : iget (ends labs) (m - 1) = 4
    · rw [if_pos l4, ramp_len]
      have l4' : iget (ends labs) (labs.length - 1) = 4 := by rw [hm]; exact l4
      by_cases hA : iget labs 0 = 3
      · exact (degS6fA_fc zss i m labs hi hlb hm hm4 h0' hq e1 e2 e3 h2 hA ht l4').nm [(1000, 1000), (65, 2100)] (by kernel_rfl)
      · exact (degS6fB_fc zss i m labs hi hlb hm hm4 h0' hq e1 e2 e3 h2 hA ht l4').nm [(1000, 1000), (65, 2100)] (by kernel_rfl)
    rw [if_neg l4]
    have l' : iget (ends labs) (labs.length - 1) ≠ 3 ∧ iget (ends labs) (labs.length - 1) ≠ 4 := by rw [hm]; exact ⟨l3, l4⟩
    by_cases hA : iget labs 0 = 3
    · exact (degS6oA_fc zss i m labs hi hlb hm hm4 h0' hq e1 e2 e3 h2 hA ht l').nm [(1000, 1000), (65, 2100)] (by kernel_rfl)
    · exact (degS6oB_fc zss i m labs hi hlb hm hm4 h0' hq e1 e2 e3 h2 hA ht l').nm [(1000, 1000), (65, 2100)] (by kernel_rfl)
set_option maxRecDepth 100000 in
set_option maxHeartbeats 2000000 in
theorem affineS_fc (zss : List (List Int)) (i m : Nat) (labs : List Int) (hi : i < zss.length) (hlb : lget zss i = labs) (hm : labs.length = m) (hm4 : m ≤ 4) :
    FC Try.prog 201 [(1000, rowsRo zss)] [o1 (.esl 1000 i 0 m)] [] (vv (.bool (affB labs))) [] := by
  have hE0 := (eitherS_fc zss i m 1 labs [0] hi hlb hm rfl (by omega) (by omega)).nm [(1000, 1000), (1001, 4)] (by kernel_rfl)
  have hE0 : FC Try.prog 209 [(1000, rowsRo zss), (4, wRo [0])] [o1 (.esl 1000 i 0 m), o1 (.sl 4 0 1)] [] (vv (.bool (eith labs [0]))) [] := hE0
  have hE1 := (eitherS_fc zss i m 2 labs [4, 4] hi hlb hm rfl (by omega) (by omega)).nm [(1000, 1000), (1001, 8)] (by kernel_rfl)
  have hE1 : FC Try.prog 209 [(1000, rowsRo zss), (8, wRo [4, 4])] [o1 (.esl 1000 i 0 m), o1 (.sl 8 0 2)] [] (vv (.bool (eith labs [4, 4]))) [] := hE1
  have hE2 := (eitherS_fc zss i m 2 labs [3, 6] hi hlb hm rfl (by omega) (by omega)).nm [(1000, 1000), (1001, 13)] (by kernel_rfl)
  have hE2 : FC Try.prog 209 [(1000, rowsRo zss), (13, wRo [3, 6])] [o1 (.esl 1000 i 0 m), o1 (.sl 13 0 2)] [] (vv (.bool (eith labs [3, 6]))) [] := hE2
  have hE3 := (eitherS_fc zss i m 3 labs [4, 3, 4] hi hlb hm rfl (by omega) (by omega)).nm [(1000, 1000), (1001, 18)] (by kernel_rfl)
  have hE3 : FC Try.prog 209 [(1000, rowsRo zss), (18, wRo [4, 3, 4])] [o1 (.esl 1000 i 0 m), o1 (.sl 18 0 3)] [] (vv (.bool (eith labs [4, 3, 4]))) [] := hE3
  have hE4 := (eitherS_fc zss i m 4 labs [3, 4, 3, 3] hi hlb hm rfl (by omega) (by omega)).nm [(1000, 1000), (1001, 23)] (by kernel_rfl)
  have hE4 : FC Try.prog 209 [(1000, rowsRo zss), (23, wRo [3, 4, 3, 3])] [o1 (.esl 1000 i 0 m), o1 (.sl 23 0 4)] [] (vv (.bool (eith labs [3, 4, 3, 3]))) [] := hE4
  have hE5 := (eitherS_fc zss i m 4 labs [4, 3, 3, 4] hi hlb hm rfl (by omega) (by omega)).nm [(1000, 1000), (1001, 28)] (by kernel_rfl)
  have hE5 : FC Try.prog 209 [(1000, rowsRo zss), (28, wRo [4, 3, 3, 4])] [o1 (.esl 1000 i 0 m), o1 (.sl 28 0 4)] [] (vv (.bool (eith labs [4, 3, 3, 4]))) [] := hE5
  refine fc_enter (nt := 31) Try.func201 rfl rfl (by simp) fun w0 ω0 => ?_
  unfold affB
  (refine goes_seq ?_; refine goes_region ?_; apply run_step rfl; (exact stp_assign rfl rfl); refine run_nil ?_; refine fin_seq ?_; refine goes_seq ?_; refine goes_region ?_; apply run_step rfl; (exact stp_move rfl rfl); apply run_step rfl; (exact stp_lit1I (E := 2) rfl (by as_aux_lemma => kernel_rfl) rfl); apply run_step rfl; (first | (apply call_gate 209; exact stp_callR hE0 (by as_aux_lemma => kernel_rfl) rfl rfl ⟨rfl, rfl, trivial⟩ ⟨⟨_, rfl, .inl rfl⟩, ⟨_, rfl, .inr rfl⟩, trivial⟩ rfl rfl) | (apply call_gate 209; exact stp_callR hE1 (by as_aux_lemma => kernel_rfl) rfl rfl ⟨rfl, rfl, trivial⟩ ⟨⟨_, rfl, .inl rfl⟩, ⟨_, rfl, .inr rfl⟩, trivial⟩ rfl rfl) | (apply call_gate 209; exact stp_callR hE2 (by as_aux_lemma => kernel_rfl) rfl rfl ⟨rfl, rfl, trivial⟩ ⟨⟨_, rfl, .inl rfl⟩, ⟨_, rfl, .inr rfl⟩, trivial⟩ rfl rfl) | (apply call_gate 209; exact stp_callR hE3 (by as_aux_lemma => kernel_rfl) rfl rfl ⟨rfl, rfl, trivial⟩ ⟨⟨_, rfl, .inl rfl⟩, ⟨_, rfl, .inr rfl⟩, trivial⟩ rfl rfl) | (apply call_gate 209; exact stp_callR hE4 (by as_aux_lemma => kernel_rfl) rfl rfl ⟨rfl, rfl, trivial⟩ ⟨⟨_, rfl, .inl rfl⟩, ⟨_, rfl, .inr rfl⟩, trivial⟩ rfl rfl) | (apply call_gate 209; exact stp_callR hE5 (by as_aux_lemma => kernel_rfl) rfl rfl ⟨rfl, rfl, trivial⟩ ⟨⟨_, rfl, .inl rfl⟩, ⟨_, rfl, .inr rfl⟩, trivial⟩ rfl rfl) | exact stp_lit3I (E := 2) rfl (by as_aux_lemma => kernel_rfl) rfl rfl rfl | exact stp_lit4I (E := 2) rfl (by as_aux_lemma => kernel_rfl) rfl rfl rfl rfl); apply run_step rfl; (exact stp_move rfl rfl))
  refine run_bool 6 rfl (fun h => ?_) (fun h => ?_)
  · rw [h]
    simp only [Bool.true_or]
    (apply run_gNo rfl rfl rfl rfl rfl; apply run_gNo rfl rfl rfl rfl rfl; apply run_gNo rfl rfl rfl rfl rfl; apply run_step rfl; (exact stp_pickT rfl rfl rfl); apply run_step rfl; (exact stp_move rfl rfl); apply run_gNo rfl rfl rfl rfl rfl; apply run_gNo rfl rfl rfl rfl rfl; apply run_gNo rfl rfl rfl rfl rfl; apply run_step rfl; (exact stp_pickT rfl rfl rfl); apply run_step rfl; (exact stp_move rfl rfl); apply run_gNo rfl rfl rfl rfl rfl; apply run_gNo rfl rfl rfl rfl rfl; apply run_gNo rfl rfl rfl rfl rfl; apply run_step rfl; (exact stp_pickT rfl rfl rfl); apply run_step rfl; (exact stp_move rfl rfl); apply run_gNo rfl rfl rfl rfl rfl; apply run_gNo rfl rfl rfl rfl rfl; apply run_gNo rfl rfl rfl rfl rfl; apply run_step rfl; (exact stp_pickT rfl rfl rfl); apply run_step rfl; (exact stp_move rfl rfl); apply run_gNo rfl rfl rfl rfl rfl; apply run_gNo rfl rfl rfl rfl rfl; apply run_gNo rfl rfl rfl rfl rfl; apply run_step rfl; (exact stp_pickT rfl rfl rfl); apply run_step rfl; (exact stp_assign rfl rfl); refine run_nil ?_; refine fin_seq ?_; refine goes_ret ?_)
    exact fin_ret1 (.inl rfl) rfl (.tmp rfl) trivial trivial
  rw [h, Bool.false_or]
  (apply run_gYes rfl rfl rfl; (exact stp_move rfl rfl); apply run_gYes rfl rfl rfl; (exact stp_lit2I (E := 2) rfl (by as_aux_lemma => kernel_rfl) rfl rfl); apply run_gYes rfl rfl rfl; (first | (apply call_gate 209; exact stp_callR hE0 (by as_aux_lemma => kernel_rfl) rfl rfl ⟨rfl, rfl, trivial⟩ ⟨⟨_, rfl, .inl rfl⟩, ⟨_, rfl, .inr rfl⟩, trivial⟩ rfl rfl) | (apply call_gate 209; exact stp_callR hE1 (by as_aux_lemma => kernel_rfl) rfl rfl ⟨rfl, rfl, trivial⟩ ⟨⟨_, rfl, .inl rfl⟩, ⟨_, rfl, .inr rfl⟩, trivial⟩ rfl rfl) | (apply call_gate 209; exact stp_callR hE2 (by as_aux_lemma => kernel_rfl) rfl rfl ⟨rfl, rfl, trivial⟩ ⟨⟨_, rfl, .inl rfl⟩, ⟨_, rfl, .inr rfl⟩, trivial⟩ rfl rfl) | (apply call_gate 209; exact stp_callR hE3 (by as_aux_lemma => kernel_rfl) rfl rfl ⟨rfl, rfl, trivial⟩ ⟨⟨_, rfl, .inl rfl⟩, ⟨_, rfl, .inr rfl⟩, trivial⟩ rfl rfl) | (apply call_gate 209; exact stp_callR hE4 (by as_aux_lemma => kernel_rfl) rfl rfl ⟨rfl, rfl, trivial⟩ ⟨⟨_, rfl, .inl rfl⟩, ⟨_, rfl, .inr rfl⟩, trivial⟩ rfl rfl) | (apply call_gate 209; exact stp_callR hE5 (by as_aux_lemma => kernel_rfl) rfl rfl ⟨rfl, rfl, trivial⟩ ⟨⟨_, rfl, .inl rfl⟩, ⟨_, rfl, .inr rfl⟩, trivial⟩ rfl rfl) | exact stp_lit3I (E := 2) rfl (by as_aux_lemma => kernel_rfl) rfl rfl rfl | exact stp_lit4I (E := 2) rfl (by as_aux_lemma => kernel_rfl) rfl rfl rfl rfl); apply run_step rfl; (exact stp_pickF rfl rfl rfl); apply run_step rfl; (exact stp_move rfl rfl))
  refine run_bool 11 rfl (fun h => ?_) (fun h => ?_)
  · rw [h]
    simp only [Bool.true_or]
    (apply run_gNo rfl rfl rfl rfl rfl; apply run_gNo rfl rfl rfl rfl rfl; apply run_gNo rfl rfl rfl rfl rfl; apply run_step rfl; (exact stp_pickT rfl rfl rfl); apply run_step rfl; (exact stp_move rfl rfl); apply run_gNo rfl rfl rfl rfl rfl; apply run_gNo rfl rfl rfl rfl rfl; apply run_gNo rfl rfl rfl rfl rfl; apply run_step rfl; (exact stp_pickT rfl rfl rfl); apply run_step rfl; (exact stp_move rfl rfl); apply run_gNo rfl rfl rfl rfl rfl; apply run_gNo rfl rfl rfl rfl rfl; apply run_gNo rfl rfl rfl rfl rfl; apply run_step rfl; (exact stp_pickT rfl rfl rfl); apply run_step rfl; (exact stp_move rfl rfl); apply run_gNo rfl rfl rfl rfl rfl; apply run_gNo rfl rfl rfl rfl rfl; apply run_gNo rfl rfl rfl rfl rfl; apply run_step rfl; (exact stp_pickT rfl rfl rfl); apply run_step rfl; (exact stp_assign rfl rfl); refine run_nil ?_; refine fin_seq ?_; refine goes_ret ?_)
    exact fin_ret1 (.inl rfl) rfl (.tmp rfl) trivial trivial
  rw [h, Bool.false_or]
  (apply run_gYes rfl rfl rfl; (exact stp_move rfl rfl); apply run_gYes rfl rfl rfl; (exact stp_lit2I (E := 2) rfl (by as_aux_lemma => kernel_rfl) rfl rfl); apply run_gYes rfl rfl rfl; (first | (apply call_gate 209; exact stp_callR hE0 (by as_aux_lemma => kernel_rfl) rfl rfl ⟨rfl, rfl, trivial⟩ ⟨⟨_, rfl, .inl rfl⟩, ⟨_, rfl, .inr rfl⟩, trivial⟩ rfl rfl) | (apply call_gate 209; exact stp_callR hE1 (by as_aux_lemma => kernel_rfl) rfl rfl ⟨rfl, rfl, trivial⟩ ⟨⟨_, rfl, .inl rfl⟩, ⟨_, rfl, .inr rfl⟩, trivial⟩ rfl rfl) | (apply call_gate 209; exact stp_callR hE2 (by as_aux_lemma => kernel_rfl) rfl rfl ⟨rfl, rfl, trivial⟩ ⟨⟨_, rfl, .inl rfl⟩, ⟨_, rfl, .inr rfl⟩, trivial⟩ rfl rfl) | (apply call_gate 209; exact stp_callR hE3 (by as_aux_lemma => kernel_rfl) rfl rfl ⟨rfl, rfl, trivial⟩ ⟨⟨_, rfl, .inl rfl⟩, ⟨_, rfl, .inr rfl⟩, trivial⟩ rfl rfl) | (apply call_gate 209; exact stp_callR hE4 (by as_aux_lemma => kernel_rfl) rfl rfl ⟨rfl, rfl, trivial⟩ ⟨⟨_, rfl, .inl rfl⟩, ⟨_, rfl, .inr rfl⟩, trivial⟩ rfl rfl) | (apply call_gate 209; exact stp_callR hE5 (by as_aux_lemma => kernel_rfl) rfl rfl ⟨rfl, rfl, trivial⟩ ⟨⟨_, rfl, .inl rfl⟩, ⟨_, rfl, .inr rfl⟩, trivial⟩ rfl rfl) | exact stp_lit3I (E := 2) rfl (by as_aux_lemma => kernel_rfl) rfl rfl rfl | exact stp_lit4I (E := 2) rfl (by as_aux_lemma => kernel_rfl) rfl rfl rfl rfl); apply run_step rfl; (exact stp_pickF rfl rfl rfl); apply run_step rfl; (exact stp_move rfl rfl))
  refine run_bool 16 rfl (fun h => ?_) (fun h => ?_)
  · rw [h]
    simp only [Bool.true_or]
    (apply run_gNo rfl rfl rfl rfl rfl; apply run_gNo rfl rfl rfl rfl rfl; apply run_gNo rfl rfl rfl rfl rfl; apply run_step rfl; (exact stp_pickT rfl rfl rfl); apply run_step rfl; (exact stp_move rfl rfl); apply run_gNo rfl rfl rfl rfl rfl; apply run_gNo rfl rfl rfl rfl rfl; apply run_gNo rfl rfl rfl rfl rfl; apply run_step rfl; (exact stp_pickT rfl rfl rfl); apply run_step rfl; (exact stp_move rfl rfl); apply run_gNo rfl rfl rfl rfl rfl; apply run_gNo rfl rfl rfl rfl rfl; apply run_gNo rfl rfl rfl rfl rfl; apply run_step rfl; (exact stp_pickT rfl rfl rfl); apply run_step rfl; (exact stp_assign rfl rfl); refine run_nil ?_; refine fin_seq ?_; refine goes_ret ?_)
    exact fin_ret1 (.inl rfl) rfl (.tmp rfl) trivial trivial
  rw [h, Bool.false_or]
  (apply run_gYes rfl rfl rfl; (exact stp_move rfl rfl); apply run_gYes rfl rfl rfl; (first | (apply call_gate 209; exact stp_callR hE0 (by as_aux_lemma => kernel_rfl) rfl rfl ⟨rfl, rfl, trivial⟩ ⟨⟨_, rfl, .inl rfl⟩, ⟨_, rfl, .inr rfl⟩, trivial⟩ rfl rfl) | (apply call_gate 209; exact stp_callR hE1 (by as_aux_lemma => kernel_rfl) rfl rfl ⟨rfl, rfl, trivial⟩ ⟨⟨_, rfl, .inl rfl⟩, ⟨_, rfl, .inr rfl⟩, trivial⟩ rfl rfl) | (apply call_gate 209; exact stp_callR hE2 (by as_aux_lemma => kernel_rfl) rfl rfl ⟨rfl, rfl, trivial⟩ ⟨⟨_, rfl, .inl rfl⟩, ⟨_, rfl, .inr rfl⟩, trivial⟩ rfl rfl) | (apply call_gate 209; exact stp_callR hE3 (by as_aux_lemma => kernel_rfl) rfl rfl ⟨rfl, rfl, trivial⟩ ⟨⟨_, rfl, .inl rfl⟩, ⟨_, rfl, .inr rfl⟩, trivial⟩ rfl rfl) | (apply call_gate 209; exact stp_callR hE4 (by as_aux_lemma => kernel_rfl) rfl rfl ⟨rfl, rfl, trivial⟩ ⟨⟨_, rfl, .inl rfl⟩, ⟨_, rfl, .inr rfl⟩, trivial⟩ rfl rfl) | (apply call_gate 209; exact stp_callR hE5 (by as_aux_lemma => kernel_rfl) rfl rfl ⟨rfl, rfl, trivial⟩ ⟨⟨_, rfl, .inl rfl⟩, ⟨_, rfl, .inr rfl⟩, trivial⟩ rfl rfl) | exact stp_lit3I (E := 2) rfl (by as_aux_lemma => kernel_rfl) rfl rfl rfl | exact stp_lit4I (E := 2) rfl (by as_aux_lemma => kernel_rfl) rfl rfl rfl rfl); apply run_gYes rfl rfl rfl; (first | (apply call_gate 209; exact stp_callR hE0 (by as_aux_lemma => kernel_rfl) rfl rfl ⟨rfl, rfl, trivial⟩ ⟨⟨_, rfl, .inl rfl⟩, ⟨_, rfl, .inr rfl⟩, trivial⟩ rfl rfl) | (apply call_gate 209; exact stp_callR hE1 (by as_aux_lemma => kernel_rfl) rfl rfl ⟨rfl, rfl, trivial⟩ ⟨⟨_, rfl, .inl rfl⟩, ⟨_, rfl, .inr rfl⟩, trivial⟩ rfl rfl) | (apply call_gate 209; exact stp_callR hE2 (by as_aux_lemma => kernel_rfl) rfl rfl ⟨rfl, rfl, trivial⟩ ⟨⟨_, rfl, .inl rfl⟩, ⟨_, rfl, .inr rfl⟩, trivial⟩ rfl rfl) | (apply call_gate 209; exact stp_callR hE3 (by as_aux_lemma => kernel_rfl) rfl rfl ⟨rfl, rfl, trivial⟩ ⟨⟨_, rfl, .inl rfl⟩, ⟨_, rfl, .inr rfl⟩, trivial⟩ rfl rfl) | (apply call_gate 209; exact stp_callR hE4 (by as_aux_lemma => kernel_rfl) rfl rfl ⟨rfl, rfl, trivial⟩ ⟨⟨_, rfl, .inl rfl⟩, ⟨_, rfl, .inr rfl⟩, trivial⟩ rfl rfl) | (apply call_gate 209; exact stp_callR hE5 (by as_aux_lemma => kernel_rfl) rfl rfl ⟨rfl, rfl, trivial⟩ ⟨⟨_, rfl, .inl rfl⟩, ⟨_, rfl, .inr rfl⟩, trivial⟩ rfl rfl) | exact stp_lit3I (E := 2) rfl (by as_aux_lemma => kernel_rfl) rfl rfl rfl | exact stp_lit4I (E := 2) rfl (by as_aux_lemma => kernel_rfl) rfl rfl rfl rfl); apply run_step rfl; (exact stp_pickF rfl rfl rfl); apply run_step rfl; (exact stp_move rfl rfl))
  refine run_bool 21 rfl (fun h => ?_) (fun h => ?_)
  · rw [h]
    simp only [Bool.true_or]
    (apply run_gNo rfl rfl rfl rfl rfl; apply run_gNo rfl rfl rfl rfl rfl; apply run_gNo rfl rfl rfl rfl rfl; apply run_step rfl; (exact stp_pickT rfl rfl rfl); apply run_step rfl; (exact stp_move rfl rfl); apply run_gNo rfl rfl rfl rfl rfl; apply run_gNo rfl rfl rfl rfl rfl; apply run_gNo rfl rfl rfl rfl rfl; apply run_step rfl; (exact stp_pickT rfl rfl rfl); apply run_step rfl; (exact stp_assign rfl rfl); refine run_nil ?_; refine fin_seq ?_; refine goes_ret ?_)
    exact fin_ret1 (.inl rfl) rfl (.tmp rfl) trivial trivial
  rw [h, Bool.false_or]
  (apply run_gYes rfl rfl rfl; (exact stp_move rfl rfl); apply run_gYes rfl rfl rfl; (first | (apply call_gate 209; exact stp_callR hE0 (by as_aux_lemma => kernel_rfl) rfl rfl ⟨rfl, rfl, trivial⟩ ⟨⟨_, rfl, .inl rfl⟩, ⟨_, rfl, .inr rfl⟩, trivial⟩ rfl rfl) | (apply call_gate 209; exact stp_callR hE1 (by as_aux_lemma => kernel_rfl) rfl rfl ⟨rfl, rfl, trivial⟩ ⟨⟨_, rfl, .inl rfl⟩, ⟨_, rfl, .inr rfl⟩, trivial⟩ rfl rfl) | (apply call_gate 209; exact stp_callR hE2 (by as_aux_lemma => kernel_rfl) rfl rfl ⟨rfl, rfl, trivial⟩ ⟨⟨_, rfl, .inl rfl⟩, ⟨_, rfl, .inr rfl⟩, trivial⟩ rfl rfl) | (apply call_gate 209; exact stp_callR hE3 (by as_aux_lemma => kernel_rfl) rfl rfl ⟨rfl, rfl, trivial⟩ ⟨⟨_, rfl, .inl rfl⟩, ⟨_, rfl, .inr rfl⟩, trivial⟩ rfl rfl) | (apply call_gate 209; exact stp_callR hE4 (by as_aux_lemma => kernel_rfl) rfl rfl ⟨rfl, rfl, trivial⟩ ⟨⟨_, rfl, .inl rfl⟩, ⟨_, rfl, .inr rfl⟩, trivial⟩ rfl rfl) | (apply call_gate 209; exact stp_callR hE5 (by as_aux_lemma => kernel_rfl) rfl rfl ⟨rfl, rfl, trivial⟩ ⟨⟨_, rfl, .inl rfl⟩, ⟨_, rfl, .inr rfl⟩, trivial⟩ rfl rfl) | exact stp_lit3I (E := 2) rfl (by as_aux_lemma => kernel_rfl) rfl rfl rfl | exact stp_lit4I (E := 2) rfl (by as_aux_lemma => kernel_rfl) rfl rfl rfl rfl); apply run_gYes rfl rfl rfl; (first | (apply call_gate 209; exact stp_callR hE0 (by as_aux_lemma => kernel_rfl) rfl rfl ⟨rfl, rfl, trivial⟩ ⟨⟨_, rfl, .inl rfl⟩, ⟨_, rfl, .inr rfl⟩, trivial⟩ rfl rfl) | (apply call_gate 209; exact stp_callR hE1 (by as_aux_lemma => kernel_rfl) rfl rfl ⟨rfl, rfl, trivial⟩ ⟨⟨_, rfl, .inl rfl⟩, ⟨_, rfl, .inr rfl⟩, trivial⟩ rfl rfl) | (apply call_gate 209; exact stp_callR hE2 (by as_aux_lemma => kernel_rfl) rfl rfl ⟨rfl, rfl, trivial⟩ ⟨⟨_, rfl, .inl rfl⟩, ⟨_, rfl, .inr rfl⟩, trivial⟩ rfl rfl) | (apply call_gate 209; exact stp_callR hE3 (by as_aux_lemma => kernel_rfl) rfl rfl ⟨rfl, rfl, trivial⟩ ⟨⟨_, rfl, .inl rfl⟩, ⟨_, rfl, .inr rfl⟩, trivial⟩ rfl rfl) | (apply call_gate 209; exact stp_callR hE4 (by as_aux_lemma => kernel_rfl) rfl rfl ⟨rfl, rfl, trivial⟩ ⟨⟨_, rfl, .inl rfl⟩, ⟨_, rfl, .inr rfl⟩, trivial⟩ rfl rfl) | (apply call_gate 209; exact stp_callR hE5 (by as_aux_lemma => kernel_rfl) rfl rfl ⟨rfl, rfl, trivial⟩ ⟨⟨_, rfl, .inl rfl⟩, ⟨_, rfl, .inr rfl⟩, trivial⟩ rfl rfl) | exact stp_lit3I (E := 2) rfl (by as_aux_lemma => kernel_rfl) rfl rfl rfl | exact stp_lit4I (E := 2) rfl (by as_aux_lemma => kernel_rfl) rfl rfl rfl rfl); apply run_step rfl; (exact stp_pickF rfl rfl rfl); apply run_step rfl; (exact stp_move rfl rfl))
  refine run_bool 26 rfl (fun h => ?_) (fun h => ?_)
  · rw [h]
    simp only [Bool.true_or]
    (apply run_gNo rfl rfl rfl rfl rfl; apply run_gNo rfl rfl rfl rfl rfl; apply run_gNo rfl rfl rfl rfl rfl; apply run_step rfl; (exact stp_pickT rfl rfl rfl); apply run_step rfl; (exact stp_assign rfl rfl); refine run_nil ?_; refine fin_seq ?_; refine goes_ret ?_)
    exact fin_ret1 (.inl rfl) rfl (.tmp rfl) trivial trivial
  rw [h, Bool.false_or]
  (apply run_gYes rfl rfl rfl; (exact stp_move rfl rfl); apply run_gYes rfl rfl rfl; (first | (apply call_gate 209; exact stp_callR hE0 (by as_aux_lemma => kernel_rfl) rfl rfl ⟨rfl, rfl, trivial⟩ ⟨⟨_, rfl, .inl rfl⟩, ⟨_, rfl, .inr rfl⟩, trivial⟩ rfl rfl) | (apply call_gate 209; exact stp_callR hE1 (by as_aux_lemma => kernel_rfl) rfl rfl ⟨rfl, rfl, trivial⟩ ⟨⟨_, rfl, .inl rfl⟩, ⟨_, rfl, .inr rfl⟩, trivial⟩ rfl rfl) | (apply call_gate 209; exact stp_callR hE2 (by as_aux_lemma => kernel_rfl) rfl rfl ⟨rfl, rfl, trivial⟩ ⟨⟨_, rfl, .inl rfl⟩, ⟨_, rfl, .inr rfl⟩, trivial⟩ rfl rfl) | (apply call_gate 209; exact stp_callR hE3 (by as_aux_lemma => kernel_rfl) rfl rfl ⟨rfl, rfl, trivial⟩ ⟨⟨_, rfl, .inl rfl⟩, ⟨_, rfl, .inr rfl⟩, trivial⟩ rfl rfl) | (apply call_gate 209; exact stp_callR hE4 (by as_aux_lemma => kernel_rfl) rfl rfl ⟨rfl, rfl, trivial⟩ ⟨⟨_, rfl, .inl rfl⟩, ⟨_, rfl, .inr rfl⟩, trivial⟩ rfl rfl) | (apply call_gate 209; exact stp_callR hE5 (by as_aux_lemma => kernel_rfl) rfl rfl ⟨rfl, rfl, trivial⟩ ⟨⟨_, rfl, .inl rfl⟩, ⟨_, rfl, .inr rfl⟩, trivial⟩ rfl rfl) | exact stp_lit3I (E := 2) rfl (by as_aux_lemma => kernel_rfl) rfl rfl rfl | exact stp_lit4I (E := 2) rfl (by as_aux_lemma => kernel_rfl) rfl rfl rfl rfl); apply run_gYes rfl rfl rfl; (first | (apply call_gate 209; exact stp_callR hE0 (by as_aux_lemma => kernel_rfl) rfl rfl ⟨rfl, rfl, trivial⟩ ⟨⟨_, rfl, .inl rfl⟩, ⟨_, rfl, .inr rfl⟩, trivial⟩ rfl rfl) | (apply call_gate 209; exact stp_callR hE1 (by as_aux_lemma => kernel_rfl) rfl rfl ⟨rfl, rfl, trivial⟩ ⟨⟨_, rfl, .inl rfl⟩, ⟨_, rfl, .inr rfl⟩, trivial⟩ rfl rfl) | (apply call_gate 209; exact stp_callR hE2 (by as_aux_lemma => kernel_rfl) rfl rfl ⟨rfl, rfl, trivial⟩ ⟨⟨_, rfl, .inl rfl⟩, ⟨_, rfl, .inr rfl⟩, trivial⟩ rfl rfl) | (apply call_gate 209; exact stp_callR hE3 (by as_aux_lemma => kernel_rfl) rfl rfl ⟨rfl, rfl, trivial⟩ ⟨⟨_, rfl, .inl rfl⟩, ⟨_, rfl, .inr rfl⟩, trivial⟩ rfl rfl) | (apply call_gate 209; exact stp_callR hE4 (by as_aux_lemma => kernel_rfl) rfl rfl ⟨rfl, rfl, trivial⟩ ⟨⟨_, rfl, .inl rfl⟩, ⟨_, rfl, .inr rfl⟩, trivial⟩ rfl rfl) | (apply call_gate 209; exact stp_callR hE5 (by as_aux_lemma => kernel_rfl) rfl rfl ⟨rfl, rfl, trivial⟩ ⟨⟨_, rfl, .inl rfl⟩, ⟨_, rfl, .inr rfl⟩, trivial⟩ rfl rfl) | exact stp_lit3I (E := 2) rfl (by as_aux_lemma => kernel_rfl) rfl rfl rfl | exact stp_lit4I (E := 2) rfl (by as_aux_lemma => kernel_rfl) rfl rfl rfl rfl); apply run_step rfl; (exact stp_pickF rfl rfl rfl); apply run_step rfl; (exact stp_assign rfl rfl); refine run_nil ?_; refine fin_seq ?_; refine goes_ret ?_)
  exact fin_ret1 (.inl rfl) rfl (.tmp rfl) trivial trivial
end Go.Proofs.Ytnfkhgamnapgmaa
