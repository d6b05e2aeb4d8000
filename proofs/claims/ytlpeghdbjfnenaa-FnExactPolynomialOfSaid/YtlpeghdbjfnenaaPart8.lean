/- PolynomialOf, the reference's. guards: -/
import Derived.Test.YtlpeghdbjfnenaaPart7
import Derived.Test.YtlpeghdbjfnenaaPart1
namespace Go.Proofs.Ytlpeghdbjfnenaa
open Go.RowKit

set_option maxRecDepth 100000 in
set_option maxHeartbeats 4000000 in
theorem pnS_yes (zs : List Int) (hn : zs.length ≤ 4398046511104) (h0 : finC zs = 0) :
    FC Try.prog 47 [(1003, wRo zs)] [o1 (.sl 1003 0 zs.length)] [(2400, leOw (polyA zs))] (.tup [.one (.sl 2400 0 (polyA zs).length), .one (.val (I6 0))]) [] := by
  obtain ⟨hd, hf⟩ := finC_zero h0
  have hF := finS_fc zs zs.length rfl hn
  rw [h0] at hF
  have h4 := isDiag_len hd
  have hW := wholeS_fc zs zs.length rfl h4
  have hA := (allS_fc zs zs.length (allN zs) rfl hd (allN_lt h4) hf).nm [(1003, 1003), (2300, 19)] (by kernel_rfl)
  rw [← allD_len] at hA
  have hA : FC Try.prog 87 [(1003, wRo zs)] [o1 (.sl 1003 0 zs.length), vv (I6 (allN zs))] [(19, leOw (allD zs (allN zs)))] (o1 (.sl 19 0 (allD zs (allN zs)).length)) [] := hA
  have hin := allD_in (mask := allN zs) hd
  have hle := allD_le (mask := allN zs) hd
  unfold polyA
  generalize allD zs (allN zs) = B at *
  have hil : B.length ≤ (ivals B).length := by rw [ivals_len]; exact Nat.le_refl _
  refine fc_enter (nt := 68) Try.func47 rfl rfl (by simp) fun w0 ω0 => ?_
  (refine goes_seq ?_; refine goes_region ?_; apply run_step rfl; (exact stp_assign rfl rfl); apply run_step rfl; (exact stp_assign rfl rfl); refine run_nil ?_; refine fin_seq ?_; refine goes_seq ?_; refine goes_seq ?_; refine goes_region ?_; apply run_step rfl; (exact stp_move rfl rfl); apply run_step rfl; (apply call_gate 78; exact stp_callR hF (by as_aux_lemma => kernel_rfl) rfl rfl ⟨rfl, trivial⟩ ⟨⟨_, rfl, .inl rfl⟩, trivial⟩ rfl rfl); apply run_step rfl; (exact stp_assign rfl rfl); refine run_nil ?_; refine fin_seq ?_; refine goes_seq ?_; refine goes_region ?_; apply run_step rfl; (exact stp_move rfl rfl); apply run_step rfl; (exact stp_bin rfl rfl rfl rfl); refine run_nil ?_; refine fin_seq ?_)
  refine goes_cond rfl (fun e => by simp at e) (fun _ => ?_)
  (refine goes_skip ?_; refine fin_seq ?_; refine goes_seq ?_; refine goes_region ?_; apply run_step rfl; (exact stp_move rfl rfl); apply run_step rfl; (exact stp_move rfl rfl); apply run_step rfl; (first | (apply call_gate 61; exact stp_callR hW (by as_aux_lemma => kernel_rfl) rfl rfl ⟨rfl, trivial⟩ ⟨⟨_, rfl, .inl rfl⟩, trivial⟩ rfl rfl) | (apply call_gate 87; exact stp_callN hA (by as_aux_lemma => kernel_rfl) rfl rfl ⟨rfl, rfl, trivial⟩ ⟨⟨_, rfl, .inl rfl⟩, trivial⟩ rfl rfl rfl) | exact stp_lit1I (E := 2) rfl (by as_aux_lemma => kernel_rfl) rfl); apply run_step rfl; (first | (apply call_gate 61; exact stp_callR hW (by as_aux_lemma => kernel_rfl) rfl rfl ⟨rfl, trivial⟩ ⟨⟨_, rfl, .inl rfl⟩, trivial⟩ rfl rfl) | (apply call_gate 87; exact stp_callN hA (by as_aux_lemma => kernel_rfl) rfl rfl ⟨rfl, rfl, trivial⟩ ⟨⟨_, rfl, .inl rfl⟩, trivial⟩ rfl rfl rfl) | exact stp_lit1I (E := 2) rfl (by as_aux_lemma => kernel_rfl) rfl); apply run_step rfl; (first | (apply call_gate 61; exact stp_callR hW (by as_aux_lemma => kernel_rfl) rfl rfl ⟨rfl, trivial⟩ ⟨⟨_, rfl, .inl rfl⟩, trivial⟩ rfl rfl) | (apply call_gate 87; exact stp_callN hA (by as_aux_lemma => kernel_rfl) rfl rfl ⟨rfl, rfl, trivial⟩ ⟨⟨_, rfl, .inl rfl⟩, trivial⟩ rfl rfl rfl) | exact stp_lit1I (E := 2) rfl (by as_aux_lemma => kernel_rfl) rfl); apply run_step rfl; (exact stp_assign rfl rfl); apply run_step rfl; (exact stp_assign rfl rfl); refine run_nil ?_; refine fin_seq ?_; refine goes_seq ?_; refine goes_seq ?_; refine goes_region ?_; apply run_step rfl; (exact stp_assign rfl rfl); refine run_nil ?_; refine fin_seq ?_; refine goes_block ?_)
  refine goes_loop (fun k : Nat => St.of [(5, o1 (.sl 19 0 B.length)), (6, o1 (.sl 2400 0 (pAll B k).length)), (7, vv (I6 k))] [(19, leOw B), (2400, leOw (pAll B k))]) (fun k => k ≤ B.length) (fun k => B.length - k) 0 (Nat.zero_le _) (Wk.trans (wk_ren (x := 20) (y := 2400) (s := 6) (m := 1) rfl rfl) (Wk.of ⟨rfl, congrArg (fun z : List Int => some (o1 (.sl 2400 0 z.length))) (pAll_zero B).symm, rfl, trivial⟩ ⟨rfl, congrArg (fun z => some (leOw z)) (pAll_zero B).symm, trivial⟩ trivial)) ?_
  rintro k hk
  (refine goes_seq ?_; refine goes_seq ?_; refine goes_region ?_; apply run_step rfl; (exact stp_move rfl rfl); apply run_step rfl; (exact stp_move rfl rfl); apply run_step rfl; (exact stp_len rfl rfl rfl (by as_aux_lemma => kernel_rfl)); apply run_step rfl; (exact stp_bin rfl rfl rfl rfl); refine run_nil ?_; refine fin_seq ?_)
  refine goes_if rfl (fun hlt => ?_) (fun hlt => ?_)
  · have hkm : k < B.length := by omega
    have hz := hin _ (iget_mem (zs := B) (k := k) hkm)
    have hpl := pAll_len hin k hk
    have hps := pAll_succ hkm
    obtain ⟨D, hD⟩ : ∃ D : Nat, iget B k = (D : Int) := ⟨(iget B k).toNat, by omega⟩
    have hD2 : 2 ≤ D ∧ D ≤ 32 := by omega
    have hg : (ivals B)[k]? = some (I6 (D : Int)) := by rw [ivals_get hkm, hD]
    rw [hD, Int.toNat_natCast] at hps
    generalize hO : pAll B k = out at *
    have hol : out.length ≤ (ivals out).length := by rw [ivals_len]; exact Nat.le_refl _
    obtain ⟨M, hM⟩ : ∃ M, out.length + D - 1 = M := ⟨_, rfl⟩
    have hMb : M ≤ 300 := by omega
    have hwa : IntKind.i64.wrap ((out.length : Int) + (D : Int)) = (((out.length + D : Nat)) : Int) := by rw [IntWalk.i64_in _ (by omega)]; omega
    have hws : IntKind.i64.wrap (((out.length + D : Nat) : Int) - 1) = (M : Int) := by rw [IntWalk.i64_in _ (by omega)]; omega
    (refine goes_skip ?_; refine fin_seq ?_; refine goes_seq ?_; refine goes_block ?_; refine goes_seq ?_; refine goes_region ?_; apply run_step rfl; (exact stp_move rfl rfl); apply run_step rfl; (exact stp_len rfl rfl rfl (by as_aux_lemma => kernel_rfl)); apply run_step rfl; (exact stp_move rfl rfl); apply run_step rfl; (exact stp_move rfl rfl); apply run_step rfl; (first | exact stp_ix (j := k) rfl rfl rfl rfl rfl (by as_aux_lemma => kernel_rfl) rfl hkm hil | exact stp_loadV rfl (by as_aux_lemma => kernel_rfl) rfl rfl rfl hg | exact stp_add rfl rfl rfl hwa | exact stp_sub rfl rfl rfl hws); apply run_step rfl; (first | exact stp_ix (j := k) rfl rfl rfl rfl rfl (by as_aux_lemma => kernel_rfl) rfl hkm hil | exact stp_loadV rfl (by as_aux_lemma => kernel_rfl) rfl rfl rfl hg | exact stp_add rfl rfl rfl hwa | exact stp_sub rfl rfl rfl hws); apply run_step rfl; (first | exact stp_ix (j := k) rfl rfl rfl rfl rfl (by as_aux_lemma => kernel_rfl) rfl hkm hil | exact stp_loadV rfl (by as_aux_lemma => kernel_rfl) rfl rfl rfl hg | exact stp_add rfl rfl rfl hwa | exact stp_sub rfl rfl rfl hws); apply run_step rfl; (first | exact stp_ix (j := k) rfl rfl rfl rfl rfl (by as_aux_lemma => kernel_rfl) rfl hkm hil | exact stp_loadV rfl (by as_aux_lemma => kernel_rfl) rfl rfl rfl hg | exact stp_add rfl rfl rfl hwa | exact stp_sub rfl rfl rfl hws); apply run_step rfl; (exact stp_makeI (E := 2) rfl (by as_aux_lemma => kernel_rfl) (by as_aux_lemma => kernel_rfl) rfl rfl rfl rfl (by omega)); apply run_step rfl; (exact stp_assign rfl rfl); refine run_nil ?_; refine fin_seq ?_; refine goes_seq ?_; refine goes_seq ?_; refine goes_region ?_; apply run_step rfl; (exact stp_assign rfl rfl); refine run_nil ?_; refine fin_seq ?_; refine goes_block ?_)
    refine goes_loop (fun i : Nat => St.of [(5, o1 (.sl 19 0 B.length)), (6, o1 (.sl 2400 0 out.length)), (7, vv (I6 k)), (8, o1 (.sl 35 0 M)), (9, vv (I6 i))] [(19, leOw B), (2400, leOw out), (35, leOw (pOut out D i))]) (fun i => i ≤ out.length) (fun i => out.length - i) 0 (Nat.zero_le _) (Wk.of ⟨rfl, rfl, rfl, rfl, rfl, trivial⟩ ⟨rfl, rfl, congrArg (fun z => some (leOw z)) (show List.replicate M 0 = pOut out D 0 by rw [pOut_zero, hM]), trivial⟩ trivial) ?_
    rintro i hi
    (refine goes_seq ?_; refine goes_seq ?_; refine goes_region ?_; apply run_step rfl; (exact stp_move rfl rfl); apply run_step rfl; (exact stp_move rfl rfl); apply run_step rfl; (exact stp_len rfl rfl rfl (by as_aux_lemma => kernel_rfl)); apply run_step rfl; (exact stp_bin rfl rfl rfl rfl); refine run_nil ?_; refine fin_seq ?_)
    refine goes_if rfl (fun hlt => ?_) (fun hlt => ?_)
    · have hio : i < out.length := by omega
      have hgo : (ivals out)[i]? = some (I6 (iget out i)) := ivals_get hio
      (refine goes_skip ?_; refine fin_seq ?_; refine goes_seq ?_; refine goes_block ?_; refine goes_seq ?_; refine goes_region ?_; apply run_step rfl; (exact stp_assign rfl rfl); refine run_nil ?_; refine fin_seq ?_; refine goes_block ?_)
      refine goes_loop (fun j : Nat => St.of [(5, o1 (.sl 19 0 B.length)), (6, o1 (.sl 2400 0 out.length)), (7, vv (I6 k)), (8, o1 (.sl 35 0 M)), (9, vv (I6 i)), (10, vv (I6 j))] [(19, leOw B), (2400, leOw out), (35, leOw (pIn (pOut out D i) i (iget out i) j))]) (fun j => j ≤ D) (fun j => D - j) 0 (Nat.zero_le _) (Wk.of ⟨rfl, rfl, rfl, rfl, rfl, rfl, trivial⟩ ⟨rfl, rfl, rfl, trivial⟩ trivial) ?_
      rintro j hj
      (refine goes_seq ?_; refine goes_seq ?_; refine goes_region ?_; apply run_step rfl; (exact stp_move rfl rfl); apply run_step rfl; (exact stp_move rfl rfl); apply run_step rfl; (exact stp_move rfl rfl); apply run_step rfl; (first | exact stp_ix (j := k) rfl rfl rfl rfl rfl (by as_aux_lemma => kernel_rfl) rfl hkm hil | exact stp_loadV rfl (by as_aux_lemma => kernel_rfl) rfl rfl rfl hg); apply run_step rfl; (first | exact stp_ix (j := k) rfl rfl rfl rfl rfl (by as_aux_lemma => kernel_rfl) rfl hkm hil | exact stp_loadV rfl (by as_aux_lemma => kernel_rfl) rfl rfl rfl hg); apply run_step rfl; (exact stp_bin rfl rfl rfl rfl); refine run_nil ?_; refine fin_seq ?_)
      refine goes_if rfl (fun hlt => ?_) (fun hlt => ?_)
      · have hjD : j < D := by omega
        have hlen : (pIn (pOut out D i) i (iget out i) j).length = M := by rw [pIn_len, pOut_len, hM]
        have hijM : i + j < M := by omega
        have hijl : i + j < (pIn (pOut out D i) i (iget out i) j).length := by omega
        have hnl : M ≤ (ivals (pIn (pOut out D i) i (iget out i) j)).length := by rw [ivals_len, hlen]; exact Nat.le_refl _
        have hgn : (ivals (pIn (pOut out D i) i (iget out i) j))[i + j]? = some (I6 (iget (pIn (pOut out D i) i (iget out i) j) (i + j))) := ivals_get hijl
        have hw1 : IntKind.i64.wrap ((i : Int) + (j : Int)) = ((i + j : Nat) : Int) := by rw [IntWalk.i64_in _ (by omega)]; omega
        (refine goes_skip ?_; refine fin_seq ?_; refine goes_seq ?_; refine goes_block ?_)
        apply goes_draw 15 [] [[], [], [], [1, 2], [], [], [], [5, 6], [4, 5, 6, 7], [4, 5, 6, 7, 8], [], [], [10, 11], [10, 11, 12], [4, 5, 6, 7, 8, 9, 10, 11, 12, 13], [0, 1, 2, 3, 4, 5, 6, 7, 8, 9, 10, 11, 12, 13, 14], [0, 1, 2, 3, 4, 5, 6, 7, 8, 9, 10, 11, 12, 13, 14, 15]] [50, 51, 52, 53, 54, 55, 56, 57, 58, 59, 60, 61, 62, 63, 64] [] (by kernel_rfl) (by kernel_rfl)
        · (apply draw_put rfl; (focus (intro S1 hS; exact stp_move rfl (hS.op rfl))))
          (apply draw_put rfl; (focus (intro S1 hS; exact stp_move rfl (hS.op rfl))))
          (apply draw_put rfl; (focus (intro S1 hS; exact stp_move rfl (hS.op rfl))))
          (apply draw_put rfl; (focus (intro S1 hS; exact stp_add rfl (hS.op rfl) (hS.op rfl) hw1)))
          (apply draw_put rfl; (focus (intro S1 hS; exact stp_move rfl (hS.op rfl))))
          (apply draw_put rfl; (focus (intro S1 hS; exact stp_move rfl (hS.op rfl))))
          (apply draw_put rfl; (focus (intro S1 hS; exact stp_move rfl (hS.op rfl))))
          (apply draw_put rfl; (focus (intro S1 hS; exact stp_add rfl (hS.op rfl) (hS.op rfl) hw1)))
          (apply draw_put rfl; (focus (intro S1 hS; exact stp_ix (j := i + j) rfl (hS.op rfl) (hS.op rfl) (hS.ch _ _ rfl) rfl (by as_aux_lemma => kernel_rfl) rfl hijM hnl)))
          (apply draw_put rfl; (focus (intro S1 hS; exact stp_loadV rfl (by as_aux_lemma => kernel_rfl) (hS.op rfl) (hS.ch _ _ rfl) rfl hgn)))
          (apply draw_put rfl; (focus (intro S1 hS; exact stp_move rfl (hS.op rfl))))
          (apply draw_put rfl; (focus (intro S1 hS; exact stp_move rfl (hS.op rfl))))
          (apply draw_put rfl; (focus (intro S1 hS; exact stp_ix (j := i) rfl (hS.op rfl) (hS.op rfl) (hS.ch _ _ rfl) rfl (by as_aux_lemma => kernel_rfl) rfl hio hol)))
          (apply draw_put rfl; (focus (intro S1 hS; exact stp_loadV rfl (by as_aux_lemma => kernel_rfl) (hS.op rfl) (hS.ch _ _ rfl) rfl hgo)))
          (apply draw_put rfl; (focus (intro S1 hS; exact stp_add rfl (hS.op rfl) (hS.op rfl) rfl)))
          exact Draw.nil
        · rfl
        refine rest_join (St.of [(5, o1 (.sl 19 0 B.length)), (6, o1 (.sl 2400 0 out.length)), (7, vv (I6 k)), (8, o1 (.sl 35 0 M)), (9, vv (I6 i)), (10, vv (I6 j))] [(19, leOw B), (2400, leOw out), (35, leOw (pIn (pOut out D i) i (iget out i) (j + 1)))]) ?_ ?_
        · ((apply rest_one 15 rfl (by as_aux_lemma => kernel_rfl) rfl rfl; ((first | exact stp_ix (j := i + j) rfl rfl rfl rfl rfl (by as_aux_lemma => kernel_rfl) rfl hijM hnl | exact stp_stI rfl rfl rfl rfl rfl hijl (by as_aux_lemma => kernel_rfl)))); (apply rest_one 16 rfl (by as_aux_lemma => kernel_rfl) rfl rfl; ((first | exact stp_ix (j := i + j) rfl rfl rfl rfl rfl (by as_aux_lemma => kernel_rfl) rfl hijM hnl | exact stp_stI rfl rfl rfl rfl rfl hijl (by as_aux_lemma => kernel_rfl)))); (refine rest_done (by as_aux_lemma => kernel_rfl) ?_; exact fin_join (Wk.of ⟨rfl, rfl, rfl, rfl, rfl, rfl, trivial⟩ ⟨rfl, rfl, congrArg (fun z => some (leOw z)) (pIn_succ _ _ _ _).symm, trivial⟩ trivial)))
        (refine fin_block ?_; refine fin_seq ?_; refine goes_region ?_; apply run_step rfl; (exact stp_move rfl rfl); apply run_step rfl; (exact stp_add rfl rfl rfl (by first | exact IntWalk.i64_in _ (by omega) | rfl)); apply run_step rfl; (exact stp_assign rfl rfl); refine run_nil ?_)
        exact fin_round (j + 1) (by omega) (by omega) (Wk.of ⟨rfl, rfl, rfl, rfl, rfl, rfl, trivial⟩ ⟨rfl, rfl, rfl, trivial⟩ trivial)
      · obtain rfl : j = D := by omega
        (refine goes_exit ?_; refine fin_exit_then ?_; refine fin_exit_then ?_; refine fin_exit_eq ?_; refine fin_block ?_; refine fin_seq ?_; refine goes_region ?_; apply run_step rfl; (exact stp_move rfl rfl); apply run_step rfl; (exact stp_add rfl rfl rfl (by first | exact IntWalk.i64_in _ (by omega) | rfl)); apply run_step rfl; (exact stp_assign rfl rfl); refine run_nil ?_)
        exact fin_round (i + 1) (by omega) (by omega) (Wk.of ⟨rfl, rfl, rfl, rfl, rfl, trivial⟩ ⟨rfl, rfl, congrArg (fun z => some (leOw z)) (pOut_succ _ _ _).symm, trivial⟩ trivial)
    · obtain rfl : i = out.length := by omega
      (refine goes_exit ?_; refine fin_exit_then ?_; refine fin_exit_then ?_; refine fin_exit_eq ?_; refine fin_seq ?_; refine goes_region ?_; apply run_step rfl; (exact stp_move rfl rfl); apply run_step rfl; (exact stp_assign rfl rfl); refine run_nil ?_; refine fin_block ?_; refine fin_seq ?_; refine goes_region ?_; apply run_step rfl; (exact stp_move rfl rfl); apply run_step rfl; (exact stp_add rfl rfl rfl (by first | exact IntWalk.i64_in _ (by omega) | rfl)); apply run_step rfl; (exact stp_assign rfl rfl); refine run_nil ?_)
      exact fin_round (k + 1) (by omega) (by omega) (Wk.trans (wk_ren (x := 35) (y := 2400) (s := 6) rfl rfl) (Wk.of ⟨rfl, congrArg (fun z : Nat => some (o1 (.sl 2400 0 z))) (show M = (pAll B (k + 1)).length by rw [hps, pOut_len, hM]), rfl, trivial⟩ ⟨rfl, congrArg (fun z => some (leOw z)) hps.symm, trivial⟩ trivial))
  · obtain rfl : k = B.length := by omega
    (refine goes_exit ?_; refine fin_exit_then ?_; refine fin_exit_then ?_; refine fin_exit_eq ?_; refine fin_seq ?_; refine goes_seq ?_; refine goes_region ?_; apply run_step rfl; (exact stp_move rfl rfl); apply run_step rfl; (exact stp_assign rfl rfl); apply run_step rfl; (exact stp_assign rfl rfl); refine run_nil ?_; refine fin_seq ?_; refine goes_ret ?_)
    exact fin_ret2 (.inl rfl) rfl (.tmp rfl) (.tmp rfl) ⟨rfl, trivial⟩ trivial
set_option maxRecDepth 100000 in
theorem pnS_no (zs : List Int) (hn : zs.length ≤ 4398046511104) (h0 : finC zs ≠ 0) :
    FC Try.prog 47 [(1003, wRo zs)] [o1 (.sl 1003 0 zs.length)] [] (.tup [.one (.val (.slice none 0 0)), .one (.val (I6 (finC zs)))]) [] := by
  have hF := finS_fc zs zs.length rfl hn
  refine fc_enter (nt := 68) Try.func47 rfl rfl (by simp) fun w0 ω0 => ?_
  (refine goes_seq ?_; refine goes_region ?_; apply run_step rfl; (exact stp_assign rfl rfl); apply run_step rfl; (exact stp_assign rfl rfl); refine run_nil ?_; refine fin_seq ?_; refine goes_seq ?_; refine goes_seq ?_; refine goes_region ?_; apply run_step rfl; (exact stp_move rfl rfl); apply run_step rfl; (apply call_gate 78; exact stp_callR hF (by as_aux_lemma => kernel_rfl) rfl rfl ⟨rfl, trivial⟩ ⟨⟨_, rfl, .inl rfl⟩, trivial⟩ rfl rfl); apply run_step rfl; (exact stp_assign rfl rfl); refine run_nil ?_; refine fin_seq ?_; refine goes_seq ?_; refine goes_region ?_; apply run_step rfl; (exact stp_move rfl rfl); apply run_step rfl; (exact stp_bin rfl rfl rfl rfl); refine run_nil ?_; refine fin_seq ?_)
  refine goes_cond rfl (fun _ => ?_) (fun e => absurd (by simpa using e) h0)
  (refine goes_seq ?_; refine goes_region ?_; apply run_step rfl; (exact stp_move rfl rfl); apply run_step rfl; (exact stp_assign rfl rfl); apply run_step rfl; (exact stp_assign rfl rfl); refine run_nil ?_; refine fin_seq ?_; refine goes_ret ?_; refine fin_ret_then ?_)
  exact fin_ret2 (.inl rfl) rfl (.tmp rfl) (.tmp rfl) trivial trivial
end Go.Proofs.Ytlpeghdbjfnenaa

/- PolynomialOf, the program's. guards: -/
namespace Go.Proofs.Ytlpeghdbjfnenaa
open Go.RowKit

set_option maxRecDepth 100000 in
set_option maxHeartbeats 4000000 in
theorem pnI_yes (zs : List Int) (hn : zs.length ≤ 4398046511104) (h0 : finC zs = 0) :
    FC Try.prog 48 [(1003, wRo zs)] [o1 (.sl 1003 0 zs.length)] [(2400, leOw (polyA zs))] (.tup [.one (.sl 2400 0 (polyA zs).length), .one (.val (I6 0))]) [] := by
  obtain ⟨hd, hf⟩ := finC_zero h0
  have hI := diagI_fc zs zs.length rfl hn
  rw [hd] at hI
  have h4 := isDiag_len hd
  have hN := allI_fc zs zs.length rfl h4
  have hA := (allYes_fc zs zs.length (allN zs) rfl hd (allN_lt h4) hf).nm [(1003, 1003), (2200, 21)] (by kernel_rfl)
  unfold aRes at hA
  rw [← allD_len] at hA
  have hA : FC Try.prog 82 [(1003, wRo zs)] [o1 (.sl 1003 0 zs.length), vv (I6 (allN zs))] [(21, leOw (allD zs (allN zs)))] (.tup [.one (.sl 21 0 (allD zs (allN zs)).length), .one (.val (I6 (mulA zs (allN zs) : Nat))), .one (.val (.bool true))]) [] := hA
  have hin := allD_in (mask := allN zs) hd
  have hle := allD_le (mask := allN zs) hd
  unfold polyA
  generalize allD zs (allN zs) = B at *
  have hil : B.length ≤ (ivals B).length := by rw [ivals_len]; exact Nat.le_refl _
  refine fc_enter (nt := 65) Try.func48 rfl rfl (by simp) fun w0 ω0 => ?_
  (refine goes_seq ?_; refine goes_region ?_; apply run_step rfl; (exact stp_assign rfl rfl); apply run_step rfl; (exact stp_assign rfl rfl); refine run_nil ?_; refine fin_seq ?_; refine goes_seq ?_; refine goes_seq ?_; refine goes_region ?_; apply run_step rfl; (exact stp_move rfl rfl); apply run_step rfl; (apply call_gate 62; exact stp_callR hI (by as_aux_lemma => kernel_rfl) rfl rfl ⟨rfl, trivial⟩ ⟨⟨_, rfl, .inl rfl⟩, trivial⟩ rfl rfl); apply run_step rfl; (exact stp_not rfl rfl); refine run_nil ?_; refine fin_seq ?_)
  refine goes_cond rfl (fun e => by cases e) (fun _ => ?_)
  (refine goes_skip ?_; refine fin_seq ?_; refine goes_seq ?_; refine goes_region ?_; apply run_step rfl; (exact stp_move rfl rfl); apply run_step rfl; (exact stp_move rfl rfl); apply run_step rfl; (first | (apply call_gate 64; exact stp_callR hN (by as_aux_lemma => kernel_rfl) rfl rfl ⟨rfl, trivial⟩ ⟨⟨_, rfl, .inl rfl⟩, trivial⟩ rfl rfl) | (apply call_gate 82; exact stp_callN hA (by as_aux_lemma => kernel_rfl) rfl rfl ⟨rfl, rfl, trivial⟩ ⟨⟨_, rfl, .inl rfl⟩, trivial⟩ rfl rfl rfl)); apply run_step rfl; (first | (apply call_gate 64; exact stp_callR hN (by as_aux_lemma => kernel_rfl) rfl rfl ⟨rfl, trivial⟩ ⟨⟨_, rfl, .inl rfl⟩, trivial⟩ rfl rfl) | (apply call_gate 82; exact stp_callN hA (by as_aux_lemma => kernel_rfl) rfl rfl ⟨rfl, rfl, trivial⟩ ⟨⟨_, rfl, .inl rfl⟩, trivial⟩ rfl rfl rfl)); apply run_step rfl; (exact stp_move rfl rfl); apply run_step rfl; (exact stp_extract rfl rfl rfl); apply run_step rfl; (exact stp_extract rfl rfl rfl); apply run_step rfl; (exact stp_extract rfl rfl rfl); apply run_step rfl; (exact stp_assign rfl rfl); apply run_step rfl; (exact stp_assign rfl rfl); apply run_step rfl; (exact stp_assign rfl rfl); refine run_nil ?_; refine fin_seq ?_; refine goes_seq ?_; refine goes_seq ?_; refine goes_region ?_; apply run_step rfl; (exact stp_move rfl rfl); apply run_step rfl; (exact stp_not rfl rfl); refine run_nil ?_; refine fin_seq ?_)
  refine goes_cond rfl (fun e => by cases e) (fun _ => ?_)
  (refine goes_skip ?_; refine fin_seq ?_; refine goes_seq ?_; refine goes_region ?_; apply run_step rfl; (exact stp_lit1I (E := 2) rfl (by as_aux_lemma => kernel_rfl) rfl); apply run_step rfl; (exact stp_assign rfl rfl); refine run_nil ?_; refine fin_seq ?_; refine goes_seq ?_; refine goes_seq ?_; refine goes_region ?_; apply run_step rfl; (exact stp_move rfl rfl); apply run_step rfl; (exact stp_len rfl rfl rfl (by as_aux_lemma => kernel_rfl)); apply run_step rfl; (exact stp_move rfl rfl); refine run_nil ?_; refine fin_seq ?_; refine goes_block ?_)
  refine goes_loop (fun k : Nat => St.of [(7, o1 (.sl 2400 0 (pAll B k).length)), (28, o1 (.sl 21 0 B.length)), (29, vv (I6 B.length)), (30, vv (I6 k))] [(21, leOw B), (2400, leOw (pAll B k))]) (fun k => k ≤ B.length) (fun k => B.length - k) 0 (Nat.zero_le _) (Wk.trans (wk_ren (x := 27) (y := 2400) (s := 7) (m := 1) rfl rfl) (Wk.of ⟨congrArg (fun z : List Int => some (o1 (.sl 2400 0 z.length))) (pAll_zero B).symm, rfl, rfl, rfl, trivial⟩ ⟨rfl, congrArg (fun z => some (leOw z)) (pAll_zero B).symm, trivial⟩ trivial)) ?_
  rintro k hk
  (refine goes_seq ?_; refine goes_region ?_; apply run_step rfl; (exact stp_bin rfl rfl rfl rfl); refine run_nil ?_; refine fin_seq ?_; refine goes_seq ?_)
  refine goes_if rfl (fun hlt => ?_) (fun hlt => ?_)
  · have hkm : k < B.length := by omega
    have hz := hin _ (iget_mem (zs := B) (k := k) hkm)
    have hpl := pAll_len hin k hk
    have hps := pAll_succ hkm
    obtain ⟨D, hD⟩ : ∃ D : Nat, iget B k = (D : Int) := ⟨(iget B k).toNat, by omega⟩
    have hD2 : 2 ≤ D ∧ D ≤ 32 := by omega
    have hg : (ivals B)[k]? = some (I6 (D : Int)) := by rw [ivals_get hkm, hD]
    rw [hD, Int.toNat_natCast] at hps
    generalize hO : pAll B k = out at *
    have hol : out.length ≤ (ivals out).length := by rw [ivals_len]; exact Nat.le_refl _
    obtain ⟨M, hM⟩ : ∃ M, out.length + D - 1 = M := ⟨_, rfl⟩
    have hMb : M ≤ 300 := by omega
    have hwa : IntKind.i64.wrap ((out.length : Int) + (D : Int)) = (((out.length + D : Nat)) : Int) := by rw [IntWalk.i64_in _ (by omega)]; omega
    have hws : IntKind.i64.wrap (((out.length + D : Nat) : Int) - 1) = (M : Int) := by rw [IntWalk.i64_in _ (by omega)]; omega
    have hSz := sizeV_fc 2400 out.length
    (refine goes_skip ?_; refine fin_seq ?_; refine goes_seq ?_; refine goes_block ?_; refine goes_seq ?_; refine goes_region ?_; apply run_step rfl; (first | exact stp_ix (j := k) rfl rfl rfl rfl rfl (by as_aux_lemma => kernel_rfl) rfl hkm hil | exact stp_loadV rfl (by as_aux_lemma => kernel_rfl) rfl rfl rfl hg | (apply call_gate 88; exact stp_callR hSz (by as_aux_lemma => kernel_rfl) rfl rfl ⟨rfl, trivial⟩ trivial rfl rfl) | exact stp_add rfl rfl rfl hwa | exact stp_sub rfl rfl rfl hws); apply run_step rfl; (first | exact stp_ix (j := k) rfl rfl rfl rfl rfl (by as_aux_lemma => kernel_rfl) rfl hkm hil | exact stp_loadV rfl (by as_aux_lemma => kernel_rfl) rfl rfl rfl hg | (apply call_gate 88; exact stp_callR hSz (by as_aux_lemma => kernel_rfl) rfl rfl ⟨rfl, trivial⟩ trivial rfl rfl) | exact stp_add rfl rfl rfl hwa | exact stp_sub rfl rfl rfl hws); apply run_step rfl; (exact stp_assign rfl rfl); refine run_nil ?_; refine fin_seq ?_; refine goes_seq ?_; refine goes_region ?_; apply run_step rfl; (exact stp_move rfl rfl); apply run_step rfl; (first | exact stp_ix (j := k) rfl rfl rfl rfl rfl (by as_aux_lemma => kernel_rfl) rfl hkm hil | exact stp_loadV rfl (by as_aux_lemma => kernel_rfl) rfl rfl rfl hg | (apply call_gate 88; exact stp_callR hSz (by as_aux_lemma => kernel_rfl) rfl rfl ⟨rfl, trivial⟩ trivial rfl rfl) | exact stp_add rfl rfl rfl hwa | exact stp_sub rfl rfl rfl hws); apply run_step rfl; (exact stp_move rfl rfl); apply run_step rfl; (first | exact stp_ix (j := k) rfl rfl rfl rfl rfl (by as_aux_lemma => kernel_rfl) rfl hkm hil | exact stp_loadV rfl (by as_aux_lemma => kernel_rfl) rfl rfl rfl hg | (apply call_gate 88; exact stp_callR hSz (by as_aux_lemma => kernel_rfl) rfl rfl ⟨rfl, trivial⟩ trivial rfl rfl) | exact stp_add rfl rfl rfl hwa | exact stp_sub rfl rfl rfl hws); apply run_step rfl; (first | exact stp_ix (j := k) rfl rfl rfl rfl rfl (by as_aux_lemma => kernel_rfl) rfl hkm hil | exact stp_loadV rfl (by as_aux_lemma => kernel_rfl) rfl rfl rfl hg | (apply call_gate 88; exact stp_callR hSz (by as_aux_lemma => kernel_rfl) rfl rfl ⟨rfl, trivial⟩ trivial rfl rfl) | exact stp_add rfl rfl rfl hwa | exact stp_sub rfl rfl rfl hws); apply run_step rfl; (exact stp_makeI (E := 2) rfl (by as_aux_lemma => kernel_rfl) (by as_aux_lemma => kernel_rfl) rfl rfl rfl rfl (by omega)); apply run_step rfl; (exact stp_assign rfl rfl); refine run_nil ?_; refine fin_seq ?_; refine goes_seq ?_; refine goes_seq ?_; refine goes_region ?_; apply run_step rfl; (exact stp_move rfl rfl); apply run_step rfl; (exact stp_len rfl rfl rfl (by as_aux_lemma => kernel_rfl)); apply run_step rfl; (exact stp_move rfl rfl); refine run_nil ?_; refine fin_seq ?_; refine goes_block ?_)
    refine goes_loop (fun i : Nat => St.of [(9, vv (I6 D)), (10, o1 (.sl 39 0 M)), (28, o1 (.sl 21 0 B.length)), (29, vv (I6 B.length)), (30, vv (I6 k)), (40, o1 (.sl 2400 0 out.length)), (41, vv (I6 out.length)), (42, vv (I6 i))] [(21, leOw B), (2400, leOw out), (39, leOw (pOut out D i))]) (fun i => i ≤ out.length) (fun i => out.length - i) 0 (Nat.zero_le _) (Wk.of ⟨rfl, rfl, rfl, rfl, rfl, rfl, rfl, rfl, trivial⟩ ⟨rfl, rfl, congrArg (fun z => some (leOw z)) (show List.replicate M 0 = pOut out D 0 by rw [pOut_zero, hM]), trivial⟩ trivial) ?_
    rintro i hi
    (refine goes_seq ?_; refine goes_region ?_; apply run_step rfl; (exact stp_bin rfl rfl rfl rfl); refine run_nil ?_; refine fin_seq ?_; refine goes_seq ?_)
    refine goes_if rfl (fun hlt => ?_) (fun hlt => ?_)
    · have hio : i < out.length := by omega
      have hgo : (ivals out)[i]? = some (I6 (iget out i)) := ivals_get hio
      (refine goes_skip ?_; refine fin_seq ?_; refine goes_seq ?_; refine goes_block ?_; refine goes_seq ?_; refine goes_region ?_; apply run_step rfl; (exact stp_move rfl rfl); apply run_step rfl; (exact stp_ix (j := i) rfl rfl rfl rfl rfl (by as_aux_lemma => kernel_rfl) rfl hio hol); apply run_step rfl; (exact stp_loadV rfl (by as_aux_lemma => kernel_rfl) rfl rfl rfl (by first | assumption | exact ivals_get (by assumption) | exact irows_get (by assumption) | exact ivals_get (by omega) | exact irows_get (by omega) | rfl)); apply run_step rfl; (exact stp_assign rfl rfl); apply run_step rfl; (exact stp_assign rfl rfl); refine run_nil ?_; refine fin_seq ?_; refine goes_seq ?_; refine goes_region ?_; apply run_step rfl; (exact stp_move rfl rfl); apply run_step rfl; (exact stp_move rfl rfl); refine run_nil ?_; refine fin_seq ?_; refine goes_block ?_)
      refine goes_loop (fun j : Nat => St.of [(9, vv (I6 D)), (10, o1 (.sl 39 0 M)), (11, vv (I6 i)), (12, vv (I6 (iget out i))), (28, o1 (.sl 21 0 B.length)), (29, vv (I6 B.length)), (30, vv (I6 k)), (40, o1 (.sl 2400 0 out.length)), (41, vv (I6 out.length)), (42, vv (I6 i)), (47, vv (I6 D)), (48, vv (I6 j))] [(21, leOw B), (2400, leOw out), (39, leOw (pIn (pOut out D i) i (iget out i) j))]) (fun j => j ≤ D) (fun j => D - j) 0 (Nat.zero_le _) (Wk.of ⟨rfl, rfl, rfl, rfl, rfl, rfl, rfl, rfl, rfl, rfl, rfl, rfl, trivial⟩ ⟨rfl, rfl, rfl, trivial⟩ trivial) ?_
      rintro j hj
      (refine goes_seq ?_; refine goes_region ?_; apply run_step rfl; (exact stp_bin rfl rfl rfl rfl); refine run_nil ?_; refine fin_seq ?_; refine goes_seq ?_)
      refine goes_if rfl (fun hlt => ?_) (fun hlt => ?_)
      · have hjD : j < D := by omega
        have hlen : (pIn (pOut out D i) i (iget out i) j).length = M := by rw [pIn_len, pOut_len, hM]
        have hijM : i + j < M := by omega
        have hijl : i + j < (pIn (pOut out D i) i (iget out i) j).length := by omega
        have hnl : M ≤ (ivals (pIn (pOut out D i) i (iget out i) j)).length := by rw [ivals_len, hlen]; exact Nat.le_refl _
        have hgn : (ivals (pIn (pOut out D i) i (iget out i) j))[i + j]? = some (I6 (iget (pIn (pOut out D i) i (iget out i) j) (i + j))) := ivals_get hijl
        have hw1 : IntKind.i64.wrap ((i : Int) + (j : Int)) = ((i + j : Nat) : Int) := by rw [IntWalk.i64_in _ (by omega)]; omega
        (refine goes_skip ?_; refine fin_seq ?_; refine goes_seq ?_; refine goes_block ?_; refine goes_seq ?_; refine goes_region ?_; apply run_step rfl; (exact stp_move rfl rfl); apply run_step rfl; (exact stp_assign rfl rfl); refine run_nil ?_; refine fin_seq ?_; refine goes_region ?_; apply run_step rfl; (exact stp_move rfl rfl); apply run_step rfl; (exact stp_move rfl rfl); apply run_step rfl; (exact stp_move rfl rfl); apply run_step rfl; (first | exact stp_add rfl rfl rfl hw1 | exact stp_ix (j := i + j) rfl rfl rfl rfl rfl (by as_aux_lemma => kernel_rfl) rfl hijM hnl | exact stp_loadV rfl (by as_aux_lemma => kernel_rfl) rfl rfl rfl hgn | exact stp_stI rfl rfl rfl rfl rfl hijl (by as_aux_lemma => kernel_rfl) | exact stp_add rfl rfl rfl (IntWalk.i64_in _ (by omega)) | exact stp_add rfl rfl rfl rfl); apply run_step rfl; (first | exact stp_add rfl rfl rfl hw1 | exact stp_ix (j := i + j) rfl rfl rfl rfl rfl (by as_aux_lemma => kernel_rfl) rfl hijM hnl | exact stp_loadV rfl (by as_aux_lemma => kernel_rfl) rfl rfl rfl hgn | exact stp_stI rfl rfl rfl rfl rfl hijl (by as_aux_lemma => kernel_rfl) | exact stp_add rfl rfl rfl (IntWalk.i64_in _ (by omega)) | exact stp_add rfl rfl rfl rfl); apply run_step rfl; (first | exact stp_add rfl rfl rfl hw1 | exact stp_ix (j := i + j) rfl rfl rfl rfl rfl (by as_aux_lemma => kernel_rfl) rfl hijM hnl | exact stp_loadV rfl (by as_aux_lemma => kernel_rfl) rfl rfl rfl hgn | exact stp_stI rfl rfl rfl rfl rfl hijl (by as_aux_lemma => kernel_rfl) | exact stp_add rfl rfl rfl (IntWalk.i64_in _ (by omega)) | exact stp_add rfl rfl rfl rfl); apply run_step rfl; (exact stp_move rfl rfl); apply run_step rfl; (first | exact stp_add rfl rfl rfl hw1 | exact stp_ix (j := i + j) rfl rfl rfl rfl rfl (by as_aux_lemma => kernel_rfl) rfl hijM hnl | exact stp_loadV rfl (by as_aux_lemma => kernel_rfl) rfl rfl rfl hgn | exact stp_stI rfl rfl rfl rfl rfl hijl (by as_aux_lemma => kernel_rfl) | exact stp_add rfl rfl rfl (IntWalk.i64_in _ (by omega)) | exact stp_add rfl rfl rfl rfl); apply run_step rfl; (first | exact stp_add rfl rfl rfl hw1 | exact stp_ix (j := i + j) rfl rfl rfl rfl rfl (by as_aux_lemma => kernel_rfl) rfl hijM hnl | exact stp_loadV rfl (by as_aux_lemma => kernel_rfl) rfl rfl rfl hgn | exact stp_stI rfl rfl rfl rfl rfl hijl (by as_aux_lemma => kernel_rfl) | exact stp_add rfl rfl rfl (IntWalk.i64_in _ (by omega)) | exact stp_add rfl rfl rfl rfl); apply run_step rfl; (first | exact stp_add rfl rfl rfl hw1 | exact stp_ix (j := i + j) rfl rfl rfl rfl rfl (by as_aux_lemma => kernel_rfl) rfl hijM hnl | exact stp_loadV rfl (by as_aux_lemma => kernel_rfl) rfl rfl rfl hgn | exact stp_stI rfl rfl rfl rfl rfl hijl (by as_aux_lemma => kernel_rfl) | exact stp_add rfl rfl rfl (IntWalk.i64_in _ (by omega)) | exact stp_add rfl rfl rfl rfl); refine run_nil ?_; refine fin_block ?_; refine fin_seq ?_; refine goes_region ?_; apply run_step rfl; (first | exact stp_add rfl rfl rfl hw1 | exact stp_ix (j := i + j) rfl rfl rfl rfl rfl (by as_aux_lemma => kernel_rfl) rfl hijM hnl | exact stp_loadV rfl (by as_aux_lemma => kernel_rfl) rfl rfl rfl hgn | exact stp_stI rfl rfl rfl rfl rfl hijl (by as_aux_lemma => kernel_rfl) | exact stp_add rfl rfl rfl (IntWalk.i64_in _ (by omega)) | exact stp_add rfl rfl rfl rfl); apply run_step rfl; (exact stp_move rfl rfl); refine run_nil ?_)
        exact fin_round (j + 1) (by omega) (by omega) (Wk.of ⟨rfl, rfl, rfl, rfl, rfl, rfl, rfl, rfl, rfl, rfl, rfl, rfl, trivial⟩ ⟨rfl, rfl, congrArg (fun z => some (leOw z)) (pIn_succ _ _ _ _).symm, trivial⟩ trivial)
      · obtain rfl : j = D := by omega
        (refine goes_exit ?_; refine fin_exit_then ?_; refine fin_exit_then ?_; refine fin_exit_eq ?_; refine fin_block ?_; refine fin_seq ?_; refine goes_region ?_; apply run_step rfl; (exact stp_add rfl rfl rfl (by first | exact IntWalk.i64_in _ (by omega) | rfl)); apply run_step rfl; (exact stp_move rfl rfl); refine run_nil ?_)
        exact fin_round (i + 1) (by omega) (by omega) (Wk.of ⟨rfl, rfl, rfl, rfl, rfl, rfl, rfl, rfl, trivial⟩ ⟨rfl, rfl, congrArg (fun z => some (leOw z)) (pOut_succ _ _ _).symm, trivial⟩ trivial)
    · obtain rfl : i = out.length := by omega
      (refine goes_exit ?_; refine fin_exit_then ?_; refine fin_exit_then ?_; refine fin_exit_eq ?_; refine fin_seq ?_; refine goes_region ?_; apply run_step rfl; (exact stp_move rfl rfl); apply run_step rfl; (exact stp_assign rfl rfl); refine run_nil ?_; refine fin_block ?_; refine fin_seq ?_; refine goes_region ?_; apply run_step rfl; (exact stp_add rfl rfl rfl (by first | exact IntWalk.i64_in _ (by omega) | rfl)); apply run_step rfl; (exact stp_move rfl rfl); refine run_nil ?_)
      exact fin_round (k + 1) (by omega) (by omega) (Wk.trans (wk_ren (x := 39) (y := 2400) (s := 7) rfl rfl) (Wk.of ⟨congrArg (fun z : Nat => some (o1 (.sl 2400 0 z))) (show M = (pAll B (k + 1)).length by rw [hps, pOut_len, hM]), rfl, rfl, rfl, trivial⟩ ⟨rfl, congrArg (fun z => some (leOw z)) hps.symm, trivial⟩ trivial))
  · obtain rfl : k = B.length := by omega
    (refine goes_exit ?_; refine fin_exit_then ?_; refine fin_exit_then ?_; refine fin_exit_eq ?_; refine fin_seq ?_; refine goes_seq ?_; refine goes_region ?_; apply run_step rfl; (exact stp_move rfl rfl); apply run_step rfl; (exact stp_assign rfl rfl); apply run_step rfl; (exact stp_assign rfl rfl); refine run_nil ?_; refine fin_seq ?_; refine goes_ret ?_)
    exact fin_ret2 (.inl rfl) rfl (.tmp rfl) (.tmp rfl) ⟨rfl, trivial⟩ trivial
set_option maxRecDepth 100000 in
theorem pnI_no (zs : List Int) (hn : zs.length ≤ 4398046511104) (h0 : finC zs ≠ 0) :
    FC Try.prog 48 [(1003, wRo zs)] [o1 (.sl 1003 0 zs.length)] [] (.tup [.one (.val (.slice none 0 0)), .one (.val (I6 (finC zs)))]) [] := by
  have hI := diagI_fc zs zs.length rfl hn
  rcases finC_one h0 with ⟨hd, e⟩ | ⟨hd, hf, e⟩
  · rw [hd] at hI
    rw [e]
    refine fc_enter (nt := 65) Try.func48 rfl rfl (by simp) fun w0 ω0 => ?_
    (refine goes_seq ?_; refine goes_region ?_; apply run_step rfl; (exact stp_assign rfl rfl); apply run_step rfl; (exact stp_assign rfl rfl); refine run_nil ?_; refine fin_seq ?_; refine goes_seq ?_; refine goes_seq ?_; refine goes_region ?_; apply run_step rfl; (exact stp_move rfl rfl); apply run_step rfl; (apply call_gate 62; exact stp_callR hI (by as_aux_lemma => kernel_rfl) rfl rfl ⟨rfl, trivial⟩ ⟨⟨_, rfl, .inl rfl⟩, trivial⟩ rfl rfl); apply run_step rfl; (exact stp_not rfl rfl); refine run_nil ?_; refine fin_seq ?_)
    refine goes_cond rfl (fun _ => ?_) (fun e => by cases e)
    (refine goes_seq ?_; refine goes_region ?_; apply run_step rfl; (exact stp_assign rfl rfl); apply run_step rfl; (exact stp_assign rfl rfl); refine run_nil ?_; refine fin_seq ?_; refine goes_ret ?_; refine fin_ret_then ?_)
    exact fin_ret2 (.inl rfl) rfl (.tmp rfl) (.tmp rfl) trivial trivial
  · rw [hd] at hI
    have h4 := isDiag_len hd
    have hA := allI_fc zs zs.length rfl h4
    have hN := allNo_fc zs zs.length (allN zs) rfl hd (allN_lt h4) hf
    rw [e]
    refine fc_enter (nt := 65) Try.func48 rfl rfl (by simp) fun w0 ω0 => ?_
    (refine goes_seq ?_; refine goes_region ?_; apply run_step rfl; (exact stp_assign rfl rfl); apply run_step rfl; (exact stp_assign rfl rfl); refine run_nil ?_; refine fin_seq ?_; refine goes_seq ?_; refine goes_seq ?_; refine goes_region ?_; apply run_step rfl; (exact stp_move rfl rfl); apply run_step rfl; (apply call_gate 62; exact stp_callR hI (by as_aux_lemma => kernel_rfl) rfl rfl ⟨rfl, trivial⟩ ⟨⟨_, rfl, .inl rfl⟩, trivial⟩ rfl rfl); apply run_step rfl; (exact stp_not rfl rfl); refine run_nil ?_; refine fin_seq ?_)
    refine goes_cond rfl (fun e => by cases e) (fun _ => ?_)
    (refine goes_skip ?_; refine fin_seq ?_; refine goes_seq ?_; refine goes_region ?_; apply run_step rfl; (exact stp_move rfl rfl); apply run_step rfl; (exact stp_move rfl rfl); apply run_step rfl; (first | (apply call_gate 64; exact stp_callR hA (by as_aux_lemma => kernel_rfl) rfl rfl ⟨rfl, trivial⟩ ⟨⟨_, rfl, .inl rfl⟩, trivial⟩ rfl rfl) | (apply call_gate 82; exact stp_callR hN (by as_aux_lemma => kernel_rfl) rfl rfl ⟨rfl, rfl, trivial⟩ ⟨⟨_, rfl, .inl rfl⟩, trivial⟩ rfl rfl)); apply run_step rfl; (first | (apply call_gate 64; exact stp_callR hA (by as_aux_lemma => kernel_rfl) rfl rfl ⟨rfl, trivial⟩ ⟨⟨_, rfl, .inl rfl⟩, trivial⟩ rfl rfl) | (apply call_gate 82; exact stp_callR hN (by as_aux_lemma => kernel_rfl) rfl rfl ⟨rfl, rfl, trivial⟩ ⟨⟨_, rfl, .inl rfl⟩, trivial⟩ rfl rfl)); apply run_step rfl; (exact stp_move rfl rfl); apply run_step rfl; (exact stp_extract rfl rfl rfl); apply run_step rfl; (exact stp_extract rfl rfl rfl); apply run_step rfl; (exact stp_extract rfl rfl rfl); apply run_step rfl; (exact stp_assign rfl rfl); apply run_step rfl; (exact stp_assign rfl rfl); apply run_step rfl; (exact stp_assign rfl rfl); refine run_nil ?_; refine fin_seq ?_; refine goes_seq ?_; refine goes_seq ?_; refine goes_region ?_; apply run_step rfl; (exact stp_move rfl rfl); apply run_step rfl; (exact stp_not rfl rfl); refine run_nil ?_; refine fin_seq ?_)
    refine goes_cond rfl (fun _ => ?_) (fun e => by cases e)
    (refine goes_seq ?_; refine goes_region ?_; apply run_step rfl; (exact stp_assign rfl rfl); apply run_step rfl; (exact stp_assign rfl rfl); refine run_nil ?_; refine fin_seq ?_; refine goes_ret ?_; refine fin_ret_then ?_)
    exact fin_ret2 (.inl rfl) rfl (.tmp rfl) (.tmp rfl) trivial trivial
end Go.Proofs.Ytlpeghdbjfnenaa

/- PolynomialOf, in words. -/
namespace Go.Proofs.Ytlpeghdbjfnenaa
open Go.RowKit

theorem api_specPn {E : Nat} {lo hi : Nat} {v : Value} {zs : List Int} (w : World) (h : OwnS E w lo hi v zs) :
    Calls Try.prog 47 #[v] w fun e w' => ∃ r, e = .returned (.tuple #[r, .int .i64 (finC zs)]) ∧ OwnS 2 w' w.heap.size w'.heap.size r (pnR zs) ∧ Below w.heap.size w w' :=
  list_or_nil (B := polyA zs) rfl (fun h => by have := polyA_le (finC_zero h).1; omega) (pnS_yes zs) (pnS_no zs) w h
theorem api_implPn {E : Nat} {lo hi : Nat} {v : Value} {zs : List Int} (w : World) (h : OwnS E w lo hi v zs) :
    Calls Try.prog 48 #[v] w fun e w' => ∃ r, e = .returned (.tuple #[r, .int .i64 (finC zs)]) ∧ OwnS 2 w' w.heap.size w'.heap.size r (pnR zs) ∧ Below w.heap.size w w' :=
  list_or_nil (B := polyA zs) rfl (fun h => by have := polyA_le (finC_zero h).1; omega) (pnI_yes zs) (pnI_no zs) w h
end Go.Proofs.Ytlpeghdbjfnenaa

/- The walk of FnExactPolynomialOf: true, whatever the arguments. Written by genwalk.py. -/
namespace Go.Proofs.Ytlpeghdbjfnenaa
open Go.RowKit

set_option maxHeartbeats 3200000 in
theorem walkPolynomialOf {a0 : Option Addr} {n0 c0 : Nat} {zs : List Int} (w : World) (h0 : Ints w a0 n0 zs) :
    Calls Try.prog 10 #[.slice a0 n0 c0] w fun e w' => e = .returned (.bool true) ∧ Below w.heap.size w w' := by
  have hsz := pnR_small zs
  have B0 : Below w.heap.size w w := Below.refl _ _
  have hb0 := h0.2.1
  by_cases hs0 : n0 ≤ 1048576
  · have g0 : decide ((1048576 : Int) < n0) = false := by simp; omega
    have hl0 : zs.length = n0 := h0.1
    have HL0 := Lib.hid hl0
    clear hl0
    go_enter Try.func10, Try.ntmps10
    go_wp2_with fail
    refine (law_toS _ (show RdS _ _ _ from ⟨_, _, _, rfl, (h0.below B0)⟩) (by rw [HL0.out]; omega)).mono ?_
    rintro e w1 ⟨u1, rfl, o1, b1⟩
    have s1 := b1.size
    have B1 : Below w.heap.size w w1 := B0.trans (b1.mono B0.size)
    go_wp2_with fail
    refine (api_specPn  _ o1 ).mono ?_
    rintro e w2 ⟨u2_0, rfl, o2_0, b2⟩
    have s2 := b2.size
    have B2 : Below w.heap.size w w2 := B1.trans (b2.mono B1.size)
    go_wp2_with fail
    refine (law_toS _ (show RdS _ _ _ from ⟨_, _, _, rfl, (h0.below B2)⟩) (by rw [HL0.out]; omega)).mono ?_
    rintro e w3 ⟨u3, rfl, o3, b3⟩
    have s3 := b3.size
    have B3 : Below w.heap.size w w3 := B2.trans (b3.mono B2.size)
    go_wp2_with fail
    refine (api_implPn  _ o3 ).mono ?_
    rintro e w4 ⟨u4_0, rfl, o4_0, b4⟩
    have s4 := b4.size
    have B4 : Below w.heap.size w w4 := B3.trans (b4.mono B3.size)
    go_wp2_with fail
    refine (law_eqS _ o4_0.rd ((o2_0.below b3).below b4).rd).mono ?_
    rintro e w5 ⟨rfl, b5⟩
    have s5 := b5.size
    have B5 : Below w.heap.size w w5 := B4.trans (b5.mono B4.size)
    go_wp2_with fail
    refine (law_toS _ (show RdS _ _ _ from ⟨_, _, _, rfl, (h0.below B5)⟩) (by rw [HL0.out]; omega)).mono ?_
    rintro e w6 ⟨u6, rfl, o6, b6⟩
    have s6 := b6.size
    have B6 : Below w.heap.size w w6 := B5.trans (b6.mono B5.size)
    go_wp2_with fail
    refine (law_eqS _ (((o3.below b4).below b5).below b6).rd o6.rd).mono ?_
    rintro e w7 ⟨rfl, b7⟩
    have s7 := b7.size
    have B7 : Below w.heap.size w w7 := B6.trans (b7.mono B6.size)
    go_wp2_with fail
    refine (law_markS (1) _ ((((o3.below b4).below b5).below b6).below b7) (by omega) (by omega)).mono ?_
    rintro e w8 ⟨rfl, o8, q8⟩
    have s8 := q8.size
    have B8 : Below w.heap.size w w8 := B7.trans (q8.below (by omega) B7.size)
    go_wp2_with fail
    refine (law_eqS _ ((((o4_0.below b5).below b6).below b7).only q8 (by omega)).rd ((((((o2_0.below b3).below b4).below b5).below b6).below b7).only q8 (by omega)).rd).mono ?_
    rintro e w9 ⟨rfl, b9⟩
    have s9 := b9.size
    have B9 : Below w.heap.size w w9 := B8.trans (b9.mono B8.size)
    go_wp2_with fail
    refine (law_markS (1) _ (((((o4_0.below b5).below b6).below b7).only q8 (by omega)).below b9) (by omega) (by omega)).mono ?_
    rintro e w10 ⟨rfl, o10, q10⟩
    have s10 := q10.size
    have B10 : Below w.heap.size w w10 := B9.trans (q10.below (by omega) B9.size)
    go_wp2_with fail
    refine (law_heldS (1) _ o10.rd (by omega) (by omega)).mono ?_
    rintro e w11 ⟨rfl, b11⟩
    have s11 := b11.size
    have B11 : Below w.heap.size w w11 := B10.trans (b11.mono B10.size)
    go_wp2_with fail
    refine (law_toS _ (show RdS _ _ _ from ⟨_, _, _, rfl, (h0.below B11)⟩) (by rw [HL0.out]; omega)).mono ?_
    rintro e w12 ⟨u12, rfl, o12, b12⟩
    have s12 := b12.size
    have B12 : Below w.heap.size w w12 := B11.trans (b12.mono B11.size)
    go_wp2_with fail
    refine (api_implPn  _ o12 ).mono ?_
    rintro e w13 ⟨u13_0, rfl, o13_0, b13⟩
    have s13 := b13.size
    have B13 : Below w.heap.size w w13 := B12.trans (b13.mono B12.size)
    go_wp2_with fail
    refine (law_eqS _ o13_0.rd (((((((((((o2_0.below b3).below b4).below b5).below b6).below b7).only q8 (by omega)).below b9).only q10 (by omega)).below b11).below b12).below b13).rd).mono ?_
    rintro e w14 ⟨rfl, b14⟩
    have s14 := b14.size
    have B14 : Below w.heap.size w w14 := B13.trans (b14.mono B13.size)
    go_wp2_with fail
    refine (law_heldS (1) _ ((((o10.below b11).below b12).below b13).below b14).rd (by omega) (by omega)).mono ?_
    rintro e w15 ⟨rfl, b15⟩
    have s15 := b15.size
    have B15 : Below w.heap.size w w15 := B14.trans (b15.mono B14.size)
    go_wp2
    go_ret
    exact ⟨rfl, B15⟩
  · have g0 : decide ((1048576 : Int) < n0) = true := by simp; omega
    go_enter Try.func10, Try.ntmps10
    go_wp2
    go_ret
    exact ⟨rfl, B0⟩
end Go.Proofs.Ytlpeghdbjfnenaa
