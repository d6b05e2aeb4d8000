/- The components of a diagram, the reference's: l12Parts. guards: -/
import Derived.Test.YtlpeghdbjfnenaaPart1
import Derived.Test.YtlpeghdbjfnenaaPart3
import Derived.Test.YtlpeghdbjfnenaaPart6
import Derived.Test.YtlpeghdbjfnenaaPart4
import Derived.Test.YtlpeghdbjfnenaaPart5
namespace Go.Proofs.Ytlpeghdbjfnenaa
open Go.RowKit

/-- components as rows: their labels -/
def rowsP (ps : Cmps) : List (List Int) := ps.map (·.2)
abbrev rwOw (ps : Cmps) : Ch := ⟨true, 31, 1, .rows 2 (irows (rowsP ps)) []⟩
theorem rowsP_len (ps : Cmps) : (rowsP ps).length = ps.length := by simp [rowsP]
theorem rowsP_get {ps : Cmps} {k : Nat} (h : k < ps.length) : lget (rowsP ps) k = (cget ps k).2 := by simp [rowsP, lget, cget, h]
theorem irowsP_get {ps : Cmps} {k : Nat} (h : k < ps.length) : (irows (rowsP ps))[k]? = some (ivals (cget ps k).2) := by rw [← rowsP_get h]; exact irows_get (by rw [rowsP_len]; exact h)
theorem rowsP_set (ps : Cmps) (k : Nat) (p : Nat × List Int) : (irows (rowsP ps)).set k (ivals p.2) = irows (rowsP (ps.set k p)) := by
  rw [irows_set]; unfold rowsP; rw [List.map_set]
set_option maxRecDepth 100000 in
theorem rankS_fc (zs : List Int) (L : Nat) (h4 : L ≤ 4) : FC Try.prog 103 [(1003, wRo zs)] [o1 (.sl 1003 0 L)] [] (vv (I6 (L + 1 : Nat))) [] := by
  have hw : IntKind.i64.wrap ((L : Int) + 1) = ((L + 1 : Nat) : Int) := IntWalk.i64_in _ (by omega)
  refine fc_enter (nt := 6) Try.func103 rfl rfl (by simp) fun w0 ω0 => ?_
  (refine goes_seq ?_; refine goes_region ?_; apply run_step rfl; (exact stp_assign rfl rfl); refine run_nil ?_; refine fin_seq ?_; refine goes_seq ?_; refine goes_region ?_; apply run_step rfl; (exact stp_move rfl rfl); apply run_step rfl; (exact stp_len rfl rfl rfl (by as_aux_lemma => kernel_rfl)); apply run_step rfl; (first | exact stp_add rfl rfl rfl hw | exact stp_convN rfl rfl (by as_aux_lemma => kernel_rfl) (by as_aux_lemma => kernel_rfl) rfl); apply run_step rfl; (exact stp_assign rfl rfl); refine run_nil ?_; refine fin_seq ?_; refine goes_ret ?_)
  exact fin_ret1 (.inl rfl) rfl (.tmp rfl) trivial trivial
set_option maxRecDepth 100000 in
set_option maxHeartbeats 2000000 in
theorem parts_fc (zs : List Int) (L mask : Nat) (hL : zs.length = L) (h4 : L ≤ 4) (hm : mask < 1000) :
    FC Try.prog 79 [(1003, wRo zs)] [o1 (.sl 1003 0 L), vv (I6 mask)] [(8, rwOw (comps zs mask))] (o1 (.sl 8 0 (comps zs mask).length)) [] := by
  have hR := rankS_fc zs L h4
  refine fc_enter (nt := 62) Try.func79 rfl rfl (by simp) fun w0 ω0 => ?_
  have hil : L ≤ (ivals zs).length := by rw [ivals_len, hL]; exact Nat.le_refl _
  (refine goes_seq ?_; refine goes_region ?_; apply run_step rfl; (exact stp_assign rfl rfl); refine run_nil ?_; refine fin_seq ?_; refine goes_seq ?_; refine goes_region ?_; apply run_step rfl; (exact stp_lit0R (E := 31) (F := 2) rfl (by as_aux_lemma => kernel_rfl)); apply run_step rfl; (exact stp_assign rfl rfl); refine run_nil ?_; refine fin_seq ?_; refine goes_seq ?_; refine goes_seq ?_; refine goes_region ?_; apply run_step rfl; (exact stp_assign rfl rfl); refine run_nil ?_; refine fin_seq ?_; refine goes_block ?_)
  refine goes_loop (fun q : Nat × Cmps => St.of [(0, o1 (.sl 1003 0 L)), (1, vv (I6 mask)), (5, o1 (.sl 8 0 q.2.length)), (6, vv (I6 q.1))] [(1003, wRo zs), (8, rwOw q.2)])
    (fun q => q.1 ≤ L + 1 ∧ pTo zs mask q.1 = q.2) (fun q => L + 1 - q.1) (0, []) ⟨Nat.zero_le _, rfl⟩ (Wk.of ⟨rfl, rfl, rfl, rfl, trivial⟩ ⟨rfl, rfl, trivial⟩ trivial) ?_
  rintro ⟨i, ps⟩ ⟨hi, hp⟩
  dsimp only at hi hp ⊢
  have hps := pTo_ok zs mask i (by omega)
  have hnx := pTo_succ zs mask i
  rw [hp] at hps hnx
  have hpl : ps.length ≤ 5 := by have := csum_len ps; have := hps.sum; omega
  have hrx := rowsP_len ps
  (refine goes_seq ?_; refine goes_seq ?_; refine goes_region ?_; apply run_step rfl; (exact stp_move rfl rfl); apply run_step rfl; (exact stp_move rfl rfl); apply run_step rfl; (apply call_gate 103; exact stp_callR hR (by as_aux_lemma => kernel_rfl) rfl rfl ⟨rfl, trivial⟩ ⟨⟨_, rfl, .inl rfl⟩, trivial⟩ rfl rfl); apply run_step rfl; (exact stp_bin rfl rfl rfl rfl); refine run_nil ?_; refine fin_seq ?_)
  refine goes_if rfl (fun hlt => ?_) (fun hlt => ?_)
  · have hiL : i ≤ L := by omega
    have hi64 : i ≤ 64 := by omega
    have hmm : mask < 1000000 := by omega
    have hcv : IntKind.u64.wrap (i : Int) = (i : Int) := by rw [IntKind.wrap_u64]; omega
    (refine goes_skip ?_; refine fin_seq ?_; refine goes_seq ?_; refine goes_block ?_; refine goes_seq ?_; refine goes_seq ?_; refine goes_region ?_; apply run_step rfl; (exact stp_move rfl rfl); apply run_step rfl; (exact stp_move rfl rfl); apply run_step rfl; (first | exact stp_convN rfl rfl (by as_aux_lemma => kernel_rfl) (by as_aux_lemma => kernel_rfl) hcv | exact stp_shrN (g := i) rfl rfl rfl hi64 | exact stp_bit rfl rfl hmm | exact stp_eqBit0 rfl rfl); apply run_step rfl; (first | exact stp_convN rfl rfl (by as_aux_lemma => kernel_rfl) (by as_aux_lemma => kernel_rfl) hcv | exact stp_shrN (g := i) rfl rfl rfl hi64 | exact stp_bit rfl rfl hmm | exact stp_eqBit0 rfl rfl); apply run_step rfl; (first | exact stp_convN rfl rfl (by as_aux_lemma => kernel_rfl) (by as_aux_lemma => kernel_rfl) hcv | exact stp_shrN (g := i) rfl rfl rfl hi64 | exact stp_bit rfl rfl hmm | exact stp_eqBit0 rfl rfl); apply run_step rfl; (first | exact stp_convN rfl rfl (by as_aux_lemma => kernel_rfl) (by as_aux_lemma => kernel_rfl) hcv | exact stp_shrN (g := i) rfl rfl rfl hi64 | exact stp_bit rfl rfl hmm | exact stp_eqBit0 rfl rfl); refine run_nil ?_; refine fin_seq ?_)
    refine goes_cond rfl (fun hb => ?_) (fun hb => ?_)
    · have hb : mBit mask i = false := by simpa using hb
      have hv : pTo zs mask (i + 1) = ps := by rw [hnx]; unfold pStep; rw [if_neg (by rw [hb]; simp)]
      (refine goes_exit ?_; refine fin_exit_then ?_; refine fin_exit_eq ?_; refine fin_seq ?_; refine goes_region ?_; apply run_step rfl; (exact stp_move rfl rfl); apply run_step rfl; (exact stp_add rfl rfl rfl (by first | exact IntWalk.i64_in _ (by omega) | rfl)); apply run_step rfl; (exact stp_assign rfl rfl); refine run_nil ?_)
      exact fin_round (i + 1, ps) ⟨by omega, hv⟩ (by show L + 1 - (i + 1) < L + 1 - i; omega) (Wk.of ⟨rfl, rfl, rfl, rfl, trivial⟩ ⟨rfl, rfl, trivial⟩ trivial)
    · have hb : mBit mask i = true := by simpa using hb
      unfold pStep at hnx
      rw [if_pos hb] at hnx
      (repeat (first | refine goes_seq ?_ | refine fin_seq ?_ | refine goes_skip ?_ | refine goes_block ?_ | refine fin_block ?_ | refine goes_exit ?_ | refine fin_exit_eq ?_ | refine fin_exit_ne rfl ?_ | refine fin_exit_then ?_))
      refine goes_cut (St.of [(0, o1 (.sl 1003 0 L)), (1, vv (I6 mask)), (5, o1 (.sl 8 0 ps.length)), (6, vv (I6 i)), (39, vv (.bool (jn zs mask i)))] [(1003, wRo zs), (8, rwOw ps)]) ?_ ?_
      · refine goes_region ?_
        (apply run_step rfl; (exact stp_move rfl rfl); apply run_step rfl; (exact stp_bin rfl rfl rfl rfl); apply run_step rfl; (exact stp_move rfl rfl))
        refine run_bool 23 rfl (fun h1 => ?_) (fun h1 => ?_)
        · have hi0 : 0 < i := by have := of_decide_eq_true h1; omega
          have hsb : IntKind.i64.wrap ((i : Int) - 1) = ((i - 1 : Nat) : Int) := (IntWalk.i64_in _ (by omega)).trans (by omega)
          have hcv1 : IntKind.u64.wrap ((i - 1 : Nat) : Int) = ((i - 1 : Nat) : Int) := by rw [IntKind.wrap_u64]; omega
          have hi64' : i - 1 ≤ 64 := by omega
          (apply run_gYes rfl rfl rfl; (exact stp_move rfl rfl); apply run_gYes rfl rfl rfl; (exact stp_move rfl rfl); apply run_gYes rfl rfl rfl; (first | exact stp_sub rfl rfl rfl hsb | exact stp_convN rfl rfl (by as_aux_lemma => kernel_rfl) (by as_aux_lemma => kernel_rfl) hcv1 | exact stp_shrN (g := i - 1) rfl rfl rfl hi64' | exact stp_bit rfl rfl hmm | exact stp_eqBit rfl rfl); apply run_gYes rfl rfl rfl; (first | exact stp_sub rfl rfl rfl hsb | exact stp_convN rfl rfl (by as_aux_lemma => kernel_rfl) (by as_aux_lemma => kernel_rfl) hcv1 | exact stp_shrN (g := i - 1) rfl rfl rfl hi64' | exact stp_bit rfl rfl hmm | exact stp_eqBit rfl rfl); apply run_gYes rfl rfl rfl; (first | exact stp_sub rfl rfl rfl hsb | exact stp_convN rfl rfl (by as_aux_lemma => kernel_rfl) (by as_aux_lemma => kernel_rfl) hcv1 | exact stp_shrN (g := i - 1) rfl rfl rfl hi64' | exact stp_bit rfl rfl hmm | exact stp_eqBit rfl rfl); apply run_gYes rfl rfl rfl; (first | exact stp_sub rfl rfl rfl hsb | exact stp_convN rfl rfl (by as_aux_lemma => kernel_rfl) (by as_aux_lemma => kernel_rfl) hcv1 | exact stp_shrN (g := i - 1) rfl rfl rfl hi64' | exact stp_bit rfl rfl hmm | exact stp_eqBit rfl rfl); apply run_gYes rfl rfl rfl; (first | exact stp_sub rfl rfl rfl hsb | exact stp_convN rfl rfl (by as_aux_lemma => kernel_rfl) (by as_aux_lemma => kernel_rfl) hcv1 | exact stp_shrN (g := i - 1) rfl rfl rfl hi64' | exact stp_bit rfl rfl hmm | exact stp_eqBit rfl rfl); apply run_step rfl; (exact stp_pickT rfl rfl rfl); apply run_step rfl; (exact stp_move rfl rfl))
          refine run_bool 32 rfl (fun h2 => ?_) (fun h2 => ?_)
          · have gz : (ivals zs)[i - 1]? = some (I6 (iget zs (i - 1))) := ivals_get (by omega)
            have hv : jn zs mask i = (iget zs (i - 1) != 2) := by unfold jn; rw [decide_eq_true hi0, h2]; rfl
            rw [hv]
            (apply run_gYes rfl rfl rfl; (exact stp_move rfl rfl); apply run_gYes rfl rfl rfl; (exact stp_move rfl rfl); apply run_gYes rfl rfl rfl; (first | exact stp_sub rfl rfl rfl hsb | exact stp_ix (j := i - 1) rfl rfl rfl rfl rfl (by as_aux_lemma => kernel_rfl) rfl (by omega) hil | exact stp_loadV rfl (by as_aux_lemma => kernel_rfl) rfl rfl rfl gz); apply run_gYes rfl rfl rfl; (first | exact stp_sub rfl rfl rfl hsb | exact stp_ix (j := i - 1) rfl rfl rfl rfl rfl (by as_aux_lemma => kernel_rfl) rfl (by omega) hil | exact stp_loadV rfl (by as_aux_lemma => kernel_rfl) rfl rfl rfl gz); apply run_gYes rfl rfl rfl; (first | exact stp_sub rfl rfl rfl hsb | exact stp_ix (j := i - 1) rfl rfl rfl rfl rfl (by as_aux_lemma => kernel_rfl) rfl (by omega) hil | exact stp_loadV rfl (by as_aux_lemma => kernel_rfl) rfl rfl rfl gz); apply run_gYes rfl rfl rfl; (exact stp_bin rfl rfl rfl rfl); apply run_step rfl; (exact stp_pickT rfl rfl rfl); refine run_nil ?_)
            exact fin_join (Wk.of ⟨rfl, rfl, rfl, rfl, rfl, trivial⟩ ⟨rfl, rfl, trivial⟩ trivial)
          · have hv : jn zs mask i = false := by unfold jn; rw [h2]; simp
            rw [hv]
            (apply run_gNo rfl rfl rfl rfl rfl; apply run_gNo rfl rfl rfl rfl rfl; apply run_gNo rfl rfl rfl rfl rfl; apply run_gNo rfl rfl rfl rfl rfl; apply run_gNo rfl rfl rfl rfl rfl; apply run_gNo rfl rfl rfl rfl rfl; apply run_step rfl; (exact stp_pickF rfl rfl rfl); refine run_nil ?_)
            exact fin_join (Wk.of ⟨rfl, rfl, rfl, rfl, rfl, trivial⟩ ⟨rfl, rfl, trivial⟩ trivial)
        · have hv : jn zs mask i = false := by
            have : ¬ 0 < i := by have := of_decide_eq_false h1; omega
            unfold jn; rw [decide_eq_false this]; rfl
          rw [hv]
          (apply run_gNo rfl rfl rfl rfl rfl; apply run_gNo rfl rfl rfl rfl rfl; apply run_gNo rfl rfl rfl rfl rfl; apply run_gNo rfl rfl rfl rfl rfl; apply run_gNo rfl rfl rfl rfl rfl; apply run_gNo rfl rfl rfl rfl rfl; apply run_gNo rfl rfl rfl rfl rfl; apply run_step rfl; (exact stp_pickF rfl rfl rfl); apply run_step rfl; (exact stp_move rfl rfl); apply run_gNo rfl rfl rfl rfl rfl; apply run_gNo rfl rfl rfl rfl rfl; apply run_gNo rfl rfl rfl rfl rfl; apply run_gNo rfl rfl rfl rfl rfl; apply run_gNo rfl rfl rfl rfl rfl; apply run_gNo rfl rfl rfl rfl rfl; apply run_step rfl; (exact stp_pickF rfl rfl rfl); refine run_nil ?_)
          exact fin_join (Wk.of ⟨rfl, rfl, rfl, rfl, rfl, trivial⟩ ⟨rfl, rfl, trivial⟩ trivial)
      (refine fin_seq ?_)
      refine goes_cond rfl (fun hjb => ?_) (fun hjb => ?_)
      · have hjs := jn_spec hjb
        have hne := hps.ne hjs.1 hjs.2.1
        obtain ⟨j, hjl⟩ : ∃ j, ps.length = j + 1 := ⟨ps.length - 1, by omega⟩
        have hjp : j < ps.length := by omega
        have hv : pTo zs mask (i + 1) = ps.set j ((cget ps j).1 ||| 2 ^ i, (cget ps j).2 ++ [iget zs (i - 1)]) := by
          rw [hnx, if_pos hjb]; unfold pLast; rw [show ps.length - 1 = j by omega]
        have hsub : IntKind.i64.wrap ((ps.length : Int) - 1) = (j : Int) := by rw [hjl]; exact (IntWalk.i64_in _ (by omega)).trans (by omega)
        have hrj := irowsP_get hjp
        have hllt := csum_le (cget_mem hjp)
        have hsum := hps.sum
        have hfin0 := rowsP_set ps j ((cget ps j).1 ||| 2 ^ i, (cget ps j).2 ++ [iget zs (i - 1)])
        generalize (cget ps j).1 = m at *
        generalize (cget ps j).2 = labs at *
        have hmj : (ivals labs).length = labs.length := ivals_len _
        have gz : (ivals zs)[i - 1]? = some (I6 (iget zs (i - 1))) := ivals_get (by omega)
        have hsb : IntKind.i64.wrap ((i : Int) - 1) = ((i - 1 : Nat) : Int) := (IntWalk.i64_in _ (by omega)).trans (by omega)
        have hi1L : i - 1 < L := by omega
        have hrl : ps.length ≤ (irows (rowsP ps)).length := by rw [irows_len, hrx]; exact Nat.le_refl _
        have hjl2 : j < (irows (rowsP ps)).length := by omega
        have hvl : (ivals (labs ++ [iget zs (i - 1)])).length = labs.length + 1 := by rw [ivals_len]; simp
        have hfin : (irows (rowsP ps)).set j (ivals (labs ++ [iget zs (i - 1)])) = irows (rowsP (ps.set j (m ||| 2 ^ i, labs ++ [iget zs (i - 1)]))) := hfin0
        (refine goes_seq ?_; refine goes_region ?_; apply run_step rfl; (exact stp_move rfl rfl); apply run_step rfl; (exact stp_len rfl rfl rfl (by as_aux_lemma => kernel_rfl)); apply run_step rfl; (exact stp_sub rfl rfl rfl hsub); apply run_step rfl; (exact stp_assign rfl rfl); refine run_nil ?_; refine fin_seq ?_; refine goes_seq ?_)
        refine goes_cut (St.of [(0, o1 (.sl 1003 0 L)), (1, vv (I6 mask)), (5, o1 (.sl 8 0 ps.length)), (6, vv (I6 i))] [(1003, wRo zs), (8, rwOw (ps.set j (m ||| 2 ^ i, labs ++ [iget zs (i - 1)])))]) ?_ ?_
        · apply goes_drawL 12 [] [0, 1] [[], [], [], [], [2, 3], [2, 3, 4], [], [], [7], [6, 7, 8], [6, 7, 8, 9], [6, 7, 8, 9, 10], [2, 3, 4, 5, 6, 7, 8, 9, 10, 11], [0, 1, 2, 3, 4, 5, 6, 7, 8, 9, 10, 11, 12], [0, 1, 2, 3, 4, 5, 6, 7, 8, 9, 10, 11, 12, 13]] [43, 44, 45, 46, 47, 48, 49, 50, 51, 52, 53, 54] [54] (by kernel_rfl) (by kernel_rfl) (by kernel_rfl)
          · (apply draw_put rfl; (intro S1 hS; exact stp_move rfl (hS.op rfl)); apply draw_put rfl; (intro S1 hS; exact stp_move rfl (hS.op rfl)); apply draw_put rfl; (intro S1 hS; exact stp_move rfl (hS.op rfl)); apply draw_put rfl; (intro S1 hS; exact stp_move rfl (hS.op rfl)); (first | (apply draw_put rfl; (focus (intro S1 hS; exact stp_ix (j := j) rfl (hS.op rfl) (hS.op rfl) (hS.ch _ _ rfl) rfl (by as_aux_lemma => kernel_rfl) rfl hjp hrl))) | (apply draw_put rfl; (focus (intro S1 hS; exact stp_loadR rfl (by as_aux_lemma => kernel_rfl) (hS.op rfl) (hS.ch _ _ rfl) rfl hrj hmj))) | (apply draw_put rfl; (focus (intro S1 hS; exact stp_sub rfl (hS.op rfl) (hS.op rfl) hsb))) | (apply draw_put rfl; (focus (intro S1 hS; exact stp_ix (j := i - 1) rfl (hS.op rfl) (hS.op rfl) (hS.ch _ _ rfl) rfl (by as_aux_lemma => kernel_rfl) rfl hi1L hil))) | (apply draw_put rfl; (focus (intro S1 hS; exact stp_loadV rfl (by as_aux_lemma => kernel_rfl) (hS.op rfl) (hS.ch _ _ rfl) rfl gz)))); (first | (apply draw_put rfl; (focus (intro S1 hS; exact stp_ix (j := j) rfl (hS.op rfl) (hS.op rfl) (hS.ch _ _ rfl) rfl (by as_aux_lemma => kernel_rfl) rfl hjp hrl))) | (apply draw_put rfl; (focus (intro S1 hS; exact stp_loadR rfl (by as_aux_lemma => kernel_rfl) (hS.op rfl) (hS.ch _ _ rfl) rfl hrj hmj))) | (apply draw_put rfl; (focus (intro S1 hS; exact stp_sub rfl (hS.op rfl) (hS.op rfl) hsb))) | (apply draw_put rfl; (focus (intro S1 hS; exact stp_ix (j := i - 1) rfl (hS.op rfl) (hS.op rfl) (hS.ch _ _ rfl) rfl (by as_aux_lemma => kernel_rfl) rfl hi1L hil))) | (apply draw_put rfl; (focus (intro S1 hS; exact stp_loadV rfl (by as_aux_lemma => kernel_rfl) (hS.op rfl) (hS.ch _ _ rfl) rfl gz)))); apply draw_put rfl; (intro S1 hS; exact stp_move rfl (hS.op rfl)); apply draw_put rfl; (intro S1 hS; exact stp_move rfl (hS.op rfl)); (first | (apply draw_put rfl; (focus (intro S1 hS; exact stp_ix (j := j) rfl (hS.op rfl) (hS.op rfl) (hS.ch _ _ rfl) rfl (by as_aux_lemma => kernel_rfl) rfl hjp hrl))) | (apply draw_put rfl; (focus (intro S1 hS; exact stp_loadR rfl (by as_aux_lemma => kernel_rfl) (hS.op rfl) (hS.ch _ _ rfl) rfl hrj hmj))) | (apply draw_put rfl; (focus (intro S1 hS; exact stp_sub rfl (hS.op rfl) (hS.op rfl) hsb))) | (apply draw_put rfl; (focus (intro S1 hS; exact stp_ix (j := i - 1) rfl (hS.op rfl) (hS.op rfl) (hS.ch _ _ rfl) rfl (by as_aux_lemma => kernel_rfl) rfl hi1L hil))) | (apply draw_put rfl; (focus (intro S1 hS; exact stp_loadV rfl (by as_aux_lemma => kernel_rfl) (hS.op rfl) (hS.ch _ _ rfl) rfl gz)))); (first | (apply draw_put rfl; (focus (intro S1 hS; exact stp_ix (j := j) rfl (hS.op rfl) (hS.op rfl) (hS.ch _ _ rfl) rfl (by as_aux_lemma => kernel_rfl) rfl hjp hrl))) | (apply draw_put rfl; (focus (intro S1 hS; exact stp_loadR rfl (by as_aux_lemma => kernel_rfl) (hS.op rfl) (hS.ch _ _ rfl) rfl hrj hmj))) | (apply draw_put rfl; (focus (intro S1 hS; exact stp_sub rfl (hS.op rfl) (hS.op rfl) hsb))) | (apply draw_put rfl; (focus (intro S1 hS; exact stp_ix (j := i - 1) rfl (hS.op rfl) (hS.op rfl) (hS.ch _ _ rfl) rfl (by as_aux_lemma => kernel_rfl) rfl hi1L hil))) | (apply draw_put rfl; (focus (intro S1 hS; exact stp_loadV rfl (by as_aux_lemma => kernel_rfl) (hS.op rfl) (hS.ch _ _ rfl) rfl gz)))); (first | (apply draw_put rfl; (focus (intro S1 hS; exact stp_ix (j := j) rfl (hS.op rfl) (hS.op rfl) (hS.ch _ _ rfl) rfl (by as_aux_lemma => kernel_rfl) rfl hjp hrl))) | (apply draw_put rfl; (focus (intro S1 hS; exact stp_loadR rfl (by as_aux_lemma => kernel_rfl) (hS.op rfl) (hS.ch _ _ rfl) rfl hrj hmj))) | (apply draw_put rfl; (focus (intro S1 hS; exact stp_sub rfl (hS.op rfl) (hS.op rfl) hsb))) | (apply draw_put rfl; (focus (intro S1 hS; exact stp_ix (j := i - 1) rfl (hS.op rfl) (hS.op rfl) (hS.ch _ _ rfl) rfl (by as_aux_lemma => kernel_rfl) rfl hi1L hil))) | (apply draw_put rfl; (focus (intro S1 hS; exact stp_loadV rfl (by as_aux_lemma => kernel_rfl) (hS.op rfl) (hS.ch _ _ rfl) rfl gz)))); apply draw_new rfl; (intro S1 hS; exact stp_lit1I (E := 2) rfl (by as_aux_lemma => kernel_rfl) (hS.op rfl)); exact Draw.nil)
          · rfl
          · refine ⟨⟨?_, ?_⟩, ?_, ?_⟩
            · refine rest_join (St.of [(0, o1 (.sl 1003 0 L)), (1, vv (I6 mask)), (5, o1 (.sl 8 0 ps.length)), (6, vv (I6 i))] [(1003, wRo zs), (8, rwOw (ps.set j (m ||| 2 ^ i, labs ++ [iget zs (i - 1)])))]) ?_ ?_
              · ((apply rest_one 12 rfl (by as_aux_lemma => kernel_rfl) rfl rfl; ((first | exact Stp.pre (wk_takeRow (n := 8) (z := 55) (s := 48) rfl rfl hrj hmj rfl) (stp_appI rfl (by as_aux_lemma => kernel_rfl) rfl rfl rfl rfl rfl rfl (by omega)) | exact stp_ix (j := j) rfl rfl rfl rfl rfl (by as_aux_lemma => kernel_rfl) rfl hjp hrl | exact stp_storeRow rfl rfl (by simp) rfl rfl hvl rfl hjl2 (by as_aux_lemma => kernel_rfl)))); (apply rest_one 13 rfl (by as_aux_lemma => kernel_rfl) rfl rfl; ((first | exact Stp.pre (wk_takeRow (n := 8) (z := 55) (s := 48) rfl rfl hrj hmj rfl) (stp_appI rfl (by as_aux_lemma => kernel_rfl) rfl rfl rfl rfl rfl rfl (by omega)) | exact stp_ix (j := j) rfl rfl rfl rfl rfl (by as_aux_lemma => kernel_rfl) rfl hjp hrl | exact stp_storeRow rfl rfl (by simp) rfl rfl hvl rfl hjl2 (by as_aux_lemma => kernel_rfl)))); (apply rest_one 14 rfl (by as_aux_lemma => kernel_rfl) rfl rfl; ((first | exact Stp.pre (wk_takeRow (n := 8) (z := 55) (s := 48) rfl rfl hrj hmj rfl) (stp_appI rfl (by as_aux_lemma => kernel_rfl) rfl rfl rfl rfl rfl rfl (by omega)) | exact stp_ix (j := j) rfl rfl rfl rfl rfl (by as_aux_lemma => kernel_rfl) rfl hjp hrl | exact stp_storeRow rfl rfl (by simp) rfl rfl hvl rfl hjl2 (by as_aux_lemma => kernel_rfl)))); (refine rest_done (by as_aux_lemma => kernel_rfl) ?_; exact fin_join (Wk.of ⟨rfl, rfl, rfl, rfl, trivial⟩ ⟨rfl, congrArg (fun l => some (⟨true, 31, 1, .rows 2 l []⟩ : Ch)) hfin, trivial⟩ trivial)))
              · (skip)
                exact fin_join (Wk.of ⟨rfl, rfl, rfl, rfl, trivial⟩ ⟨rfl, rfl, trivial⟩ trivial)
            · refine rest_join (St.of [(0, o1 (.sl 1003 0 L)), (1, vv (I6 mask)), (5, o1 (.sl 8 0 ps.length)), (6, vv (I6 i))] [(1003, wRo zs), (8, rwOw (ps.set j (m ||| 2 ^ i, labs ++ [iget zs (i - 1)])))]) ?_ ?_
              · ((apply rest_two 1 12 rfl (by as_aux_lemma => kernel_rfl) rfl rfl rfl rfl; (exact stp_move rfl rfl); ((first | exact Stp.pre (wk_takeRow (n := 8) (z := 55) (s := 48) rfl rfl hrj hmj rfl) (stp_appI rfl (by as_aux_lemma => kernel_rfl) rfl rfl rfl rfl rfl rfl (by omega)) | exact stp_ix (j := j) rfl rfl rfl rfl rfl (by as_aux_lemma => kernel_rfl) rfl hjp hrl | exact stp_storeRow rfl rfl (by simp) rfl rfl hvl rfl hjl2 (by as_aux_lemma => kernel_rfl))); (focus ((apply rest_one 12 rfl (by as_aux_lemma => kernel_rfl) rfl rfl; ((first | exact Stp.pre (wk_takeRow (n := 8) (z := 55) (s := 48) rfl rfl hrj hmj rfl) (stp_appI rfl (by as_aux_lemma => kernel_rfl) rfl rfl rfl rfl rfl rfl (by omega)) | exact stp_ix (j := j) rfl rfl rfl rfl rfl (by as_aux_lemma => kernel_rfl) rfl hjp hrl | exact stp_storeRow rfl rfl (by simp) rfl rfl hvl rfl hjl2 (by as_aux_lemma => kernel_rfl)))); (apply rest_one 13 rfl (by as_aux_lemma => kernel_rfl) rfl rfl; ((first | exact Stp.pre (wk_takeRow (n := 8) (z := 55) (s := 48) rfl rfl hrj hmj rfl) (stp_appI rfl (by as_aux_lemma => kernel_rfl) rfl rfl rfl rfl rfl rfl (by omega)) | exact stp_ix (j := j) rfl rfl rfl rfl rfl (by as_aux_lemma => kernel_rfl) rfl hjp hrl | exact stp_storeRow rfl rfl (by simp) rfl rfl hvl rfl hjl2 (by as_aux_lemma => kernel_rfl)))); (apply rest_one 14 rfl (by as_aux_lemma => kernel_rfl) rfl rfl; ((first | exact Stp.pre (wk_takeRow (n := 8) (z := 55) (s := 48) rfl rfl hrj hmj rfl) (stp_appI rfl (by as_aux_lemma => kernel_rfl) rfl rfl rfl rfl rfl rfl (by omega)) | exact stp_ix (j := j) rfl rfl rfl rfl rfl (by as_aux_lemma => kernel_rfl) rfl hjp hrl | exact stp_storeRow rfl rfl (by simp) rfl rfl hvl rfl hjl2 (by as_aux_lemma => kernel_rfl)))); (refine rest_done (by as_aux_lemma => kernel_rfl) ?_; exact fin_join (Wk.of ⟨rfl, rfl, rfl, rfl, trivial⟩ ⟨rfl, congrArg (fun l => some (⟨true, 31, 1, .rows 2 l []⟩ : Ch)) hfin, trivial⟩ trivial)))); (focus ((apply rest_one 1 rfl (by as_aux_lemma => kernel_rfl) rfl rfl; (exact stp_move rfl rfl)); (apply rest_one 13 rfl (by as_aux_lemma => kernel_rfl) rfl rfl; ((first | exact Stp.pre (wk_takeRow (n := 8) (z := 55) (s := 48) rfl rfl hrj hmj rfl) (stp_appI rfl (by as_aux_lemma => kernel_rfl) rfl rfl rfl rfl rfl rfl (by omega)) | exact stp_ix (j := j) rfl rfl rfl rfl rfl (by as_aux_lemma => kernel_rfl) rfl hjp hrl | exact stp_storeRow rfl rfl (by simp) rfl rfl hvl rfl hjl2 (by as_aux_lemma => kernel_rfl)))); (apply rest_one 14 rfl (by as_aux_lemma => kernel_rfl) rfl rfl; ((first | exact Stp.pre (wk_takeRow (n := 8) (z := 55) (s := 48) rfl rfl hrj hmj rfl) (stp_appI rfl (by as_aux_lemma => kernel_rfl) rfl rfl rfl rfl rfl rfl (by omega)) | exact stp_ix (j := j) rfl rfl rfl rfl rfl (by as_aux_lemma => kernel_rfl) rfl hjp hrl | exact stp_storeRow rfl rfl (by simp) rfl rfl hvl rfl hjl2 (by as_aux_lemma => kernel_rfl)))); (refine rest_done (by as_aux_lemma => kernel_rfl) ?_; exact fin_join (Wk.of ⟨rfl, rfl, rfl, rfl, trivial⟩ ⟨rfl, congrArg (fun l => some (⟨true, 31, 1, .rows 2 l []⟩ : Ch)) hfin, trivial⟩ trivial))))))
              · (skip)
                exact fin_join (Wk.of ⟨rfl, rfl, rfl, rfl, trivial⟩ ⟨rfl, rfl, trivial⟩ trivial)
            · refine rest_join (St.of [(0, o1 (.sl 1003 0 L)), (1, vv (I6 mask)), (5, o1 (.sl 8 0 ps.length)), (6, vv (I6 i))] [(1003, wRo zs), (8, rwOw (ps.set j (m ||| 2 ^ i, labs ++ [iget zs (i - 1)])))]) ?_ ?_
              · ((apply rest_two 0 12 rfl (by as_aux_lemma => kernel_rfl) rfl rfl rfl rfl; (exact stp_move rfl rfl); ((first | exact Stp.pre (wk_takeRow (n := 8) (z := 55) (s := 48) rfl rfl hrj hmj rfl) (stp_appI rfl (by as_aux_lemma => kernel_rfl) rfl rfl rfl rfl rfl rfl (by omega)) | exact stp_ix (j := j) rfl rfl rfl rfl rfl (by as_aux_lemma => kernel_rfl) rfl hjp hrl | exact stp_storeRow rfl rfl (by simp) rfl rfl hvl rfl hjl2 (by as_aux_lemma => kernel_rfl))); (focus ((apply rest_one 12 rfl (by as_aux_lemma => kernel_rfl) rfl rfl; ((first | exact Stp.pre (wk_takeRow (n := 8) (z := 55) (s := 48) rfl rfl hrj hmj rfl) (stp_appI rfl (by as_aux_lemma => kernel_rfl) rfl rfl rfl rfl rfl rfl (by omega)) | exact stp_ix (j := j) rfl rfl rfl rfl rfl (by as_aux_lemma => kernel_rfl) rfl hjp hrl | exact stp_storeRow rfl rfl (by simp) rfl rfl hvl rfl hjl2 (by as_aux_lemma => kernel_rfl)))); (apply rest_one 13 rfl (by as_aux_lemma => kernel_rfl) rfl rfl; ((first | exact Stp.pre (wk_takeRow (n := 8) (z := 55) (s := 48) rfl rfl hrj hmj rfl) (stp_appI rfl (by as_aux_lemma => kernel_rfl) rfl rfl rfl rfl rfl rfl (by omega)) | exact stp_ix (j := j) rfl rfl rfl rfl rfl (by as_aux_lemma => kernel_rfl) rfl hjp hrl | exact stp_storeRow rfl rfl (by simp) rfl rfl hvl rfl hjl2 (by as_aux_lemma => kernel_rfl)))); (apply rest_one 14 rfl (by as_aux_lemma => kernel_rfl) rfl rfl; ((first | exact Stp.pre (wk_takeRow (n := 8) (z := 55) (s := 48) rfl rfl hrj hmj rfl) (stp_appI rfl (by as_aux_lemma => kernel_rfl) rfl rfl rfl rfl rfl rfl (by omega)) | exact stp_ix (j := j) rfl rfl rfl rfl rfl (by as_aux_lemma => kernel_rfl) rfl hjp hrl | exact stp_storeRow rfl rfl (by simp) rfl rfl hvl rfl hjl2 (by as_aux_lemma => kernel_rfl)))); (refine rest_done (by as_aux_lemma => kernel_rfl) ?_; exact fin_join (Wk.of ⟨rfl, rfl, rfl, rfl, trivial⟩ ⟨rfl, congrArg (fun l => some (⟨true, 31, 1, .rows 2 l []⟩ : Ch)) hfin, trivial⟩ trivial)))); (focus ((apply rest_one 0 rfl (by as_aux_lemma => kernel_rfl) rfl rfl; (exact stp_move rfl rfl)); (apply rest_one 13 rfl (by as_aux_lemma => kernel_rfl) rfl rfl; ((first | exact Stp.pre (wk_takeRow (n := 8) (z := 55) (s := 48) rfl rfl hrj hmj rfl) (stp_appI rfl (by as_aux_lemma => kernel_rfl) rfl rfl rfl rfl rfl rfl (by omega)) | exact stp_ix (j := j) rfl rfl rfl rfl rfl (by as_aux_lemma => kernel_rfl) rfl hjp hrl | exact stp_storeRow rfl rfl (by simp) rfl rfl hvl rfl hjl2 (by as_aux_lemma => kernel_rfl)))); (apply rest_one 14 rfl (by as_aux_lemma => kernel_rfl) rfl rfl; ((first | exact Stp.pre (wk_takeRow (n := 8) (z := 55) (s := 48) rfl rfl hrj hmj rfl) (stp_appI rfl (by as_aux_lemma => kernel_rfl) rfl rfl rfl rfl rfl rfl (by omega)) | exact stp_ix (j := j) rfl rfl rfl rfl rfl (by as_aux_lemma => kernel_rfl) rfl hjp hrl | exact stp_storeRow rfl rfl (by simp) rfl rfl hvl rfl hjl2 (by as_aux_lemma => kernel_rfl)))); (refine rest_done (by as_aux_lemma => kernel_rfl) ?_; exact fin_join (Wk.of ⟨rfl, rfl, rfl, rfl, trivial⟩ ⟨rfl, congrArg (fun l => some (⟨true, 31, 1, .rows 2 l []⟩ : Ch)) hfin, trivial⟩ trivial))))))
              · (skip)
                exact fin_join (Wk.of ⟨rfl, rfl, rfl, rfl, trivial⟩ ⟨rfl, rfl, trivial⟩ trivial)
            · refine rest_join (St.of [(0, o1 (.sl 1003 0 L)), (1, vv (I6 mask)), (5, o1 (.sl 8 0 ps.length)), (6, vv (I6 i))] [(1003, wRo zs), (8, rwOw (ps.set j (m ||| 2 ^ i, labs ++ [iget zs (i - 1)])))]) ?_ ?_
              · ((apply rest_three 0 1 12 rfl (by as_aux_lemma => kernel_rfl) rfl rfl rfl rfl rfl rfl; (exact stp_move rfl rfl); (exact stp_move rfl rfl); ((first | exact Stp.pre (wk_takeRow (n := 8) (z := 55) (s := 48) rfl rfl hrj hmj rfl) (stp_appI rfl (by as_aux_lemma => kernel_rfl) rfl rfl rfl rfl rfl rfl (by omega)) | exact stp_ix (j := j) rfl rfl rfl rfl rfl (by as_aux_lemma => kernel_rfl) rfl hjp hrl | exact stp_storeRow rfl rfl (by simp) rfl rfl hvl rfl hjl2 (by as_aux_lemma => kernel_rfl))); (focus ((apply rest_two 1 12 rfl (by as_aux_lemma => kernel_rfl) rfl rfl rfl rfl; (exact stp_move rfl rfl); ((first | exact Stp.pre (wk_takeRow (n := 8) (z := 55) (s := 48) rfl rfl hrj hmj rfl) (stp_appI rfl (by as_aux_lemma => kernel_rfl) rfl rfl rfl rfl rfl rfl (by omega)) | exact stp_ix (j := j) rfl rfl rfl rfl rfl (by as_aux_lemma => kernel_rfl) rfl hjp hrl | exact stp_storeRow rfl rfl (by simp) rfl rfl hvl rfl hjl2 (by as_aux_lemma => kernel_rfl))); (focus ((apply rest_one 12 rfl (by as_aux_lemma => kernel_rfl) rfl rfl; ((first | exact Stp.pre (wk_takeRow (n := 8) (z := 55) (s := 48) rfl rfl hrj hmj rfl) (stp_appI rfl (by as_aux_lemma => kernel_rfl) rfl rfl rfl rfl rfl rfl (by omega)) | exact stp_ix (j := j) rfl rfl rfl rfl rfl (by as_aux_lemma => kernel_rfl) rfl hjp hrl | exact stp_storeRow rfl rfl (by simp) rfl rfl hvl rfl hjl2 (by as_aux_lemma => kernel_rfl)))); (apply rest_one 13 rfl (by as_aux_lemma => kernel_rfl) rfl rfl; ((first | exact Stp.pre (wk_takeRow (n := 8) (z := 55) (s := 48) rfl rfl hrj hmj rfl) (stp_appI rfl (by as_aux_lemma => kernel_rfl) rfl rfl rfl rfl rfl rfl (by omega)) | exact stp_ix (j := j) rfl rfl rfl rfl rfl (by as_aux_lemma => kernel_rfl) rfl hjp hrl | exact stp_storeRow rfl rfl (by simp) rfl rfl hvl rfl hjl2 (by as_aux_lemma => kernel_rfl)))); (apply rest_one 14 rfl (by as_aux_lemma => kernel_rfl) rfl rfl; ((first | exact Stp.pre (wk_takeRow (n := 8) (z := 55) (s := 48) rfl rfl hrj hmj rfl) (stp_appI rfl (by as_aux_lemma => kernel_rfl) rfl rfl rfl rfl rfl rfl (by omega)) | exact stp_ix (j := j) rfl rfl rfl rfl rfl (by as_aux_lemma => kernel_rfl) rfl hjp hrl | exact stp_storeRow rfl rfl (by simp) rfl rfl hvl rfl hjl2 (by as_aux_lemma => kernel_rfl)))); (refine rest_done (by as_aux_lemma => kernel_rfl) ?_; exact fin_join (Wk.of ⟨rfl, rfl, rfl, rfl, trivial⟩ ⟨rfl, congrArg (fun l => some (⟨true, 31, 1, .rows 2 l []⟩ : Ch)) hfin, trivial⟩ trivial)))); (focus ((apply rest_one 1 rfl (by as_aux_lemma => kernel_rfl) rfl rfl; (exact stp_move rfl rfl)); (apply rest_one 13 rfl (by as_aux_lemma => kernel_rfl) rfl rfl; ((first | exact Stp.pre (wk_takeRow (n := 8) (z := 55) (s := 48) rfl rfl hrj hmj rfl) (stp_appI rfl (by as_aux_lemma => kernel_rfl) rfl rfl rfl rfl rfl rfl (by omega)) | exact stp_ix (j := j) rfl rfl rfl rfl rfl (by as_aux_lemma => kernel_rfl) rfl hjp hrl | exact stp_storeRow rfl rfl (by simp) rfl rfl hvl rfl hjl2 (by as_aux_lemma => kernel_rfl)))); (apply rest_one 14 rfl (by as_aux_lemma => kernel_rfl) rfl rfl; ((first | exact Stp.pre (wk_takeRow (n := 8) (z := 55) (s := 48) rfl rfl hrj hmj rfl) (stp_appI rfl (by as_aux_lemma => kernel_rfl) rfl rfl rfl rfl rfl rfl (by omega)) | exact stp_ix (j := j) rfl rfl rfl rfl rfl (by as_aux_lemma => kernel_rfl) rfl hjp hrl | exact stp_storeRow rfl rfl (by simp) rfl rfl hvl rfl hjl2 (by as_aux_lemma => kernel_rfl)))); (refine rest_done (by as_aux_lemma => kernel_rfl) ?_; exact fin_join (Wk.of ⟨rfl, rfl, rfl, rfl, trivial⟩ ⟨rfl, congrArg (fun l => some (⟨true, 31, 1, .rows 2 l []⟩ : Ch)) hfin, trivial⟩ trivial))))))); (focus ((apply rest_two 0 12 rfl (by as_aux_lemma => kernel_rfl) rfl rfl rfl rfl; (exact stp_move rfl rfl); ((first | exact Stp.pre (wk_takeRow (n := 8) (z := 55) (s := 48) rfl rfl hrj hmj rfl) (stp_appI rfl (by as_aux_lemma => kernel_rfl) rfl rfl rfl rfl rfl rfl (by omega)) | exact stp_ix (j := j) rfl rfl rfl rfl rfl (by as_aux_lemma => kernel_rfl) rfl hjp hrl | exact stp_storeRow rfl rfl (by simp) rfl rfl hvl rfl hjl2 (by as_aux_lemma => kernel_rfl))); (focus ((apply rest_one 12 rfl (by as_aux_lemma => kernel_rfl) rfl rfl; ((first | exact Stp.pre (wk_takeRow (n := 8) (z := 55) (s := 48) rfl rfl hrj hmj rfl) (stp_appI rfl (by as_aux_lemma => kernel_rfl) rfl rfl rfl rfl rfl rfl (by omega)) | exact stp_ix (j := j) rfl rfl rfl rfl rfl (by as_aux_lemma => kernel_rfl) rfl hjp hrl | exact stp_storeRow rfl rfl (by simp) rfl rfl hvl rfl hjl2 (by as_aux_lemma => kernel_rfl)))); (apply rest_one 13 rfl (by as_aux_lemma => kernel_rfl) rfl rfl; ((first | exact Stp.pre (wk_takeRow (n := 8) (z := 55) (s := 48) rfl rfl hrj hmj rfl) (stp_appI rfl (by as_aux_lemma => kernel_rfl) rfl rfl rfl rfl rfl rfl (by omega)) | exact stp_ix (j := j) rfl rfl rfl rfl rfl (by as_aux_lemma => kernel_rfl) rfl hjp hrl | exact stp_storeRow rfl rfl (by simp) rfl rfl hvl rfl hjl2 (by as_aux_lemma => kernel_rfl)))); (apply rest_one 14 rfl (by as_aux_lemma => kernel_rfl) rfl rfl; ((first | exact Stp.pre (wk_takeRow (n := 8) (z := 55) (s := 48) rfl rfl hrj hmj rfl) (stp_appI rfl (by as_aux_lemma => kernel_rfl) rfl rfl rfl rfl rfl rfl (by omega)) | exact stp_ix (j := j) rfl rfl rfl rfl rfl (by as_aux_lemma => kernel_rfl) rfl hjp hrl | exact stp_storeRow rfl rfl (by simp) rfl rfl hvl rfl hjl2 (by as_aux_lemma => kernel_rfl)))); (refine rest_done (by as_aux_lemma => kernel_rfl) ?_; exact fin_join (Wk.of ⟨rfl, rfl, rfl, rfl, trivial⟩ ⟨rfl, congrArg (fun l => some (⟨true, 31, 1, .rows 2 l []⟩ : Ch)) hfin, trivial⟩ trivial)))); (focus ((apply rest_one 0 rfl (by as_aux_lemma => kernel_rfl) rfl rfl; (exact stp_move rfl rfl)); (apply rest_one 13 rfl (by as_aux_lemma => kernel_rfl) rfl rfl; ((first | exact Stp.pre (wk_takeRow (n := 8) (z := 55) (s := 48) rfl rfl hrj hmj rfl) (stp_appI rfl (by as_aux_lemma => kernel_rfl) rfl rfl rfl rfl rfl rfl (by omega)) | exact stp_ix (j := j) rfl rfl rfl rfl rfl (by as_aux_lemma => kernel_rfl) rfl hjp hrl | exact stp_storeRow rfl rfl (by simp) rfl rfl hvl rfl hjl2 (by as_aux_lemma => kernel_rfl)))); (apply rest_one 14 rfl (by as_aux_lemma => kernel_rfl) rfl rfl; ((first | exact Stp.pre (wk_takeRow (n := 8) (z := 55) (s := 48) rfl rfl hrj hmj rfl) (stp_appI rfl (by as_aux_lemma => kernel_rfl) rfl rfl rfl rfl rfl rfl (by omega)) | exact stp_ix (j := j) rfl rfl rfl rfl rfl (by as_aux_lemma => kernel_rfl) rfl hjp hrl | exact stp_storeRow rfl rfl (by simp) rfl rfl hvl rfl hjl2 (by as_aux_lemma => kernel_rfl)))); (refine rest_done (by as_aux_lemma => kernel_rfl) ?_; exact fin_join (Wk.of ⟨rfl, rfl, rfl, rfl, trivial⟩ ⟨rfl, congrArg (fun l => some (⟨true, 31, 1, .rows 2 l []⟩ : Ch)) hfin, trivial⟩ trivial))))))); (focus ((apply rest_two 0 1 rfl (by as_aux_lemma => kernel_rfl) rfl rfl rfl rfl; (exact stp_move rfl rfl); (exact stp_move rfl rfl); (focus ((apply rest_one 1 rfl (by as_aux_lemma => kernel_rfl) rfl rfl; (exact stp_move rfl rfl)); (apply rest_one 13 rfl (by as_aux_lemma => kernel_rfl) rfl rfl; ((first | exact Stp.pre (wk_takeRow (n := 8) (z := 55) (s := 48) rfl rfl hrj hmj rfl) (stp_appI rfl (by as_aux_lemma => kernel_rfl) rfl rfl rfl rfl rfl rfl (by omega)) | exact stp_ix (j := j) rfl rfl rfl rfl rfl (by as_aux_lemma => kernel_rfl) rfl hjp hrl | exact stp_storeRow rfl rfl (by simp) rfl rfl hvl rfl hjl2 (by as_aux_lemma => kernel_rfl)))); (apply rest_one 14 rfl (by as_aux_lemma => kernel_rfl) rfl rfl; ((first | exact Stp.pre (wk_takeRow (n := 8) (z := 55) (s := 48) rfl rfl hrj hmj rfl) (stp_appI rfl (by as_aux_lemma => kernel_rfl) rfl rfl rfl rfl rfl rfl (by omega)) | exact stp_ix (j := j) rfl rfl rfl rfl rfl (by as_aux_lemma => kernel_rfl) rfl hjp hrl | exact stp_storeRow rfl rfl (by simp) rfl rfl hvl rfl hjl2 (by as_aux_lemma => kernel_rfl)))); (refine rest_done (by as_aux_lemma => kernel_rfl) ?_; exact fin_join (Wk.of ⟨rfl, rfl, rfl, rfl, trivial⟩ ⟨rfl, congrArg (fun l => some (⟨true, 31, 1, .rows 2 l []⟩ : Ch)) hfin, trivial⟩ trivial)))); (focus ((apply rest_one 0 rfl (by as_aux_lemma => kernel_rfl) rfl rfl; (exact stp_move rfl rfl)); (apply rest_one 13 rfl (by as_aux_lemma => kernel_rfl) rfl rfl; ((first | exact Stp.pre (wk_takeRow (n := 8) (z := 55) (s := 48) rfl rfl hrj hmj rfl) (stp_appI rfl (by as_aux_lemma => kernel_rfl) rfl rfl rfl rfl rfl rfl (by omega)) | exact stp_ix (j := j) rfl rfl rfl rfl rfl (by as_aux_lemma => kernel_rfl) rfl hjp hrl | exact stp_storeRow rfl rfl (by simp) rfl rfl hvl rfl hjl2 (by as_aux_lemma => kernel_rfl)))); (apply rest_one 14 rfl (by as_aux_lemma => kernel_rfl) rfl rfl; ((first | exact Stp.pre (wk_takeRow (n := 8) (z := 55) (s := 48) rfl rfl hrj hmj rfl) (stp_appI rfl (by as_aux_lemma => kernel_rfl) rfl rfl rfl rfl rfl rfl (by omega)) | exact stp_ix (j := j) rfl rfl rfl rfl rfl (by as_aux_lemma => kernel_rfl) rfl hjp hrl | exact stp_storeRow rfl rfl (by simp) rfl rfl hvl rfl hjl2 (by as_aux_lemma => kernel_rfl)))); (refine rest_done (by as_aux_lemma => kernel_rfl) ?_; exact fin_join (Wk.of ⟨rfl, rfl, rfl, rfl, trivial⟩ ⟨rfl, congrArg (fun l => some (⟨true, 31, 1, .rows 2 l []⟩ : Ch)) hfin, trivial⟩ trivial)))))))))
              · (skip)
                exact fin_join (Wk.of ⟨rfl, rfl, rfl, rfl, trivial⟩ ⟨rfl, rfl, trivial⟩ trivial)
        (refine fin_seq ?_; refine goes_exit ?_; refine fin_exit_then ?_; refine fin_exit_eq ?_; refine fin_seq ?_; refine goes_region ?_; apply run_step rfl; (exact stp_move rfl rfl); apply run_step rfl; (exact stp_add rfl rfl rfl (by first | exact IntWalk.i64_in _ (by omega) | rfl)); apply run_step rfl; (exact stp_assign rfl rfl); refine run_nil ?_)
        exact fin_round (i + 1, ps.set j (m ||| 2 ^ i, labs ++ [iget zs (i - 1)])) ⟨by omega, hv⟩ (by show L + 1 - (i + 1) < L + 1 - i; omega) (Wk.of ⟨rfl, rfl, congrArg (fun n => some (o1 (.sl 8 0 n))) (by simp), rfl, trivial⟩ ⟨rfl, rfl, trivial⟩ trivial)
      · have hv : pTo zs mask (i + 1) = ps ++ [(2 ^ i, [])] := by rw [hnx, if_neg (by rw [hjb]; simp)]
        have hrl : (irows (rowsP ps)).length = ps.length := by rw [irows_len, hrx]
        have hfin : irows (rowsP ps) ++ [[]] = irows (rowsP (ps ++ [(2 ^ i, [])])) := by simp [rowsP, irows, ivals]
        (refine goes_skip ?_; refine fin_seq ?_; refine goes_region ?_; apply run_step rfl; (exact stp_move rfl rfl); apply run_step rfl; (first | exact stp_lit0 (E := 2) (k := 1) rfl (by as_aux_lemma => kernel_rfl) | exact stp_appendRow (vs := []) rfl (by as_aux_lemma => kernel_rfl) rfl rfl hrl rfl rfl rfl rfl rfl (by omega)); apply run_step rfl; (exact stp_lit1 (E := 31) rfl (by as_aux_lemma => kernel_rfl) rfl rfl rfl); apply run_step rfl; (first | exact stp_lit0 (E := 2) (k := 1) rfl (by as_aux_lemma => kernel_rfl) | exact stp_appendRow (vs := []) rfl (by as_aux_lemma => kernel_rfl) rfl rfl hrl rfl rfl rfl rfl rfl (by omega)); apply run_step rfl; (exact stp_assign rfl rfl); refine run_nil ?_; refine fin_block ?_; refine fin_seq ?_; refine goes_region ?_; apply run_step rfl; (exact stp_move rfl rfl); apply run_step rfl; (exact stp_add rfl rfl rfl (by first | exact IntWalk.i64_in _ (by omega) | rfl)); apply run_step rfl; (exact stp_assign rfl rfl); refine run_nil ?_)
        exact fin_round (i + 1, ps ++ [(2 ^ i, [])]) ⟨by omega, hv⟩ (by show L + 1 - (i + 1) < L + 1 - i; omega) (Wk.of ⟨rfl, rfl, congrArg (fun n => some (o1 (.sl 8 0 n))) (by simp), rfl, trivial⟩ ⟨rfl, congrArg (fun l => some (⟨true, 31, 1, .rows 2 l []⟩ : Ch)) hfin, trivial⟩ trivial)
  · obtain rfl : i = L + 1 := by omega
    have hv : comps zs mask = ps := by unfold comps; rw [hL]; exact hp
    rw [hv]
    (refine goes_exit ?_; refine fin_exit_then ?_; refine fin_exit_then ?_; refine fin_exit_eq ?_; refine fin_seq ?_; refine goes_seq ?_; refine goes_region ?_; apply run_step rfl; (exact stp_move rfl rfl); apply run_step rfl; (exact stp_assign rfl rfl); refine run_nil ?_; refine fin_seq ?_; refine goes_ret ?_)
    exact fin_ret1 (.inl rfl) rfl (.tmp rfl) ⟨rfl, trivial⟩ trivial
end Go.Proofs.Ytlpeghdbjfnenaa

/- KindOfDiagram, the reference's. guards: -/
namespace Go.Proofs.Ytlpeghdbjfnenaa
open Go.RowKit

set_option maxRecDepth 100000 in
theorem wholeS_fc (zs : List Int) (L : Nat) (hL : zs.length = L) (h4 : L ≤ 4) : FC Try.prog 61 [(1003, wRo zs)] [o1 (.sl 1003 0 L)] [] (vv (I6 (allN zs))) [] := by
  have hR := rankS_fc zs L h4
  have h5 : L + 1 ≤ 5 := by omega
  have hp : 2 ^ (L + 1) ≤ 2 ^ 5 := Nat.pow_le_pow_right (by decide) (by omega)
  have h1 := allN_pos (L + 1)
  have hcv : IntKind.u64.wrap ((L + 1 : Nat) : Int) = ((L + 1 : Nat) : Int) := by rw [IntKind.wrap_u64]; omega
  have hw : IntKind.i64.wrap (((2 ^ (L + 1) : Nat) : Int) - 1) = ((allN zs : Nat) : Int) := by
    rw [IntWalk.i64_in _ (by omega)]
    unfold allN; rw [hL]; omega
  refine fc_enter (nt := 8) Try.func61 rfl rfl (by simp) fun w0 ω0 => ?_
  (refine goes_seq ?_; refine goes_region ?_; apply run_step rfl; (exact stp_assign rfl rfl); refine run_nil ?_; refine fin_seq ?_; refine goes_seq ?_; refine goes_region ?_; apply run_step rfl; (exact stp_move rfl rfl); apply run_step rfl; (first | (apply call_gate 103; exact stp_callR hR (by as_aux_lemma => kernel_rfl) rfl rfl ⟨rfl, trivial⟩ ⟨⟨_, rfl, .inl rfl⟩, trivial⟩ rfl rfl) | exact stp_convN rfl rfl (by as_aux_lemma => kernel_rfl) (by as_aux_lemma => kernel_rfl) hcv | exact stp_shl1 (g := L + 1) rfl rfl rfl h5 | exact stp_sub rfl rfl rfl hw); apply run_step rfl; (first | (apply call_gate 103; exact stp_callR hR (by as_aux_lemma => kernel_rfl) rfl rfl ⟨rfl, trivial⟩ ⟨⟨_, rfl, .inl rfl⟩, trivial⟩ rfl rfl) | exact stp_convN rfl rfl (by as_aux_lemma => kernel_rfl) (by as_aux_lemma => kernel_rfl) hcv | exact stp_shl1 (g := L + 1) rfl rfl rfl h5 | exact stp_sub rfl rfl rfl hw); apply run_step rfl; (first | (apply call_gate 103; exact stp_callR hR (by as_aux_lemma => kernel_rfl) rfl rfl ⟨rfl, trivial⟩ ⟨⟨_, rfl, .inl rfl⟩, trivial⟩ rfl rfl) | exact stp_convN rfl rfl (by as_aux_lemma => kernel_rfl) (by as_aux_lemma => kernel_rfl) hcv | exact stp_shl1 (g := L + 1) rfl rfl rfl h5 | exact stp_sub rfl rfl rfl hw); apply run_step rfl; (first | (apply call_gate 103; exact stp_callR hR (by as_aux_lemma => kernel_rfl) rfl rfl ⟨rfl, trivial⟩ ⟨⟨_, rfl, .inl rfl⟩, trivial⟩ rfl rfl) | exact stp_convN rfl rfl (by as_aux_lemma => kernel_rfl) (by as_aux_lemma => kernel_rfl) hcv | exact stp_shl1 (g := L + 1) rfl rfl rfl h5 | exact stp_sub rfl rfl rfl hw); apply run_step rfl; (exact stp_assign rfl rfl); refine run_nil ?_; refine fin_seq ?_; refine goes_ret ?_)
  exact fin_ret1 (.inl rfl) rfl (.tmp rfl) trivial trivial
set_option maxRecDepth 100000 in
set_option maxHeartbeats 2000000 in
theorem kindK_fc (zs : List Int) (L mask : Nat) (hL : zs.length = L) (hd : isDiag zs = true) (hmk : mask < 1000) :
    FC Try.prog 60 [(1003, wRo zs)] [o1 (.sl 1003 0 L), vv (I6 mask)] [] (vv (I6 (kindN (comps zs mask) (comps zs mask).length : Nat))) [] := by
  have h4 : L ≤ 4 := by have := isDiag_len hd; omega
  have hC := (parts_fc zs L mask hL h4 hmk).nm [(1003, 1003), (8, 10)] (by kernel_rfl)
  have hC : FC Try.prog 79 [(1003, wRo zs)] [o1 (.sl 1003 0 L), vv (I6 mask)] [(10, rwOw (comps zs mask))] (o1 (.sl 10 0 (comps zs mask).length)) [] := hC
  have hlab : ∀ k, k < (comps zs mask).length → Labs (cget (comps zs mask) k).2 := fun k hk => labs_of hd hk
  have hnp : (comps zs mask).length ≤ 5 := by
    have h1 := csum_len (comps zs mask); have h2 := (comps_ok zs mask).sum; omega
  refine fc_enter (nt := 36) Try.func60 rfl rfl (by simp) fun w0 ω0 => ?_
  generalize comps zs mask = ps at *
  generalize hN : ps.length = N at *
  have hrx := rowsP_len ps
  rw [hN] at hrx
  (refine goes_seq ?_; refine goes_region ?_; apply run_step rfl; (exact stp_assign rfl rfl); refine run_nil ?_; refine fin_seq ?_; refine goes_seq ?_; refine goes_region ?_; apply run_step rfl; (exact stp_move rfl rfl); apply run_step rfl; (exact stp_move rfl rfl); apply run_step rfl; (apply call_gate 79; exact stp_callN hC (by as_aux_lemma => kernel_rfl) rfl rfl ⟨rfl, rfl, trivial⟩ ⟨⟨_, rfl, .inl rfl⟩, trivial⟩ rfl rfl rfl); apply run_step rfl; (exact stp_assign rfl rfl); apply run_step rfl; (exact stp_assign rfl rfl); refine run_nil ?_; refine fin_seq ?_; refine goes_seq ?_; refine goes_seq ?_; refine goes_region ?_; apply run_step rfl; (exact stp_assign rfl rfl); refine run_nil ?_; refine fin_seq ?_; refine goes_block ?_)
  refine goes_loop (fun j : Nat => St.of [(5, o1 (.sl 10 0 N)), (6, vv (I6 (kindN ps j : Nat))), (7, vv (I6 j))] [(10, rwOw ps)]) (fun j => j ≤ N) (fun j => N - j) 0 (Nat.zero_le _) (Wk.of ⟨rfl, rfl, rfl, trivial⟩ ⟨rfl, trivial⟩ trivial) ?_
  rintro j hj
  (refine goes_seq ?_; refine goes_seq ?_; refine goes_region ?_; apply run_step rfl; (exact stp_move rfl rfl); apply run_step rfl; (exact stp_move rfl rfl); apply run_step rfl; (exact stp_len rfl rfl rfl (by as_aux_lemma => kernel_rfl)); apply run_step rfl; (exact stp_bin rfl rfl rfl rfl); refine run_nil ?_; refine fin_seq ?_)
  refine goes_if rfl (fun hlt => ?_) (fun hlt => ?_)
  · have hjN : j < N := by omega
    have hjp : j < ps.length := by omega
    have hL := hlab j hjN
    have hk := kindN_succ hjp
    have hk2 := kindN_le ps j
    have hrj := irowsP_get hjp
    have hrg := rowsP_get hjp
    have hjr : j < (rowsP ps).length := by omega
    have hix : N ≤ (irows (rowsP ps)).length := by rw [irows_len, hrx]; exact Nat.le_refl _
    generalize (cget ps j).2 = labs at *
    have hm4 := hL.1
    have hlm : (ivals labs).length = labs.length := ivals_len _
    have hAf := (affineS_fc (rowsP ps) j labs.length labs hjr hrg rfl hm4).nm [(1000, 10)] (by kernel_rfl)
    have hAf : FC Try.prog 102 [(10, rowsRo (rowsP ps))] [o1 (.esl 10 j 0 labs.length)] [] (vv (.bool (affB labs))) [] := hAf
    have hrest : (degs labs).length = 0 → ∀ (S : St), S = S → True := fun _ _ _ => trivial
    rcases degS_fc (rowsP ps) j labs.length labs hjr hrg rfl hm4 with ⟨hnil, hD⟩ | hD
    · have hD := hD.nm [(1000, 10)] (by kernel_rfl)
      have hD : FC Try.prog 80 [(10, rowsRo (rowsP ps))] [o1 (.esl 10 j 0 labs.length)] [] (vv (.slice none 0 0)) [] := hD
      unfold kStep at hk
      rw [if_pos (by rw [hnil]; rfl)] at hk
      (refine goes_skip ?_; refine fin_seq ?_; refine goes_seq ?_; refine goes_block ?_; refine goes_block ?_; refine goes_seq ?_; refine goes_region ?_; apply run_step rfl; (exact stp_move rfl rfl); apply run_step rfl; (exact stp_move rfl rfl); apply run_step rfl; (first | exact stp_ix (j := j) rfl rfl rfl rfl rfl (by as_aux_lemma => kernel_rfl) rfl hjN hix | exact stp_loadR rfl (by as_aux_lemma => kernel_rfl) rfl rfl rfl hrj hlm | (apply call_gate 80; exact stp_callR hD (by as_aux_lemma => kernel_rfl) rfl rfl ⟨rfl, trivial⟩ ⟨⟨_, rfl, .inr rfl⟩, trivial⟩ rfl rfl)); apply run_step rfl; (first | exact stp_ix (j := j) rfl rfl rfl rfl rfl (by as_aux_lemma => kernel_rfl) rfl hjN hix | exact stp_loadR rfl (by as_aux_lemma => kernel_rfl) rfl rfl rfl hrj hlm | (apply call_gate 80; exact stp_callR hD (by as_aux_lemma => kernel_rfl) rfl rfl ⟨rfl, trivial⟩ ⟨⟨_, rfl, .inr rfl⟩, trivial⟩ rfl rfl)); apply run_step rfl; (first | exact stp_ix (j := j) rfl rfl rfl rfl rfl (by as_aux_lemma => kernel_rfl) rfl hjN hix | exact stp_loadR rfl (by as_aux_lemma => kernel_rfl) rfl rfl rfl hrj hlm | (apply call_gate 80; exact stp_callR hD (by as_aux_lemma => kernel_rfl) rfl rfl ⟨rfl, trivial⟩ ⟨⟨_, rfl, .inr rfl⟩, trivial⟩ rfl rfl)); apply run_step rfl; (exact stp_len rfl rfl rfl (by as_aux_lemma => kernel_rfl)); apply run_step rfl; (exact stp_bin rfl rfl rfl rfl); apply run_step rfl; (exact stp_assign rfl rfl); refine run_nil ?_; refine fin_seq ?_)
      refine goes_cond rfl (fun e => ?_) (fun _ => ?_)
      · exfalso; simp at e
      (refine goes_seq ?_; refine goes_region ?_; apply run_step rfl; (exact stp_move rfl rfl); apply run_step rfl; (exact stp_move rfl rfl); apply run_step rfl; (first | exact stp_ix (j := j) rfl rfl rfl rfl rfl (by as_aux_lemma => kernel_rfl) rfl hjN hix | exact stp_loadR rfl (by as_aux_lemma => kernel_rfl) rfl rfl rfl hrj hlm | (apply call_gate 102; exact stp_callR hAf (by as_aux_lemma => kernel_rfl) rfl rfl ⟨rfl, trivial⟩ ⟨⟨_, rfl, .inr rfl⟩, trivial⟩ rfl rfl)); apply run_step rfl; (first | exact stp_ix (j := j) rfl rfl rfl rfl rfl (by as_aux_lemma => kernel_rfl) rfl hjN hix | exact stp_loadR rfl (by as_aux_lemma => kernel_rfl) rfl rfl rfl hrj hlm | (apply call_gate 102; exact stp_callR hAf (by as_aux_lemma => kernel_rfl) rfl rfl ⟨rfl, trivial⟩ ⟨⟨_, rfl, .inr rfl⟩, trivial⟩ rfl rfl)); apply run_step rfl; (first | exact stp_ix (j := j) rfl rfl rfl rfl rfl (by as_aux_lemma => kernel_rfl) rfl hjN hix | exact stp_loadR rfl (by as_aux_lemma => kernel_rfl) rfl rfl rfl hrj hlm | (apply call_gate 102; exact stp_callR hAf (by as_aux_lemma => kernel_rfl) rfl rfl ⟨rfl, trivial⟩ ⟨⟨_, rfl, .inr rfl⟩, trivial⟩ rfl rfl)); apply run_step rfl; (exact stp_move rfl rfl))
      refine run_bool 31 rfl (fun h1 => ?_) (fun h1 => ?_)
      · rw [h1] at hk
        (apply run_gYes rfl rfl rfl; (exact stp_move rfl rfl); apply run_gYes rfl rfl rfl; (exact stp_bin rfl rfl rfl rfl); apply run_step rfl; (exact stp_pickT rfl rfl rfl); apply run_step rfl; (exact stp_assign rfl rfl); refine run_nil ?_; refine fin_seq ?_)
        refine goes_cond rfl (fun h2 => ?_) (fun h2 => ?_)
        · have h2 : kindN ps j ≠ 2 := by have : (kindN ps j : Int) ≠ 2 := by simpa using h2
                                         omega
          rw [if_pos ⟨rfl, h2⟩] at hk
          (refine goes_region ?_; apply run_step rfl; (exact stp_assign rfl rfl); refine run_nil ?_; refine fin_block ?_; refine fin_block ?_; refine fin_seq ?_; refine goes_region ?_; apply run_step rfl; (exact stp_move rfl rfl); apply run_step rfl; (exact stp_add rfl rfl rfl (by first | exact IntWalk.i64_in _ (by omega) | rfl)); apply run_step rfl; (exact stp_assign rfl rfl); refine run_nil ?_)
          exact fin_round (j + 1) (by omega) (by omega) (Wk.of ⟨rfl, congrArg (fun k : Nat => some (vv (I6 (k : Int)))) hk.symm, rfl, trivial⟩ ⟨rfl, trivial⟩ trivial)
        · have h2 : kindN ps j = 2 := by have : (kindN ps j : Int) = 2 := by simpa using h2
                                         omega
          rw [if_neg (fun h => h.2 h2)] at hk
          (refine goes_region ?_; apply run_step rfl; (exact stp_assign rfl rfl); refine run_nil ?_; refine fin_block ?_; refine fin_block ?_; refine fin_seq ?_; refine goes_region ?_; apply run_step rfl; (exact stp_move rfl rfl); apply run_step rfl; (exact stp_add rfl rfl rfl (by first | exact IntWalk.i64_in _ (by omega) | rfl)); apply run_step rfl; (exact stp_assign rfl rfl); refine run_nil ?_)
          exact fin_round (j + 1) (by omega) (by omega) (Wk.of ⟨rfl, congrArg (fun k : Nat => some (vv (I6 (k : Int)))) hk.symm, rfl, trivial⟩ ⟨rfl, trivial⟩ trivial)
      · rw [h1, if_neg (by simp)] at hk
        (apply run_gNo rfl rfl rfl rfl rfl; apply run_gNo rfl rfl rfl rfl rfl; apply run_step rfl; (exact stp_pickF rfl rfl rfl); apply run_step rfl; (exact stp_assign rfl rfl); refine run_nil ?_; refine fin_seq ?_)
        refine goes_cond rfl (fun e => by cases e) (fun _ => ?_)
        (refine goes_region ?_; apply run_step rfl; (exact stp_assign rfl rfl); refine run_nil ?_; refine fin_block ?_; refine fin_block ?_; refine fin_seq ?_; refine goes_region ?_; apply run_step rfl; (exact stp_move rfl rfl); apply run_step rfl; (exact stp_add rfl rfl rfl (by first | exact IntWalk.i64_in _ (by omega) | rfl)); apply run_step rfl; (exact stp_assign rfl rfl); refine run_nil ?_)
        exact fin_round (j + 1) (by omega) (by omega) (Wk.of ⟨rfl, congrArg (fun k : Nat => some (vv (I6 (k : Int)))) hk.symm, rfl, trivial⟩ ⟨rfl, trivial⟩ trivial)
    · have hD := hD.nm [(1000, 10), (2100, 22)] (by kernel_rfl)
      have hD : FC Try.prog 80 [(10, rowsRo (rowsP ps))] [o1 (.esl 10 j 0 labs.length)] [(22, leOw (degs labs))] (o1 (.sl 22 0 (degs labs).length)) [] := hD
      unfold kStep at hk
      (refine goes_skip ?_; refine fin_seq ?_; refine goes_seq ?_; refine goes_block ?_; refine goes_block ?_; refine goes_seq ?_; refine goes_region ?_; apply run_step rfl; (exact stp_move rfl rfl); apply run_step rfl; (exact stp_move rfl rfl); apply run_step rfl; (first | exact stp_ix (j := j) rfl rfl rfl rfl rfl (by as_aux_lemma => kernel_rfl) rfl hjN hix | exact stp_loadR rfl (by as_aux_lemma => kernel_rfl) rfl rfl rfl hrj hlm | (apply call_gate 80; exact stp_callN hD (by as_aux_lemma => kernel_rfl) rfl rfl ⟨rfl, trivial⟩ ⟨⟨_, rfl, .inr rfl⟩, trivial⟩ rfl rfl rfl)); apply run_step rfl; (first | exact stp_ix (j := j) rfl rfl rfl rfl rfl (by as_aux_lemma => kernel_rfl) rfl hjN hix | exact stp_loadR rfl (by as_aux_lemma => kernel_rfl) rfl rfl rfl hrj hlm | (apply call_gate 80; exact stp_callN hD (by as_aux_lemma => kernel_rfl) rfl rfl ⟨rfl, trivial⟩ ⟨⟨_, rfl, .inr rfl⟩, trivial⟩ rfl rfl rfl)); apply run_step rfl; (first | exact stp_ix (j := j) rfl rfl rfl rfl rfl (by as_aux_lemma => kernel_rfl) rfl hjN hix | exact stp_loadR rfl (by as_aux_lemma => kernel_rfl) rfl rfl rfl hrj hlm | (apply call_gate 80; exact stp_callN hD (by as_aux_lemma => kernel_rfl) rfl rfl ⟨rfl, trivial⟩ ⟨⟨_, rfl, .inr rfl⟩, trivial⟩ rfl rfl rfl)); apply run_step rfl; (exact stp_len rfl rfl rfl (by as_aux_lemma => kernel_rfl)); apply run_step rfl; (exact stp_bin rfl rfl rfl rfl); apply run_step rfl; (exact stp_assign rfl rfl); refine run_nil ?_; refine fin_seq ?_)
      refine goes_cond rfl (fun e => ?_) (fun e => ?_)
      · have e : ¬ (degs labs).length = 0 := by
          have := of_decide_eq_true e; omega
        rw [if_neg e] at hk
        (refine goes_skip ?_; refine fin_block ?_; refine fin_block ?_; refine fin_seq ?_; refine goes_region ?_; apply run_step rfl; (exact stp_move rfl rfl); apply run_step rfl; (exact stp_add rfl rfl rfl (by first | exact IntWalk.i64_in _ (by omega) | rfl)); apply run_step rfl; (exact stp_assign rfl rfl); refine run_nil ?_)
        exact fin_round (j + 1) (by omega) (by omega) (Wk.of ⟨rfl, congrArg (fun k : Nat => some (vv (I6 (k : Int)))) hk.symm, rfl, trivial⟩ ⟨rfl, trivial⟩ trivial)
      have e : (degs labs).length = 0 := by
        have := of_decide_eq_false e; omega
      rw [if_pos e] at hk
      (refine goes_seq ?_; refine goes_region ?_; apply run_step rfl; (exact stp_move rfl rfl); apply run_step rfl; (exact stp_move rfl rfl); apply run_step rfl; (first | exact stp_ix (j := j) rfl rfl rfl rfl rfl (by as_aux_lemma => kernel_rfl) rfl hjN hix | exact stp_loadR rfl (by as_aux_lemma => kernel_rfl) rfl rfl rfl hrj hlm | (apply call_gate 102; exact stp_callR hAf (by as_aux_lemma => kernel_rfl) rfl rfl ⟨rfl, trivial⟩ ⟨⟨_, rfl, .inr rfl⟩, trivial⟩ rfl rfl)); apply run_step rfl; (first | exact stp_ix (j := j) rfl rfl rfl rfl rfl (by as_aux_lemma => kernel_rfl) rfl hjN hix | exact stp_loadR rfl (by as_aux_lemma => kernel_rfl) rfl rfl rfl hrj hlm | (apply call_gate 102; exact stp_callR hAf (by as_aux_lemma => kernel_rfl) rfl rfl ⟨rfl, trivial⟩ ⟨⟨_, rfl, .inr rfl⟩, trivial⟩ rfl rfl)); apply run_step rfl; (first | exact stp_ix (j := j) rfl rfl rfl rfl rfl (by as_aux_lemma => kernel_rfl) rfl hjN hix | exact stp_loadR rfl (by as_aux_lemma => kernel_rfl) rfl rfl rfl hrj hlm | (apply call_gate 102; exact stp_callR hAf (by as_aux_lemma => kernel_rfl) rfl rfl ⟨rfl, trivial⟩ ⟨⟨_, rfl, .inr rfl⟩, trivial⟩ rfl rfl)); apply run_step rfl; (exact stp_move rfl rfl))
      refine run_bool 31 rfl (fun h1 => ?_) (fun h1 => ?_)
      · rw [h1] at hk
        (apply run_gYes rfl rfl rfl; (exact stp_move rfl rfl); apply run_gYes rfl rfl rfl; (exact stp_bin rfl rfl rfl rfl); apply run_step rfl; (exact stp_pickT rfl rfl rfl); apply run_step rfl; (exact stp_assign rfl rfl); refine run_nil ?_; refine fin_seq ?_)
        refine goes_cond rfl (fun h2 => ?_) (fun h2 => ?_)
        · have h2 : kindN ps j ≠ 2 := by have : (kindN ps j : Int) ≠ 2 := by simpa using h2
                                         omega
          rw [if_pos ⟨rfl, h2⟩] at hk
          (refine goes_region ?_; apply run_step rfl; (exact stp_assign rfl rfl); refine run_nil ?_; refine fin_block ?_; refine fin_block ?_; refine fin_seq ?_; refine goes_region ?_; apply run_step rfl; (exact stp_move rfl rfl); apply run_step rfl; (exact stp_add rfl rfl rfl (by first | exact IntWalk.i64_in _ (by omega) | rfl)); apply run_step rfl; (exact stp_assign rfl rfl); refine run_nil ?_)
          exact fin_round (j + 1) (by omega) (by omega) (Wk.of ⟨rfl, congrArg (fun k : Nat => some (vv (I6 (k : Int)))) hk.symm, rfl, trivial⟩ ⟨rfl, trivial⟩ trivial)
        · have h2 : kindN ps j = 2 := by have : (kindN ps j : Int) = 2 := by simpa using h2
                                         omega
          rw [if_neg (fun h => h.2 h2)] at hk
          (refine goes_region ?_; apply run_step rfl; (exact stp_assign rfl rfl); refine run_nil ?_; refine fin_block ?_; refine fin_block ?_; refine fin_seq ?_; refine goes_region ?_; apply run_step rfl; (exact stp_move rfl rfl); apply run_step rfl; (exact stp_add rfl rfl rfl (by first | exact IntWalk.i64_in _ (by omega) | rfl)); apply run_step rfl; (exact stp_assign rfl rfl); refine run_nil ?_)
          exact fin_round (j + 1) (by omega) (by omega) (Wk.of ⟨rfl, congrArg (fun k : Nat => some (vv (I6 (k : Int)))) hk.symm, rfl, trivial⟩ ⟨rfl, trivial⟩ trivial)
      · rw [h1, if_neg (by simp)] at hk
        (apply run_gNo rfl rfl rfl rfl rfl; apply run_gNo rfl rfl rfl rfl rfl; apply run_step rfl; (exact stp_pickF rfl rfl rfl); apply run_step rfl; (exact stp_assign rfl rfl); refine run_nil ?_; refine fin_seq ?_)
        refine goes_cond rfl (fun e => by cases e) (fun _ => ?_)
        (refine goes_region ?_; apply run_step rfl; (exact stp_assign rfl rfl); refine run_nil ?_; refine fin_block ?_; refine fin_block ?_; refine fin_seq ?_; refine goes_region ?_; apply run_step rfl; (exact stp_move rfl rfl); apply run_step rfl; (exact stp_add rfl rfl rfl (by first | exact IntWalk.i64_in _ (by omega) | rfl)); apply run_step rfl; (exact stp_assign rfl rfl); refine run_nil ?_)
        exact fin_round (j + 1) (by omega) (by omega) (Wk.of ⟨rfl, congrArg (fun k : Nat => some (vv (I6 (k : Int)))) hk.symm, rfl, trivial⟩ ⟨rfl, trivial⟩ trivial)
  · obtain rfl : j = N := by omega
    (refine goes_exit ?_; refine fin_exit_then ?_; refine fin_exit_then ?_; refine fin_exit_eq ?_; refine fin_seq ?_; refine goes_seq ?_; refine goes_region ?_; apply run_step rfl; (exact stp_move rfl rfl); apply run_step rfl; (exact stp_assign rfl rfl); refine run_nil ?_; refine fin_seq ?_; refine goes_ret ?_)
    exact fin_ret1 (.inl rfl) rfl (.tmp rfl) trivial trivial
set_option maxRecDepth 100000 in
theorem kindS_fc (zs : List Int) (hn : zs.length ≤ 4398046511104) :
    FC Try.prog 20 [(1003, wRo zs)] [o1 (.sl 1003 0 zs.length)] [] (.tup [.one (.val (I6 (kindR zs))), .one (.val (I6 (kindC zs)))]) [] := by
  have hI := diagS_fc zs zs.length rfl hn
  refine fc_enter (nt := 11) Try.func20 rfl rfl (by simp) fun w0 ω0 => ?_
  cases hd : isDiag zs with
  | false =>
    rw [hd] at hI
    unfold kindR kindC
    rw [hd, if_neg (by simp), if_neg (by simp)]
    (refine goes_seq ?_; refine goes_region ?_; apply run_step rfl; (exact stp_assign rfl rfl); apply run_step rfl; (exact stp_assign rfl rfl); refine run_nil ?_; refine fin_seq ?_; refine goes_seq ?_; refine goes_seq ?_; refine goes_region ?_; apply run_step rfl; (exact stp_move rfl rfl); apply run_step rfl; (apply call_gate 59; exact stp_callR hI (by as_aux_lemma => kernel_rfl) rfl rfl ⟨rfl, trivial⟩ ⟨⟨_, rfl, .inl rfl⟩, trivial⟩ rfl rfl); apply run_step rfl; (exact stp_not rfl rfl); refine run_nil ?_; refine fin_seq ?_)
    refine goes_cond rfl (fun _ => ?_) (fun e => by cases e)
    (refine goes_seq ?_; refine goes_region ?_; apply run_step rfl; (exact stp_assign rfl rfl); apply run_step rfl; (exact stp_assign rfl rfl); refine run_nil ?_; refine fin_seq ?_; refine goes_ret ?_; refine fin_ret_then ?_)
    exact fin_ret2 (.inl rfl) rfl (.tmp rfl) (.tmp rfl) trivial trivial
  | true =>
    rw [hd] at hI
    have h4 := isDiag_len hd
    have hW := wholeS_fc zs zs.length rfl h4
    have hK := kindK_fc zs zs.length (allN zs) rfl hd (allN_lt h4)
    unfold kindR kindC
    rw [hd, if_pos rfl, if_pos rfl]
    (refine goes_seq ?_; refine goes_region ?_; apply run_step rfl; (exact stp_assign rfl rfl); apply run_step rfl; (exact stp_assign rfl rfl); refine run_nil ?_; refine fin_seq ?_; refine goes_seq ?_; refine goes_seq ?_; refine goes_region ?_; apply run_step rfl; (exact stp_move rfl rfl); apply run_step rfl; (apply call_gate 59; exact stp_callR hI (by as_aux_lemma => kernel_rfl) rfl rfl ⟨rfl, trivial⟩ ⟨⟨_, rfl, .inl rfl⟩, trivial⟩ rfl rfl); apply run_step rfl; (exact stp_not rfl rfl); refine run_nil ?_; refine fin_seq ?_)
    refine goes_cond rfl (fun e => by cases e) (fun _ => ?_)
    (refine goes_skip ?_; refine fin_seq ?_; refine goes_seq ?_; refine goes_region ?_; apply run_step rfl; (exact stp_move rfl rfl); apply run_step rfl; (exact stp_move rfl rfl); apply run_step rfl; (first | (apply call_gate 61; exact stp_callR hW (by as_aux_lemma => kernel_rfl) rfl rfl ⟨rfl, trivial⟩ ⟨⟨_, rfl, .inl rfl⟩, trivial⟩ rfl rfl) | (apply call_gate 60; exact stp_callR hK (by as_aux_lemma => kernel_rfl) rfl rfl ⟨rfl, rfl, trivial⟩ ⟨⟨_, rfl, .inl rfl⟩, trivial⟩ rfl rfl)); apply run_step rfl; (first | (apply call_gate 61; exact stp_callR hW (by as_aux_lemma => kernel_rfl) rfl rfl ⟨rfl, trivial⟩ ⟨⟨_, rfl, .inl rfl⟩, trivial⟩ rfl rfl) | (apply call_gate 60; exact stp_callR hK (by as_aux_lemma => kernel_rfl) rfl rfl ⟨rfl, rfl, trivial⟩ ⟨⟨_, rfl, .inl rfl⟩, trivial⟩ rfl rfl)); apply run_step rfl; (exact stp_assign rfl rfl); apply run_step rfl; (exact stp_assign rfl rfl); refine run_nil ?_; refine fin_seq ?_; refine goes_ret ?_)
    exact fin_ret2 (.inl rfl) rfl (.tmp rfl) (.tmp rfl) trivial trivial
end Go.Proofs.Ytlpeghdbjfnenaa

/- The program's within, in names. -/
namespace Go.Proofs.Ytlpeghdbjfnenaa
open Go.RowKit

theorem us_three {us : List Value} {u0 u1 u2 : Value} (hl : us.length = 3) (g0 : us[0]? = some u0) (g1 : us[1]? = some u1) (g2 : us[2]? = some u2) : us = [u0, u1, u2] := by
  match us, hl with
  | [p, q, r], _ => simp at g0 g1 g2; rw [g0, g1, g2]
theorem within_fc (a b c : Int) : FC Try.prog 106 [] [vv (I6 a), vv (I6 b), vv (I6 c)] [] (vv (.bool (inB a b c))) [] :=
  fc_of_calls fun w η ω us hm ⟨hl, ha⟩ => by
    obtain ⟨u0, g0, d0⟩ := ha 0 _ rfl
    obtain ⟨u1, g1, d1⟩ := ha 1 _ rfl
    obtain ⟨u2, g2, d2⟩ := ha 2 _ rfl
    have d0 : u0 = I6 a := d0
    have d1 : u1 = I6 b := d1
    have d2 : u2 = I6 c := d2
    subst d0 d1 d2
    rw [us_three hl g0 g1 g2]
    refine (within_any a b c w).mono ?_
    rintro e w' ⟨rfl, rfl⟩
    exact ⟨rfl, Below.refl _ _⟩
end Go.Proofs.Ytlpeghdbjfnenaa

/- CoxeterNumber. guards: -/
namespace Go.Proofs.Ytlpeghdbjfnenaa
open Go.RowKit

def maskC (zs : List Int) (m : Int) : Int := if isDiag zs = true then (if inB m 0 (allN zs) = true then (if finB zs m.toNat = true then 0 else 5) else 2) else 1
theorem in_fc (a b c : Int) : FC Try.prog 101 [] [vv (I6 a), vv (I6 b), vv (I6 c)] [] (vv (.bool (inB a b c))) [] :=
  fc_of_calls fun w η ω us hm ⟨hl, ha⟩ => by
    obtain ⟨u0, g0, d0⟩ := ha 0 _ rfl
    obtain ⟨u1, g1, d1⟩ := ha 1 _ rfl
    obtain ⟨u2, g2, d2⟩ := ha 2 _ rfl
    have d0 : u0 = I6 a := d0
    have d1 : u1 = I6 b := d1
    have d2 : u2 = I6 c := d2
    subst d0 d1 d2
    rw [us_three hl g0 g1 g2]
    refine (specIn_any a b c w).mono ?_
    rintro e w' ⟨rfl, rfl⟩
    exact ⟨rfl, Below.refl _ _⟩
set_option maxRecDepth 100000 in
theorem maskS_fc (zs : List Int) (L : Nat) (m : Int) (hL : zs.length = L) (hn : L ≤ 4398046511104) : FC Try.prog 83 [(1003, wRo zs)] [o1 (.sl 1003 0 L), vv (I6 m)] [] (vv (I6 (maskC zs m))) [] := by
  have hI := diagS_fc zs L hL hn
  unfold maskC
  refine fc_enter (nt := 20) Try.func83 rfl rfl (by simp) fun w0 ω0 => ?_
  cases hd : isDiag zs with
  | false =>
    rw [hd] at hI
    rw [if_neg (by simp)]
    (refine goes_seq ?_; refine goes_region ?_; apply run_step rfl; (exact stp_assign rfl rfl); refine run_nil ?_; refine fin_seq ?_; refine goes_seq ?_; refine goes_block ?_; refine goes_seq ?_; refine goes_region ?_; apply run_step rfl; (exact stp_move rfl rfl); apply run_step rfl; (apply call_gate 59; exact stp_callR hI (by as_aux_lemma => kernel_rfl) rfl rfl ⟨rfl, trivial⟩ ⟨⟨_, rfl, .inl rfl⟩, trivial⟩ rfl rfl); apply run_step rfl; (exact stp_not rfl rfl); apply run_step rfl; (exact stp_assign rfl rfl); refine run_nil ?_; refine fin_seq ?_)
    refine goes_cond rfl (fun _ => ?_) (fun e => by cases e)
    (refine goes_seq ?_; refine goes_region ?_; apply run_step rfl; (exact stp_assign rfl rfl); refine run_nil ?_; refine fin_seq ?_; refine goes_ret ?_; refine fin_ret_block ?_; refine fin_ret_then ?_)
    exact fin_ret1 (.inl rfl) rfl (.tmp rfl) trivial trivial
  | true =>
    rw [hd] at hI
    rw [if_pos rfl]
    have h4 : L ≤ 4 := by have := isDiag_len hd; omega
    have hW := wholeS_fc zs L hL h4
    have hIn := in_fc m 0 (allN zs)
    (refine goes_seq ?_; refine goes_region ?_; apply run_step rfl; (exact stp_assign rfl rfl); refine run_nil ?_; refine fin_seq ?_; refine goes_seq ?_; refine goes_block ?_; refine goes_seq ?_; refine goes_region ?_; apply run_step rfl; (exact stp_move rfl rfl); apply run_step rfl; (apply call_gate 59; exact stp_callR hI (by as_aux_lemma => kernel_rfl) rfl rfl ⟨rfl, trivial⟩ ⟨⟨_, rfl, .inl rfl⟩, trivial⟩ rfl rfl); apply run_step rfl; (exact stp_not rfl rfl); apply run_step rfl; (exact stp_assign rfl rfl); refine run_nil ?_; refine fin_seq ?_)
    refine goes_cond rfl (fun e => by cases e) (fun _ => ?_)
    (refine goes_seq ?_; refine goes_region ?_; apply run_step rfl; (exact stp_move rfl rfl); apply run_step rfl; (exact stp_move rfl rfl); apply run_step rfl; (first | (apply call_gate 61; exact stp_callR hW (by as_aux_lemma => kernel_rfl) rfl rfl ⟨rfl, trivial⟩ ⟨⟨_, rfl, .inl rfl⟩, trivial⟩ rfl rfl) | (apply call_gate 101; exact stp_callR hIn (by as_aux_lemma => kernel_rfl) rfl rfl ⟨rfl, rfl, rfl, trivial⟩ trivial rfl rfl)); apply run_step rfl; (first | (apply call_gate 61; exact stp_callR hW (by as_aux_lemma => kernel_rfl) rfl rfl ⟨rfl, trivial⟩ ⟨⟨_, rfl, .inl rfl⟩, trivial⟩ rfl rfl) | (apply call_gate 101; exact stp_callR hIn (by as_aux_lemma => kernel_rfl) rfl rfl ⟨rfl, rfl, rfl, trivial⟩ trivial rfl rfl)); apply run_step rfl; (exact stp_not rfl rfl); apply run_step rfl; (exact stp_assign rfl rfl); refine run_nil ?_; refine fin_seq ?_)
    refine goes_cond rfl (fun h => ?_) (fun h => ?_)
    · have hb : inB m 0 (allN zs) = false := by simpa using h
      rw [hb, if_neg (by simp)]
      (refine goes_seq ?_; refine goes_region ?_; apply run_step rfl; (exact stp_assign rfl rfl); refine run_nil ?_; refine fin_seq ?_; refine goes_ret ?_; refine fin_ret_block ?_; refine fin_ret_then ?_)
      exact fin_ret1 (.inl rfl) rfl (.tmp rfl) trivial trivial
    have hb : inB m 0 (allN zs) = true := by simpa using h
    rw [hb, if_pos rfl]
    have hlt := allN_lt (zs := zs) (by omega)
    have hbb := inB_true.1 hb
    obtain ⟨k, hk⟩ := Int.eq_ofNat_of_zero_le hbb.1
    subst hk
    rw [Int.toNat_natCast]
    have hK := kindK_fc zs L k hL hd (by omega)
    (refine goes_seq ?_; refine goes_region ?_; apply run_step rfl; (exact stp_move rfl rfl); apply run_step rfl; (exact stp_move rfl rfl); apply run_step rfl; (apply call_gate 60; exact stp_callR hK (by as_aux_lemma => kernel_rfl) rfl rfl ⟨rfl, rfl, trivial⟩ ⟨⟨_, rfl, .inl rfl⟩, trivial⟩ rfl rfl); apply run_step rfl; (exact stp_bin rfl rfl rfl rfl); apply run_step rfl; (exact stp_assign rfl rfl); refine run_nil ?_; refine fin_seq ?_)
    refine goes_cond rfl (fun h => ?_) (fun h => ?_)
    · have hf : finB zs k = false := by
        have : ((kindN (comps zs k) (comps zs k).length : Nat) : Int) ≠ 0 := by simpa using h
        unfold finB; rw [decide_eq_false_iff_not]; omega
      rw [hf, if_neg (by simp)]
      (refine goes_seq ?_; refine goes_region ?_; apply run_step rfl; (exact stp_assign rfl rfl); refine run_nil ?_; refine fin_seq ?_; refine goes_ret ?_; refine fin_ret_block ?_; refine fin_ret_then ?_)
      exact fin_ret1 (.inl rfl) rfl (.tmp rfl) trivial trivial
    have hf : finB zs k = true := by
      have : ((kindN (comps zs k) (comps zs k).length : Nat) : Int) = 0 := by simpa using h
      unfold finB; rw [decide_eq_true_iff]; omega
    rw [hf, if_pos rfl]
    (refine goes_skip ?_; refine fin_block ?_; refine fin_seq ?_; refine goes_seq ?_; refine goes_region ?_; apply run_step rfl; (exact stp_assign rfl rfl); refine run_nil ?_; refine fin_seq ?_; refine goes_ret ?_)
    exact fin_ret1 (.inl rfl) rfl (.tmp rfl) trivial trivial
/-- the error of a diagram that has to be finite -/
def finC (zs : List Int) : Int := maskC zs (allN zs)
set_option maxRecDepth 100000 in
theorem finS_fc (zs : List Int) (L : Nat) (hL : zs.length = L) (hn : L ≤ 4398046511104) : FC Try.prog 78 [(1003, wRo zs)] [o1 (.sl 1003 0 L)] [] (vv (I6 (finC zs))) [] := by
  have hI := diagS_fc zs L hL hn
  refine fc_enter (nt := 10) Try.func78 rfl rfl (by simp) fun w0 ω0 => ?_
  cases hd : isDiag zs with
  | false =>
    rw [hd] at hI
    have e : finC zs = 1 := by unfold finC maskC; rw [hd, if_neg (by simp)]
    rw [e]
    (refine goes_seq ?_; refine goes_region ?_; apply run_step rfl; (exact stp_assign rfl rfl); refine run_nil ?_; refine fin_seq ?_; refine goes_seq ?_; refine goes_seq ?_; refine goes_region ?_; apply run_step rfl; (exact stp_move rfl rfl); apply run_step rfl; (apply call_gate 59; exact stp_callR hI (by as_aux_lemma => kernel_rfl) rfl rfl ⟨rfl, trivial⟩ ⟨⟨_, rfl, .inl rfl⟩, trivial⟩ rfl rfl); apply run_step rfl; (exact stp_not rfl rfl); refine run_nil ?_; refine fin_seq ?_)
    refine goes_cond rfl (fun _ => ?_) (fun e => by cases e)
    (refine goes_seq ?_; refine goes_region ?_; apply run_step rfl; (exact stp_assign rfl rfl); refine run_nil ?_; refine fin_seq ?_; refine goes_ret ?_; refine fin_ret_then ?_)
    exact fin_ret1 (.inl rfl) rfl (.tmp rfl) trivial trivial
  | true =>
    rw [hd] at hI
    have h4 : L ≤ 4 := by have := isDiag_len hd; omega
    have hW := wholeS_fc zs L hL h4
    have hM := maskS_fc zs L (allN zs) hL hn
    (refine goes_seq ?_; refine goes_region ?_; apply run_step rfl; (exact stp_assign rfl rfl); refine run_nil ?_; refine fin_seq ?_; refine goes_seq ?_; refine goes_seq ?_; refine goes_region ?_; apply run_step rfl; (exact stp_move rfl rfl); apply run_step rfl; (apply call_gate 59; exact stp_callR hI (by as_aux_lemma => kernel_rfl) rfl rfl ⟨rfl, trivial⟩ ⟨⟨_, rfl, .inl rfl⟩, trivial⟩ rfl rfl); apply run_step rfl; (exact stp_not rfl rfl); refine run_nil ?_; refine fin_seq ?_)
    refine goes_cond rfl (fun e => by cases e) (fun _ => ?_)
    (refine goes_skip ?_; refine fin_seq ?_; refine goes_seq ?_; refine goes_region ?_; apply run_step rfl; (exact stp_move rfl rfl); apply run_step rfl; (exact stp_move rfl rfl); apply run_step rfl; (first | (apply call_gate 61; exact stp_callR hW (by as_aux_lemma => kernel_rfl) rfl rfl ⟨rfl, trivial⟩ ⟨⟨_, rfl, .inl rfl⟩, trivial⟩ rfl rfl) | (apply call_gate 83; exact stp_callR hM (by as_aux_lemma => kernel_rfl) rfl rfl ⟨rfl, rfl, trivial⟩ ⟨⟨_, rfl, .inl rfl⟩, trivial⟩ rfl rfl)); apply run_step rfl; (first | (apply call_gate 61; exact stp_callR hW (by as_aux_lemma => kernel_rfl) rfl rfl ⟨rfl, trivial⟩ ⟨⟨_, rfl, .inl rfl⟩, trivial⟩ rfl rfl) | (apply call_gate 83; exact stp_callR hM (by as_aux_lemma => kernel_rfl) rfl rfl ⟨rfl, rfl, trivial⟩ ⟨⟨_, rfl, .inl rfl⟩, trivial⟩ rfl rfl)); apply run_step rfl; (exact stp_assign rfl rfl); refine run_nil ?_; refine fin_seq ?_; refine goes_ret ?_)
    exact fin_ret1 (.inl rfl) rfl (.tmp rfl) trivial trivial
theorem finC_in (zs : List Int) (hd : isDiag zs = true) : finC zs = if finB zs (allN zs) = true then 0 else 5 := by
  unfold finC maskC
  rw [if_pos hd, if_pos (inB_true.2 ⟨by omega, by omega⟩), Int.toNat_natCast]
def coxNR (zs : List Int) : Int := if finC zs = 0 then (mulA zs (allN zs) : Int) else 0
set_option maxRecDepth 100000 in
theorem common_fc (a b : Nat) (ha : a < 1000000000000) (hb : b < 1000000000000) : FC Try.prog 81 [] [vv (I6 a), vv (I6 b)] [] (vv (I6 (Nat.gcd a b))) [] := by
  refine fc_enter (nt := 14) Try.func81 rfl rfl (by simp) fun w0 ω0 => ?_
  (refine goes_seq ?_; refine goes_region ?_; apply run_step rfl; (exact stp_assign rfl rfl); refine run_nil ?_; refine fin_seq ?_; refine goes_seq ?_; refine goes_block ?_)
  refine goes_loop (fun q : Nat × Nat => St.of [(0, vv (I6 q.1)), (1, vv (I6 q.2))] []) (fun q => Nat.gcd q.1 q.2 = Nat.gcd a b ∧ q.1 < 1000000000000 ∧ q.2 < 1000000000000) (fun q => q.2) (a, b) ⟨rfl, ha, hb⟩ (Wk.of ⟨rfl, rfl, trivial⟩ trivial trivial) ?_
  rintro ⟨c, d⟩ ⟨hg, hc, hd⟩
  dsimp only at hg hc hd ⊢
  (refine goes_seq ?_; refine goes_seq ?_; refine goes_region ?_; apply run_step rfl; (exact stp_move rfl rfl); apply run_step rfl; (exact stp_bin rfl rfl rfl rfl); refine run_nil ?_; refine fin_seq ?_)
  refine goes_cond rfl (fun h => ?_) (fun h => ?_)
  · have hd0 : 0 < d := by
      have : (0 : Int) < d := of_decide_eq_true h
      omega
    have hlt := Nat.mod_lt c hd0
    have hg' : Nat.gcd d (c % d) = Nat.gcd a b := by rw [← hg, Nat.gcd_comm c d, Nat.gcd_rec d c, Nat.gcd_comm]
    (refine goes_skip ?_; refine fin_seq ?_; refine goes_block ?_; refine goes_seq ?_; refine goes_region ?_; apply run_step rfl; (exact stp_move rfl rfl); apply run_step rfl; (exact stp_move rfl rfl); apply run_step rfl; (exact stp_remN rfl rfl rfl hd0 hc); apply run_step rfl; (exact stp_assign rfl rfl); refine run_nil ?_; refine fin_seq ?_; refine goes_seq ?_; refine goes_region ?_; apply run_step rfl; (exact stp_move rfl rfl); apply run_step rfl; (exact stp_assign rfl rfl); refine run_nil ?_; refine fin_seq ?_; refine goes_region ?_; apply run_step rfl; (exact stp_move rfl rfl); apply run_step rfl; (exact stp_assign rfl rfl); refine run_nil ?_; refine fin_block ?_)
    exact fin_round (d, c % d) ⟨hg', hd, by dsimp only; omega⟩ hlt (Wk.of ⟨rfl, rfl, trivial⟩ trivial trivial)
  · have hd0 : d = 0 := by
      have : ¬ (0 : Int) < d := of_decide_eq_false h
      omega
    subst hd0
    have hg' : c = Nat.gcd a b := by rw [← hg, Nat.gcd_zero_right]
    rw [← hg']
    (refine goes_exit ?_; refine fin_exit_then ?_; refine fin_exit_then ?_; refine fin_exit_eq ?_; refine fin_seq ?_; refine goes_seq ?_; refine goes_region ?_; apply run_step rfl; (exact stp_move rfl rfl); apply run_step rfl; (exact stp_assign rfl rfl); refine run_nil ?_; refine fin_seq ?_; refine goes_ret ?_)
    exact fin_ret1 (.inl rfl) rfl (.tmp rfl) trivial trivial
end Go.Proofs.Ytlpeghdbjfnenaa

/- A memory of names: a vector takes another name; an append of nothing. No program in sight. -/
namespace Go.Proofs.Ytlpeghdbjfnenaa
open Go.RowKit

section
variable {P : Program} {nt : Nat} {S : St} {t : Nat} {ty : TypeId} {ps : String} {af : Array Edge} {gd : Option (Nat × Bool)} {x y : Operand}
theorem wk_ren {x y : Nm} {s E k m : Nat} {vs : List Value} (hc : S.ch x = some ⟨true, E, k, .vals vs⟩) (hs0 : S.sl s = some (o1 (.sl x 0 m))) :
    Wk S (((S.rm x).new y ⟨true, E, k, .vals vs⟩).put s (o1 (.sl y 0 m))) := by
  refine ⟨fun w0 ω0 nt a w ⟨η, ω, h⟩ => ?_⟩
  obtain ⟨u, hu, hdu⟩ := h.slots s _ hs0
  have hdu : Den1 η (.sl x 0 m) u := hdu
  obtain ⟨hd, e1, e2, e3⟩ := h.chunk hc
  have e3 : VecO ω w (x, none) hd E vs.length (cellsOK η ω w true x (.vals vs)) := e3
  obtain ⟨ao, rfl, q1, _⟩ := hdu.2 hd e1
  let ω' : Own? := fun b => if ω b = some (x, none) then some (y, none) else ω b
  have calm : Calm (S.rm x) ω w ω' w := ⟨rfl, rfl, rfl, Nat.le_refl _, fun b _ hl => ⟨rfl, by
    have h1 : ω b ≠ some (x, none) := by
      rcases hl with h0 | ⟨y, j, c, h0, h1⟩
      · rw [h0]; simp
      · rw [h0]; intro e; simp at e; rw [e.1, ch_rm, if_pos rfl] at h1; cases h1
    exact if_neg h1⟩⟩
  have h2 := (h.drop x).lay (x := y) (c := ⟨true, E, k, .vals vs⟩) (hd := hd) (r := fun _ => ⟨none, 0, 1⟩) calm ⟨e2, by
    show VecO ω' w (y, none) hd E vs.length _
    rcases e3 with h0 | ⟨b, o, cs, f1, f2, f3, f4, f5, f6, f7⟩
    · exact .inl h0
    · exact .inr ⟨b, o, cs, f1, if_pos f2, f3, f4, f5, f6, f7⟩⟩
  refine ⟨_, ω', { h2 with slots := fun t' av ht' => ?_ }⟩
  rw [sl_put] at ht'
  by_cases e : t' = s
  · subst e
    rw [if_pos rfl] at ht'
    obtain rfl := Option.some.inj ht'
    refine ⟨_, hu, ⟨_, _, rfl⟩, fun hd' he => ?_⟩
    simp [Env.new] at he
    subst he
    exact ⟨_, rfl, fun _ => q1 rfl, fun h0 => absurd h0 (by omega)⟩
  · rw [if_neg e] at ht'
    exact h2.slots t' av ht'
/-- an append of nothing -/
theorem stp_app0 {T E n q off len : Nat} {c : Ch} {zs : List Int} (ht : Nat.blt t nt = true) (hT : elZ P T E 1 = true) (hx : S.op x = some (o1 (.sl n 0 len))) (hc : S.ch n = some c) (hce : c = ⟨true, E, 1, .vals (ivals zs)⟩) (hl : zs.length = len) (hy : S.op y = some (o1 (.sl q off 0))) :
    Stp P nt ⟨some t, .call { callee := .builtin .append, args := #[x, y], argTypes := #[T, T] }, ty, ps, af, gd⟩ S (S.put t (o1 (.sl n 0 len))) :=
  Stp.pure rfl ht fun w0 ω0 η ω a w hs => by
    subst hce hl
    obtain ⟨hd, e1, e2, e3⟩ := hs.chunk hc
    have e2 : hd.k = 1 := e2
    have e3 : VecO ω w (n, none) hd E (ivals zs).length (cellsOK η ω w true n (.vals (ivals zs))) := e3
    have hu : Den1 η (.sl n 0 zs.length) (a.eval x) := hs.opv hx
    obtain ⟨ao, hev, _, _⟩ := hu.2 hd e1
    rw [Nat.sub_zero] at hev
    have hroom : zs.length ≤ hd.c := by
      rcases e3 with ⟨_, _, h3⟩ | ⟨b, o, cs, f1, f2, f3, f4, f5, f6, f7⟩
      · rw [ivals_len] at h3; omega
      · rw [ivals_len, e2] at f5; omega
    obtain ⟨⟨ay, cy, hey⟩, _⟩ : Den1 η (.sl q off 0) (a.eval y) := hs.opv hy
    obtain ⟨i, z, g1, g2, g3, g4, g5, g6⟩ := elZ_spec hT
    refine ⟨.slice ao zs.length hd.c, ?_, by rw [← hev]; exact hu⟩
    cases ay <;> cases ao <;> simp [execOp, resolve, invoke, builtin, hev, hey, Builtin.append_, run_underlying g1, sizeOf, typeInfo, g2, Builtin.lenOf, hroom, Builtin.firstCells, loadCells, loadCellsFrom, storeCells]
end
end Go.Proofs.Ytlpeghdbjfnenaa

/- All degrees of a finite diagram: the reference's. guards: -/
namespace Go.Proofs.Ytlpeghdbjfnenaa
open Go.RowKit

theorem reads_dropI {S : St} {n : Nm} {at_ m : Nat} {c : Ch} {zs : List Int} (hc : S.ch n = some c) (hd : c.d = .vals (ivals zs)) (hk : c.k = 1) (hl : at_ + m = zs.length) : Reads S (.sl n at_ m) m 1 (ivals (zs.drop at_)) := by
  have := reads_vals (S := S) (n := n) (off := at_) (m := m) (k := 1) hc hd hk rfl (by rw [ivals_len]; omega)
  rwa [Nat.mul_one, Nat.mul_one, show ((ivals zs).drop at_).take m = ivals (zs.drop at_) by
    unfold ivals; rw [← List.map_drop, List.take_of_length_le (by simp; omega)]] at this
theorem reads_takeI {S : St} {n : Nm} {m : Nat} {c : Ch} {zs : List Int} (hc : S.ch n = some c) (hd : c.d = .vals (ivals zs)) (hk : c.k = 1) (hl : m ≤ zs.length) : Reads S (.sl n 0 m) m 1 (ivals (zs.take m)) := by
  have := reads_vals (S := S) (n := n) (off := 0) (m := m) (k := 1) hc hd hk rfl (by rw [ivals_len]; omega)
  rwa [Nat.zero_mul, List.drop_zero, Nat.mul_one, show (ivals zs).take m = ivals (zs.take m) by unfold ivals; rw [List.map_take]] at this
theorem sortL_asc (A : List Int) : (sortL A).Pairwise (· ≤ ·) := by
  have := List.pairwise_mergeSort (le := fun a b : Int => decide (a ≤ b)) (fun a b c h1 h2 => by simp at *; omega) (fun a b => by simp; omega) A
  exact this.imp (by simp)
theorem ins_ok {A : List Int} {e : Int} {i : Nat} (hi : i ≤ (sortL A).length) (h1 : ∀ x, x < i → iget (sortL A) x ≤ e) (h2 : i = (sortL A).length ∨ e < iget (sortL A) i) :
    (sortL A).take i ++ ([e] ++ (sortL A).drop i) = sortL (A ++ [e]) := by
  have hs := sortL_asc A
  have hp : (sortL A).Perm A := List.mergeSort_perm A _
  generalize sortL A = l at *
  apply sortL_uniq
  · have q1 : (l.take i ++ ([e] ++ l.drop i)).Perm (e :: (l.take i ++ l.drop i)) := by
      rw [List.singleton_append]; exact List.perm_middle
    rw [List.take_append_drop] at q1
    exact q1.trans ((hp.cons e).trans (List.perm_append_singleton e A).symm)
  · rw [← List.take_append_drop i l, List.pairwise_append] at hs
    obtain ⟨s1, s2, s3⟩ := hs
    have ha : ∀ a ∈ l.take i, a ≤ e := fun a ha => by
      obtain ⟨x, hx, rfl⟩ := List.getElem_of_mem ha
      have hx' : x < i := by rw [List.length_take] at hx; omega
      have := h1 x hx'
      rw [iget_lt (by omega)] at this
      rw [List.getElem_take]; exact this
    have hb : ∀ b ∈ l.drop i, e ≤ b := fun b hb => by
      rcases h2 with h2 | h2
      · rw [List.drop_of_length_le (by omega)] at hb; cases hb
      · have hil : i < l.length := by
          rcases Nat.lt_or_ge i l.length with h | h
          · exact h
          · rw [List.drop_of_length_le h] at hb; cases hb
        rw [iget_lt hil] at h2
        rw [List.drop_eq_getElem_cons hil] at s2 hb
        rcases List.mem_cons.1 hb with rfl | hb
        · omega
        · have := (List.pairwise_cons.1 s2).1 b hb; omega
    rw [List.pairwise_append, List.singleton_append, List.pairwise_cons]
    refine ⟨s1, ⟨hb, s2⟩, fun a h3 b h4 => ?_⟩
    rcases List.mem_cons.1 h4 with rfl | h4
    · exact ha a h3
    · exact s3 a h3 b h4
section
variable {P : Program} {nt : Nat} {S : St} {t : Nat} {ty : TypeId} {ps : String} {af : Array Edge} {gd : Option (Nat × Bool)} {x : Operand}
theorem stp_sliceM {T : TypeId} {n : Nm} {len l h m : Nat} {c : Ch} {lo hi : Option Operand} (hm : l + m = h) (ht : Nat.blt t nt = true) (hx : S.op x = some (o1 (.sl n 0 len))) (hc : S.ch n = some c) (hk : c.k = 1) (hT : elemB P T 1 = true)
    (hlo : bnd S lo 0 l) (hhi : bnd S hi len h) (hhl : h ≤ len) (hl : len ≤ c.d.len) : Stp P nt ⟨some t, .slice T x lo hi none, ty, ps, af, gd⟩ S (S.put t (o1 (.sl n l m))) := by
  have := stp_slice (P := P) (nt := nt) (ty := ty) (ps := ps) (af := af) (gd := gd) (k := 1) ht hx hc hk hT (by omega) hlo hhi (by omega) hhl (by omega)
  rwa [Nat.zero_add, show h - l = m by omega] at this
end
set_option maxRecDepth 100000 in
set_option maxHeartbeats 4000000 in
theorem allS_fc (zs : List Int) (L mask : Nat) (hL : zs.length = L) (hd : isDiag zs = true) (hmk : mask < 1000) (hf : finB zs mask = true) :
    FC Try.prog 87 [(1003, wRo zs)] [o1 (.sl 1003 0 L), vv (I6 mask)] [(2300, leOw (allD zs mask))] (o1 (.sl 2300 0 (catD (comps zs mask) (comps zs mask).length).length)) [] := by
  have h4 : L ≤ 4 := by have := isDiag_len hd; omega
  have hC := (parts_fc zs L mask hL h4 hmk).nm [(1003, 1003), (8, 14)] (by kernel_rfl)
  have hC : FC Try.prog 79 [(1003, wRo zs)] [o1 (.sl 1003 0 L), vv (I6 mask)] [(14, rwOw (comps zs mask))] (o1 (.sl 14 0 (comps zs mask).length)) [] := hC
  have hlab : ∀ k, k < (comps zs mask).length → Labs (cget (comps zs mask) k).2 := fun k hk => labs_of hd hk
  have hcs : csum (comps zs mask) ≤ 5 := by have := (comps_ok zs mask).sum; omega
  have hnp : (comps zs mask).length ≤ 5 := by have := csum_len (comps zs mask); omega
  have hfa := (fin_all (ps := comps zs mask) (comps zs mask).length (Nat.le_refl _)).1 (by simpa [finB] using hf)
  have hcl : ∀ j, j ≤ (comps zs mask).length → (catD (comps zs mask) j).length ≤ 5 := fun j hj => Nat.le_trans (catD_len hlab j hj) (Nat.le_trans (csum_take _ _) hcs)
  unfold allD
  refine fc_enter (nt := 67) Try.func87 rfl rfl (by simp) fun w0 ω0 => ?_
  generalize comps zs mask = ps at *
  generalize hN : ps.length = N at *
  have hrx := rowsP_len ps
  rw [hN] at hrx
  (refine goes_seq ?_; refine goes_region ?_; apply run_step rfl; (exact stp_assign rfl rfl); refine run_nil ?_; refine fin_seq ?_; refine goes_seq ?_; refine goes_region ?_; apply run_step rfl; (exact stp_move rfl rfl); apply run_step rfl; (exact stp_move rfl rfl); apply run_step rfl; (apply call_gate 79; exact stp_callN hC (by as_aux_lemma => kernel_rfl) rfl rfl ⟨rfl, rfl, trivial⟩ ⟨⟨_, rfl, .inl rfl⟩, trivial⟩ rfl rfl rfl); apply run_step rfl; (exact stp_lit0 (E := 2) (k := 1) rfl (by as_aux_lemma => kernel_rfl)); apply run_step rfl; (exact stp_assign rfl rfl); apply run_step rfl; (exact stp_assign rfl rfl); refine run_nil ?_; refine fin_seq ?_; refine goes_seq ?_; refine goes_seq ?_; refine goes_region ?_; apply run_step rfl; (exact stp_assign rfl rfl); refine run_nil ?_; refine fin_seq ?_; refine goes_block ?_)
  refine goes_loop (fun j : Nat => St.of [(5, o1 (.sl 14 0 N)), (6, o1 (.sl 2300 0 (catD ps j).length)), (7, vv (I6 j))] [(14, rwOw ps), (2300, leOw (sortL (catD ps j)))]) (fun j => j ≤ N) (fun j => N - j) 0 (Nat.zero_le _) (Wk.trans (wk_ren (x := 15) (y := 2300) (s := 6) (m := 0) rfl rfl) (Wk.of ⟨rfl, rfl, rfl, trivial⟩ ⟨rfl, congrArg (fun z => some (leOw z)) (show [] = sortL (catD ps 0) by simp [catD, sortL]), trivial⟩ trivial)) ?_
  rintro j hj
  (refine goes_seq ?_; refine goes_seq ?_; refine goes_region ?_; apply run_step rfl; (exact stp_move rfl rfl); apply run_step rfl; (exact stp_move rfl rfl); apply run_step rfl; (exact stp_len rfl rfl rfl (by as_aux_lemma => kernel_rfl)); apply run_step rfl; (exact stp_bin rfl rfl rfl rfl); refine run_nil ?_; refine fin_seq ?_)
  refine goes_if rfl (fun hlt => ?_) (fun hlt => ?_)
  · have hjN : j < N := by omega
    have hjp : j < ps.length := by omega
    have hL := hlab j hjN
    have hne := hfa j hjN
    have hcat := catD_succ hjp
    have hc5 := hcl (j + 1) (by omega)
    have hrj := irowsP_get hjp
    have hrg := rowsP_get hjp
    have hjr : j < (rowsP ps).length := by omega
    have hix : N ≤ (irows (rowsP ps)).length := by rw [irows_len, hrx]; exact Nat.le_refl _
    generalize (cget ps j).2 = labs at *
    have hm4 := hL.1
    have hlm : (ivals labs).length = labs.length := ivals_len _
    rcases degS_fc (rowsP ps) j labs.length labs hjr hrg rfl hm4 with ⟨hnil, _⟩ | hD
    · exact absurd (by rw [hnil]; rfl) hne
    have hD := hD.nm [(1000, 14), (2100, 26)] (by kernel_rfl)
    have hD : FC Try.prog 80 [(14, rowsRo (rowsP ps))] [o1 (.esl 14 j 0 labs.length)] [(26, leOw (degs labs))] (o1 (.sl 26 0 (degs labs).length)) [] := hD
    rw [hcat, List.length_append] at hc5
    generalize hA : catD ps j = A at *
    generalize hM : degs labs = ds at *
    (refine goes_skip ?_; refine fin_seq ?_; refine goes_seq ?_; refine goes_block ?_; refine goes_seq ?_; refine goes_region ?_; apply run_step rfl; (exact stp_move rfl rfl); apply run_step rfl; (exact stp_move rfl rfl); apply run_step rfl; (first | exact stp_ix (j := j) rfl rfl rfl rfl rfl (by as_aux_lemma => kernel_rfl) rfl hjN hix | exact stp_loadR rfl (by as_aux_lemma => kernel_rfl) rfl rfl rfl hrj hlm | (apply call_gate 80; exact stp_callN hD (by as_aux_lemma => kernel_rfl) rfl rfl ⟨rfl, trivial⟩ ⟨⟨_, rfl, .inr rfl⟩, trivial⟩ rfl rfl rfl)); apply run_step rfl; (first | exact stp_ix (j := j) rfl rfl rfl rfl rfl (by as_aux_lemma => kernel_rfl) rfl hjN hix | exact stp_loadR rfl (by as_aux_lemma => kernel_rfl) rfl rfl rfl hrj hlm | (apply call_gate 80; exact stp_callN hD (by as_aux_lemma => kernel_rfl) rfl rfl ⟨rfl, trivial⟩ ⟨⟨_, rfl, .inr rfl⟩, trivial⟩ rfl rfl rfl)); apply run_step rfl; (first | exact stp_ix (j := j) rfl rfl rfl rfl rfl (by as_aux_lemma => kernel_rfl) rfl hjN hix | exact stp_loadR rfl (by as_aux_lemma => kernel_rfl) rfl rfl rfl hrj hlm | (apply call_gate 80; exact stp_callN hD (by as_aux_lemma => kernel_rfl) rfl rfl ⟨rfl, trivial⟩ ⟨⟨_, rfl, .inr rfl⟩, trivial⟩ rfl rfl rfl)); apply run_step rfl; (exact stp_assign rfl rfl); refine run_nil ?_; refine fin_seq ?_; refine goes_seq ?_; refine goes_region ?_; apply run_step rfl; (exact stp_assign rfl rfl); refine run_nil ?_; refine fin_seq ?_; refine goes_block ?_)
    refine goes_loop (fun k : Nat => St.of [(5, o1 (.sl 14 0 N)), (6, o1 (.sl 2300 0 (A.length + k))), (7, vv (I6 j)), (8, o1 (.sl 26 0 ds.length)), (9, vv (I6 k))] [(14, rwOw ps), (2300, leOw (sortL (A ++ ds.take k))), (26, leOw ds)]) (fun k => k ≤ ds.length) (fun k => ds.length - k) 0 (Nat.zero_le _) (Wk.of ⟨rfl, rfl, rfl, rfl, rfl, trivial⟩ ⟨rfl, congrArg (fun z => some (leOw (sortL z))) (by rw [List.take_zero, List.append_nil]), rfl, trivial⟩ trivial) ?_
    rintro k hk
    (refine goes_seq ?_; refine goes_seq ?_; refine goes_region ?_; apply run_step rfl; (exact stp_move rfl rfl); apply run_step rfl; (exact stp_move rfl rfl); apply run_step rfl; (exact stp_len rfl rfl rfl (by as_aux_lemma => kernel_rfl)); apply run_step rfl; (exact stp_bin rfl rfl rfl rfl); refine run_nil ?_; refine fin_seq ?_)
    refine goes_if rfl (fun hlt => ?_) (fun hlt => ?_)
    · have hkm : k < ds.length := by omega
      have hln : (sortL (A ++ ds.take k)).length = A.length + k := by rw [sortL_len, List.length_append, List.length_take]; omega
      have hol : A.length + k ≤ (ivals (sortL (A ++ ds.take k))).length := by rw [ivals_len, hln]; exact Nat.le_refl _
      have hdl : ds.length ≤ (ivals ds).length := by rw [ivals_len]; exact Nat.le_refl _
      have hg2 : (ivals ds)[k]? = some (I6 (iget ds k)) := ivals_get hkm
      (refine goes_skip ?_; refine fin_seq ?_; refine goes_seq ?_; refine goes_block ?_; refine goes_seq ?_; refine goes_region ?_; apply run_step rfl; (exact stp_assign rfl rfl); refine run_nil ?_; refine fin_seq ?_; refine goes_seq ?_; refine goes_block ?_)
      refine goes_loop (fun i : Nat => St.of [(5, o1 (.sl 14 0 N)), (6, o1 (.sl 2300 0 (A.length + k))), (7, vv (I6 j)), (8, o1 (.sl 26 0 ds.length)), (9, vv (I6 k)), (10, vv (I6 i))] [(14, rwOw ps), (2300, leOw (sortL (A ++ ds.take k))), (26, leOw ds)]) (fun i => i ≤ A.length + k ∧ ∀ x, x < i → iget (sortL (A ++ ds.take k)) x ≤ iget ds k) (fun i => A.length + k - i) 0 ⟨Nat.zero_le _, fun x hx => absurd hx (by omega)⟩ (Wk.of ⟨rfl, rfl, rfl, rfl, rfl, rfl, trivial⟩ ⟨rfl, rfl, rfl, trivial⟩ trivial) ?_
      rintro at_ ⟨hat, hall⟩
      have hstop : (at_ = A.length + k ∨ iget ds k < iget (sortL (A ++ ds.take k)) at_) → (sortL (A ++ ds.take k)).take at_ ++ ([iget ds k] ++ (sortL (A ++ ds.take k)).drop at_) = sortL (A ++ ds.take (k + 1)) := fun h => by
        rw [ins_ok (by rw [hln]; exact hat) hall (by rw [hln]; exact h), List.append_assoc, List.take_add_one, List.getElem?_eq_getElem hkm, iget_lt hkm]; rfl
      by_cases hatl : at_ < A.length + k
      · have hb1 : binI .i64 .lss (at_ : Int) ((A.length + k : Nat) : Int) = some (.bool true) := by simp [binI]; omega
        have hg1 : (ivals (sortL (A ++ ds.take k)))[at_]? = some (I6 (iget (sortL (A ++ ds.take k)) at_)) := ivals_get (by omega)
        by_cases hle : iget (sortL (A ++ ds.take k)) at_ ≤ iget ds k
        · have hb2 : binI .i64 .leq (iget (sortL (A ++ ds.take k)) at_) (iget ds k) = some (.bool true) := by simp [binI]; exact hle
          (refine goes_seq ?_; refine goes_seq ?_)
          apply goes_drawG 15 [] [[], [], [1], [0, 1, 2], [0, 1, 2, 3], [0, 1, 2, 3, 4], [0, 1, 2, 3, 4], [0, 1, 2, 3, 4, 5, 6], [0, 1, 2, 3, 4, 5, 6, 7], [0, 1, 2, 3, 4], [0, 1, 2, 3, 4], [0, 1, 2, 3, 4, 9, 10], [0, 1, 2, 3, 4, 9, 10, 11], [0, 1, 2, 3, 4, 5, 6, 7, 8, 9, 10, 11, 12], [0, 1, 2, 3, 4, 5, 6, 7, 8, 9, 10, 11, 12, 13]] [33, 34, 35, 36, 37, 38, 39, 40, 41, 42, 43, 44, 45, 46, 47] [] (by kernel_rfl) (by kernel_rfl)
          · (apply drawG_put rfl; (intro S1 hS; exact stp_move rfl (hS.op rfl)))
            (apply drawG_put rfl; (intro S1 hS; exact stp_move rfl (hS.op rfl)))
            (apply drawG_put rfl; (intro S1 hS; exact stp_len rfl (hS.op rfl) rfl (by as_aux_lemma => kernel_rfl)))
            (apply drawG_put rfl; (intro S1 hS; exact stp_bin rfl (hS.op rfl) (hS.op rfl) hb1))
            (apply drawG_put rfl; (intro S1 hS; exact stp_move rfl (hS.op rfl)))
            (apply drawG_yes rfl rfl rfl; (intro S1 hS; exact stp_move rfl (hS.op rfl)))
            (apply drawG_yes rfl rfl rfl; (intro S1 hS; exact stp_move rfl (hS.op rfl)))
            (apply drawG_yes rfl rfl rfl; (intro S1 hS; exact stp_ix (j := at_) rfl (hS.op rfl) (hS.op rfl) (hS.ch _ _ rfl) rfl (by as_aux_lemma => kernel_rfl) rfl hatl hol))
            (apply drawG_yes rfl rfl rfl; (intro S1 hS; exact stp_loadV rfl (by as_aux_lemma => kernel_rfl) (hS.op rfl) (hS.ch _ _ rfl) rfl hg1))
            (apply drawG_yes rfl rfl rfl; (intro S1 hS; exact stp_move rfl (hS.op rfl)))
            (apply drawG_yes rfl rfl rfl; (intro S1 hS; exact stp_move rfl (hS.op rfl)))
            (apply drawG_yes rfl rfl rfl; (intro S1 hS; exact stp_ix (j := k) rfl (hS.op rfl) (hS.op rfl) (hS.ch _ _ rfl) rfl (by as_aux_lemma => kernel_rfl) rfl hkm hdl))
            (apply drawG_yes rfl rfl rfl; (intro S1 hS; exact stp_loadV rfl (by as_aux_lemma => kernel_rfl) (hS.op rfl) (hS.ch _ _ rfl) rfl hg2))
            (apply drawG_yes rfl rfl rfl; (intro S1 hS; exact stp_bin rfl (hS.op rfl) (hS.op rfl) hb2))
            (apply drawG_put rfl; (intro S1 hS; exact stp_pickT rfl (hS.op rfl) (hS.op rfl)))
            exact DrawG.nil
          · rfl
          ((refine rest_done (by as_aux_lemma => kernel_rfl) ?_; skip))
          (refine fin_seq ?_)
          refine goes_cond rfl (fun _ => ?_) (fun e => by cases e)
          (refine goes_skip ?_; refine fin_seq ?_; refine goes_block ?_; refine goes_region ?_; apply run_step rfl; (exact stp_move rfl rfl); apply run_step rfl; (exact stp_add rfl rfl rfl (by first | exact IntWalk.i64_in _ (by omega) | rfl)); apply run_step rfl; (exact stp_assign rfl rfl); refine run_nil ?_; refine fin_block ?_)
          exact fin_round (at_ + 1) ⟨hatl, fun x hx => by
            rcases Nat.lt_succ_iff_lt_or_eq.1 hx with h | rfl
            · exact hall x h
            · exact hle⟩ (by omega) (Wk.of ⟨rfl, rfl, rfl, rfl, rfl, rfl, trivial⟩ ⟨rfl, rfl, rfl, trivial⟩ trivial)
        · have hb2 : binI .i64 .leq (iget (sortL (A ++ ds.take k)) at_) (iget ds k) = some (.bool false) := by simp [binI]; omega
          have hins := hstop (.inr (by omega))
          (refine goes_seq ?_; refine goes_seq ?_)
          apply goes_drawG 15 [] [[], [], [1], [0, 1, 2], [0, 1, 2, 3], [0, 1, 2, 3, 4], [0, 1, 2, 3, 4], [0, 1, 2, 3, 4, 5, 6], [0, 1, 2, 3, 4, 5, 6, 7], [0, 1, 2, 3, 4], [0, 1, 2, 3, 4], [0, 1, 2, 3, 4, 9, 10], [0, 1, 2, 3, 4, 9, 10, 11], [0, 1, 2, 3, 4, 5, 6, 7, 8, 9, 10, 11, 12], [0, 1, 2, 3, 4, 5, 6, 7, 8, 9, 10, 11, 12, 13]] [33, 34, 35, 36, 37, 38, 39, 40, 41, 42, 43, 44, 45, 46, 47] [] (by kernel_rfl) (by kernel_rfl)
          · (apply drawG_put rfl; (intro S1 hS; exact stp_move rfl (hS.op rfl)))
            (apply drawG_put rfl; (intro S1 hS; exact stp_move rfl (hS.op rfl)))
            (apply drawG_put rfl; (intro S1 hS; exact stp_len rfl (hS.op rfl) rfl (by as_aux_lemma => kernel_rfl)))
            (apply drawG_put rfl; (intro S1 hS; exact stp_bin rfl (hS.op rfl) (hS.op rfl) hb1))
            (apply drawG_put rfl; (intro S1 hS; exact stp_move rfl (hS.op rfl)))
            (apply drawG_yes rfl rfl rfl; (intro S1 hS; exact stp_move rfl (hS.op rfl)))
            (apply drawG_yes rfl rfl rfl; (intro S1 hS; exact stp_move rfl (hS.op rfl)))
            (apply drawG_yes rfl rfl rfl; (intro S1 hS; exact stp_ix (j := at_) rfl (hS.op rfl) (hS.op rfl) (hS.ch _ _ rfl) rfl (by as_aux_lemma => kernel_rfl) rfl hatl hol))
            (apply drawG_yes rfl rfl rfl; (intro S1 hS; exact stp_loadV rfl (by as_aux_lemma => kernel_rfl) (hS.op rfl) (hS.ch _ _ rfl) rfl hg1))
            (apply drawG_yes rfl rfl rfl; (intro S1 hS; exact stp_move rfl (hS.op rfl)))
            (apply drawG_yes rfl rfl rfl; (intro S1 hS; exact stp_move rfl (hS.op rfl)))
            (apply drawG_yes rfl rfl rfl; (intro S1 hS; exact stp_ix (j := k) rfl (hS.op rfl) (hS.op rfl) (hS.ch _ _ rfl) rfl (by as_aux_lemma => kernel_rfl) rfl hkm hdl))
            (apply drawG_yes rfl rfl rfl; (intro S1 hS; exact stp_loadV rfl (by as_aux_lemma => kernel_rfl) (hS.op rfl) (hS.ch _ _ rfl) rfl hg2))
            (apply drawG_yes rfl rfl rfl; (intro S1 hS; exact stp_bin rfl (hS.op rfl) (hS.op rfl) hb2))
            (apply drawG_put rfl; (intro S1 hS; exact stp_pickT rfl (hS.op rfl) (hS.op rfl)))
            exact DrawG.nil
          · rfl
          ((refine rest_done (by as_aux_lemma => kernel_rfl) ?_; skip))
          (refine fin_seq ?_)
          refine goes_cond rfl (fun e => by cases e) (fun _ => ?_)
          obtain ⟨m, hm⟩ : ∃ m, at_ + m = A.length + k := ⟨A.length + k - at_, by omega⟩
          have hm0 : 0 < m := by omega
          have hdm : at_ + m = (sortL (A ++ ds.take k)).length := by rw [hln]; exact hm
          have hat2 : at_ ≤ (sortL (A ++ ds.take k)).length := by omega
          refine goes_wk (S' := St.of [(5, o1 (.sl 14 0 N)), (6, o1 (.sl 2300 0 (A.length + k))), (7, vv (I6 j)), (8, o1 (.sl 26 0 ds.length)), (9, vv (I6 k)), (10, vv (I6 at_))] [(14, rwOw ps), (2300, leOw (sortL (A ++ ds.take k))), (26, leOw ds)]) (Wk.of ⟨rfl, rfl, rfl, rfl, rfl, rfl, trivial⟩ ⟨rfl, rfl, rfl, trivial⟩ trivial) ?_
          (refine goes_exit ?_; refine fin_exit_then ?_; refine fin_exit_then ?_; refine fin_exit_eq ?_; refine fin_seq ?_; refine goes_seq ?_)
          apply goes_draw 8 [] [[], [], [0, 1], [0, 1, 2], [0, 1, 2, 3], [], [], [5, 6], [0, 1, 2, 3, 4, 5, 6, 7], [0, 1, 2, 3, 4, 5, 6, 7, 8]] [50, 51, 52, 53, 54, 55, 56, 57] [54] (by kernel_rfl) (by kernel_rfl)
          · (apply draw_put rfl; (focus (intro S1 hS; exact stp_move rfl (hS.op rfl))))
            (apply draw_put rfl; (focus (intro S1 hS; exact stp_move rfl (hS.op rfl))))
            (apply draw_put rfl; (focus (intro S1 hS; exact stp_ix (j := k) rfl (hS.op rfl) (hS.op rfl) (hS.ch _ _ rfl) rfl (by as_aux_lemma => kernel_rfl) rfl hkm hdl)))
            (apply draw_put rfl; (focus (intro S1 hS; exact stp_loadV rfl (by as_aux_lemma => kernel_rfl) (hS.op rfl) (hS.ch _ _ rfl) rfl hg2)))
            (apply draw_new rfl; (focus (intro S1 hS; exact stp_lit1I (E := 2) rfl (by as_aux_lemma => kernel_rfl) (hS.op rfl))))
            (apply draw_put rfl; (focus (intro S1 hS; exact stp_move rfl (hS.op rfl))))
            (apply draw_put rfl; (focus (intro S1 hS; exact stp_move rfl (hS.op rfl))))
            (apply draw_put rfl; (focus (intro S1 hS; exact stp_sliceM (l := at_) (m := m) hm rfl (hS.op rfl) (hS.ch _ _ rfl) rfl (by as_aux_lemma => kernel_rfl) (bnd_some (hS.op rfl) rfl) bnd_none (Nat.le_refl _) hol)))
            exact Draw.nil
          · rfl
          refine rest_join (St.of [(5, o1 (.sl 14 0 N)), (6, o1 (.sl 2300 0 (A.length + k))), (7, vv (I6 j)), (8, o1 (.sl 26 0 ds.length)), (9, vv (I6 k)), (10, vv (I6 at_)), (11, o1 (.sl 54 0 (1 + m)))] [(14, rwOw ps), (2300, leOw (sortL (A ++ ds.take k))), (26, leOw ds), (54, leOw ([iget ds k] ++ (sortL (A ++ ds.take k)).drop at_))]) ?_ ?_
          · ((apply rest_one 8 rfl (by as_aux_lemma => kernel_rfl) rfl rfl; (exact stp_appL (E := 2) (zs := [iget ds k]) (m := m) rfl (by as_aux_lemma => kernel_rfl) rfl rfl rfl rfl rfl (reads_dropI rfl rfl rfl hdm) hm0 (by omega))); (apply rest_one 9 rfl (by as_aux_lemma => kernel_rfl) rfl rfl; (exact stp_assign rfl rfl)); (refine rest_done (by as_aux_lemma => kernel_rfl) ?_; exact fin_join (Wk.of ⟨rfl, rfl, rfl, rfl, rfl, rfl, rfl, trivial⟩ ⟨rfl, rfl, rfl, rfl, trivial⟩ trivial)))
          have hrl : (ivals ([iget ds k] ++ (sortL (A ++ ds.take k)).drop at_)).length = 1 + m := by rw [ivals_len, List.length_append, List.length_drop]; simp; omega
          rcases Nat.eq_zero_or_pos at_ with h0 | h0
          · have hs0 : ∀ {S : St} {o : Operand}, S.op o = some (vv (I6 at_)) → bnd S (some o) (A.length + k) 0 := fun h => bnd_some h (by omega)
            rw [h0] at hins
            (refine fin_seq ?_; refine goes_region ?_; apply run_step rfl; (exact stp_lit0 (E := 2) (k := 1) rfl (by as_aux_lemma => kernel_rfl)); apply run_step rfl; (exact stp_move rfl rfl); apply run_step rfl; (exact stp_move rfl rfl); apply run_step rfl; (first | exact stp_sliceM (l := 0) (h := 0) (m := 0) rfl rfl rfl rfl rfl (by as_aux_lemma => kernel_rfl) bnd_none (hs0 rfl) (Nat.zero_le _) hol | exact stp_app0 (zs := []) rfl (by as_aux_lemma => kernel_rfl) rfl rfl rfl rfl rfl | exact stp_appL (E := 2) (zs := []) (m := 1 + m) rfl (by as_aux_lemma => kernel_rfl) rfl rfl rfl rfl rfl (reads_all rfl rfl rfl hrl) (by omega) (by omega)); apply run_step rfl; (first | exact stp_sliceM (l := 0) (h := 0) (m := 0) rfl rfl rfl rfl rfl (by as_aux_lemma => kernel_rfl) bnd_none (hs0 rfl) (Nat.zero_le _) hol | exact stp_app0 (zs := []) rfl (by as_aux_lemma => kernel_rfl) rfl rfl rfl rfl rfl | exact stp_appL (E := 2) (zs := []) (m := 1 + m) rfl (by as_aux_lemma => kernel_rfl) rfl rfl rfl rfl rfl (reads_all rfl rfl rfl hrl) (by omega) (by omega)); apply run_step rfl; (exact stp_move rfl rfl); apply run_step rfl; (first | exact stp_sliceM (l := 0) (h := 0) (m := 0) rfl rfl rfl rfl rfl (by as_aux_lemma => kernel_rfl) bnd_none (hs0 rfl) (Nat.zero_le _) hol | exact stp_app0 (zs := []) rfl (by as_aux_lemma => kernel_rfl) rfl rfl rfl rfl rfl | exact stp_appL (E := 2) (zs := []) (m := 1 + m) rfl (by as_aux_lemma => kernel_rfl) rfl rfl rfl rfl rfl (reads_all rfl rfl rfl hrl) (by omega) (by omega)); apply run_step rfl; (exact stp_assign rfl rfl); refine run_nil ?_; refine fin_block ?_; refine fin_seq ?_; refine goes_region ?_; apply run_step rfl; (exact stp_move rfl rfl); apply run_step rfl; (exact stp_add rfl rfl rfl (by first | exact IntWalk.i64_in _ (by omega) | rfl)); apply run_step rfl; (exact stp_assign rfl rfl); refine run_nil ?_)
            exact fin_round (k + 1) (by omega) (by omega) (Wk.trans (wk_ren (x := 59) (y := 2300) (s := 6) rfl rfl) (Wk.of ⟨rfl, congrArg (fun z : Nat => some (o1 (.sl 2300 0 z))) (show 0 + (1 + m) = A.length + (k + 1) by omega), rfl, rfl, rfl, trivial⟩ ⟨rfl, congrArg (fun z => some (leOw z)) (show [] ++ ([iget ds k] ++ (sortL (A ++ ds.take k)).drop at_) = _ by rw [List.nil_append, ← hins, List.take_zero, List.nil_append, h0]), rfl, trivial⟩ trivial))
          · have hz : (0 : Nat) + at_ = at_ := Nat.zero_add _
            have htl : ([] ++ (sortL (A ++ ds.take k)).take at_).length = 0 + at_ := by rw [List.nil_append, List.length_take]; omega
            (refine fin_seq ?_; refine goes_region ?_; apply run_step rfl; (exact stp_lit0 (E := 2) (k := 1) rfl (by as_aux_lemma => kernel_rfl)); apply run_step rfl; (exact stp_move rfl rfl); apply run_step rfl; (exact stp_move rfl rfl); apply run_step rfl; (first | exact stp_sliceM (l := 0) (h := at_) (m := at_) hz rfl rfl rfl rfl (by as_aux_lemma => kernel_rfl) bnd_none (bnd_some rfl rfl) (by omega) hol | exact stp_appL (E := 2) (zs := []) (m := at_) rfl (by as_aux_lemma => kernel_rfl) rfl rfl rfl rfl rfl (reads_takeI rfl rfl rfl hat2) h0 (by omega) | exact stp_appL (E := 2) (zs := [] ++ (sortL (A ++ ds.take k)).take at_) (m := 1 + m) rfl (by as_aux_lemma => kernel_rfl) rfl rfl rfl htl rfl (reads_all rfl rfl rfl hrl) (by omega) (by omega)); apply run_step rfl; (first | exact stp_sliceM (l := 0) (h := at_) (m := at_) hz rfl rfl rfl rfl (by as_aux_lemma => kernel_rfl) bnd_none (bnd_some rfl rfl) (by omega) hol | exact stp_appL (E := 2) (zs := []) (m := at_) rfl (by as_aux_lemma => kernel_rfl) rfl rfl rfl rfl rfl (reads_takeI rfl rfl rfl hat2) h0 (by omega) | exact stp_appL (E := 2) (zs := [] ++ (sortL (A ++ ds.take k)).take at_) (m := 1 + m) rfl (by as_aux_lemma => kernel_rfl) rfl rfl rfl htl rfl (reads_all rfl rfl rfl hrl) (by omega) (by omega)); apply run_step rfl; (exact stp_move rfl rfl); apply run_step rfl; (first | exact stp_sliceM (l := 0) (h := at_) (m := at_) hz rfl rfl rfl rfl (by as_aux_lemma => kernel_rfl) bnd_none (bnd_some rfl rfl) (by omega) hol | exact stp_appL (E := 2) (zs := []) (m := at_) rfl (by as_aux_lemma => kernel_rfl) rfl rfl rfl rfl rfl (reads_takeI rfl rfl rfl hat2) h0 (by omega) | exact stp_appL (E := 2) (zs := [] ++ (sortL (A ++ ds.take k)).take at_) (m := 1 + m) rfl (by as_aux_lemma => kernel_rfl) rfl rfl rfl htl rfl (reads_all rfl rfl rfl hrl) (by omega) (by omega)); apply run_step rfl; (exact stp_assign rfl rfl); refine run_nil ?_; refine fin_block ?_; refine fin_seq ?_; refine goes_region ?_; apply run_step rfl; (exact stp_move rfl rfl); apply run_step rfl; (exact stp_add rfl rfl rfl (by first | exact IntWalk.i64_in _ (by omega) | rfl)); apply run_step rfl; (exact stp_assign rfl rfl); refine run_nil ?_)
            exact fin_round (k + 1) (by omega) (by omega) (Wk.trans (wk_ren (x := 59) (y := 2300) (s := 6) rfl rfl) (Wk.of ⟨rfl, congrArg (fun z : Nat => some (o1 (.sl 2300 0 z))) (show 0 + at_ + (1 + m) = A.length + (k + 1) by omega), rfl, rfl, rfl, trivial⟩ ⟨rfl, congrArg (fun z => some (leOw z)) (show [] ++ (sortL (A ++ ds.take k)).take at_ ++ ([iget ds k] ++ (sortL (A ++ ds.take k)).drop at_) = _ by rw [List.nil_append]; exact hins), rfl, trivial⟩ trivial))
      · obtain rfl : at_ = A.length + k := by omega
        have hb1 : binI .i64 .lss ((A.length + k : Nat) : Int) ((A.length + k : Nat) : Int) = some (.bool false) := by simp [binI]
        have hins := hstop (.inl rfl)
        (refine goes_seq ?_; refine goes_seq ?_)
        apply goes_drawG 15 [] [[], [], [1], [0, 1, 2], [0, 1, 2, 3], [0, 1, 2, 3, 4], [0, 1, 2, 3, 4], [0, 1, 2, 3, 4, 5, 6], [0, 1, 2, 3, 4, 5, 6, 7], [0, 1, 2, 3, 4], [0, 1, 2, 3, 4], [0, 1, 2, 3, 4, 9, 10], [0, 1, 2, 3, 4, 9, 10, 11], [0, 1, 2, 3, 4, 5, 6, 7, 8, 9, 10, 11, 12], [0, 1, 2, 3, 4, 5, 6, 7, 8, 9, 10, 11, 12, 13]] [33, 34, 35, 36, 37, 38, 39, 40, 41, 42, 43, 44, 45, 46, 47] [] (by kernel_rfl) (by kernel_rfl)
        · (apply drawG_put rfl; (intro S1 hS; exact stp_move rfl (hS.op rfl)))
          (apply drawG_put rfl; (intro S1 hS; exact stp_move rfl (hS.op rfl)))
          (apply drawG_put rfl; (intro S1 hS; exact stp_len rfl (hS.op rfl) rfl (by as_aux_lemma => kernel_rfl)))
          (apply drawG_put rfl; (intro S1 hS; exact stp_bin rfl (hS.op rfl) (hS.op rfl) hb1))
          (apply drawG_put rfl; (intro S1 hS; exact stp_move rfl (hS.op rfl)))
          apply drawG_no rfl rfl rfl rfl rfl
          apply drawG_no rfl rfl rfl rfl rfl
          apply drawG_no rfl rfl rfl rfl rfl
          apply drawG_no rfl rfl rfl rfl rfl
          apply drawG_no rfl rfl rfl rfl rfl
          apply drawG_no rfl rfl rfl rfl rfl
          apply drawG_no rfl rfl rfl rfl rfl
          apply drawG_no rfl rfl rfl rfl rfl
          apply drawG_no rfl rfl rfl rfl rfl
          (apply drawG_put rfl; (intro S1 hS; exact stp_pickF rfl (hS.op rfl) (hS.op rfl)))
          exact DrawG.nil
        · rfl
        ((refine rest_done (by as_aux_lemma => kernel_rfl) ?_; skip))
        (refine fin_seq ?_)
        refine goes_cond rfl (fun e => by cases e) (fun _ => ?_)
        have hm : (A.length + k) + 0 = A.length + k := rfl
        have hdm : (A.length + k) + 0 = (sortL (A ++ ds.take k)).length := by rw [hln]; exact hm
        have hat2 : (A.length + k) ≤ (sortL (A ++ ds.take k)).length := by omega
        refine goes_wk (S' := St.of [(5, o1 (.sl 14 0 N)), (6, o1 (.sl 2300 0 (A.length + k))), (7, vv (I6 j)), (8, o1 (.sl 26 0 ds.length)), (9, vv (I6 k)), (10, vv (I6 (A.length + k)))] [(14, rwOw ps), (2300, leOw (sortL (A ++ ds.take k))), (26, leOw ds)]) (Wk.of ⟨rfl, rfl, rfl, rfl, rfl, rfl, trivial⟩ ⟨rfl, rfl, rfl, trivial⟩ trivial) ?_
        (refine goes_exit ?_; refine fin_exit_then ?_; refine fin_exit_then ?_; refine fin_exit_eq ?_; refine fin_seq ?_; refine goes_seq ?_)
        apply goes_draw 8 [] [[], [], [0, 1], [0, 1, 2], [0, 1, 2, 3], [], [], [5, 6], [0, 1, 2, 3, 4, 5, 6, 7], [0, 1, 2, 3, 4, 5, 6, 7, 8]] [50, 51, 52, 53, 54, 55, 56, 57] [54] (by kernel_rfl) (by kernel_rfl)
        · (apply draw_put rfl; (focus (intro S1 hS; exact stp_move rfl (hS.op rfl))))
          (apply draw_put rfl; (focus (intro S1 hS; exact stp_move rfl (hS.op rfl))))
          (apply draw_put rfl; (focus (intro S1 hS; exact stp_ix (j := k) rfl (hS.op rfl) (hS.op rfl) (hS.ch _ _ rfl) rfl (by as_aux_lemma => kernel_rfl) rfl hkm hdl)))
          (apply draw_put rfl; (focus (intro S1 hS; exact stp_loadV rfl (by as_aux_lemma => kernel_rfl) (hS.op rfl) (hS.ch _ _ rfl) rfl hg2)))
          (apply draw_new rfl; (focus (intro S1 hS; exact stp_lit1I (E := 2) rfl (by as_aux_lemma => kernel_rfl) (hS.op rfl))))
          (apply draw_put rfl; (focus (intro S1 hS; exact stp_move rfl (hS.op rfl))))
          (apply draw_put rfl; (focus (intro S1 hS; exact stp_move rfl (hS.op rfl))))
          (apply draw_put rfl; (focus (intro S1 hS; exact stp_sliceM (l := (A.length + k)) (m := 0) hm rfl (hS.op rfl) (hS.ch _ _ rfl) rfl (by as_aux_lemma => kernel_rfl) (bnd_some (hS.op rfl) rfl) bnd_none (Nat.le_refl _) hol)))
          exact Draw.nil
        · rfl
        refine rest_join (St.of [(5, o1 (.sl 14 0 N)), (6, o1 (.sl 2300 0 (A.length + k))), (7, vv (I6 j)), (8, o1 (.sl 26 0 ds.length)), (9, vv (I6 k)), (10, vv (I6 (A.length + k))), (11, o1 (.sl 54 0 (1 + 0)))] [(14, rwOw ps), (2300, leOw (sortL (A ++ ds.take k))), (26, leOw ds), (54, leOw ([iget ds k] ++ (sortL (A ++ ds.take k)).drop (A.length + k)))]) ?_ ?_
        · ((apply rest_one 8 rfl (by as_aux_lemma => kernel_rfl) rfl rfl; (exact stp_app0 (zs := [iget ds k]) rfl (by as_aux_lemma => kernel_rfl) rfl rfl rfl rfl rfl)); (apply rest_one 9 rfl (by as_aux_lemma => kernel_rfl) rfl rfl; (exact stp_assign rfl rfl)); (refine rest_done (by as_aux_lemma => kernel_rfl) ?_; exact fin_join (Wk.of ⟨rfl, rfl, rfl, rfl, rfl, rfl, rfl, trivial⟩ ⟨rfl, rfl, rfl, congrArg (fun z => some (leOw ([iget ds k] ++ z))) (List.drop_of_length_le (Nat.le_of_eq hln)).symm, trivial⟩ trivial)))
        have hrl : (ivals ([iget ds k] ++ (sortL (A ++ ds.take k)).drop (A.length + k))).length = 1 + 0 := by rw [ivals_len, List.length_append, List.length_drop]; simp; omega
        rcases Nat.eq_zero_or_pos (A.length + k) with h0 | h0
        · have hs0 : ∀ {S : St} {o : Operand}, S.op o = some (vv (I6 (A.length + k))) → bnd S (some o) (A.length + k) 0 := fun h => bnd_some h (by omega)
          rw [h0] at hins
          (refine fin_seq ?_; refine goes_region ?_; apply run_step rfl; (exact stp_lit0 (E := 2) (k := 1) rfl (by as_aux_lemma => kernel_rfl)); apply run_step rfl; (exact stp_move rfl rfl); apply run_step rfl; (exact stp_move rfl rfl); apply run_step rfl; (first | exact stp_sliceM (l := 0) (h := 0) (m := 0) rfl rfl rfl rfl rfl (by as_aux_lemma => kernel_rfl) bnd_none (hs0 rfl) (Nat.zero_le _) hol | exact stp_app0 (zs := []) rfl (by as_aux_lemma => kernel_rfl) rfl rfl rfl rfl rfl | exact stp_appL (E := 2) (zs := []) (m := 1 + 0) rfl (by as_aux_lemma => kernel_rfl) rfl rfl rfl rfl rfl (reads_all rfl rfl rfl hrl) (by omega) (by omega)); apply run_step rfl; (first | exact stp_sliceM (l := 0) (h := 0) (m := 0) rfl rfl rfl rfl rfl (by as_aux_lemma => kernel_rfl) bnd_none (hs0 rfl) (Nat.zero_le _) hol | exact stp_app0 (zs := []) rfl (by as_aux_lemma => kernel_rfl) rfl rfl rfl rfl rfl | exact stp_appL (E := 2) (zs := []) (m := 1 + 0) rfl (by as_aux_lemma => kernel_rfl) rfl rfl rfl rfl rfl (reads_all rfl rfl rfl hrl) (by omega) (by omega)); apply run_step rfl; (exact stp_move rfl rfl); apply run_step rfl; (first | exact stp_sliceM (l := 0) (h := 0) (m := 0) rfl rfl rfl rfl rfl (by as_aux_lemma => kernel_rfl) bnd_none (hs0 rfl) (Nat.zero_le _) hol | exact stp_app0 (zs := []) rfl (by as_aux_lemma => kernel_rfl) rfl rfl rfl rfl rfl | exact stp_appL (E := 2) (zs := []) (m := 1 + 0) rfl (by as_aux_lemma => kernel_rfl) rfl rfl rfl rfl rfl (reads_all rfl rfl rfl hrl) (by omega) (by omega)); apply run_step rfl; (exact stp_assign rfl rfl); refine run_nil ?_; refine fin_block ?_; refine fin_seq ?_; refine goes_region ?_; apply run_step rfl; (exact stp_move rfl rfl); apply run_step rfl; (exact stp_add rfl rfl rfl (by first | exact IntWalk.i64_in _ (by omega) | rfl)); apply run_step rfl; (exact stp_assign rfl rfl); refine run_nil ?_)
          exact fin_round (k + 1) (by omega) (by omega) (Wk.trans (wk_ren (x := 59) (y := 2300) (s := 6) rfl rfl) (Wk.of ⟨rfl, congrArg (fun z : Nat => some (o1 (.sl 2300 0 z))) (show 0 + (1 + 0) = A.length + (k + 1) by omega), rfl, rfl, rfl, trivial⟩ ⟨rfl, congrArg (fun z => some (leOw z)) (show [] ++ ([iget ds k] ++ (sortL (A ++ ds.take k)).drop (A.length + k)) = _ by rw [List.nil_append, ← hins, List.take_zero, List.nil_append, h0]), rfl, trivial⟩ trivial))
        · have hz : (0 : Nat) + (A.length + k) = (A.length + k) := Nat.zero_add _
          have htl : ([] ++ (sortL (A ++ ds.take k)).take (A.length + k)).length = 0 + (A.length + k) := by rw [List.nil_append, List.length_take]; omega
          (refine fin_seq ?_; refine goes_region ?_; apply run_step rfl; (exact stp_lit0 (E := 2) (k := 1) rfl (by as_aux_lemma => kernel_rfl)); apply run_step rfl; (exact stp_move rfl rfl); apply run_step rfl; (exact stp_move rfl rfl); apply run_step rfl; (first | exact stp_sliceM (l := 0) (h := (A.length + k)) (m := (A.length + k)) hz rfl rfl rfl rfl (by as_aux_lemma => kernel_rfl) bnd_none (bnd_some rfl rfl) (by omega) hol | exact stp_appL (E := 2) (zs := []) (m := (A.length + k)) rfl (by as_aux_lemma => kernel_rfl) rfl rfl rfl rfl rfl (reads_takeI rfl rfl rfl hat2) h0 (by omega) | exact stp_appL (E := 2) (zs := [] ++ (sortL (A ++ ds.take k)).take (A.length + k)) (m := 1 + 0) rfl (by as_aux_lemma => kernel_rfl) rfl rfl rfl htl rfl (reads_all rfl rfl rfl hrl) (by omega) (by omega)); apply run_step rfl; (first | exact stp_sliceM (l := 0) (h := (A.length + k)) (m := (A.length + k)) hz rfl rfl rfl rfl (by as_aux_lemma => kernel_rfl) bnd_none (bnd_some rfl rfl) (by omega) hol | exact stp_appL (E := 2) (zs := []) (m := (A.length + k)) rfl (by as_aux_lemma => kernel_rfl) rfl rfl rfl rfl rfl (reads_takeI rfl rfl rfl hat2) h0 (by omega) | exact stp_appL (E := 2) (zs := [] ++ (sortL (A ++ ds.take k)).take (A.length + k)) (m := 1 + 0) rfl (by as_aux_lemma => kernel_rfl) rfl rfl rfl htl rfl (reads_all rfl rfl rfl hrl) (by omega) (by omega)); apply run_step rfl; (exact stp_move rfl rfl); apply run_step rfl; (first | exact stp_sliceM (l := 0) (h := (A.length + k)) (m := (A.length + k)) hz rfl rfl rfl rfl (by as_aux_lemma => kernel_rfl) bnd_none (bnd_some rfl rfl) (by omega) hol | exact stp_appL (E := 2) (zs := []) (m := (A.length + k)) rfl (by as_aux_lemma => kernel_rfl) rfl rfl rfl rfl rfl (reads_takeI rfl rfl rfl hat2) h0 (by omega) | exact stp_appL (E := 2) (zs := [] ++ (sortL (A ++ ds.take k)).take (A.length + k)) (m := 1 + 0) rfl (by as_aux_lemma => kernel_rfl) rfl rfl rfl htl rfl (reads_all rfl rfl rfl hrl) (by omega) (by omega)); apply run_step rfl; (exact stp_assign rfl rfl); refine run_nil ?_; refine fin_block ?_; refine fin_seq ?_; refine goes_region ?_; apply run_step rfl; (exact stp_move rfl rfl); apply run_step rfl; (exact stp_add rfl rfl rfl (by first | exact IntWalk.i64_in _ (by omega) | rfl)); apply run_step rfl; (exact stp_assign rfl rfl); refine run_nil ?_)
          exact fin_round (k + 1) (by omega) (by omega) (Wk.trans (wk_ren (x := 59) (y := 2300) (s := 6) rfl rfl) (Wk.of ⟨rfl, congrArg (fun z : Nat => some (o1 (.sl 2300 0 z))) (show 0 + (A.length + k) + (1 + 0) = A.length + (k + 1) by omega), rfl, rfl, rfl, trivial⟩ ⟨rfl, congrArg (fun z => some (leOw z)) (show [] ++ (sortL (A ++ ds.take k)).take (A.length + k) ++ ([iget ds k] ++ (sortL (A ++ ds.take k)).drop (A.length + k)) = _ by rw [List.nil_append]; exact hins), rfl, trivial⟩ trivial))
    · obtain rfl : k = ds.length := by omega
      (refine goes_exit ?_; refine fin_exit_then ?_; refine fin_exit_then ?_; refine fin_exit_eq ?_; refine fin_block ?_; refine fin_seq ?_; refine goes_region ?_; apply run_step rfl; (exact stp_move rfl rfl); apply run_step rfl; (exact stp_add rfl rfl rfl (by first | exact IntWalk.i64_in _ (by omega) | rfl)); apply run_step rfl; (exact stp_assign rfl rfl); refine run_nil ?_)
      exact fin_round (j + 1) (by omega) (by omega) (Wk.of ⟨rfl, congrArg (fun z : Nat => some (o1 (.sl 2300 0 z))) (by rw [hcat, List.length_append]), rfl, trivial⟩ ⟨rfl, congrArg (fun z => some (leOw (sortL z))) (by rw [hcat, List.take_length]), trivial⟩ trivial)
  · obtain rfl : j = N := by omega
    (refine goes_exit ?_; refine fin_exit_then ?_; refine fin_exit_then ?_; refine fin_exit_eq ?_; refine fin_seq ?_; refine goes_seq ?_; refine goes_region ?_; apply run_step rfl; (exact stp_move rfl rfl); apply run_step rfl; (exact stp_assign rfl rfl); refine run_nil ?_; refine fin_seq ?_; refine goes_ret ?_)
    exact fin_ret1 (.inl rfl) rfl (.tmp rfl) ⟨rfl, trivial⟩ trivial
end Go.Proofs.Ytlpeghdbjfnenaa

/- From contracts in names to contracts in words: the doors of the functions that the laws call. -/
namespace Go.Proofs.Ytlpeghdbjfnenaa
open Go.RowKit

theorem rdP {η : Env} {ω : Own?} {w : World} {x : Nat} {own : Bool} {E F : Nat} {ins : List (Nm × Ch)} {g : Int} {zss : List (List Int)} {v : Value} (hm : Mem η ω w (fun x => lk x ins)) (hx : lk x ins = some ⟨own, E, 1, .rows F (irows zss) []⟩) (hv : Den2 η (.agg [.val (I6 g), .sl x 0 zss.length]) v) (hn : zss.length ≤ 17592186044416) (hr : ∀ zs ∈ zss, zs.length ≤ 17592186044416) : RdP w v (g, zss) := by
  obtain ⟨us, rfl, hl, ha⟩ := hv
  obtain ⟨u0, g0, d0⟩ := ha 0 _ rfl
  obtain ⟨u1, g1, d1⟩ := ha 1 _ rfl
  have d0 : u0 = I6 g := d0
  subst d0
  obtain ⟨ao, c, rfl, hi⟩ := rdSS hm hx d1 hn hr
  refine ⟨ao, zss.length, c, ?_, hi⟩
  match us, hl with
  | ⟨[p, q]⟩, _ => simp at g0 g1; rw [g0, g1]
abbrev pA (g : Int) (R : Nat) : AV := .s (.agg [.val (I6 g), .sl 1003 0 R])
def Fit (zss : List (List Int)) : Prop := zss.length ≤ 4398046511104 ∧ ∀ zs ∈ zss, zs.length ≤ 4398046511104
theorem two_of {us : List Value} {u0 u1 : Value} (hl : us.length = 2) (g0 : us[0]? = some u0) (g1 : us[1]? = some u1) : us = [u0, u1] := by
  match us, hl with
  | [p, q], _ => simp at g0 g1; rw [g0, g1]
theorem one_of {us : List Value} {u0 : Value} (hl : us.length = 1) (g0 : us[0]? = some u0) : us = [u0] := by
  match us, hl with
  | [p], _ => simp at g0; rw [g0]
theorem fit_of {E1 E : Nat} {w : World} {lo hi : Nat} {v : Value} {zss : List (List Int)} (h : OwSS E1 E w lo hi v zss) : Fit zss := by
  obtain ⟨ao, n, c, us, rfl, ho⟩ := h
  refine ⟨by have := ho.own.2; have := ho.len; omega, fun zs hz => ?_⟩
  obtain ⟨j, hj, rfl⟩ := List.getElem_of_mem hz
  obtain ⟨u, d, hu, hd, ⟨a', n', c', rfl, h1⟩, _⟩ := ho.get (j := j) (by have := ho.len; omega)
  rw [List.getElem?_eq_getElem hj] at hd
  have := h1.len
  have h2 := h1.2
  rw [Option.some.inj hd]
  simp at this; omega
theorem ofP {E1 E : Nat} {w : World} {lo hi : Nat} {v : Value} {d : PresD} (h : OwP E1 E w lo hi v d) : ∃ u, v = .agg #[I6 d.1, u] ∧ OwSS E1 E w lo hi u d.2 := by
  obtain ⟨ao, n, c, us, rfl, ho⟩ := h
  exact ⟨_, rfl, _, _, _, us, rfl, ho⟩
theorem denL1 {η : Env} {a : AV} {u : Value} (h : Den η a u) : DenL η [a] [u] := ⟨rfl, fun j av hj => by
  match j, hj with
  | 0, hj => simp at hj; subst hj; exact ⟨u, rfl, h⟩⟩
theorem denL2 {η : Env} {a b : AV} {u v : Value} (h : Den η a u) (h' : Den η b v) : DenL η [a, b] [u, v] := ⟨rfl, fun j av hj => by
  match j, hj with
  | 0, hj => simp at hj; subst hj; exact ⟨u, rfl, h⟩
  | 1, hj => simp at hj; subst hj; exact ⟨v, rfl, h'⟩⟩
theorem denP {η : Env} {g : Int} {R : Nat} {u : Value} (h : Den1 η (.sl 1003 0 R) u) : Den η (pA g R) (.agg #[I6 g, u]) := ⟨_, rfl, rfl, fun j b hb => by
  match j, hb with
  | 0, hb => simp at hb; subst hb; exact ⟨_, by simp, rfl⟩
  | 1, hb => simp at hb; subst hb; exact ⟨_, by simp, h⟩⟩
theorem den_tup2 {η : Env} {a b : A2} {v : Value} (h : Den η (.tup [a, b]) v) : ∃ u u', v = .tuple #[u, u'] ∧ Den2 η a u ∧ Den2 η b u' := by
  obtain ⟨us, rfl, hl, ha⟩ := h
  obtain ⟨u0, g0, d0⟩ := ha 0 _ rfl
  obtain ⟨u1, g1, d1⟩ := ha 1 _ rfl
  refine ⟨u0, u1, ?_, d0, d1⟩
  match us, hl with
  | ⟨[p, q]⟩, _ => simp at g0 g1; rw [g0, g1]
/-- a function of a presentation and words -/
theorem callPW {f : FuncId} {outs : List (Nm × Ch)} {res : AV} {d : PresD} {ws : List (List Int)} (hf : Fit d.2 → Fit ws → FC Try.prog f [(1002, rowsRo ws), (1003, rowsRo d.2)] [pA d.1 d.2.length, o1 (.sl 1002 0 ws.length)] outs res []) {E1 E E1' E' : Nat} {w : World} {lo hi lo' hi' : Nat} {v v' : Value} (h : OwP E1 E w lo hi v d) (h' : OwSS E1' E' w lo' hi' v' ws) :
    Calls Try.prog f #[v, v'] w fun e w' => ∃ v η ω, e = .returned v ∧ Den η res v ∧ Mem η ω w' (fun x => lk x outs) ∧ Below w.heap.size w w' ∧ ∀ b, b < w.heap.size → ω b = none := by
  obtain ⟨u, rfl, hs⟩ := ofP h
  obtain ⟨hd, r, rfl, hv⟩ := ofSS 1003 31 2 hs
  obtain ⟨hd', r', rfl, hv'⟩ := ofSS 1002 31 2 h'
  exact (hf (fit_of hs) (fit_of h')).call (l := [(1002, (rowsRo ws, hd', r')), (1003, (rowsRo d.2, hd, r))]) (us := [_, _]) (fun p hp => by simp at hp; rcases hp with rfl | rfl; exact hv'; exact hv) rfl
    (denL2 (denP (den_sl (q := (rowsRo d.2, hd, r)) rfl)) (den_sl (q := (rowsRo ws, hd', r')) rfl))
/-- a function of a presentation -/
theorem callP {f : FuncId} {outs : List (Nm × Ch)} {res : AV} {d : PresD} (hf : Fit d.2 → FC Try.prog f [(1003, rowsRo d.2)] [pA d.1 d.2.length] outs res []) {E1 E : Nat} {w : World} {lo hi : Nat} {v : Value} (h : OwP E1 E w lo hi v d) :
    Calls Try.prog f #[v] w fun e w' => ∃ v η ω, e = .returned v ∧ Den η res v ∧ Mem η ω w' (fun x => lk x outs) ∧ Below w.heap.size w w' ∧ ∀ b, b < w.heap.size → ω b = none := by
  obtain ⟨u, rfl, hs⟩ := ofP h
  obtain ⟨hd, r, rfl, hv⟩ := ofSS 1003 31 2 hs
  exact (hf (fit_of hs)).call (l := [(1003, (rowsRo d.2, hd, r))]) (us := [_]) (fun p hp => by simp at hp; subst hp; exact hv) rfl (denL1 (denP (den_sl (q := (rowsRo d.2, hd, r)) rfl)))
theorem two_vals {P : Program} {f : FuncId} {args : Array Value} {w : World} {a b : Value} {outs : List (Nm × Ch)} (h : Calls P f args w fun e w' => ∃ v η ω, e = .returned v ∧ Den η (.tup [.one (.val a), .one (.val b)]) v ∧ Mem η ω w' (fun x => lk x outs) ∧ Below w.heap.size w w' ∧ ∀ b, b < w.heap.size → ω b = none) :
    Calls P f args w fun e w' => e = .returned (.tuple #[a, b]) ∧ Below w.heap.size w w' := by
  refine h.mono ?_
  rintro e w' ⟨v, η, ω, rfl, hd, _, hb, _⟩
  obtain ⟨u, u', rfl, h1, h2⟩ := den_tup2 hd
  have h1 : u = a := h1
  have h2 : u' = b := h2
  subst h1 h2
  exact ⟨rfl, hb⟩

theorem one_val {P : Program} {f : FuncId} {args : Array Value} {w : World} {a : Value} {outs : List (Nm × Ch)} (h : Calls P f args w fun e w' => ∃ v η ω, e = .returned v ∧ Den η (vv a) v ∧ Mem η ω w' (fun x => lk x outs) ∧ Below w.heap.size w w' ∧ ∀ b, b < w.heap.size → ω b = none) :
    Calls P f args w fun e w' => e = .returned a ∧ Below w.heap.size w w' := by
  refine h.mono ?_
  rintro e w' ⟨v, η, ω, rfl, hd, _, hb, _⟩
  have hd : v = a := hd
  subst hd
  exact ⟨rfl, hb⟩
/-- a maniplex -/
abbrev mA (R : Nat) : AV := .s (.agg [.sl 1003 0 R])
theorem ofM {E1 E : Nat} {w : World} {lo hi : Nat} {v : Value} {d : List (List Int)} (h : OwM E1 E w lo hi v d) : ∃ u, v = .agg #[u] ∧ OwSS E1 E w lo hi u d := by
  obtain ⟨ao, n, c, us, rfl, ho⟩ := h
  exact ⟨_, rfl, _, _, _, us, rfl, ho⟩
theorem denM {η : Env} {R : Nat} {u : Value} (h : Den1 η (.sl 1003 0 R) u) : Den η (mA R) (.agg #[u]) := ⟨_, rfl, rfl, fun j b hb => by
  match j, hb with
  | 0, hb => simp at hb; subst hb; exact ⟨_, by simp, h⟩⟩
theorem callM {f : FuncId} {outs : List (Nm × Ch)} {res : AV} {d : List (List Int)} (hf : Fit d → FC Try.prog f [(1003, rowsRo d)] [mA d.length] outs res []) {E1 E : Nat} {w : World} {lo hi : Nat} {v : Value} (h : OwM E1 E w lo hi v d) :
    Calls Try.prog f #[v] w fun e w' => ∃ v η ω, e = .returned v ∧ Den η res v ∧ Mem η ω w' (fun x => lk x outs) ∧ Below w.heap.size w w' ∧ ∀ b, b < w.heap.size → ω b = none := by
  obtain ⟨u, rfl, hs⟩ := ofM h
  obtain ⟨hd, r, rfl, hv⟩ := ofSS 1003 31 2 hs
  exact (hf (fit_of hs)).call (l := [(1003, (rowsRo d, hd, r))]) (us := [_]) (fun p hp => by simp at hp; subst hp; exact hv) rfl (denL1 (denM (den_sl (q := (rowsRo d, hd, r)) rfl)))
/-- a list, and a list and a number -/
theorem fitS {E : Nat} {w : World} {v : Value} {zs : List Int} (h : OwS E w v zs) : zs.length ≤ 4398046511104 := by
  obtain ⟨ao, n, c, rfl, ho⟩ := h
  have := ho.len; have := ho.2
  simp at *; omega
theorem callS {f : FuncId} {outs : List (Nm × Ch)} {res : AV} {zs : List Int} (hf : zs.length ≤ 4398046511104 → FC Try.prog f [(1003, wRo zs)] [o1 (.sl 1003 0 zs.length)] outs res []) {E : Nat} {w : World} {lo hi : Nat} {v : Value} (h : OwnS E w lo hi v zs) :
    Calls Try.prog f #[v] w fun e w' => ∃ v η ω, e = .returned v ∧ Den η res v ∧ Mem η ω w' (fun x => lk x outs) ∧ Below w.heap.size w w' ∧ ∀ b, b < w.heap.size → ω b = none := by
  obtain ⟨hd, r, rfl, hv⟩ := ofS 1003 2 h.1
  exact (hf (fitS h.1)).call (l := [(1003, (wRo zs, hd, r))]) (us := [_]) (fun p hp => by simp at hp; subst hp; exact hv) rfl (denL1 (den_sl (q := (wRo zs, hd, r)) rfl))
theorem callSI {f : FuncId} {outs : List (Nm × Ch)} {res : AV} {zs : List Int} (m : Int) (hf : zs.length ≤ 4398046511104 → FC Try.prog f [(1003, wRo zs)] [o1 (.sl 1003 0 zs.length), vv (I6 m)] outs res []) {E : Nat} {w : World} {lo hi : Nat} {v : Value} (h : OwnS E w lo hi v zs) :
    Calls Try.prog f #[v, .int .i64 m] w fun e w' => ∃ v η ω, e = .returned v ∧ Den η res v ∧ Mem η ω w' (fun x => lk x outs) ∧ Below w.heap.size w w' ∧ ∀ b, b < w.heap.size → ω b = none := by
  obtain ⟨hd, r, rfl, hv⟩ := ofS 1003 2 h.1
  exact (hf (fitS h.1)).call (l := [(1003, (wRo zs, hd, r))]) (us := [_, _]) (fun p hp => by simp at hp; subst hp; exact hv) rfl (denL2 (den_sl (q := (wRo zs, hd, r)) rfl) rfl)
end Go.Proofs.Ytlpeghdbjfnenaa

/- OrderOfNodes. guards: -/
namespace Go.Proofs.Ytlpeghdbjfnenaa
open Go.RowKit

def prodTo (A : List Int) (k : Nat) : Int := (A.take k).foldl (· * ·) 1
theorem prodTo_succ {A : List Int} {k : Nat} (h : k < A.length) : prodTo A (k + 1) = prodTo A k * iget A k := by
  unfold prodTo
  rw [List.take_add_one, List.getElem?_eq_getElem h, List.foldl_append, iget_lt h]; rfl
theorem prodTo_in {A : List Int} (hA : ∀ z ∈ A, 2 ≤ z ∧ z ≤ 32) : ∀ k, k ≤ A.length → 1 ≤ prodTo A k ∧ prodTo A k ≤ ((32 ^ k : Nat) : Int)
  | 0, _ => by simp [prodTo]
  | k + 1, h => by
    have ih := prodTo_in hA k (by omega)
    have hz := hA _ (iget_mem (zs := A) (k := k) (by omega))
    rw [prodTo_succ (by omega), Nat.pow_succ, Int.natCast_mul]
    refine ⟨?_, Int.mul_le_mul ih.2 (by omega) (by omega) (Int.natCast_nonneg _)⟩
    have := Int.mul_le_mul ih.1 (show (1 : Int) ≤ iget A k by omega) (by omega) (by omega)
    omega
theorem prodTo_lt {A : List Int} (hA : ∀ z ∈ A, 2 ≤ z ∧ z ≤ 32) (h5 : A.length ≤ 5) {k : Nat} (h : k ≤ A.length) : 1 ≤ prodTo A k ∧ prodTo A k ≤ 33554432 := by
  have h1 := prodTo_in hA k h
  have h2 : 32 ^ k ≤ 32 ^ 5 := Nat.pow_le_pow_right (by decide) (by omega)
  have h3 : (32 : Nat) ^ 5 = 33554432 := by decide
  omega
theorem catD_in {ps : Cmps} (hL : ∀ k, k < ps.length → Labs (cget ps k).2) : ∀ j, j ≤ ps.length → ∀ z ∈ catD ps j, 2 ≤ z ∧ z ≤ 32
  | 0, _ => by intro z hz; simp [catD] at hz
  | j + 1, h => by
    intro z hz
    rw [catD_succ (by omega)] at hz
    rcases List.mem_append.1 hz with hz | hz
    · exact catD_in hL j (by omega) z hz
    · exact degs_in (hL j (by omega)) z hz
theorem allD_in {zs : List Int} {mask : Nat} (hd : isDiag zs = true) : ∀ z ∈ allD zs mask, 2 ≤ z ∧ z ≤ 32 := fun z hz =>
  catD_in (fun k hk => labs_of hd hk) _ (Nat.le_refl _) z ((List.mergeSort_perm _ _).mem_iff.1 hz)
theorem allD_len (zs : List Int) (mask : Nat) : (allD zs mask).length = (catD (comps zs mask) (comps zs mask).length).length := sortL_len _
theorem allD_le {zs : List Int} {mask : Nat} (hd : isDiag zs = true) : (allD zs mask).length ≤ 5 := by
  have h4 := isDiag_len hd
  have h1 := catD_len (fun k hk => labs_of hd (mask := mask) hk) _ (Nat.le_refl _)
  have h2 := csum_take (comps zs mask) (comps zs mask).length
  have h3 := (comps_ok zs mask).sum
  rw [allD_len]; omega
/-- the order of a finite set of nodes -/
def ordL (zs : List Int) (mask : Nat) : Int := prodTo (allD zs mask) (allD zs mask).length
def ordR (zs : List Int) (m : Int) : Int := if maskC zs m = 0 then ordL zs m.toNat else 0
set_option maxRecDepth 100000 in
theorem ordS_fc (zs : List Int) (L mask : Nat) (hL : zs.length = L) (hd : isDiag zs = true) (hmk : mask < 1000) (hf : finB zs mask = true) :
    FC Try.prog 84 [(1003, wRo zs)] [o1 (.sl 1003 0 L), vv (I6 mask)] [] (vv (I6 (ordL zs mask))) [] := by
  have hA := (allS_fc zs L mask hL hd hmk hf).nm [(1003, 1003), (2300, 10)] (by kernel_rfl)
  rw [← allD_len] at hA
  have hA : FC Try.prog 87 [(1003, wRo zs)] [o1 (.sl 1003 0 L), vv (I6 mask)] [(10, leOw (allD zs mask))] (o1 (.sl 10 0 (allD zs mask).length)) [] := hA
  have hin := allD_in (mask := mask) hd
  have hle := allD_le (mask := mask) hd
  unfold ordL
  refine fc_enter (nt := 24) Try.func84 rfl rfl (by simp) fun w0 ω0 => ?_
  generalize allD zs mask = B at *
  have hil : B.length ≤ (ivals B).length := by rw [ivals_len]; exact Nat.le_refl _
  (refine goes_seq ?_; refine goes_region ?_; apply run_step rfl; (exact stp_assign rfl rfl); refine run_nil ?_; refine fin_seq ?_; refine goes_seq ?_; refine goes_region ?_; apply run_step rfl; (exact stp_move rfl rfl); apply run_step rfl; (exact stp_move rfl rfl); apply run_step rfl; (apply call_gate 87; exact stp_callN hA (by as_aux_lemma => kernel_rfl) rfl rfl ⟨rfl, rfl, trivial⟩ ⟨⟨_, rfl, .inl rfl⟩, trivial⟩ rfl rfl rfl); apply run_step rfl; (exact stp_assign rfl rfl); apply run_step rfl; (exact stp_assign rfl rfl); refine run_nil ?_; refine fin_seq ?_; refine goes_seq ?_; refine goes_seq ?_; refine goes_region ?_; apply run_step rfl; (exact stp_assign rfl rfl); refine run_nil ?_; refine fin_seq ?_; refine goes_block ?_)
  refine goes_loop (fun k : Nat => St.of [(5, o1 (.sl 10 0 B.length)), (6, vv (I6 (prodTo B k))), (7, vv (I6 k))] [(10, leOw B)]) (fun k => k ≤ B.length) (fun k => B.length - k) 0 (Nat.zero_le _) (Wk.of ⟨rfl, rfl, rfl, trivial⟩ ⟨rfl, trivial⟩ trivial) ?_
  rintro k hk
  (refine goes_seq ?_; refine goes_seq ?_; refine goes_region ?_; apply run_step rfl; (exact stp_move rfl rfl); apply run_step rfl; (exact stp_move rfl rfl); apply run_step rfl; (exact stp_len rfl rfl rfl (by as_aux_lemma => kernel_rfl)); apply run_step rfl; (exact stp_bin rfl rfl rfl rfl); refine run_nil ?_; refine fin_seq ?_)
  refine goes_if rfl (fun hlt => ?_) (fun hlt => ?_)
  · have hkm : k < B.length := by omega
    have hp := prodTo_lt hin hle (k := k + 1) hkm
    have hg : (ivals B)[k]? = some (I6 (iget B k)) := ivals_get hkm
    have hw : IntKind.i64.wrap (prodTo B k * iget B k) = prodTo B (k + 1) := by rw [← prodTo_succ hkm]; exact IntWalk.i64_in _ (by omega)
    (refine goes_skip ?_; refine fin_seq ?_; refine goes_seq ?_; refine goes_block ?_; refine goes_region ?_; apply run_step rfl; (exact stp_move rfl rfl); apply run_step rfl; (exact stp_move rfl rfl); apply run_step rfl; (exact stp_move rfl rfl); apply run_step rfl; (first | exact stp_ix (j := k) rfl rfl rfl rfl rfl (by as_aux_lemma => kernel_rfl) rfl hkm hil | exact stp_mul rfl rfl rfl hw); apply run_step rfl; (exact stp_loadV rfl (by as_aux_lemma => kernel_rfl) rfl rfl rfl (by first | assumption | exact ivals_get (by assumption) | exact irows_get (by assumption) | exact ivals_get (by omega) | exact irows_get (by omega) | rfl)); apply run_step rfl; (first | exact stp_ix (j := k) rfl rfl rfl rfl rfl (by as_aux_lemma => kernel_rfl) rfl hkm hil | exact stp_mul rfl rfl rfl hw); apply run_step rfl; (exact stp_assign rfl rfl); refine run_nil ?_; refine fin_block ?_; refine fin_seq ?_; refine goes_region ?_; apply run_step rfl; (exact stp_move rfl rfl); apply run_step rfl; (exact stp_add rfl rfl rfl (by first | exact IntWalk.i64_in _ (by omega) | rfl)); apply run_step rfl; (exact stp_assign rfl rfl); refine run_nil ?_)
    exact fin_round (k + 1) (by omega) (by omega) (Wk.of ⟨rfl, rfl, rfl, trivial⟩ ⟨rfl, trivial⟩ trivial)
  · obtain rfl : k = B.length := by omega
    (refine goes_exit ?_; refine fin_exit_then ?_; refine fin_exit_then ?_; refine fin_exit_eq ?_; refine fin_seq ?_; refine goes_seq ?_; refine goes_region ?_; apply run_step rfl; (exact stp_move rfl rfl); apply run_step rfl; (exact stp_assign rfl rfl); refine run_nil ?_; refine fin_seq ?_; refine goes_ret ?_)
    exact fin_ret1 (.inl rfl) rfl (.tmp rfl) trivial trivial
set_option maxRecDepth 100000 in
theorem ordYes_fc (zs : List Int) (L mask : Nat) (hL : zs.length = L) (hd : isDiag zs = true) (hmk : mask < 1000) (hf : finB zs mask = true) :
    FC Try.prog 86 [(1003, wRo zs)] [o1 (.sl 1003 0 L), vv (I6 mask)] [] (.tup [.one (.val (I6 (ordL zs mask))), .one (.val (.bool true))]) [] := by
  have hA := (allYes_fc zs L mask hL hd hmk hf).nm [(1003, 1003), (2200, 15)] (by kernel_rfl)
  unfold aRes at hA
  rw [← allD_len] at hA
  have hA : FC Try.prog 82 [(1003, wRo zs)] [o1 (.sl 1003 0 L), vv (I6 mask)] [(15, leOw (allD zs mask))] (.tup [.one (.sl 15 0 (allD zs mask).length), .one (.val (I6 (mulA zs mask : Nat))), .one (.val (.bool true))]) [] := hA
  have hin := allD_in (mask := mask) hd
  have hle := allD_le (mask := mask) hd
  unfold ordL
  refine fc_enter (nt := 31) Try.func86 rfl rfl (by simp) fun w0 ω0 => ?_
  generalize allD zs mask = B at *
  have hil : B.length ≤ (ivals B).length := by rw [ivals_len]; exact Nat.le_refl _
  (refine goes_seq ?_; refine goes_region ?_; apply run_step rfl; (exact stp_assign rfl rfl); apply run_step rfl; (exact stp_assign rfl rfl); refine run_nil ?_; refine fin_seq ?_; refine goes_seq ?_; refine goes_region ?_; apply run_step rfl; (exact stp_move rfl rfl); apply run_step rfl; (exact stp_move rfl rfl); apply run_step rfl; (apply call_gate 82; exact stp_callN hA (by as_aux_lemma => kernel_rfl) rfl rfl ⟨rfl, rfl, trivial⟩ ⟨⟨_, rfl, .inl rfl⟩, trivial⟩ rfl rfl rfl); apply run_step rfl; (exact stp_move rfl rfl); apply run_step rfl; (exact stp_extract rfl rfl rfl); apply run_step rfl; (exact stp_extract rfl rfl rfl); apply run_step rfl; (exact stp_extract rfl rfl rfl); apply run_step rfl; (exact stp_assign rfl rfl); apply run_step rfl; (exact stp_assign rfl rfl); apply run_step rfl; (exact stp_assign rfl rfl); refine run_nil ?_; refine fin_seq ?_; refine goes_seq ?_; refine goes_region ?_; apply run_step rfl; (exact stp_assign rfl rfl); refine run_nil ?_; refine fin_seq ?_; refine goes_seq ?_; refine goes_seq ?_; refine goes_region ?_; apply run_step rfl; (exact stp_move rfl rfl); apply run_step rfl; (exact stp_len rfl rfl rfl (by as_aux_lemma => kernel_rfl)); apply run_step rfl; (exact stp_move rfl rfl); refine run_nil ?_; refine fin_seq ?_; refine goes_block ?_)
  refine goes_loop (fun k : Nat => St.of [(8, vv (.bool true)), (9, vv (I6 (prodTo B k))), (19, o1 (.sl 15 0 B.length)), (20, vv (I6 B.length)), (21, vv (I6 k))] [(15, leOw B)]) (fun k => k ≤ B.length) (fun k => B.length - k) 0 (Nat.zero_le _) (Wk.of ⟨rfl, rfl, rfl, rfl, rfl, trivial⟩ ⟨rfl, trivial⟩ trivial) ?_
  rintro k hk
  (refine goes_seq ?_; refine goes_region ?_; apply run_step rfl; (exact stp_bin rfl rfl rfl rfl); refine run_nil ?_; refine fin_seq ?_; refine goes_seq ?_)
  refine goes_if rfl (fun hlt => ?_) (fun hlt => ?_)
  · have hkm : k < B.length := by omega
    have hp := prodTo_lt hin hle (k := k + 1) hkm
    have hg : (ivals B)[k]? = some (I6 (iget B k)) := ivals_get hkm
    have hw : IntKind.i64.wrap (prodTo B k * iget B k) = prodTo B (k + 1) := by rw [← prodTo_succ hkm]; exact IntWalk.i64_in _ (by omega)
    (refine goes_skip ?_; refine fin_seq ?_; refine goes_seq ?_; refine goes_block ?_; refine goes_seq ?_; refine goes_region ?_; apply run_step rfl; (first | exact stp_ix (j := k) rfl rfl rfl rfl rfl (by as_aux_lemma => kernel_rfl) rfl hkm hil | exact stp_mul rfl rfl rfl hw); apply run_step rfl; (exact stp_loadV rfl (by as_aux_lemma => kernel_rfl) rfl rfl rfl (by first | assumption | exact ivals_get (by assumption) | exact irows_get (by assumption) | exact ivals_get (by omega) | exact irows_get (by omega) | rfl)); apply run_step rfl; (exact stp_assign rfl rfl); refine run_nil ?_; refine fin_seq ?_; refine goes_region ?_; apply run_step rfl; (exact stp_move rfl rfl); apply run_step rfl; (exact stp_move rfl rfl); apply run_step rfl; (first | exact stp_ix (j := k) rfl rfl rfl rfl rfl (by as_aux_lemma => kernel_rfl) rfl hkm hil | exact stp_mul rfl rfl rfl hw); apply run_step rfl; (exact stp_assign rfl rfl); refine run_nil ?_; refine fin_block ?_; refine fin_seq ?_; refine goes_region ?_; apply run_step rfl; (exact stp_add rfl rfl rfl (by first | exact IntWalk.i64_in _ (by omega) | rfl)); apply run_step rfl; (exact stp_move rfl rfl); refine run_nil ?_)
    exact fin_round (k + 1) (by omega) (by omega) (Wk.of ⟨rfl, rfl, rfl, rfl, rfl, trivial⟩ ⟨rfl, trivial⟩ trivial)
  · obtain rfl : k = B.length := by omega
    (refine goes_exit ?_; refine fin_exit_then ?_; refine fin_exit_then ?_; refine fin_exit_eq ?_; refine fin_seq ?_; refine goes_seq ?_; refine goes_region ?_; apply run_step rfl; (exact stp_move rfl rfl); apply run_step rfl; (exact stp_move rfl rfl); apply run_step rfl; (exact stp_assign rfl rfl); apply run_step rfl; (exact stp_assign rfl rfl); refine run_nil ?_; refine fin_seq ?_; refine goes_ret ?_)
    exact fin_ret2 (.inl rfl) rfl (.tmp rfl) (.tmp rfl) trivial trivial
set_option maxRecDepth 100000 in
theorem ordNo_fc (zs : List Int) (L mask : Nat) (hL : zs.length = L) (hd : isDiag zs = true) (hmk : mask < 1000) (hf : finB zs mask = false) :
    FC Try.prog 86 [(1003, wRo zs)] [o1 (.sl 1003 0 L), vv (I6 mask)] [] (.tup [.one (.val (I6 1)), .one (.val (.bool false))]) [] := by
  have hA := allNo_fc zs L mask hL hd hmk hf
  refine fc_enter (nt := 31) Try.func86 rfl rfl (by simp) fun w0 ω0 => ?_
  (refine goes_seq ?_; refine goes_region ?_; apply run_step rfl; (exact stp_assign rfl rfl); apply run_step rfl; (exact stp_assign rfl rfl); refine run_nil ?_; refine fin_seq ?_; refine goes_seq ?_; refine goes_region ?_; apply run_step rfl; (exact stp_move rfl rfl); apply run_step rfl; (exact stp_move rfl rfl); apply run_step rfl; (apply call_gate 82; exact stp_callR hA (by as_aux_lemma => kernel_rfl) rfl rfl ⟨rfl, rfl, trivial⟩ ⟨⟨_, rfl, .inl rfl⟩, trivial⟩ rfl rfl); apply run_step rfl; (exact stp_move rfl rfl); apply run_step rfl; (exact stp_extract rfl rfl rfl); apply run_step rfl; (exact stp_extract rfl rfl rfl); apply run_step rfl; (exact stp_extract rfl rfl rfl); apply run_step rfl; (exact stp_assign rfl rfl); apply run_step rfl; (exact stp_assign rfl rfl); apply run_step rfl; (exact stp_assign rfl rfl); refine run_nil ?_; refine fin_seq ?_; refine goes_seq ?_; refine goes_region ?_; apply run_step rfl; (exact stp_assign rfl rfl); refine run_nil ?_; refine fin_seq ?_; refine goes_seq ?_; refine goes_seq ?_; refine goes_region ?_; apply run_step rfl; (exact stp_move rfl rfl); apply run_step rfl; (exact stp_len rfl rfl rfl (by as_aux_lemma => kernel_rfl)); apply run_step rfl; (exact stp_move rfl rfl); refine run_nil ?_; refine fin_seq ?_; refine goes_block ?_)
  refine goes_loop (fun _ : Nat => St.of [(8, vv (.bool false)), (9, vv (I6 1)), (20, vv (I6 0)), (21, vv (I6 0))] []) (fun _ => True) (fun _ => 0) 0 trivial (Wk.of ⟨rfl, rfl, rfl, rfl, trivial⟩ trivial trivial) ?_
  rintro _ _
  (refine goes_seq ?_; refine goes_region ?_; apply run_step rfl; (exact stp_bin rfl rfl rfl rfl); refine run_nil ?_; refine fin_seq ?_; refine goes_seq ?_)
  refine goes_cond rfl (fun e => by simp at e) (fun _ => ?_)
  (refine goes_exit ?_; refine fin_exit_then ?_; refine fin_exit_then ?_; refine fin_exit_eq ?_; refine fin_seq ?_; refine goes_seq ?_; refine goes_region ?_; apply run_step rfl; (exact stp_move rfl rfl); apply run_step rfl; (exact stp_move rfl rfl); apply run_step rfl; (exact stp_assign rfl rfl); apply run_step rfl; (exact stp_assign rfl rfl); refine run_nil ?_; refine fin_seq ?_; refine goes_ret ?_)
  exact fin_ret2 (.inl rfl) rfl (.tmp rfl) (.tmp rfl) trivial trivial
set_option maxRecDepth 100000 in
theorem isMask_fc (zs : List Int) (L : Nat) (m : Int) (hL : zs.length = L) (h4 : L ≤ 4) :
    FC Try.prog 85 [(1003, wRo zs)] [o1 (.sl 1003 0 L), vv (I6 m)] [] (vv (.bool (inB m 0 (allN zs)))) [] := by
  have hA := allI_fc zs L hL h4
  have hW := within_fc m 0 (allN zs)
  refine fc_enter (nt := 9) Try.func85 rfl rfl (by simp) fun w0 ω0 => ?_
  (refine goes_seq ?_; refine goes_region ?_; apply run_step rfl; (exact stp_assign rfl rfl); refine run_nil ?_; refine fin_seq ?_; refine goes_seq ?_; refine goes_region ?_; apply run_step rfl; (exact stp_move rfl rfl); apply run_step rfl; (exact stp_move rfl rfl); apply run_step rfl; (first | (apply call_gate 64; exact stp_callR hA (by as_aux_lemma => kernel_rfl) rfl rfl ⟨rfl, trivial⟩ ⟨⟨_, rfl, .inl rfl⟩, trivial⟩ rfl rfl) | (apply call_gate 106; exact stp_callR hW (by as_aux_lemma => kernel_rfl) rfl rfl ⟨rfl, rfl, rfl, trivial⟩ trivial rfl rfl)); apply run_step rfl; (first | (apply call_gate 64; exact stp_callR hA (by as_aux_lemma => kernel_rfl) rfl rfl ⟨rfl, trivial⟩ ⟨⟨_, rfl, .inl rfl⟩, trivial⟩ rfl rfl) | (apply call_gate 106; exact stp_callR hW (by as_aux_lemma => kernel_rfl) rfl rfl ⟨rfl, rfl, rfl, trivial⟩ trivial rfl rfl)); apply run_step rfl; (exact stp_assign rfl rfl); refine run_nil ?_; refine fin_seq ?_; refine goes_ret ?_)
  exact fin_ret1 (.inl rfl) rfl (.tmp rfl) trivial trivial
end Go.Proofs.Ytlpeghdbjfnenaa

/- OrderOfNodes, the program's and the reference's. guards: -/
namespace Go.Proofs.Ytlpeghdbjfnenaa
open Go.RowKit

theorem maskC_no {zs : List Int} {m : Int} (hd : isDiag zs = false) : maskC zs m = 1 := by unfold maskC; rw [hd, if_neg (by simp)]
theorem maskC_out {zs : List Int} {m : Int} (hd : isDiag zs = true) (hb : inB m 0 (allN zs) = false) : maskC zs m = 2 := by unfold maskC; rw [hd, if_pos rfl, hb, if_neg (by simp)]
theorem maskC_in {zs : List Int} {k : Nat} (hd : isDiag zs = true) (hb : inB (k : Int) 0 (allN zs) = true) : maskC zs k = if finB zs k = true then 0 else 5 := by unfold maskC; rw [hd, if_pos rfl, hb, if_pos rfl, Int.toNat_natCast]
theorem maskC_zero {zs : List Int} {m : Int} (h : maskC zs m = 0) : isDiag zs = true ∧ ∃ k : Nat, m = k ∧ k < 1000 ∧ finB zs k = true := by
  cases hd : isDiag zs with
  | false => rw [maskC_no hd] at h; cases h
  | true =>
    refine ⟨rfl, ?_⟩
    cases hb : inB m 0 (allN zs) with
    | false => rw [maskC_out hd hb] at h; cases h
    | true =>
      have hbb := inB_true.1 hb
      have hlt := allN_lt (zs := zs) (isDiag_len hd)
      obtain ⟨k, rfl⟩ := Int.eq_ofNat_of_zero_le hbb.1
      refine ⟨k, rfl, by omega, ?_⟩
      rw [maskC_in hd hb] at h
      cases hf : finB zs k with
      | true => rfl
      | false => rw [hf, if_neg (by simp)] at h; cases h
set_option maxRecDepth 100000 in
theorem onI_fc (zs : List Int) (m : Int) (hn : zs.length ≤ 4398046511104) :
    FC Try.prog 43 [(1003, wRo zs)] [o1 (.sl 1003 0 zs.length), vv (I6 m)] [] (.tup [.one (.val (I6 (ordR zs m))), .one (.val (I6 (maskC zs m)))]) [] := by
  have hI := diagI_fc zs zs.length rfl hn
  unfold ordR
  refine fc_enter (nt := 26) Try.func43 rfl rfl (by simp) fun w0 ω0 => ?_
  cases hd : isDiag zs with
  | false =>
    rw [hd] at hI
    rw [maskC_no hd, if_neg (by decide)]
    (refine goes_seq ?_; refine goes_region ?_; apply run_step rfl; (exact stp_assign rfl rfl); apply run_step rfl; (exact stp_assign rfl rfl); refine run_nil ?_; refine fin_seq ?_; refine goes_seq ?_; refine goes_block ?_; refine goes_seq ?_; refine goes_region ?_; apply run_step rfl; (exact stp_move rfl rfl); apply run_step rfl; (apply call_gate 62; exact stp_callR hI (by as_aux_lemma => kernel_rfl) rfl rfl ⟨rfl, trivial⟩ ⟨⟨_, rfl, .inl rfl⟩, trivial⟩ rfl rfl); apply run_step rfl; (exact stp_not rfl rfl); apply run_step rfl; (exact stp_assign rfl rfl); refine run_nil ?_; refine fin_seq ?_)
    refine goes_cond rfl (fun _ => ?_) (fun e => by cases e)
    (refine goes_seq ?_; refine goes_region ?_; apply run_step rfl; (exact stp_assign rfl rfl); apply run_step rfl; (exact stp_assign rfl rfl); refine run_nil ?_; refine fin_seq ?_; refine goes_ret ?_; refine fin_ret_block ?_; refine fin_ret_then ?_)
    exact fin_ret2 (.inl rfl) rfl (.tmp rfl) (.tmp rfl) trivial trivial
  | true =>
    rw [hd] at hI
    have h4 := isDiag_len hd
    have hM := isMask_fc zs zs.length m rfl h4
    cases hb : inB m 0 (allN zs) with
    | false =>
      rw [hb] at hM
      rw [maskC_out hd hb, if_neg (by decide)]
      (refine goes_seq ?_; refine goes_region ?_; apply run_step rfl; (exact stp_assign rfl rfl); apply run_step rfl; (exact stp_assign rfl rfl); refine run_nil ?_; refine fin_seq ?_; refine goes_seq ?_; refine goes_block ?_; refine goes_seq ?_; refine goes_region ?_; apply run_step rfl; (exact stp_move rfl rfl); apply run_step rfl; (apply call_gate 62; exact stp_callR hI (by as_aux_lemma => kernel_rfl) rfl rfl ⟨rfl, trivial⟩ ⟨⟨_, rfl, .inl rfl⟩, trivial⟩ rfl rfl); apply run_step rfl; (exact stp_not rfl rfl); apply run_step rfl; (exact stp_assign rfl rfl); refine run_nil ?_; refine fin_seq ?_)
      refine goes_cond rfl (fun e => by cases e) (fun _ => ?_)
      (refine goes_seq ?_; refine goes_region ?_; apply run_step rfl; (exact stp_move rfl rfl); apply run_step rfl; (exact stp_move rfl rfl); apply run_step rfl; (apply call_gate 85; exact stp_callR hM (by as_aux_lemma => kernel_rfl) rfl rfl ⟨rfl, rfl, trivial⟩ ⟨⟨_, rfl, .inl rfl⟩, trivial⟩ rfl rfl); apply run_step rfl; (exact stp_not rfl rfl); apply run_step rfl; (exact stp_assign rfl rfl); refine run_nil ?_; refine fin_seq ?_)
      refine goes_cond rfl (fun _ => ?_) (fun e => by cases e)
      (refine goes_seq ?_; refine goes_region ?_; apply run_step rfl; (exact stp_assign rfl rfl); apply run_step rfl; (exact stp_assign rfl rfl); refine run_nil ?_; refine fin_seq ?_; refine goes_ret ?_; refine fin_ret_block ?_; refine fin_ret_then ?_)
      exact fin_ret2 (.inl rfl) rfl (.tmp rfl) (.tmp rfl) trivial trivial
    | true =>
      rw [hb] at hM
      have hbb := inB_true.1 hb
      have hlt := allN_lt h4
      obtain ⟨k, rfl⟩ := Int.eq_ofNat_of_zero_le hbb.1
      rw [maskC_in hd hb, Int.toNat_natCast]
      cases hf : finB zs k with
      | false =>
        have hO := ordNo_fc zs zs.length k rfl hd (by omega) hf
        rw [if_neg (show ¬ (false = true) by simp), if_neg (by decide)]
        (refine goes_seq ?_; refine goes_region ?_; apply run_step rfl; (exact stp_assign rfl rfl); apply run_step rfl; (exact stp_assign rfl rfl); refine run_nil ?_; refine fin_seq ?_; refine goes_seq ?_; refine goes_block ?_; refine goes_seq ?_; refine goes_region ?_; apply run_step rfl; (exact stp_move rfl rfl); apply run_step rfl; (apply call_gate 62; exact stp_callR hI (by as_aux_lemma => kernel_rfl) rfl rfl ⟨rfl, trivial⟩ ⟨⟨_, rfl, .inl rfl⟩, trivial⟩ rfl rfl); apply run_step rfl; (exact stp_not rfl rfl); apply run_step rfl; (exact stp_assign rfl rfl); refine run_nil ?_; refine fin_seq ?_)
        refine goes_cond rfl (fun e => by cases e) (fun _ => ?_)
        (refine goes_seq ?_; refine goes_region ?_; apply run_step rfl; (exact stp_move rfl rfl); apply run_step rfl; (exact stp_move rfl rfl); apply run_step rfl; (apply call_gate 85; exact stp_callR hM (by as_aux_lemma => kernel_rfl) rfl rfl ⟨rfl, rfl, trivial⟩ ⟨⟨_, rfl, .inl rfl⟩, trivial⟩ rfl rfl); apply run_step rfl; (exact stp_not rfl rfl); apply run_step rfl; (exact stp_assign rfl rfl); refine run_nil ?_; refine fin_seq ?_)
        refine goes_cond rfl (fun e => by cases e) (fun _ => ?_)
        (refine goes_skip ?_; refine fin_block ?_; refine fin_seq ?_; refine goes_seq ?_; refine goes_region ?_; apply run_step rfl; (exact stp_move rfl rfl); apply run_step rfl; (exact stp_move rfl rfl); apply run_step rfl; (apply call_gate 86; exact stp_callR hO (by as_aux_lemma => kernel_rfl) rfl rfl ⟨rfl, rfl, trivial⟩ ⟨⟨_, rfl, .inl rfl⟩, trivial⟩ rfl rfl); apply run_step rfl; (exact stp_move rfl rfl); apply run_step rfl; (exact stp_extract rfl rfl rfl); apply run_step rfl; (exact stp_extract rfl rfl rfl); apply run_step rfl; (exact stp_assign rfl rfl); apply run_step rfl; (exact stp_assign rfl rfl); refine run_nil ?_; refine fin_seq ?_; refine goes_seq ?_; refine goes_seq ?_; refine goes_region ?_; apply run_step rfl; (exact stp_move rfl rfl); apply run_step rfl; (exact stp_not rfl rfl); refine run_nil ?_; refine fin_seq ?_)
        refine goes_cond rfl (fun _ => ?_) (fun e => by cases e)
        (refine goes_seq ?_; refine goes_region ?_; apply run_step rfl; (exact stp_assign rfl rfl); apply run_step rfl; (exact stp_assign rfl rfl); refine run_nil ?_; refine fin_seq ?_; refine goes_ret ?_; refine fin_ret_then ?_)
        exact fin_ret2 (.inl rfl) rfl (.tmp rfl) (.tmp rfl) trivial trivial
      | true =>
        have hO := ordYes_fc zs zs.length k rfl hd (by omega) hf
        rw [if_pos rfl, if_pos rfl]
        (refine goes_seq ?_; refine goes_region ?_; apply run_step rfl; (exact stp_assign rfl rfl); apply run_step rfl; (exact stp_assign rfl rfl); refine run_nil ?_; refine fin_seq ?_; refine goes_seq ?_; refine goes_block ?_; refine goes_seq ?_; refine goes_region ?_; apply run_step rfl; (exact stp_move rfl rfl); apply run_step rfl; (apply call_gate 62; exact stp_callR hI (by as_aux_lemma => kernel_rfl) rfl rfl ⟨rfl, trivial⟩ ⟨⟨_, rfl, .inl rfl⟩, trivial⟩ rfl rfl); apply run_step rfl; (exact stp_not rfl rfl); apply run_step rfl; (exact stp_assign rfl rfl); refine run_nil ?_; refine fin_seq ?_)
        refine goes_cond rfl (fun e => by cases e) (fun _ => ?_)
        (refine goes_seq ?_; refine goes_region ?_; apply run_step rfl; (exact stp_move rfl rfl); apply run_step rfl; (exact stp_move rfl rfl); apply run_step rfl; (apply call_gate 85; exact stp_callR hM (by as_aux_lemma => kernel_rfl) rfl rfl ⟨rfl, rfl, trivial⟩ ⟨⟨_, rfl, .inl rfl⟩, trivial⟩ rfl rfl); apply run_step rfl; (exact stp_not rfl rfl); apply run_step rfl; (exact stp_assign rfl rfl); refine run_nil ?_; refine fin_seq ?_)
        refine goes_cond rfl (fun e => by cases e) (fun _ => ?_)
        (refine goes_skip ?_; refine fin_block ?_; refine fin_seq ?_; refine goes_seq ?_; refine goes_region ?_; apply run_step rfl; (exact stp_move rfl rfl); apply run_step rfl; (exact stp_move rfl rfl); apply run_step rfl; (apply call_gate 86; exact stp_callR hO (by as_aux_lemma => kernel_rfl) rfl rfl ⟨rfl, rfl, trivial⟩ ⟨⟨_, rfl, .inl rfl⟩, trivial⟩ rfl rfl); apply run_step rfl; (exact stp_move rfl rfl); apply run_step rfl; (exact stp_extract rfl rfl rfl); apply run_step rfl; (exact stp_extract rfl rfl rfl); apply run_step rfl; (exact stp_assign rfl rfl); apply run_step rfl; (exact stp_assign rfl rfl); refine run_nil ?_; refine fin_seq ?_; refine goes_seq ?_; refine goes_seq ?_; refine goes_region ?_; apply run_step rfl; (exact stp_move rfl rfl); apply run_step rfl; (exact stp_not rfl rfl); refine run_nil ?_; refine fin_seq ?_)
        refine goes_cond rfl (fun e => by cases e) (fun _ => ?_)
        (refine goes_skip ?_; refine fin_seq ?_; refine goes_seq ?_; refine goes_region ?_; apply run_step rfl; (exact stp_move rfl rfl); apply run_step rfl; (exact stp_assign rfl rfl); apply run_step rfl; (exact stp_assign rfl rfl); refine run_nil ?_; refine fin_seq ?_; refine goes_ret ?_)
        exact fin_ret2 (.inl rfl) rfl (.tmp rfl) (.tmp rfl) trivial trivial
set_option maxRecDepth 100000 in
theorem onS_fc (zs : List Int) (m : Int) (hn : zs.length ≤ 4398046511104) :
    FC Try.prog 42 [(1003, wRo zs)] [o1 (.sl 1003 0 zs.length), vv (I6 m)] [] (.tup [.one (.val (I6 (ordR zs m))), .one (.val (I6 (maskC zs m)))]) [] := by
  have hM := maskS_fc zs zs.length m rfl hn
  unfold ordR
  refine fc_enter (nt := 16) Try.func42 rfl rfl (by simp) fun w0 ω0 => ?_
  (refine goes_seq ?_; refine goes_region ?_; apply run_step rfl; (exact stp_assign rfl rfl); apply run_step rfl; (exact stp_assign rfl rfl); refine run_nil ?_; refine fin_seq ?_; refine goes_seq ?_; refine goes_seq ?_; refine goes_region ?_; apply run_step rfl; (exact stp_move rfl rfl); apply run_step rfl; (exact stp_move rfl rfl); apply run_step rfl; (apply call_gate 83; exact stp_callR hM (by as_aux_lemma => kernel_rfl) rfl rfl ⟨rfl, rfl, trivial⟩ ⟨⟨_, rfl, .inl rfl⟩, trivial⟩ rfl rfl); apply run_step rfl; (exact stp_assign rfl rfl); refine run_nil ?_; refine fin_seq ?_; refine goes_seq ?_; refine goes_region ?_; apply run_step rfl; (exact stp_move rfl rfl); apply run_step rfl; (exact stp_bin rfl rfl rfl rfl); refine run_nil ?_; refine fin_seq ?_)
  refine goes_cond rfl (fun h => ?_) (fun h => ?_)
  · have h0 : maskC zs m ≠ 0 := by simpa using h
    rw [if_neg h0]
    (refine goes_seq ?_; refine goes_region ?_; apply run_step rfl; (exact stp_move rfl rfl); apply run_step rfl; (exact stp_assign rfl rfl); apply run_step rfl; (exact stp_assign rfl rfl); refine run_nil ?_; refine fin_seq ?_; refine goes_ret ?_; refine fin_ret_then ?_)
    exact fin_ret2 (.inl rfl) rfl (.tmp rfl) (.tmp rfl) trivial trivial
  have h0 : maskC zs m = 0 := by simpa using h
  rw [if_pos h0, h0]
  obtain ⟨hd, k, rfl, hk, hf⟩ := maskC_zero h0
  have hO := ordS_fc zs zs.length k rfl hd hk hf
  rw [Int.toNat_natCast]
  (refine goes_skip ?_; refine fin_seq ?_; refine goes_seq ?_; refine goes_region ?_; apply run_step rfl; (exact stp_move rfl rfl); apply run_step rfl; (exact stp_move rfl rfl); apply run_step rfl; (apply call_gate 84; exact stp_callR hO (by as_aux_lemma => kernel_rfl) rfl rfl ⟨rfl, rfl, trivial⟩ ⟨⟨_, rfl, .inl rfl⟩, trivial⟩ rfl rfl); apply run_step rfl; (exact stp_assign rfl rfl); apply run_step rfl; (exact stp_assign rfl rfl); refine run_nil ?_; refine fin_seq ?_; refine goes_ret ?_)
  exact fin_ret2 (.inl rfl) rfl (.tmp rfl) (.tmp rfl) trivial trivial

theorem api_specOn {E : Nat} {lo hi : Nat} {v : Value} {zs : List Int} (m : Int) (w : World) (h : OwnS E w lo hi v zs) :
    Calls Try.prog 42 #[v, .int .i64 m] w fun e w' => e = .returned (.tuple #[.int .i64 (ordR zs m), .int .i64 (maskC zs m)]) ∧ Below w.heap.size w w' := two_vals (callSI m (fun k => onS_fc zs m k) h)
theorem api_implOn {E : Nat} {lo hi : Nat} {v : Value} {zs : List Int} (m : Int) (w : World) (h : OwnS E w lo hi v zs) :
    Calls Try.prog 43 #[v, .int .i64 m] w fun e w' => e = .returned (.tuple #[.int .i64 (ordR zs m), .int .i64 (maskC zs m)]) ∧ Below w.heap.size w w' := two_vals (callSI m (fun k => onI_fc zs m k) h)
end Go.Proofs.Ytlpeghdbjfnenaa

/- A memory of names: function values that hold variables. No program in sight. -/
namespace Go.Proofs.Ytlpeghdbjfnenaa
open Go.RowKit

section
variable {P : Program} {nt : Nat} {S S' : St} {w0 w : World} {ω0 : Beg} {ω : Own?} {η : Env} {a : Act}
theorem stp_callG {f : FuncId} {o : Oper} {dst : Option Nat} {ins outs : List (Nm × Ch)} {args : List AV} {res : AV} {back : List (Nat × AV)} (kp : List (Nat × Nm))
    (hfc : FC P f ins args outs res back) (hod : o.dst = dst) (ht : (dst.map fun t => Nat.blt t nt) != some false) (hop : ∀ {w0 : World} {ω0 : Beg} {η : Env} {ω : Own?} {a : Act} {w : World}, SatE w0 ω0 nt S η ω a w → ∃ us, (execOp a.eval o).run P w = .ok (.enter f us.toArray) w ∧ DenL η args us)
    (hin : allIn S ins) (hkp : allKp ins args back kp)
    (hnr : (res.names.all (inL outs)) = true) (hno : (outs.all fun p => p.2.own && p.2.names.all (inL outs)) = true) :
    Stp P nt o S ((S.after ins outs (kp.map (·.2))).putO dst res) := by
  classical
  refine ⟨fun w0 ω0 a w Q ⟨η, ω, hs⟩ => ?_⟩
  obtain ⟨us, hrun, hopsL⟩ := hop hs
  let η1 : Env := { η with h := fun x => if lk x ins = none then none else η.h x }
  let ω1 : Own? := fun b => match ω b with
    | some (x, i) => if consB ins x = true then some (x, i) else none
    | none => none
  have hω1n : ∀ b, ω b = none → ω1 b = none := fun b h => by simp only [ω1, h]
  have hω1s : ∀ b x i, ω b = some (x, i) → consB ins x = true → ω1 b = some (x, i) := fun b x i h h' => by simp only [ω1, h, if_pos h']
  have hω1f : ∀ b x i, ω b = some (x, i) → consB ins x = false → ω1 b = none := fun b x i h h' => by simp [ω1, h, h']
  have hη1 : ∀ x, η1.h x = none ∨ (η1.h x = η.h x ∧ ∀ i, η1.r x i = η.r x i) := fun x => by
    by_cases e : lk x ins = none
    · exact .inl (if_pos e)
    · exact .inr ⟨if_neg e, fun _ => rfl⟩
  have hmem : Mem η1 ω1 w fun x => lk x ins := by
    refine ⟨fun x c hx => ?_, fun x hx => if_pos hx⟩
    have hx : lk x ins = some c := hx
    obtain ⟨c', hc', hcc⟩ := allIn_lk hin hx
    obtain ⟨hd, h1, h2⟩ := hs.mem.1 x c' hc'
    refine ⟨hd, by simp only [η1]; rw [if_neg (by rw [hx]; simp)]; exact h1, ?_⟩
    by_cases hown : c.own = true
    · have hcc' : c' = c := by
        rcases hcc with h | h
        · exact h
        · rw [h] at hown; cases hown
      subst hcc'
      refine h2.own ⟨Nat.le_refl _, fun b hb hp => ⟨rfl, ?_⟩⟩ (fun _ => rfl) fun l _ a _ z _ => hη1 z
      rcases hp with hp | ⟨i, hp⟩
      · rw [hp]; exact hω1n b hp
      · rw [hp]; exact hω1s b x i hp (by unfold consB; rw [hx]; exact hown)
    · have hcons : consB ins x = false := by unfold consB; rw [hx]; simpa using hown
      have hc0 : c = { c' with own := false } := by
        rcases hcc with h | h
        · rw [h]; have : c.own = false := by simpa using hown
          rw [← this]
        · exact h
      rw [hc0]
      exact h2.view hω1n (fun b i hb => hω1f b x i hb hcons) (fun _ => rfl) fun l _ a _ z _ => hη1 z
  have hargs : DenL η1 args (us) := by
    obtain ⟨h1, h2⟩ := hopsL
    refine ⟨h1, fun j av hj => ?_⟩
    obtain ⟨u, h3, h4⟩ := h2 j av hj
    exact ⟨u, h3, h4.mono fun y _ => hη1 y⟩
  have hcall := hfc w η1 ω1 _ hmem hargs
  unfold Oper.wp
  rw [hrun, Oper.upon_enter]
  refine hcall.mono fun e w' hl => ?_
  obtain ⟨v, η2, ω2, rfl, hdv, hm2, hfr, hbk⟩ := hl
  have hdst : ∀ t, dst = some t → t < nt := fun t ht' => by subst ht'; simpa using ht
  let ω3 : Own? := fun b => if b < w.heap.size ∧ ω1 b = none then ω b else ω2 b
  let η3 : Env := { h := fun y => if inL outs y = true then η2.h y else if consB ins y = true then none else η.h y
                    r := fun y i => if inL outs y = true then η2.r y i else η.r y i }
  have hturn : Turn η η3 (inL outs) (memB (kp.map (·.2))) := fun y => by
    by_cases ho : inL outs y = true
    · refine .inr (.inr ⟨ho, fun hk h' he => ?_⟩)
      obtain ⟨hin', j, hj, hj'⟩ := allKp_mem hkp hk
      obtain ⟨u, hu, hdu⟩ := hbk j _ hj'
      obtain ⟨u', hu', hdu'⟩ := hopsL.2 j _ hj
      rw [hu] at hu'; obtain rfl := Option.some.inj hu'
      have he2 : η2.h y = some h' := by simp only [η3, if_pos ho] at he; exact he
      obtain ⟨b, o, g1, g2⟩ := (show Den1 η2 (.ptr y 0) u from hdu).2 h' he2
      obtain ⟨u'', hu'', hdu''⟩ := hargs.2 j _ hj
      have hlk : ∃ h, η.h y = some h := by
        obtain ⟨c, hc⟩ := Option.isSome_iff_exists.1 hin'
        obtain ⟨c', hc', _⟩ := allIn_lk hin hc
        obtain ⟨h, hh, _⟩ := hs.mem.1 y c' hc'
        exact ⟨h, hh⟩
      obtain ⟨h, hh⟩ := hlk
      obtain ⟨b', o', g1', g2'⟩ := (show Den1 η (.ptr y 0) u from hdu').2 h hh
      rw [g2] at g2'
      injection g2' with g2'; injection g2' with g2'; injection g2' with g2' g3'
      refine ⟨h, hh, ?_⟩
      rw [g1, g1']
      subst g2'
      simp at g3'
      rw [g3']
    · by_cases hc : consB ins y = true
      · exact .inl (by simp only [η3, if_neg ho, if_pos hc])
      · exact .inr (.inl ⟨by simp only [η3, if_neg ho, if_neg hc], fun i => by simp only [η3, if_neg ho]⟩)
  have hω3 : ∀ b, b < w.heap.size → ω1 b = none → ω3 b = ω b := fun b h1 h2 => by simp only [ω3, if_pos (And.intro h1 h2)]
  have hb3 : ∀ b, b < w.heap.size → ω1 b = none → w'.heap[b]? = w.heap[b]? := fun b h1 h2 => (hfr.block b h1 h2).1
  have hω32 : ∀ b o, ω2 b = some o → ω3 b = some o := fun b o h => by
    by_cases e : b < w.heap.size ∧ ω1 b = none
    · have := (hfr.block b e.1 e.2).2
      rw [this] at h; cases h
    · simp only [ω3, if_neg e, h]
  have hsame : Same ω w ω3 w' (fun o => o = none ∨ ∃ y i, o = some (y, i) ∧ consB ins y = false) := by
    refine ⟨hfr.size, fun b hb hp => ?_⟩
    have h1 : ω1 b = none := by
      rcases hp with h | ⟨y, i, h, hc⟩
      · exact hω1n b h
      · exact hω1f b y i h hc
    exact ⟨hb3 b hb h1, hω3 b hb h1⟩
  have hst : SatE w0 ω0 nt (S.after ins outs (kp.map (·.2))) η3 ω3 a w' := by
    refine { dfr := hs.dfr, tsz := hs.tsz, slots := fun t av ht' => ?_, phs := fun t av ht' => ?_, mem := ⟨fun y c hy => ?_, fun y hy => ?_⟩, fr := ?_ }
    · obtain ⟨h1, h2⟩ := bind_bad ht'
      obtain ⟨u, h3, h4⟩ := hs.slots t av h1
      exact ⟨u, h3, h4.turn hturn h2⟩
    · obtain ⟨h1, h2⟩ := bind_bad ht'
      obtain ⟨u, h3, h4⟩ := hs.phs t av h1
      exact ⟨u, h3, h4.turn hturn h2⟩
    · have hy : (match lk y outs with
        | some c => some c
        | none => bif consB ins y then none else (S.ch y).map (Ch.clean (inL outs) (memB (kp.map (·.2))))) = some c := hy
      cases hl : lk y outs with
      | some c1 =>
        rw [hl] at hy
        obtain rfl := Option.some.inj hy
        have ho : inL outs y = true := by unfold inL; rw [hl]; rfl
        obtain ⟨hd, h1, h2⟩ := hm2.1 y c1 hl
        refine ⟨hd, by simp only [η3, if_pos ho]; exact h1, ?_⟩
        have hall := List.all_eq_true.1 hno _ (lk_mem hl)
        simp only [Bool.and_eq_true] at hall
        refine ChIs.sameO (η := η2) (ω := ω2) (w := w') hall.1 (fun b i _ hb => ⟨rfl, hω32 b _ hb⟩) (fun i => by simp only [η3, if_pos ho]) (fun l hlf b1 hb1 z hz => ?_) h2
        have hz' : inL outs z = true := List.all_eq_true.1 hall.2 z (Ch.names_mem hlf hb1 hz)
        exact .inr ⟨by simp only [η3, if_pos hz'], fun i => by simp only [η3, if_pos hz']⟩
      | none =>
        rw [hl] at hy
        have ho : inL outs y = false := by unfold inL; rw [hl]; rfl
        cases hc : consB ins y with
        | true => rw [hc] at hy; cases hy
        | false =>
          rw [hc] at hy
          simp only [cond_false, Option.map_eq_some_iff] at hy
          obtain ⟨c0, hc0, rfl⟩ := hy
          obtain ⟨hd, h1, h2⟩ := hs.mem.1 y c0 hc0
          refine ⟨hd, by simp only [η3, ho, hc]; exact h1, ?_⟩
          exact h2.turn hsame (.inl rfl) (fun i => .inr ⟨y, i, rfl, hc⟩) (fun i => by simp only [η3, ho]; rfl) hturn
    · have hy : (match lk y outs with
        | some c => some c
        | none => bif consB ins y then none else (S.ch y).map (Ch.clean (inL outs) (memB (kp.map (·.2))))) = none := hy
      cases hl : lk y outs with
      | some c1 => rw [hl] at hy; cases hy
      | none =>
        rw [hl] at hy
        have ho : inL outs y = false := by unfold inL; rw [hl]; rfl
        cases hc : consB ins y with
        | true => simp only [η3, ho, hc]; rfl
        | false =>
          rw [hc] at hy
          simp only [cond_false, Option.map_eq_none_iff] at hy
          simp only [η3, ho, hc]
          exact hs.mem.2 y hy
    · refine ⟨hfr.os.trans hs.fr.os, hfr.tape.trans hs.fr.tape, hfr.output.trans hs.fr.output, Nat.le_trans hs.fr.size hfr.size, fun b hb hn => ?_⟩
      obtain ⟨h1, h2⟩ := hs.fr.block b hb hn
      have hlt := Nat.lt_of_lt_of_le hb hs.fr.size
      exact ⟨(hb3 b hlt (hω1n b h2)).trans h1, (hω3 b hlt (hω1n b h2)).trans h2⟩
  rw [hod]
  cases dst with
  | none => exact ⟨η3, ω3, hst⟩
  | some t => exact ⟨η3, ω3, hst.putV (hdst t rfl) (hdv.mono fun y hy => by
      have hz' : inL outs y = true := List.all_eq_true.1 hnr y (AV.has_names hy)
      exact .inr ⟨by simp only [η3, if_pos hz'], fun i => by simp only [η3, if_pos hz']⟩)⟩
variable {t : Nat} {ty : TypeId} {ps : String} {af : Array Edge} {gd : Option (Nat × Bool)} {x y : Operand}
/-- a function value that holds one variable -/
theorem stp_makeFunc {f : FuncId} {n off : Nat} (ht : Nat.blt t nt = true) (hx : S.op x = some (o1 (.ptr n off))) :
    Stp P nt ⟨some t, .makeFunc (.func f) #[] #[x], ty, ps, af, gd⟩ S (S.put t (o1 (.clo (.func f) [(n, off)]))) :=
  Stp.pure rfl ht fun w0 ω0 η ω a w hs => by
    have hp : Den1 η (.ptr n off) (a.eval x) := hs.opv hx
    refine ⟨.func (.func f) #[] #[a.eval x], by simp [execOp, Instr.makeFunc], ⟨#[a.eval x], rfl, rfl, fun j p hj => ?_⟩⟩
    match j, hj with
    | 0, hj => obtain rfl := Option.some.inj hj; exact ⟨a.eval x, rfl, hp.1, hp.2⟩
/-- a call of a function value that holds one variable, which only reads -/
theorem stp_callC {f : FuncId} {xs : Array Operand} {ts : Array TypeId} {n off : Nat} {ins : List (Nm × Ch)} {args args' : List AV} {res : AV} {back : List (Nat × AV)} (hy : S.op y = some (o1 (.clo (.func f) [(n, off)])))
    (hfc : FC P f ins (args ++ [o1 (.ptr n off)]) [] res back) (hf : goFnB P f = true) (ht : Nat.blt t nt = true) (hx' : opL S xs.toList = some args') (hto : allTo args' args) (hin : allIn S ins) (hro : (ins.all fun p => !p.2.own) = true) (hnr : (res.names.all (inL [])) = true) :
    Stp P nt ⟨some t, .call { callee := .value y, args := xs, argTypes := ts }, ty, ps, af, gd⟩ S (S.put t res) :=
  (stp_callG (dst := some t) (kp := []) hfc rfl (by simp [ht]) (fun {w0 ω0 η ω a w} hs => by
    obtain ⟨us, hev, hus, hat⟩ : Den1 η (.clo (.func f) [(n, off)]) (a.eval y) := hs.opv hy
    obtain ⟨q, hq, hp1, hp2⟩ := hat 0 (n, off) rfl
    have hl : us.size = 1 := hus
    have hue : us = #[q] := by
      apply Array.ext (by simpa using hl)
      intro i h1 h2
      obtain rfl : i = 0 := by simp at h2; omega
      rw [Array.getElem?_eq_getElem h1] at hq
      simpa using hq
    subst hue
    obtain ⟨d1, d2⟩ := (hs.opsL hx').to hto
    refine ⟨xs.toList.map a.eval ++ [q], ?_, by rw [List.length_append, List.length_append, d1]; rfl, fun j av hj => ?_⟩
    · have : (xs.toList.map a.eval ++ [q]).toArray = xs.map a.eval ++ #[q] := by apply Array.ext'; simp
      rw [this]
      simp [execOp, resolve, hev, Deferred.ofValue, invoke, goFnB_run hf]
    · by_cases h : j < args.length
      · rw [List.getElem?_append_left h] at hj
        obtain ⟨u, g1, g2⟩ := d2 j av hj
        exact ⟨u, by rw [List.getElem?_append_left (by rw [d1]; exact h)]; exact g1, g2⟩
      · rw [List.getElem?_append_right (by omega)] at hj
        have e : j - args.length = 0 := by
          have := (List.getElem?_eq_some_iff.1 hj).1
          simp at this; omega
        rw [e] at hj
        obtain rfl := Option.some.inj hj
        exact ⟨q, by rw [List.getElem?_append_right (by omega), d1, e]; rfl, hp1, hp2⟩) hin trivial hnr rfl).wk (wk_after0 hro)
end
end Go.Proofs.Ytlpeghdbjfnenaa
