/- The components of a diagram, the reference's: l12Parts. guards: -/
import Derived.Test.YtnfkhgamnapgmaaPart4
import Derived.Test.YtnfkhgamnapgmaaPart3
import Derived.Test.YtnfkhgamnapgmaaPart6
import Derived.Test.YtnfkhgamnapgmaaPart5
import Derived.Test.YtnfkhgamnapgmaaPart2
namespace Go.Proofs.Ytnfkhgamnapgmaa
open Go.RowKit

/-- components as rows: their labels -/
def rowsP (ps : Cmps) : List (List Int) := ps.map (·.2)
abbrev rwOw (ps : Cmps) : Ch := ⟨true, 22, 1, .rows 2 (irows (rowsP ps)) []⟩
theorem rowsP_len (ps : Cmps) : (rowsP ps).length = ps.length := by simp [rowsP]
theorem rowsP_get {ps : Cmps} {k : Nat} (h : k < ps.length) : lget (rowsP ps) k = (cget ps k).2 := by simp [rowsP, lget, cget, h]
theorem irowsP_get {ps : Cmps} {k : Nat} (h : k < ps.length) : (irows (rowsP ps))[k]? = some (ivals (cget ps k).2) := by rw [← rowsP_get h]; exact irows_get (by rw [rowsP_len]; exact h)
theorem rowsP_set (ps : Cmps) (k : Nat) (p : Nat × List Int) : (irows (rowsP ps)).set k (ivals p.2) = irows (rowsP (ps.set k p)) := by
  rw [irows_set]; unfold rowsP; rw [List.map_set]
set_option maxRecDepth 100000 in
theorem rankS_fc (zs : List Int) (L : Nat) (h4 : L ≤ 4) : FC Try.prog 78 [(1003, wRo zs)] [o1 (.sl 1003 0 L)] [] (vv (I6 (L + 1 : Nat))) [] := by
  have hw : IntKind.i64.wrap ((L : Int) + 1) = ((L + 1 : Nat) : Int) := IntWalk.i64_in _ (by omega)
  refine fc_enter (nt := 6) Try.func78 rfl rfl (by simp) fun w0 ω0 => ?_
  (refine goes_seq ?_; refine goes_region ?_; apply run_step rfl; (exact stp_assign rfl rfl); refine run_nil ?_; refine fin_seq ?_; refine goes_seq ?_; refine goes_region ?_; apply run_step rfl; (exact stp_move rfl rfl); apply run_step rfl; (exact stp_len rfl rfl rfl (by as_aux_lemma => kernel_rfl)); apply run_step rfl; (first | exact stp_add rfl rfl rfl hw | exact stp_convN rfl rfl (by as_aux_lemma => kernel_rfl) (by as_aux_lemma => kernel_rfl) rfl); apply run_step rfl; (exact stp_assign rfl rfl); refine run_nil ?_; refine fin_seq ?_; refine goes_ret ?_)
  exact fin_ret1 (.inl rfl) rfl (.tmp rfl) trivial trivial
set_option maxRecDepth 100000 in
set_option maxHeartbeats 2000000 in
theorem parts_fc (zs : List Int) (L mask : Nat) (hL : zs.length = L) (h4 : L ≤ 4) (hm : mask < 1000) :
    FC Try.prog 180 [(1003, wRo zs)] [o1 (.sl 1003 0 L), vv (I6 mask)] [(8, rwOw (comps zs mask))] (o1 (.sl 8 0 (comps zs mask).length)) [] := by
  have hR := rankS_fc zs L h4
  refine fc_enter (nt := 62) Try.func180 rfl rfl (by simp) fun w0 ω0 => ?_
  have hil : L ≤ (ivals zs).length := by rw [ivals_len, hL]; exact Nat.le_refl _
  (refine goes_seq ?_; refine goes_region ?_; apply run_step rfl; (exact stp_assign rfl rfl); refine run_nil ?_; refine fin_seq ?_; refine goes_seq ?_; refine goes_region ?_; apply run_step rfl; (exact stp_lit0R (E := 22) (F := 2) rfl (by as_aux_lemma => kernel_rfl)); apply run_step rfl; (exact stp_assign rfl rfl); refine run_nil ?_; refine fin_seq ?_; refine goes_seq ?_; refine goes_seq ?_; refine goes_region ?_; apply run_step rfl; (exact stp_assign rfl rfl); refine run_nil ?_; refine fin_seq ?_; refine goes_block ?_)
  refine goes_loop (fun q : Nat × Cmps => St.of [(0, o1 (.sl 1003 0 L)), (1, vv (I6 mask)), (5, o1 (.sl 8 0 q.2.length)), (6, vv (I6 q.1))] [(1003, wRo zs), (8, rwOw q.2)])
    (fun q => q.1 ≤ L + 1 ∧ pTo zs mask q.1 = q.2) (fun q => L + 1 - q.1) (0, []) ⟨Nat.zero_le _, rfl⟩ (Wk.of ⟨rfl, rfl, rfl, rfl, trivial⟩ ⟨rfl, rfl, trivial⟩ trivial) ?_
  rintro ⟨i, ps⟩ ⟨hi, hp⟩
  dsimp only at hi hp ⊢
  have hps := pTo_ok zs mask i (by omega)
  have hnx := pTo_succ zs mask i
  rw [hp] at hps hnx
  have hpl : ps.length ≤ 5 := by have := csum_len ps; have := hps.sum; omega
  have hrx := rowsP_len ps
  (refine goes_seq ?_; refine goes_seq ?_; refine goes_region ?_; apply run_step rfl; (exact stp_move rfl rfl); apply run_step rfl; (exact stp_move rfl rfl); apply run_step rfl; (apply call_gate 78; exact stp_callR hR (by as_aux_lemma => kernel_rfl) rfl rfl ⟨rfl, trivial⟩ ⟨⟨_, rfl, .inl rfl⟩, trivial⟩ rfl rfl); apply run_step rfl; (exact stp_bin rfl rfl rfl rfl); refine run_nil ?_; refine fin_seq ?_)
  refine goes_if rfl (fun hlt => ?_) (fun hlt => ?_)
  · have hiL : i ≤ L := by omega
    have hi64 : i ≤ 64 := by omega
    have hmm : mask < 1000000 := by omega
    have hcv : IntKind.u64.wrap (i : Int) = (i : Int) := by rw [IntKind.wrap_u64]; omega
    (refine goes_skip ?_; refine fin_seq ?_; refine goes_seq ?_; refine goes_block ?_; refine goes_seq ?_; refine goes_seq ?_; refine goes_region ?_; apply run_step rfl; (exact stp_move rfl rfl); apply run_step rfl; (exact stp_move rfl rfl); apply run_step rfl; (first | exact stp_convN rfl rfl (by as_aux_lemma => kernel_rfl) (by as_aux_lemma => kernel_rfl) hcv | exact stp_shrN (g := i) rfl rfl rfl hi64 | exact stp_bit rfl rfl hmm | exact stp_eqBit0 rfl rfl); apply run_step rfl; (first | exact stp_convN rfl rfl (by as_aux_lemma => kernel_rfl) (by as_aux_lemma => kernel_rfl) hcv | exact stp_shrN (g := i) rfl rfl rfl hi64 | exact stp_bit rfl rfl hmm | exact stp_eqBit0 rfl rfl); apply run_step rfl; (first | exact stp_convN rfl rfl (by as_aux_lemma => kernel_rfl) (by as_aux_lemma => kernel_rfl) hcv | exact stp_shrN (g := i) rfl rfl rfl hi64 | exact stp_bit rfl rfl hmm | exact stp_eqBit0 rfl rfl); apply run_step rfl; (first | exact stp_convN rfl rfl (by as_aux_lemma => kernel_rfl) (by as_aux_lemma => kernel_rfl) hcv | exact stp_shrN (g := i) rfl rfl rfl hi64 | exact stp_bit rfl rfl hmm | exact stp_eqBit0 rfl rfl); refine run_nil ?_; refine fin_seq ?_)
    refine goes_cond rfl (fun hb => ?_) (fun hb => ?_)
    · have hb : mBit mask i = false := by simpa using hb
      have hv : pTo zs mask (i + 1) = ps := by rw [hnx]; unfold pStep; rw [if_neg (by rw [hb]; simp)]
      (refine goes_exit ?_; refine fin_exit_then ?_; refine fin_exit_eq ?_; refine fin_seq ?_; refine goes_region ?_; apply run_step rfl; (exact stp_move rfl rfl); apply run_step rfl; (exact stp_add rfl rfl rfl (by first | exact IntWalk.i64_in _ (by omega) | rfl)); apply run_step rfl; (exact stp_assign rfl rfl); refine run_nil ?_)
      exact fin_round (i + 1, ps) ⟨by omega, hv⟩ (by show L + 1 - (i + 1) < L + 1 - i; omega) (Wk.of ⟨rfl, rfl, rfl, rfl, trivial⟩ ⟨rfl, rfl, trivial⟩ trivial)
    · have hb : mBit mask i = true := by simpa using hb
      unfold pStep at hnx
      rw [if_pos hb] at hnx
      (repeat (first | refine goes_seq ?_ | refine fin_seq ?_ | refine goes_skip ?_ | refine goes_block ?_ | refine fin_block ?_ | refine goes_exit ?_ | refine fin_exit_eq ?_ | refine fin_exit_ne rfl ?_ | refine fin_exit_then ?_))
      refine goes_cut (St.of [(0, o1 (.sl 1003 0 L)), (1, vv (I6 mask)), (5, o1 (.sl 8 0 ps.length)), (6, vv (I6 i)), (39, vv (.bool (jn zs mask i)))] [(1003, wRo zs), (8, rwOw ps)]) ?_ ?_
      · refine goes_region ?_
        (apply run_step rfl; (exact stp_move rfl rfl); apply run_step rfl; (exact stp_bin rfl rfl rfl rfl); apply run_step rfl; (exact stp_move rfl rfl))
        refine run_bool 23 rfl (fun h1 => ?_) (fun h1 => ?_)
        · have hi0 : 0 < i := by have := of_decide_eq_true h1; omega
          have hsb : IntKind.i64.wrap ((i : Int) - 1) = ((i - 1 : Nat) : Int) := (IntWalk.i64_in _ (by omega)).trans (by omega)
          have hcv1 : IntKind.u64.wrap ((i - 1 : Nat) : Int) = ((i - 1 : Nat) : Int) := by rw [IntKind.wrap_u64]; omega
          have hi64' : i - 1 ≤ 64 := by omega
          (apply run_gYes rfl rfl rfl; (exact stp_move rfl rfl); apply run_gYes rfl rfl rfl; (exact stp_move rfl rfl); apply run_gYes rfl rfl rfl; (first | exact stp_sub rfl rfl rfl hsb | exact stp_convN rfl rfl (by as_aux_lemma => kernel_rfl) (by as_aux_lemma => kernel_rfl) hcv1 | exact stp_shrN (g := i - 1) rfl rfl rfl hi64' | exact stp_bit rfl rfl hmm | exact stp_eqBit rfl rfl); apply run_gYes rfl rfl rfl; (first | exact stp_sub rfl rfl rfl hsb | exact stp_convN rfl rfl (by as_aux_lemma => kernel_rfl) (by as_aux_lemma => kernel_rfl) hcv1 | exact stp_shrN (g := i - 1) rfl rfl rfl hi64' | exact stp_bit rfl rfl hmm | exact stp_eqBit rfl rfl); apply run_gYes rfl rfl rfl; (first | exact stp_sub rfl rfl rfl hsb | exact stp_convN rfl rfl (by as_aux_lemma => kernel_rfl) (by as_aux_lemma => kernel_rfl) hcv1 | exact stp_shrN (g := i - 1) rfl rfl rfl hi64' | exact stp_bit rfl rfl hmm | exact stp_eqBit rfl rfl); apply run_gYes rfl rfl rfl; (first | exact stp_sub rfl rfl rfl hsb | exact stp_convN rfl rfl (by as_aux_lemma => kernel_rfl) (by as_aux_lemma => kernel_rfl) hcv1 | exact stp_shrN (g := i - 1) rfl rfl rfl hi64' | exact stp_bit rfl rfl hmm | exact stp_eqBit rfl rfl); apply run_gYes rfl rfl rfl; (first | exact stp_sub rfl rfl rfl hsb | exact stp_convN rfl rfl (by as_aux_lemma => kernel_rfl) (by as_aux_lemma => kernel_rfl) hcv1 | exact stp_shrN (g := i - 1) rfl rfl rfl hi64' | exact stp_bit rfl rfl hmm | exact stp_eqBit rfl rfl); apply run_step rfl; (exact stp_pickT rfl rfl rfl); apply run_step rfl; (exact stp_move rfl rfl))
          refine run_bool 32 rfl (fun h2 => ?_) (fun h2 => ?_)
          · have gz : (ivals zs)[i - 1]? = some (I6 (iget zs (i - 1))) := ivals_get (by omega)
            have hv : jn zs mask i = (iget zs (i - 1) != 2) := by unfold jn; rw [decide_eq_true hi0, h2]; rfl
            rw [hv]
            (apply run_gYes rfl rfl rfl; (exact stp_move rfl rfl); apply run_gYes rfl rfl rfl; (exact stp_move rfl rfl); apply run_gYes rfl rfl rfl; (first | exact stp_sub rfl rfl rfl hsb | exact stp_ix (j := i - 1) rfl rfl rfl rfl rfl (by as_aux_lemma => kernel_rfl) rfl (by omega) hil | exact stp_loadV rfl (by as_aux_lemma => kernel_rfl) rfl rfl rfl gz); apply run_gYes rfl rfl rfl; (first | exact stp_sub rfl rfl rfl hsb | exact stp_ix (j := i - 1) rfl rfl rfl rfl rfl (by as_aux_lemma => kernel_rfl) rfl (by omega) hil | exact stp_loadV rfl (by as_aux_lemma => kernel_rfl) rfl rfl rfl gz); apply run_gYes rfl rfl rfl; (first | exact stp_sub rfl rfl rfl hsb | exact stp_ix (j := i - 1) rfl rfl rfl rfl rfl (by as_aux_lemma => kernel_rfl) rfl (by omega) hil | exact stp_loadV rfl (by as_aux_lemma => kernel_rfl) rfl rfl rfl gz); apply run_gYes rfl rfl rfl; (exact stp_bin rfl rfl rfl rfl); apply run_step rfl; (exact stp_pickT rfl rfl rfl); refine run_nil ?_)
            exact fin_join (Wk.of ⟨rfl, rfl, rfl, rfl, rfl, trivial⟩ ⟨rfl, rfl, trivial⟩ trivial)
          · have hv : jn zs mask i = false := by unfold jn; rw [h2]; simp
            rw [hv]
            (apply run_gNo rfl rfl rfl rfl rfl; apply run_gNo rfl rfl rfl rfl rfl; apply run_gNo rfl rfl rfl rfl rfl; apply run_gNo rfl rfl rfl rfl rfl; apply run_gNo rfl rfl rfl rfl rfl; apply run_gNo rfl rfl rfl rfl rfl; apply run_step rfl; (exact stp_pickF rfl rfl rfl); refine run_nil ?_)
            exact fin_join (Wk.of ⟨rfl, rfl, rfl, rfl, rfl, trivial⟩ ⟨rfl, rfl, trivial⟩ trivial)
        · have hv : jn zs mask i = false := by
            have : ¬ 0 < i := by have := of_decide_eq_false h1; omega
            unfold jn; rw [decide_eq_false this]; rfl
          rw [hv]
          (apply run_gNo rfl rfl rfl rfl rfl; apply run_gNo rfl rfl rfl rfl rfl; apply run_gNo rfl rfl rfl rfl rfl; apply run_gNo rfl rfl rfl rfl rfl; apply run_gNo rfl rfl rfl rfl rfl; apply run_gNo rfl rfl rfl rfl rfl; apply run_gNo rfl rfl rfl rfl rfl; apply run_step rfl; (exact stp_pickF rfl rfl rfl); apply run_step rfl; (exact stp_move rfl rfl); apply run_gNo rfl rfl rfl rfl rfl; apply run_gNo rfl rfl rfl rfl rfl; apply run_gNo rfl rfl rfl rfl rfl; apply run_gNo rfl rfl rfl rfl rfl; apply run_gNo rfl rfl rfl rfl rfl; apply run_gNo rfl rfl rfl rfl rfl; apply run_step rfl; (exact stp_pickF rfl rfl rfl); refine run_nil ?_)
          exact fin_join (Wk.of ⟨rfl, rfl, rfl, rfl, rfl, trivial⟩ ⟨rfl, rfl, trivial⟩ trivial)
      (refine fin_seq ?_)
      refine goes_cond rfl (fun hjb => ?_) (fun hjb => ?_)
      · have hjs := jn_spec hjb
        have hne := hps.ne hjs.1 hjs.2.1
        obtain ⟨j, hjl⟩ : ∃ j, ps.length = j + 1 := ⟨ps.length - 1, by omega⟩
        have hjp : j < ps.length := by omega
        have hv : pTo zs mask (i + 1) = ps.set j ((cget ps j).1 ||| 2 ^ i, (cget ps j).2 ++ [iget zs (i - 1)]) := by
          rw [hnx, if_pos hjb]; unfold pLast; rw [show ps.length - 1 = j by omega]
        have hsub : IntKind.i64.wrap ((ps.length : Int) - 1) = (j : Int) := by rw [hjl]; exact (IntWalk.i64_in _ (by omega)).trans (by omega)
        have hrj := irowsP_get hjp
        have hllt := csum_le (cget_mem hjp)
        have hsum := hps.sum
        have hfin0 := rowsP_set ps j ((cget ps j).1 ||| 2 ^ i, (cget ps j).2 ++ [iget zs (i - 1)])
        generalize (cget ps j).1 = m at *
        generalize (cget ps j).2 = labs at *
        have hmj : (ivals labs).length = labs.length := ivals_len _
        have gz : (ivals zs)[i - 1]? = some (I6 (iget zs (i - 1))) := ivals_get (by omega)
        have hsb : IntKind.i64.wrap ((i : Int) - 1) = ((i - 1 : Nat) : Int) := (IntWalk.i64_in _ (by omega)).trans (by omega)
        have hi1L : i - 1 < L := by omega
        have hrl : ps.length ≤ (irows (rowsP ps)).length := by rw [irows_len, hrx]; exact Nat.le_refl _
        have hjl2 : j < (irows (rowsP ps)).length := by omega
        have hvl : (ivals (labs ++ [iget zs (i - 1)])).length = labs.length + 1 := by rw [ivals_len]; simp
        have hfin : (irows (rowsP ps)).set j (ivals (labs ++ [iget zs (i - 1)])) = irows (rowsP (ps.set j (m ||| 2 ^ i, labs ++ [iget zs (i - 1)]))) := hfin0
        (refine goes_seq ?_; refine goes_region ?_; apply run_step rfl; (exact stp_move rfl rfl); apply run_step rfl; (exact stp_len rfl rfl rfl (by as_aux_lemma => kernel_rfl)); apply run_step rfl; (exact stp_sub rfl rfl rfl hsub); apply run_step rfl; (exact stp_assign rfl rfl); refine run_nil ?_; refine fin_seq ?_; refine goes_seq ?_)
        refine goes_cut (St.of [(0, o1 (.sl 1003 0 L)), (1, vv (I6 mask)), (5, o1 (.sl 8 0 ps.length)), (6, vv (I6 i))] [(1003, wRo zs), (8, rwOw (ps.set j (m ||| 2 ^ i, labs ++ [iget zs (i - 1)])))]) ?_ ?_
        · apply goes_drawL 12 [] [0, 1] [[], [], [], [], [2, 3], [2, 3, 4], [], [], [7], [6, 7, 8], [6, 7, 8, 9], [6, 7, 8, 9, 10], [2, 3, 4, 5, 6, 7, 8, 9, 10, 11], [0, 1, 2, 3, 4, 5, 6, 7, 8, 9, 10, 11, 12], [0, 1, 2, 3, 4, 5, 6, 7, 8, 9, 10, 11, 12, 13]] [43, 44, 45, 46, 47, 48, 49, 50, 51, 52, 53, 54] [54] (by kernel_rfl) (by kernel_rfl) (by kernel_rfl)
          · (apply draw_put rfl; (intro S1 hS; exact stp_move rfl (hS.op rfl)); apply draw_put rfl; (intro S1 hS; exact stp_move rfl (hS.op rfl)); apply draw_put rfl; (intro S1 hS; exact stp_move rfl (hS.op rfl)); apply draw_put rfl; (intro S1 hS; exact stp_move rfl (hS.op rfl)); (first | (apply draw_put rfl; (focus (intro S1 hS; exact stp_ix (j := j) rfl (hS.op rfl) (hS.op rfl) (hS.ch _ _ rfl) rfl (by as_aux_lemma => kernel_rfl) rfl hjp hrl))) | (apply draw_put rfl; (focus (intro S1 hS; exact stp_loadR rfl (by as_aux_lemma => kernel_rfl) (hS.op rfl) (hS.ch _ _ rfl) rfl hrj hmj))) | (apply draw_put rfl; (focus (intro S1 hS; exact stp_sub rfl (hS.op rfl) (hS.op rfl) hsb))) | (apply draw_put rfl; (focus (intro S1 hS; exact stp_ix (j := i - 1) rfl (hS.op rfl) (hS.op rfl) (hS.ch _ _ rfl) rfl (by as_aux_lemma => kernel_rfl) rfl hi1L hil))) | (apply draw_put rfl; (focus (intro S1 hS; exact stp_loadV rfl (by as_aux_lemma => kernel_rfl) (hS.op rfl) (hS.ch _ _ rfl) rfl gz)))); (first | (apply draw_put rfl; (focus (intro S1 hS; exact stp_ix (j := j) rfl (hS.op rfl) (hS.op rfl) (hS.ch _ _ rfl) rfl (by as_aux_lemma => kernel_rfl) rfl hjp hrl))) | (apply draw_put rfl; (focus (intro S1 hS; exact stp_loadR rfl (by as_aux_lemma => kernel_rfl) (hS.op rfl) (hS.ch _ _ rfl) rfl hrj hmj))) | (apply draw_put rfl; (focus (intro S1 hS; exact stp_sub rfl (hS.op rfl) (hS.op rfl) hsb))) | (apply draw_put rfl; (focus (intro S1 hS; exact stp_ix (j := i - 1) rfl (hS.op rfl) (hS.op rfl) (hS.ch _ _ rfl) rfl (by as_aux_lemma => kernel_rfl) rfl hi1L hil))) | (apply draw_put rfl; (focus (intro S1 hS; exact stp_loadV rfl (by as_aux_lemma => kernel_rfl) (hS.op rfl) (hS.ch _ _ rfl) rfl gz)))); apply draw_put rfl; (intro S1 hS; exact stp_move rfl (hS.op rfl)); apply draw_put rfl; (intro S1 hS; exact stp_move rfl (hS.op rfl)); (first | (apply draw_put rfl; (focus (intro S1 hS; exact stp_ix (j := j) rfl (hS.op rfl) (hS.op rfl) (hS.ch _ _ rfl) rfl (by as_aux_lemma => kernel_rfl) rfl hjp hrl))) | (apply draw_put rfl; (focus (intro S1 hS; exact stp_loadR rfl (by as_aux_lemma => kernel_rfl) (hS.op rfl) (hS.ch _ _ rfl) rfl hrj hmj))) | (apply draw_put rfl; (focus (intro S1 hS; exact stp_sub rfl (hS.op rfl) (hS.op rfl) hsb))) | (apply draw_put rfl; (focus (intro S1 hS; exact stp_ix (j := i - 1) rfl (hS.op rfl) (hS.op rfl) (hS.ch _ _ rfl) rfl (by as_aux_lemma => kernel_rfl) rfl hi1L hil))) | (apply draw_put rfl; (focus (intro S1 hS; exact stp_loadV rfl (by as_aux_lemma => kernel_rfl) (hS.op rfl) (hS.ch _ _ rfl) rfl gz)))); (first | (apply draw_put rfl; (focus (intro S1 hS; exact stp_ix (j := j) rfl (hS.op rfl) (hS.op rfl) (hS.ch _ _ rfl) rfl (by as_aux_lemma => kernel_rfl) rfl hjp hrl))) | (apply draw_put rfl; (focus (intro S1 hS; exact stp_loadR rfl (by as_aux_lemma => kernel_rfl) (hS.op rfl) (hS.ch _ _ rfl) rfl hrj hmj))) | (apply draw_put rfl; (focus (intro S1 hS; exact stp_sub rfl (hS.op rfl) (hS.op rfl) hsb))) | (apply draw_put rfl; (focus (intro S1 hS; exact stp_ix (j := i - 1) rfl (hS.op rfl) (hS.op rfl) (hS.ch _ _ rfl) rfl (by as_aux_lemma => kernel_rfl) rfl hi1L hil))) | (apply draw_put rfl; (focus (intro S1 hS; exact stp_loadV rfl (by as_aux_lemma => kernel_rfl) (hS.op rfl) (hS.ch _ _ rfl) rfl gz)))); (first | (apply draw_put rfl; (focus (intro S1 hS; exact stp_ix (j := j) rfl (hS.op rfl) (hS.op rfl) (hS.ch _ _ rfl) rfl (by as_aux_lemma => kernel_rfl) rfl hjp hrl))) | (apply draw_put rfl; (focus (intro S1 hS; exact stp_loadR rfl (by as_aux_lemma => kernel_rfl) (hS.op rfl) (hS.ch _ _ rfl) rfl hrj hmj))) | (apply draw_put rfl; (focus (intro S1 hS; exact stp_sub rfl (hS.op rfl) (hS.op rfl) hsb))) | (apply draw_put rfl; (focus (intro S1 hS; exact stp_ix (j := i - 1) rfl (hS.op rfl) (hS.op rfl) (hS.ch _ _ rfl) rfl (by as_aux_lemma => kernel_rfl) rfl hi1L hil))) | (apply draw_put rfl; (focus (intro S1 hS; exact stp_loadV rfl (by as_aux_lemma => kernel_rfl) (hS.op rfl) (hS.ch _ _ rfl) rfl gz)))); apply draw_new rfl; (intro S1 hS; exact stp_lit1I (E := 2) rfl (by as_aux_lemma => kernel_rfl) (hS.op rfl)); exact Draw.nil)
          · rfl
          · refine ⟨⟨?_, ?_⟩, ?_, ?_⟩
            · refine rest_join (St.of [(0, o1 (.sl 1003 0 L)), (1, vv (I6 mask)), (5, o1 (.sl 8 0 ps.length)), (6, vv (I6 i))] [(1003, wRo zs), (8, rwOw (ps.set j (m ||| 2 ^ i, labs ++ [iget zs (i - 1)])))]) ?_ ?_
              · ((apply rest_one 12 rfl (by as_aux_lemma => kernel_rfl) rfl rfl; ((first | exact Stp.pre (wk_takeRow (n := 8) (z := 55) (s := 48) rfl rfl hrj hmj rfl) (stp_appI rfl (by as_aux_lemma => kernel_rfl) rfl rfl rfl rfl rfl rfl (by omega)) | exact stp_ix (j := j) rfl rfl rfl rfl rfl (by as_aux_lemma => kernel_rfl) rfl hjp hrl | exact stp_storeRow rfl rfl (by simp) rfl rfl hvl rfl hjl2 (by as_aux_lemma => kernel_rfl)))); (apply rest_one 13 rfl (by as_aux_lemma => kernel_rfl) rfl rfl; ((first | exact Stp.pre (wk_takeRow (n := 8) (z := 55) (s := 48) rfl rfl hrj hmj rfl) (stp_appI rfl (by as_aux_lemma => kernel_rfl) rfl rfl rfl rfl rfl rfl (by omega)) | exact stp_ix (j := j) rfl rfl rfl rfl rfl (by as_aux_lemma => kernel_rfl) rfl hjp hrl | exact stp_storeRow rfl rfl (by simp) rfl rfl hvl rfl hjl2 (by as_aux_lemma => kernel_rfl)))); (apply rest_one 14 rfl (by as_aux_lemma => kernel_rfl) rfl rfl; ((first | exact Stp.pre (wk_takeRow (n := 8) (z := 55) (s := 48) rfl rfl hrj hmj rfl) (stp_appI rfl (by as_aux_lemma => kernel_rfl) rfl rfl rfl rfl rfl rfl (by omega)) | exact stp_ix (j := j) rfl rfl rfl rfl rfl (by as_aux_lemma => kernel_rfl) rfl hjp hrl | exact stp_storeRow rfl rfl (by simp) rfl rfl hvl rfl hjl2 (by as_aux_lemma => kernel_rfl)))); (refine rest_done (by as_aux_lemma => kernel_rfl) ?_; exact fin_join (Wk.of ⟨rfl, rfl, rfl, rfl, trivial⟩ ⟨rfl, congrArg (fun l => some (⟨true, 22, 1, .rows 2 l []⟩ : Ch)) hfin, trivial⟩ trivial)))
              · (skip)
                exact fin_join (Wk.of ⟨rfl, rfl, rfl, rfl, trivial⟩ ⟨rfl, rfl, trivial⟩ trivial)
            · refine rest_join (St.of [(0, o1 (.sl 1003 0 L)), (1, vv (I6 mask)), (5, o1 (.sl 8 0 ps.length)), (6, vv (I6 i))] [(1003, wRo zs), (8, rwOw (ps.set j (m ||| 2 ^ i, labs ++ [iget zs (i - 1)])))]) ?_ ?_
              · ((apply rest_two 1 12 rfl (by as_aux_lemma => kernel_rfl) rfl rfl rfl rfl; (exact stp_move rfl rfl); ((first | exact Stp.pre (wk_takeRow (n := 8) (z := 55) (s := 48) rfl rfl hrj hmj rfl) (stp_appI rfl (by as_aux_lemma => kernel_rfl) rfl rfl rfl rfl rfl rfl (by omega)) | exact stp_ix (j := j) rfl rfl rfl rfl rfl (by as_aux_lemma => kernel_rfl) rfl hjp hrl | exact stp_storeRow rfl rfl (by simp) rfl rfl hvl rfl hjl2 (by as_aux_lemma => kernel_rfl))); (focus ((apply rest_one 12 rfl (by as_aux_lemma => kernel_rfl) rfl rfl; ((first | exact Stp.pre (wk_takeRow (n := 8) (z := 55) (s := 48) rfl rfl hrj hmj rfl) (stp_appI rfl (by as_aux_lemma => kernel_rfl) rfl rfl rfl rfl rfl rfl (by omega)) | exact stp_ix (j := j) rfl rfl rfl rfl rfl (by as_aux_lemma => kernel_rfl) rfl hjp hrl | exact stp_storeRow rfl rfl (by simp) rfl rfl hvl rfl hjl2 (by as_aux_lemma => kernel_rfl)))); (apply rest_one 13 rfl (by as_aux_lemma => kernel_rfl) rfl rfl; ((first | exact Stp.pre (wk_takeRow (n := 8) (z := 55) (s := 48) rfl rfl hrj hmj rfl) (stp_appI rfl (by as_aux_lemma => kernel_rfl) rfl rfl rfl rfl rfl rfl (by omega)) | exact stp_ix (j := j) rfl rfl rfl rfl rfl (by as_aux_lemma => kernel_rfl) rfl hjp hrl | exact stp_storeRow rfl rfl (by simp) rfl rfl hvl rfl hjl2 (by as_aux_lemma => kernel_rfl)))); (apply rest_one 14 rfl (by as_aux_lemma => kernel_rfl) rfl rfl; ((first | exact Stp.pre (wk_takeRow (n := 8) (z := 55) (s := 48) rfl rfl hrj hmj rfl) (stp_appI rfl (by as_aux_lemma => kernel_rfl) rfl rfl rfl rfl rfl rfl (by omega)) | exact stp_ix (j := j) rfl rfl rfl rfl rfl (by as_aux_lemma => kernel_rfl) rfl hjp hrl | exact stp_storeRow rfl rfl (by simp) rfl rfl hvl rfl hjl2 (by as_aux_lemma => kernel_rfl)))); (refine rest_done (by as_aux_lemma => kernel_rfl) ?_; exact fin_join (Wk.of ⟨rfl, rfl, rfl, rfl, trivial⟩ ⟨rfl, congrArg (fun l => some (⟨true, 22, 1, .rows 2 l []⟩ : Ch)) hfin, trivial⟩ trivial)))); (focus ((apply rest_one 1 rfl (by as_aux_lemma => kernel_rfl) rfl rfl; (exact stp_move rfl rfl)); (apply rest_one 13 rfl (by as_aux_lemma => kernel_rfl) rfl rfl; ((first | exact Stp.pre (wk_takeRow (n := 8) (z := 55) (s := 48) rfl rfl hrj hmj rfl) (stp_appI rfl (by as_aux_lemma => kernel_rfl) rfl rfl rfl rfl rfl rfl (by omega)) | exact stp_ix (j := j) rfl rfl rfl rfl rfl (by as_aux_lemma => kernel_rfl) rfl hjp hrl | exact stp_storeRow rfl rfl (by simp) rfl rfl hvl rfl hjl2 (by as_aux_lemma => kernel_rfl)))); (apply rest_one 14 rfl (by as_aux_lemma => kernel_rfl) rfl rfl; ((first | exact Stp.pre (wk_takeRow (n := 8) (z := 55) (s := 48) rfl rfl hrj hmj rfl) (stp_appI rfl (by as_aux_lemma => kernel_rfl) rfl rfl rfl rfl rfl rfl (by omega)) | exact stp_ix (j := j) rfl rfl rfl rfl rfl (by as_aux_lemma => kernel_rfl) rfl hjp hrl | exact stp_storeRow rfl rfl (by simp) rfl rfl hvl rfl hjl2 (by as_aux_lemma => kernel_rfl)))); (refine rest_done (by as_aux_lemma => kernel_rfl) ?_; exact fin_join (Wk.of ⟨rfl, rfl, rfl, rfl, trivial⟩ ⟨rfl, congrArg (fun l => some (⟨true, 22, 1, .rows 2 l []⟩ : Ch)) hfin, trivial⟩ trivial))))))
              · (skip)
                exact fin_join (Wk.of ⟨rfl, rfl, rfl, rfl, trivial⟩ ⟨rfl, rfl, trivial⟩ trivial)
            · refine rest_join (St.of [(0, o1 (.sl 1003 0 L)), (1, vv (I6 mask)), (5, o1 (.sl 8 0 ps.length)), (6, vv (I6 i))] [(1003, wRo zs), (8, rwOw (ps.set j (m ||| 2 ^ i, labs ++ [iget zs (i - 1)])))]) ?_ ?_
              · ((apply rest_two 0 12 rfl (by as_aux_lemma => kernel_rfl) rfl rfl rfl rfl; (exact stp_move rfl rfl); ((first | exact Stp.pre (wk_takeRow (n := 8) (z := 55) (s := 48) rfl rfl hrj hmj rfl) (stp_appI rfl (by as_aux_lemma => kernel_rfl) rfl rfl rfl rfl rfl rfl (by omega)) | exact stp_ix (j := j) rfl rfl rfl rfl rfl (by as_aux_lemma => kernel_rfl) rfl hjp hrl | exact stp_storeRow rfl rfl (by simp) rfl rfl hvl rfl hjl2 (by as_aux_lemma => kernel_rfl))); (focus ((apply rest_one 12 rfl (by as_aux_lemma => kernel_rfl) rfl rfl; ((first | exact Stp.pre (wk_takeRow (n := 8) (z := 55) (s := 48) rfl rfl hrj hmj rfl) (stp_appI rfl (by as_aux_lemma => kernel_rfl) rfl rfl rfl rfl rfl rfl (by omega)) | exact stp_ix (j := j) rfl rfl rfl rfl rfl (by as_aux_lemma => kernel_rfl) rfl hjp hrl | exact stp_storeRow rfl rfl (by simp) rfl rfl hvl rfl hjl2 (by as_aux_lemma => kernel_rfl)))); (apply rest_one 13 rfl (by as_aux_lemma => kernel_rfl) rfl rfl; ((first | exact Stp.pre (wk_takeRow (n := 8) (z := 55) (s := 48) rfl rfl hrj hmj rfl) (stp_appI rfl (by as_aux_lemma => kernel_rfl) rfl rfl rfl rfl rfl rfl (by omega)) | exact stp_ix (j := j) rfl rfl rfl rfl rfl (by as_aux_lemma => kernel_rfl) rfl hjp hrl | exact stp_storeRow rfl rfl (by simp) rfl rfl hvl rfl hjl2 (by as_aux_lemma => kernel_rfl)))); (apply rest_one 14 rfl (by as_aux_lemma => kernel_rfl) rfl rfl; ((first | exact Stp.pre (wk_takeRow (n := 8) (z := 55) (s := 48) rfl rfl hrj hmj rfl) (stp_appI rfl (by as_aux_lemma => kernel_rfl) rfl rfl rfl rfl rfl rfl (by omega)) | exact stp_ix (j := j) rfl rfl rfl rfl rfl (by as_aux_lemma => kernel_rfl) rfl hjp hrl | exact stp_storeRow rfl rfl (by simp) rfl rfl hvl rfl hjl2 (by as_aux_lemma => kernel_rfl)))); (refine rest_done (by as_aux_lemma => kernel_rfl) ?_; exact fin_join (Wk.of ⟨rfl, rfl, rfl, rfl, trivial⟩ ⟨rfl, congrArg (fun l => some (⟨true, 22, 1, .rows 2 l []⟩ : Ch)) hfin, trivial⟩ trivial)))); (focus ((apply rest_one 0 rfl (by as_aux_lemma => kernel_rfl) rfl rfl; (exact stp_move rfl rfl)); (apply rest_one 13 rfl (by as_aux_lemma => kernel_rfl) rfl rfl; ((first | exact Stp.pre (wk_takeRow (n := 8) (z := 55) (s := 48) rfl rfl hrj hmj rfl) (stp_appI rfl (by as_aux_lemma => kernel_rfl) rfl rfl rfl rfl rfl rfl (by omega)) | exact stp_ix (j := j) rfl rfl rfl rfl rfl (by as_aux_lemma => kernel_rfl) rfl hjp hrl | exact stp_storeRow rfl rfl (by simp) rfl rfl hvl rfl hjl2 (by as_aux_lemma => kernel_rfl)))); (apply rest_one 14 rfl (by as_aux_lemma => kernel_rfl) rfl rfl; ((first | exact Stp.pre (wk_takeRow (n := 8) (z := 55) (s := 48) rfl rfl hrj hmj rfl) (stp_appI rfl (by as_aux_lemma => kernel_rfl) rfl rfl rfl rfl rfl rfl (by omega)) | exact stp_ix (j := j) rfl rfl rfl rfl rfl (by as_aux_lemma => kernel_rfl) rfl hjp hrl | exact stp_storeRow rfl rfl (by simp) rfl rfl hvl rfl hjl2 (by as_aux_lemma => kernel_rfl)))); (refine rest_done (by as_aux_lemma => kernel_rfl) ?_; exact fin_join (Wk.of ⟨rfl, rfl, rfl, rfl, trivial⟩ ⟨rfl, congrArg (fun l => some (⟨true, 22, 1, .rows 2 l []⟩ : Ch)) hfin, trivial⟩ trivial))))))
              · (skip)
                exact fin_join (Wk.of ⟨rfl, rfl, rfl, rfl, trivial⟩ ⟨rfl, rfl, trivial⟩ trivial)
            · refine rest_join (St.of [(0, o1 (.sl 1003 0 L)), (1, vv (I6 mask)), (5, o1 (.sl 8 0 ps.length)), (6, vv (I6 i))] [(1003, wRo zs), (8, rwOw (ps.set j (m ||| 2 ^ i, labs ++ [iget zs (i - 1)])))]) ?_ ?_
              · ((apply rest_three 0 1 12 rfl (by as_aux_lemma => kernel_rfl) rfl rfl rfl rfl rfl rfl; (exact stp_move rfl rfl); (exact stp_move rfl rfl); ((first | exact Stp.pre (wk_takeRow (n := 8) (z := 55) (s := 48) rfl rfl hrj hmj rfl) (stp_appI rfl (by as_aux_lemma => kernel_rfl) rfl rfl rfl rfl rfl rfl (by omega)) | exact stp_ix (j := j) rfl rfl rfl rfl rfl (by as_aux_lemma => kernel_rfl) rfl hjp hrl | exact stp_storeRow rfl rfl (by simp) rfl rfl hvl rfl hjl2 (by as_aux_lemma => kernel_rfl))); (focus ((apply rest_two 1 12 rfl (by as_aux_lemma => kernel_rfl) rfl rfl rfl rfl; (exact stp_move rfl rfl); ((first | exact Stp.pre (wk_takeRow (n := 8) (z := 55) (s := 48) rfl rfl hrj hmj rfl) (stp_appI rfl (by as_aux_lemma => kernel_rfl) rfl rfl rfl rfl rfl rfl (by omega)) | exact stp_ix (j := j) rfl rfl rfl rfl rfl (by as_aux_lemma => kernel_rfl) rfl hjp hrl | exact stp_storeRow rfl rfl (by simp) rfl rfl hvl rfl hjl2 (by as_aux_lemma => kernel_rfl))); (focus ((apply rest_one 12 rfl (by as_aux_lemma => kernel_rfl) rfl rfl; ((first | exact Stp.pre (wk_takeRow (n := 8) (z := 55) (s := 48) rfl rfl hrj hmj rfl) (stp_appI rfl (by as_aux_lemma => kernel_rfl) rfl rfl rfl rfl rfl rfl (by omega)) | exact stp_ix (j := j) rfl rfl rfl rfl rfl (by as_aux_lemma => kernel_rfl) rfl hjp hrl | exact stp_storeRow rfl rfl (by simp) rfl rfl hvl rfl hjl2 (by as_aux_lemma => kernel_rfl)))); (apply rest_one 13 rfl (by as_aux_lemma => kernel_rfl) rfl rfl; ((first | exact Stp.pre (wk_takeRow (n := 8) (z := 55) (s := 48) rfl rfl hrj hmj rfl) (stp_appI rfl (by as_aux_lemma => kernel_rfl) rfl rfl rfl rfl rfl rfl (by omega)) | exact stp_ix (j := j) rfl rfl rfl rfl rfl (by as_aux_lemma => kernel_rfl) rfl hjp hrl | exact stp_storeRow rfl rfl (by simp) rfl rfl hvl rfl hjl2 (by as_aux_lemma => kernel_rfl)))); (apply rest_one 14 rfl (by as_aux_lemma => kernel_rfl) rfl rfl; ((first | exact Stp.pre (wk_takeRow (n := 8) (z := 55) (s := 48) rfl rfl hrj hmj rfl) (stp_appI rfl (by as_aux_lemma => kernel_rfl) rfl rfl rfl rfl rfl rfl (by omega)) | exact stp_ix (j := j) rfl rfl rfl rfl rfl (by as_aux_lemma => kernel_rfl) rfl hjp hrl | exact stp_storeRow rfl rfl (by simp) rfl rfl hvl rfl hjl2 (by as_aux_lemma => kernel_rfl)))); (refine rest_done (by as_aux_lemma => kernel_rfl) ?_; exact fin_join (Wk.of ⟨rfl, rfl, rfl, rfl, trivial⟩ ⟨rfl, congrArg (fun l => some (⟨true, 22, 1, .rows 2 l []⟩ : Ch)) hfin, trivial⟩ trivial)))); (focus ((apply rest_one 1 rfl (by as_aux_lemma => kernel_rfl) rfl rfl; (exact stp_move rfl rfl)); (apply rest_one 13 rfl (by as_aux_lemma => kernel_rfl) rfl rfl; ((first | exact Stp.pre (wk_takeRow (n := 8) (z := 55) (s := 48) rfl rfl hrj hmj rfl) (stp_appI rfl (by as_aux_lemma => kernel_rfl) rfl rfl rfl rfl rfl rfl (by omega)) | exact stp_ix (j := j) rfl rfl rfl rfl rfl (by as_aux_lemma => kernel_rfl) rfl hjp hrl | exact stp_storeRow rfl rfl (by simp) rfl rfl hvl rfl hjl2 (by as_aux_lemma => kernel_rfl)))); (apply rest_one 14 rfl (by as_aux_lemma => kernel_rfl) rfl rfl; ((first | exact Stp.pre (wk_takeRow (n := 8) (z := 55) (s := 48) rfl rfl hrj hmj rfl) (stp_appI rfl (by as_aux_lemma => kernel_rfl) rfl rfl rfl rfl rfl rfl (by omega)) | exact stp_ix (j := j) rfl rfl rfl rfl rfl (by as_aux_lemma => kernel_rfl) rfl hjp hrl | exact stp_storeRow rfl rfl (by simp) rfl rfl hvl rfl hjl2 (by as_aux_lemma => kernel_rfl)))); (refine rest_done (by as_aux_lemma => kernel_rfl) ?_; exact fin_join (Wk.of ⟨rfl, rfl, rfl, rfl, trivial⟩ ⟨rfl, congrArg (fun l => some (⟨true, 22, 1, .rows 2 l []⟩ : Ch)) hfin, trivial⟩ trivial))))))); (focus ((apply rest_two 0 12 rfl (by as_aux_lemma => kernel_rfl) rfl rfl rfl rfl; (exact stp_move rfl rfl); ((first | exact Stp.pre (wk_takeRow (n := 8) (z := 55) (s := 48) rfl rfl hrj hmj rfl) (stp_appI rfl (by as_aux_lemma => kernel_rfl) rfl rfl rfl rfl rfl rfl (by omega)) | exact stp_ix (j := j) rfl rfl rfl rfl rfl (by as_aux_lemma => kernel_rfl) rfl hjp hrl | exact stp_storeRow rfl rfl (by simp) rfl rfl hvl rfl hjl2 (by as_aux_lemma => kernel_rfl))); (focus ((apply rest_one 12 rfl (by as_aux_lemma => kernel_rfl) rfl rfl; ((first | exact Stp.pre (wk_takeRow (n := 8) (z := 55) (s := 48) rfl rfl hrj hmj rfl) (stp_appI rfl (by as_aux_lemma => kernel_rfl) rfl rfl rfl rfl rfl rfl (by omega)) | exact stp_ix (j := j) rfl rfl rfl rfl rfl (by as_aux_lemma => kernel_rfl) rfl hjp hrl | exact stp_storeRow rfl rfl (by simp) rfl rfl hvl rfl hjl2 (by as_aux_lemma => kernel_rfl)))); (apply rest_one 13 rfl (by as_aux_lemma => kernel_rfl) rfl rfl; ((first | exact Stp.pre (wk_takeRow (n := 8) (z := 55) (s := 48) rfl rfl hrj hmj rfl) (stp_appI rfl (by as_aux_lemma => kernel_rfl) rfl rfl rfl rfl rfl rfl (by omega)) | exact stp_ix (j := j) rfl rfl rfl rfl rfl (by as_aux_lemma => kernel_rfl) rfl hjp hrl | exact stp_storeRow rfl rfl (by simp) rfl rfl hvl rfl hjl2 (by as_aux_lemma => kernel_rfl)))); (apply rest_one 14 rfl (by as_aux_lemma => kernel_rfl) rfl rfl; ((first | exact Stp.pre (wk_takeRow (n := 8) (z := 55) (s := 48) rfl rfl hrj hmj rfl) (stp_appI rfl (by as_aux_lemma => kernel_rfl) rfl rfl rfl rfl rfl rfl (by omega)) | exact stp_ix (j := j) rfl rfl rfl rfl rfl (by as_aux_lemma => kernel_rfl) rfl hjp hrl | exact stp_storeRow rfl rfl (by simp) rfl rfl hvl rfl hjl2 (by as_aux_lemma => kernel_rfl)))); (refine rest_done (by as_aux_lemma => kernel_rfl) ?_; exact fin_join (Wk.of ⟨rfl, rfl, rfl, rfl, trivial⟩ ⟨rfl, congrArg (fun l => some (⟨true, 22, 1, .rows 2 l []⟩ : Ch)) hfin, trivial⟩ trivial)))); (focus ((apply rest_one 0 rfl (by as_aux_lemma => kernel_rfl) rfl rfl; (exact stp_move rfl rfl)); (apply rest_one 13 rfl (by as_aux_lemma => kernel_rfl) rfl rfl; ((first | exact Stp.pre (wk_takeRow (n := 8) (z := 55) (s := 48) rfl rfl hrj hmj rfl) (stp_appI rfl (by as_aux_lemma => kernel_rfl) rfl rfl rfl rfl rfl rfl (by omega)) | exact stp_ix (j := j) rfl rfl rfl rfl rfl (by as_aux_lemma => kernel_rfl) rfl hjp hrl | exact stp_storeRow rfl rfl (by simp) rfl rfl hvl rfl hjl2 (by as_aux_lemma => kernel_rfl)))); (apply rest_one 14 rfl (by as_aux_lemma => kernel_rfl) rfl rfl; ((first | exact Stp.pre (wk_takeRow (n := 8) (z := 55) (s := 48) rfl rfl hrj hmj rfl) (stp_appI rfl (by as_aux_lemma => kernel_rfl) rfl rfl rfl rfl rfl rfl (by omega)) | exact stp_ix (j := j) rfl rfl rfl rfl rfl (by as_aux_lemma => kernel_rfl) rfl hjp hrl | exact stp_storeRow rfl rfl (by simp) rfl rfl hvl rfl hjl2 (by as_aux_lemma => kernel_rfl)))); (refine rest_done (by as_aux_lemma => kernel_rfl) ?_; exact fin_join (Wk.of ⟨rfl, rfl, rfl, rfl, trivial⟩ ⟨rfl, congrArg (fun l => some (⟨true, 22, 1, .rows 2 l []⟩ : Ch)) hfin, trivial⟩ trivial))))))); (focus ((apply rest_two 0 1 rfl (by as_aux_lemma => kernel_rfl) rfl rfl rfl rfl; (exact stp_move rfl rfl); (exact stp_move rfl rfl); (focus ((apply rest_one 1 rfl (by as_aux_lemma => kernel_rfl) rfl rfl; (exact stp_move rfl rfl)); (apply rest_one 13 rfl (by as_aux_lemma => kernel_rfl) rfl rfl; ((first | exact Stp.pre (wk_takeRow (n := 8) (z := 55) (s := 48) rfl rfl hrj hmj rfl) (stp_appI rfl (by as_aux_lemma => kernel_rfl) rfl rfl rfl rfl rfl rfl (by omega)) | exact stp_ix (j := j) rfl rfl rfl rfl rfl (by as_aux_lemma => kernel_rfl) rfl hjp hrl | exact stp_storeRow rfl rfl (by simp) rfl rfl hvl rfl hjl2 (by as_aux_lemma => kernel_rfl)))); (apply rest_one 14 rfl (by as_aux_lemma => kernel_rfl) rfl rfl; ((first | exact Stp.pre (wk_takeRow (n := 8) (z := 55) (s := 48) rfl rfl hrj hmj rfl) (stp_appI rfl (by as_aux_lemma => kernel_rfl) rfl rfl rfl rfl rfl rfl (by omega)) | exact stp_ix (j := j) rfl rfl rfl rfl rfl (by as_aux_lemma => kernel_rfl) rfl hjp hrl | exact stp_storeRow rfl rfl (by simp) rfl rfl hvl rfl hjl2 (by as_aux_lemma => kernel_rfl)))); (refine rest_done (by as_aux_lemma => kernel_rfl) ?_; exact fin_join (Wk.of ⟨rfl, rfl, rfl, rfl, trivial⟩ ⟨rfl, congrArg (fun l => some (⟨true, 22, 1, .rows 2 l []⟩ : Ch)) hfin, trivial⟩ trivial)))); (focus ((apply rest_one 0 rfl (by as_aux_lemma => kernel_rfl) rfl rfl; (exact stp_move rfl rfl)); (apply rest_one 13 rfl (by as_aux_lemma => kernel_rfl) rfl rfl; ((first | exact Stp.pre (wk_takeRow (n := 8) (z := 55) (s := 48) rfl rfl hrj hmj rfl) (stp_appI rfl (by as_aux_lemma => kernel_rfl) rfl rfl rfl rfl rfl rfl (by omega)) | exact stp_ix (j := j) rfl rfl rfl rfl rfl (by as_aux_lemma => kernel_rfl) rfl hjp hrl | exact stp_storeRow rfl rfl (by simp) rfl rfl hvl rfl hjl2 (by as_aux_lemma => kernel_rfl)))); (apply rest_one 14 rfl (by as_aux_lemma => kernel_rfl) rfl rfl; ((first | exact Stp.pre (wk_takeRow (n := 8) (z := 55) (s := 48) rfl rfl hrj hmj rfl) (stp_appI rfl (by as_aux_lemma => kernel_rfl) rfl rfl rfl rfl rfl rfl (by omega)) | exact stp_ix (j := j) rfl rfl rfl rfl rfl (by as_aux_lemma => kernel_rfl) rfl hjp hrl | exact stp_storeRow rfl rfl (by simp) rfl rfl hvl rfl hjl2 (by as_aux_lemma => kernel_rfl)))); (refine rest_done (by as_aux_lemma => kernel_rfl) ?_; exact fin_join (Wk.of ⟨rfl, rfl, rfl, rfl, trivial⟩ ⟨rfl, congrArg (fun l => some (⟨true, 22, 1, .rows 2 l []⟩ : Ch)) hfin, trivial⟩ trivial)))))))))
              · (skip)
                exact fin_join (Wk.of ⟨rfl, rfl, rfl, rfl, trivial⟩ ⟨rfl, rfl, trivial⟩ trivial)
        (refine fin_seq ?_; refine goes_exit ?_; refine fin_exit_then ?_; refine fin_exit_eq ?_; refine fin_seq ?_; refine goes_region ?_; apply run_step rfl; (exact stp_move rfl rfl); apply run_step rfl; (exact stp_add rfl rfl rfl (by first | exact IntWalk.i64_in _ (by omega) | rfl)); apply run_step rfl; (exact stp_assign rfl rfl); refine run_nil ?_)
        exact fin_round (i + 1, ps.set j (m ||| 2 ^ i, labs ++ [iget zs (i - 1)])) ⟨by omega, hv⟩ (by show L + 1 - (i + 1) < L + 1 - i; omega) (Wk.of ⟨rfl, rfl, congrArg (fun n => some (o1 (.sl 8 0 n))) (by simp), rfl, trivial⟩ ⟨rfl, rfl, trivial⟩ trivial)
      · have hv : pTo zs mask (i + 1) = ps ++ [(2 ^ i, [])] := by rw [hnx, if_neg (by rw [hjb]; simp)]
        have hrl : (irows (rowsP ps)).length = ps.length := by rw [irows_len, hrx]
        have hfin : irows (rowsP ps) ++ [[]] = irows (rowsP (ps ++ [(2 ^ i, [])])) := by simp [rowsP, irows, ivals]
        (refine goes_skip ?_; refine fin_seq ?_; refine goes_region ?_; apply run_step rfl; (exact stp_move rfl rfl); apply run_step rfl; (first | exact stp_lit0 (E := 2) (k := 1) rfl (by as_aux_lemma => kernel_rfl) | exact stp_appendRow (vs := []) rfl (by as_aux_lemma => kernel_rfl) rfl rfl hrl rfl rfl rfl rfl rfl (by omega)); apply run_step rfl; (exact stp_lit1 (E := 22) rfl (by as_aux_lemma => kernel_rfl) rfl rfl rfl); apply run_step rfl; (first | exact stp_lit0 (E := 2) (k := 1) rfl (by as_aux_lemma => kernel_rfl) | exact stp_appendRow (vs := []) rfl (by as_aux_lemma => kernel_rfl) rfl rfl hrl rfl rfl rfl rfl rfl (by omega)); apply run_step rfl; (exact stp_assign rfl rfl); refine run_nil ?_; refine fin_block ?_; refine fin_seq ?_; refine goes_region ?_; apply run_step rfl; (exact stp_move rfl rfl); apply run_step rfl; (exact stp_add rfl rfl rfl (by first | exact IntWalk.i64_in _ (by omega) | rfl)); apply run_step rfl; (exact stp_assign rfl rfl); refine run_nil ?_)
        exact fin_round (i + 1, ps ++ [(2 ^ i, [])]) ⟨by omega, hv⟩ (by show L + 1 - (i + 1) < L + 1 - i; omega) (Wk.of ⟨rfl, rfl, congrArg (fun n => some (o1 (.sl 8 0 n))) (by simp), rfl, trivial⟩ ⟨rfl, congrArg (fun l => some (⟨true, 22, 1, .rows 2 l []⟩ : Ch)) hfin, trivial⟩ trivial)
  · obtain rfl : i = L + 1 := by omega
    have hv : comps zs mask = ps := by unfold comps; rw [hL]; exact hp
    rw [hv]
    (refine goes_exit ?_; refine fin_exit_then ?_; refine fin_exit_then ?_; refine fin_exit_eq ?_; refine fin_seq ?_; refine goes_seq ?_; refine goes_region ?_; apply run_step rfl; (exact stp_move rfl rfl); apply run_step rfl; (exact stp_assign rfl rfl); refine run_nil ?_; refine fin_seq ?_; refine goes_ret ?_)
    exact fin_ret1 (.inl rfl) rfl (.tmp rfl) ⟨rfl, trivial⟩ trivial
end Go.Proofs.Ytnfkhgamnapgmaa

/- KindOfDiagram, the reference's. guards: -/
namespace Go.Proofs.Ytnfkhgamnapgmaa
open Go.RowKit

set_option maxRecDepth 100000 in
theorem wholeS_fc (zs : List Int) (L : Nat) (hL : zs.length = L) (h4 : L ≤ 4) : FC Try.prog 77 [(1003, wRo zs)] [o1 (.sl 1003 0 L)] [] (vv (I6 (allN zs))) [] := by
  have hR := rankS_fc zs L h4
  have h5 : L + 1 ≤ 5 := by omega
  have hp : 2 ^ (L + 1) ≤ 2 ^ 5 := Nat.pow_le_pow_right (by decide) (by omega)
  have h1 := allN_pos (L + 1)
  have hcv : IntKind.u64.wrap ((L + 1 : Nat) : Int) = ((L + 1 : Nat) : Int) := by rw [IntKind.wrap_u64]; omega
  have hw : IntKind.i64.wrap (((2 ^ (L + 1) : Nat) : Int) - 1) = ((allN zs : Nat) : Int) := by
    rw [IntWalk.i64_in _ (by omega)]
    unfold allN; rw [hL]; omega
  refine fc_enter (nt := 8) Try.func77 rfl rfl (by simp) fun w0 ω0 => ?_
  (refine goes_seq ?_; refine goes_region ?_; apply run_step rfl; (exact stp_assign rfl rfl); refine run_nil ?_; refine fin_seq ?_; refine goes_seq ?_; refine goes_region ?_; apply run_step rfl; (exact stp_move rfl rfl); apply run_step rfl; (first | (apply call_gate 78; exact stp_callR hR (by as_aux_lemma => kernel_rfl) rfl rfl ⟨rfl, trivial⟩ ⟨⟨_, rfl, .inl rfl⟩, trivial⟩ rfl rfl) | exact stp_convN rfl rfl (by as_aux_lemma => kernel_rfl) (by as_aux_lemma => kernel_rfl) hcv | exact stp_shl1 (g := L + 1) rfl rfl rfl h5 | exact stp_sub rfl rfl rfl hw); apply run_step rfl; (first | (apply call_gate 78; exact stp_callR hR (by as_aux_lemma => kernel_rfl) rfl rfl ⟨rfl, trivial⟩ ⟨⟨_, rfl, .inl rfl⟩, trivial⟩ rfl rfl) | exact stp_convN rfl rfl (by as_aux_lemma => kernel_rfl) (by as_aux_lemma => kernel_rfl) hcv | exact stp_shl1 (g := L + 1) rfl rfl rfl h5 | exact stp_sub rfl rfl rfl hw); apply run_step rfl; (first | (apply call_gate 78; exact stp_callR hR (by as_aux_lemma => kernel_rfl) rfl rfl ⟨rfl, trivial⟩ ⟨⟨_, rfl, .inl rfl⟩, trivial⟩ rfl rfl) | exact stp_convN rfl rfl (by as_aux_lemma => kernel_rfl) (by as_aux_lemma => kernel_rfl) hcv | exact stp_shl1 (g := L + 1) rfl rfl rfl h5 | exact stp_sub rfl rfl rfl hw); apply run_step rfl; (first | (apply call_gate 78; exact stp_callR hR (by as_aux_lemma => kernel_rfl) rfl rfl ⟨rfl, trivial⟩ ⟨⟨_, rfl, .inl rfl⟩, trivial⟩ rfl rfl) | exact stp_convN rfl rfl (by as_aux_lemma => kernel_rfl) (by as_aux_lemma => kernel_rfl) hcv | exact stp_shl1 (g := L + 1) rfl rfl rfl h5 | exact stp_sub rfl rfl rfl hw); apply run_step rfl; (exact stp_assign rfl rfl); refine run_nil ?_; refine fin_seq ?_; refine goes_ret ?_)
  exact fin_ret1 (.inl rfl) rfl (.tmp rfl) trivial trivial
set_option maxRecDepth 100000 in
set_option maxHeartbeats 2000000 in
theorem kindK_fc (zs : List Int) (L mask : Nat) (hL : zs.length = L) (hd : isDiag zs = true) (hmk : mask < 1000) :
    FC Try.prog 173 [(1003, wRo zs)] [o1 (.sl 1003 0 L), vv (I6 mask)] [] (vv (I6 (kindN (comps zs mask) (comps zs mask).length : Nat))) [] := by
  have h4 : L ≤ 4 := by have := isDiag_len hd; omega
  have hC := (parts_fc zs L mask hL h4 hmk).nm [(1003, 1003), (8, 10)] (by kernel_rfl)
  have hC : FC Try.prog 180 [(1003, wRo zs)] [o1 (.sl 1003 0 L), vv (I6 mask)] [(10, rwOw (comps zs mask))] (o1 (.sl 10 0 (comps zs mask).length)) [] := hC
  have hlab : ∀ k, k < (comps zs mask).length → Labs (cget (comps zs mask) k).2 := fun k hk => labs_of hd hk
  have hnp : (comps zs mask).length ≤ 5 := by
    have h1 := csum_len (comps zs mask); have h2 := (comps_ok zs mask).sum; omega
  refine fc_enter (nt := 36) Try.func173 rfl rfl (by simp) fun w0 ω0 => ?_
  generalize comps zs mask = ps at *
  generalize hN : ps.length = N at *
  have hrx := rowsP_len ps
  rw [hN] at hrx
  (refine goes_seq ?_; refine goes_region ?_; apply run_step rfl; (exact stp_assign rfl rfl); refine run_nil ?_; refine fin_seq ?_; refine goes_seq ?_; refine goes_region ?_; apply run_step rfl; (exact stp_move rfl rfl); apply run_step rfl; (exact stp_move rfl rfl); apply run_step rfl; (apply call_gate 180; exact stp_callN hC (by as_aux_lemma => kernel_rfl) rfl rfl ⟨rfl, rfl, trivial⟩ ⟨⟨_, rfl, .inl rfl⟩, trivial⟩ rfl rfl rfl); apply run_step rfl; (exact stp_assign rfl rfl); apply run_step rfl; (exact stp_assign rfl rfl); refine run_nil ?_; refine fin_seq ?_; refine goes_seq ?_; refine goes_seq ?_; refine goes_region ?_; apply run_step rfl; (exact stp_assign rfl rfl); refine run_nil ?_; refine fin_seq ?_; refine goes_block ?_)
  refine goes_loop (fun j : Nat => St.of [(5, o1 (.sl 10 0 N)), (6, vv (I6 (kindN ps j : Nat))), (7, vv (I6 j))] [(10, rwOw ps)]) (fun j => j ≤ N) (fun j => N - j) 0 (Nat.zero_le _) (Wk.of ⟨rfl, rfl, rfl, trivial⟩ ⟨rfl, trivial⟩ trivial) ?_
  rintro j hj
  (refine goes_seq ?_; refine goes_seq ?_; refine goes_region ?_; apply run_step rfl; (exact stp_move rfl rfl); apply run_step rfl; (exact stp_move rfl rfl); apply run_step rfl; (exact stp_len rfl rfl rfl (by as_aux_lemma => kernel_rfl)); apply run_step rfl; (exact stp_bin rfl rfl rfl rfl); refine run_nil ?_; refine fin_seq ?_)
  refine goes_if rfl (fun hlt => ?_) (fun hlt => ?_)
  · have hjN : j < N := by omega
    have hjp : j < ps.length := by omega
    have hL := hlab j hjN
    have hk := kindN_succ hjp
    have hk2 := kindN_le ps j
    have hrj := irowsP_get hjp
    have hrg := rowsP_get hjp
    have hjr : j < (rowsP ps).length := by omega
    have hix : N ≤ (irows (rowsP ps)).length := by rw [irows_len, hrx]; exact Nat.le_refl _
    generalize (cget ps j).2 = labs at *
    have hm4 := hL.1
    have hlm : (ivals labs).length = labs.length := ivals_len _
    have hAf := (affineS_fc (rowsP ps) j labs.length labs hjr hrg rfl hm4).nm [(1000, 10)] (by kernel_rfl)
    have hAf : FC Try.prog 201 [(10, rowsRo (rowsP ps))] [o1 (.esl 10 j 0 labs.length)] [] (vv (.bool (affB labs))) [] := hAf
    have hrest : (degs labs).length = 0 → ∀ (S : St), S = S → True := fun _ _ _ => trivial
    rcases degS_fc (rowsP ps) j labs.length labs hjr hrg rfl hm4 with ⟨hnil, hD⟩ | hD
    · have hD := hD.nm [(1000, 10)] (by kernel_rfl)
      have hD : FC Try.prog 181 [(10, rowsRo (rowsP ps))] [o1 (.esl 10 j 0 labs.length)] [] (vv (.slice none 0 0)) [] := hD
      unfold kStep at hk
      rw [if_pos (by rw [hnil]; rfl)] at hk
      (refine goes_skip ?_; refine fin_seq ?_; refine goes_seq ?_; refine goes_block ?_; refine goes_block ?_; refine goes_seq ?_; refine goes_region ?_; apply run_step rfl; (exact stp_move rfl rfl); apply run_step rfl; (exact stp_move rfl rfl); apply run_step rfl; (first | exact stp_ix (j := j) rfl rfl rfl rfl rfl (by as_aux_lemma => kernel_rfl) rfl hjN hix | exact stp_loadR rfl (by as_aux_lemma => kernel_rfl) rfl rfl rfl hrj hlm | (apply call_gate 181; exact stp_callR hD (by as_aux_lemma => kernel_rfl) rfl rfl ⟨rfl, trivial⟩ ⟨⟨_, rfl, .inr rfl⟩, trivial⟩ rfl rfl)); apply run_step rfl; (first | exact stp_ix (j := j) rfl rfl rfl rfl rfl (by as_aux_lemma => kernel_rfl) rfl hjN hix | exact stp_loadR rfl (by as_aux_lemma => kernel_rfl) rfl rfl rfl hrj hlm | (apply call_gate 181; exact stp_callR hD (by as_aux_lemma => kernel_rfl) rfl rfl ⟨rfl, trivial⟩ ⟨⟨_, rfl, .inr rfl⟩, trivial⟩ rfl rfl)); apply run_step rfl; (first | exact stp_ix (j := j) rfl rfl rfl rfl rfl (by as_aux_lemma => kernel_rfl) rfl hjN hix | exact stp_loadR rfl (by as_aux_lemma => kernel_rfl) rfl rfl rfl hrj hlm | (apply call_gate 181; exact stp_callR hD (by as_aux_lemma => kernel_rfl) rfl rfl ⟨rfl, trivial⟩ ⟨⟨_, rfl, .inr rfl⟩, trivial⟩ rfl rfl)); apply run_step rfl; (exact stp_len rfl rfl rfl (by as_aux_lemma => kernel_rfl)); apply run_step rfl; (exact stp_bin rfl rfl rfl rfl); apply run_step rfl; (exact stp_assign rfl rfl); refine run_nil ?_; refine fin_seq ?_)
      refine goes_cond rfl (fun e => ?_) (fun _ => ?_)
      · exfalso; simp at e
      (refine goes_seq ?_; refine goes_region ?_; apply run_step rfl; (exact stp_move rfl rfl); apply run_step rfl; (exact stp_move rfl rfl); apply run_step rfl; (first | exact stp_ix (j := j) rfl rfl rfl rfl rfl (by as_aux_lemma => kernel_rfl) rfl hjN hix | exact stp_loadR rfl (by as_aux_lemma => kernel_rfl) rfl rfl rfl hrj hlm | (apply call_gate 201; exact stp_callR hAf (by as_aux_lemma => kernel_rfl) rfl rfl ⟨rfl, trivial⟩ ⟨⟨_, rfl, .inr rfl⟩, trivial⟩ rfl rfl)); apply run_step rfl; (first | exact stp_ix (j := j) rfl rfl rfl rfl rfl (by as_aux_lemma => kernel_rfl) rfl hjN hix | exact stp_loadR rfl (by as_aux_lemma => kernel_rfl) rfl rfl rfl hrj hlm | (apply call_gate 201; exact stp_callR hAf (by as_aux_lemma => kernel_rfl) rfl rfl ⟨rfl, trivial⟩ ⟨⟨_, rfl, .inr rfl⟩, trivial⟩ rfl rfl)); apply run_step rfl; (first | exact stp_ix (j := j) rfl rfl rfl rfl rfl (by as_aux_lemma => kernel_rfl) rfl hjN hix | exact stp_loadR rfl (by as_aux_lemma => kernel_rfl) rfl rfl rfl hrj hlm | (apply call_gate 201; exact stp_callR hAf (by as_aux_lemma => kernel_rfl) rfl rfl ⟨rfl, trivial⟩ ⟨⟨_, rfl, .inr rfl⟩, trivial⟩ rfl rfl)); apply run_step rfl; (exact stp_move rfl rfl))
      refine run_bool 31 rfl (fun h1 => ?_) (fun h1 => ?_)
      · rw [h1] at hk
        (apply run_gYes rfl rfl rfl; (exact stp_move rfl rfl); apply run_gYes rfl rfl rfl; (exact stp_bin rfl rfl rfl rfl); apply run_step rfl; (exact stp_pickT rfl rfl rfl); apply run_step rfl; (exact stp_assign rfl rfl); refine run_nil ?_; refine fin_seq ?_)
        refine goes_cond rfl (fun h2 => ?_) (fun h2 => ?_)
        · have h2 : kindN ps j ≠ 2 := by have : (kindN ps j : Int) ≠ 2 := by simpa using h2
                                         omega
          rw [if_pos ⟨rfl, h2⟩] at hk
          (refine goes_region ?_; apply run_step rfl; (exact stp_assign rfl rfl); refine run_nil ?_; refine fin_block ?_; refine fin_block ?_; refine fin_seq ?_; refine goes_region ?_; apply run_step rfl; (exact stp_move rfl rfl); apply run_step rfl; (exact stp_add rfl rfl rfl (by first | exact IntWalk.i64_in _ (by omega) | rfl)); apply run_step rfl; (exact stp_assign rfl rfl); refine run_nil ?_)
          exact fin_round (j + 1) (by omega) (by omega) (Wk.of ⟨rfl, congrArg (fun k : Nat => some (vv (I6 (k : Int)))) hk.symm, rfl, trivial⟩ ⟨rfl, trivial⟩ trivial)
        · have h2 : kindN ps j = 2 := by have : (kindN ps j : Int) = 2 := by simpa using h2
                                         omega
          rw [if_neg (fun h => h.2 h2)] at hk
          (refine goes_region ?_; apply run_step rfl; (exact stp_assign rfl rfl); refine run_nil ?_; refine fin_block ?_; refine fin_block ?_; refine fin_seq ?_; refine goes_region ?_; apply run_step rfl; (exact stp_move rfl rfl); apply run_step rfl; (exact stp_add rfl rfl rfl (by first | exact IntWalk.i64_in _ (by omega) | rfl)); apply run_step rfl; (exact stp_assign rfl rfl); refine run_nil ?_)
          exact fin_round (j + 1) (by omega) (by omega) (Wk.of ⟨rfl, congrArg (fun k : Nat => some (vv (I6 (k : Int)))) hk.symm, rfl, trivial⟩ ⟨rfl, trivial⟩ trivial)
      · rw [h1, if_neg (by simp)] at hk
        (apply run_gNo rfl rfl rfl rfl rfl; apply run_gNo rfl rfl rfl rfl rfl; apply run_step rfl; (exact stp_pickF rfl rfl rfl); apply run_step rfl; (exact stp_assign rfl rfl); refine run_nil ?_; refine fin_seq ?_)
        refine goes_cond rfl (fun e => by cases e) (fun _ => ?_)
        (refine goes_region ?_; apply run_step rfl; (exact stp_assign rfl rfl); refine run_nil ?_; refine fin_block ?_; refine fin_block ?_; refine fin_seq ?_; refine goes_region ?_; apply run_step rfl; (exact stp_move rfl rfl); apply run_step rfl; (exact stp_add rfl rfl rfl (by first | exact IntWalk.i64_in _ (by omega) | rfl)); apply run_step rfl; (exact stp_assign rfl rfl); refine run_nil ?_)
        exact fin_round (j + 1) (by omega) (by omega) (Wk.of ⟨rfl, congrArg (fun k : Nat => some (vv (I6 (k : Int)))) hk.symm, rfl, trivial⟩ ⟨rfl, trivial⟩ trivial)
    · have hD := hD.nm [(1000, 10), (2100, 22)] (by kernel_rfl)
      have hD : FC Try.prog 181 [(10, rowsRo (rowsP ps))] [o1 (.esl 10 j 0 labs.length)] [(22, leOw (degs labs))] (o1 (.sl 22 0 (degs labs).length)) [] := hD
      unfold kStep at hk
      (refine goes_skip ?_; refine fin_seq ?_; refine goes_seq ?_; refine goes_block ?_; refine goes_block ?_; refine goes_seq ?_; refine goes_region ?_; apply run_step rfl; (exact stp_move rfl rfl); apply run_step rfl; (exact stp_move rfl rfl); apply run_step rfl; (first | exact stp_ix (j := j) rfl rfl rfl rfl rfl (by as_aux_lemma => kernel_rfl) rfl hjN hix | exact stp_loadR rfl (by as_aux_lemma => kernel_rfl) rfl rfl rfl hrj hlm | (apply call_gate 181; exact stp_callN hD (by as_aux_lemma => kernel_rfl) rfl rfl ⟨rfl, trivial⟩ ⟨⟨_, rfl, .inr rfl⟩, trivial⟩ rfl rfl rfl)); apply run_step rfl; (first | exact stp_ix (j := j) rfl rfl rfl rfl rfl (by as_aux_lemma => kernel_rfl) rfl hjN hix | exact stp_loadR rfl (by as_aux_lemma => kernel_rfl) rfl rfl rfl hrj hlm | (apply call_gate 181; exact stp_callN hD (by as_aux_lemma => kernel_rfl) rfl rfl ⟨rfl, trivial⟩ ⟨⟨_, rfl, .inr rfl⟩, trivial⟩ rfl rfl rfl)); apply run_step rfl; (first | exact stp_ix (j := j) rfl rfl rfl rfl rfl (by as_aux_lemma => kernel_rfl) rfl hjN hix | exact stp_loadR rfl (by as_aux_lemma => kernel_rfl) rfl rfl rfl hrj hlm | (apply call_gate 181; exact stp_callN hD (by as_aux_lemma => kernel_rfl) rfl rfl ⟨rfl, trivial⟩ ⟨⟨_, rfl, .inr rfl⟩, trivial⟩ rfl rfl rfl)); apply run_step rfl; (exact stp_len rfl rfl rfl (by as_aux_lemma => kernel_rfl)); apply run_step rfl; (exact stp_bin rfl rfl rfl rfl); apply run_step rfl; (exact stp_assign rfl rfl); refine run_nil ?_; refine fin_seq ?_)
      refine goes_cond rfl (fun e => ?_) (fun e => ?_)
      · have e : ¬ (degs labs).length = 0 := by
          have := of_decide_eq_true e; omega
        rw [if_neg e] at hk
        (refine goes_skip ?_; refine fin_block ?_; refine fin_block ?_; refine fin_seq ?_; refine goes_region ?_; apply run_step rfl; (exact stp_move rfl rfl); apply run_step rfl; (exact stp_add rfl rfl rfl (by first | exact IntWalk.i64_in _ (by omega) | rfl)); apply run_step rfl; (exact stp_assign rfl rfl); refine run_nil ?_)
        exact fin_round (j + 1) (by omega) (by omega) (Wk.of ⟨rfl, congrArg (fun k : Nat => some (vv (I6 (k : Int)))) hk.symm, rfl, trivial⟩ ⟨rfl, trivial⟩ trivial)
      have e : (degs labs).length = 0 := by
        have := of_decide_eq_false e; omega
      rw [if_pos e] at hk
      (refine goes_seq ?_; refine goes_region ?_; apply run_step rfl; (exact stp_move rfl rfl); apply run_step rfl; (exact stp_move rfl rfl); apply run_step rfl; (first | exact stp_ix (j := j) rfl rfl rfl rfl rfl (by as_aux_lemma => kernel_rfl) rfl hjN hix | exact stp_loadR rfl (by as_aux_lemma => kernel_rfl) rfl rfl rfl hrj hlm | (apply call_gate 201; exact stp_callR hAf (by as_aux_lemma => kernel_rfl) rfl rfl ⟨rfl, trivial⟩ ⟨⟨_, rfl, .inr rfl⟩, trivial⟩ rfl rfl)); apply run_step rfl; (first | exact stp_ix (j := j) rfl rfl rfl rfl rfl (by as_aux_lemma => kernel_rfl) rfl hjN hix | exact stp_loadR rfl (by as_aux_lemma => kernel_rfl) rfl rfl rfl hrj hlm | (apply call_gate 201; exact stp_callR hAf (by as_aux_lemma => kernel_rfl) rfl rfl ⟨rfl, trivial⟩ ⟨⟨_, rfl, .inr rfl⟩, trivial⟩ rfl rfl)); apply run_step rfl; (first | exact stp_ix (j := j) rfl rfl rfl rfl rfl (by as_aux_lemma => kernel_rfl) rfl hjN hix | exact stp_loadR rfl (by as_aux_lemma => kernel_rfl) rfl rfl rfl hrj hlm | (apply call_gate 201; exact stp_callR hAf (by as_aux_lemma => kernel_rfl) rfl rfl ⟨rfl, trivial⟩ ⟨⟨_, rfl, .inr rfl⟩, trivial⟩ rfl rfl)); apply run_step rfl; (exact stp_move rfl rfl))
      refine run_bool 31 rfl (fun h1 => ?_) (fun h1 => ?_)
      · rw [h1] at hk
        (apply run_gYes rfl rfl rfl; (exact stp_move rfl rfl); apply run_gYes rfl rfl rfl; (exact stp_bin rfl rfl rfl rfl); apply run_step rfl; (exact stp_pickT rfl rfl rfl); apply run_step rfl; (exact stp_assign rfl rfl); refine run_nil ?_; refine fin_seq ?_)
        refine goes_cond rfl (fun h2 => ?_) (fun h2 => ?_)
        · have h2 : kindN ps j ≠ 2 := by have : (kindN ps j : Int) ≠ 2 := by simpa using h2
                                         omega
          rw [if_pos ⟨rfl, h2⟩] at hk
          (refine goes_region ?_; apply run_step rfl; (exact stp_assign rfl rfl); refine run_nil ?_; refine fin_block ?_; refine fin_block ?_; refine fin_seq ?_; refine goes_region ?_; apply run_step rfl; (exact stp_move rfl rfl); apply run_step rfl; (exact stp_add rfl rfl rfl (by first | exact IntWalk.i64_in _ (by omega) | rfl)); apply run_step rfl; (exact stp_assign rfl rfl); refine run_nil ?_)
          exact fin_round (j + 1) (by omega) (by omega) (Wk.of ⟨rfl, congrArg (fun k : Nat => some (vv (I6 (k : Int)))) hk.symm, rfl, trivial⟩ ⟨rfl, trivial⟩ trivial)
        · have h2 : kindN ps j = 2 := by have : (kindN ps j : Int) = 2 := by simpa using h2
                                         omega
          rw [if_neg (fun h => h.2 h2)] at hk
          (refine goes_region ?_; apply run_step rfl; (exact stp_assign rfl rfl); refine run_nil ?_; refine fin_block ?_; refine fin_block ?_; refine fin_seq ?_; refine goes_region ?_; apply run_step rfl; (exact stp_move rfl rfl); apply run_step rfl; (exact stp_add rfl rfl rfl (by first | exact IntWalk.i64_in _ (by omega) | rfl)); apply run_step rfl; (exact stp_assign rfl rfl); refine run_nil ?_)
          exact fin_round (j + 1) (by omega) (by omega) (Wk.of ⟨rfl, congrArg (fun k : Nat => some (vv (I6 (k : Int)))) hk.symm, rfl, trivial⟩ ⟨rfl, trivial⟩ trivial)
      · rw [h1, if_neg (by simp)] at hk
        (apply run_gNo rfl rfl rfl rfl rfl; apply run_gNo rfl rfl rfl rfl rfl; apply run_step rfl; (exact stp_pickF rfl rfl rfl); apply run_step rfl; (exact stp_assign rfl rfl); refine run_nil ?_; refine fin_seq ?_)
        refine goes_cond rfl (fun e => by cases e) (fun _ => ?_)
        (refine goes_region ?_; apply run_step rfl; (exact stp_assign rfl rfl); refine run_nil ?_; refine fin_block ?_; refine fin_block ?_; refine fin_seq ?_; refine goes_region ?_; apply run_step rfl; (exact stp_move rfl rfl); apply run_step rfl; (exact stp_add rfl rfl rfl (by first | exact IntWalk.i64_in _ (by omega) | rfl)); apply run_step rfl; (exact stp_assign rfl rfl); refine run_nil ?_)
        exact fin_round (j + 1) (by omega) (by omega) (Wk.of ⟨rfl, congrArg (fun k : Nat => some (vv (I6 (k : Int)))) hk.symm, rfl, trivial⟩ ⟨rfl, trivial⟩ trivial)
  · obtain rfl : j = N := by omega
    (refine goes_exit ?_; refine fin_exit_then ?_; refine fin_exit_then ?_; refine fin_exit_eq ?_; refine fin_seq ?_; refine goes_seq ?_; refine goes_region ?_; apply run_step rfl; (exact stp_move rfl rfl); apply run_step rfl; (exact stp_assign rfl rfl); refine run_nil ?_; refine fin_seq ?_; refine goes_ret ?_)
    exact fin_ret1 (.inl rfl) rfl (.tmp rfl) trivial trivial
end Go.Proofs.Ytnfkhgamnapgmaa

/- The program's within, in names. -/
namespace Go.Proofs.Ytnfkhgamnapgmaa
open Go.RowKit

theorem us_three {us : List Value} {u0 u1 u2 : Value} (hl : us.length = 3) (g0 : us[0]? = some u0) (g1 : us[1]? = some u1) (g2 : us[2]? = some u2) : us = [u0, u1, u2] := by
  match us, hl with
  | [p, q, r], _ => simp at g0 g1 g2; rw [g0, g1, g2]
theorem within_fc (a b c : Int) : FC Try.prog 84 [] [vv (I6 a), vv (I6 b), vv (I6 c)] [] (vv (.bool (inB a b c))) [] :=
  fc_of_calls fun w η ω us hm ⟨hl, ha⟩ => by
    obtain ⟨u0, g0, d0⟩ := ha 0 _ rfl
    obtain ⟨u1, g1, d1⟩ := ha 1 _ rfl
    obtain ⟨u2, g2, d2⟩ := ha 2 _ rfl
    have d0 : u0 = I6 a := d0
    have d1 : u1 = I6 b := d1
    have d2 : u2 = I6 c := d2
    subst d0 d1 d2
    rw [us_three hl g0 g1 g2]
    refine (within_any a b c w).mono ?_
    rintro e w' ⟨rfl, rfl⟩
    exact ⟨rfl, Below.refl _ _⟩
end Go.Proofs.Ytnfkhgamnapgmaa

/- CoxeterNumber. guards: -/
namespace Go.Proofs.Ytnfkhgamnapgmaa
open Go.RowKit

def maskC (zs : List Int) (m : Int) : Int := if isDiag zs = true then (if inB m 0 (allN zs) = true then (if finB zs m.toNat = true then 0 else 5) else 2) else 1
theorem in_fc (a b c : Int) : FC Try.prog 76 [] [vv (I6 a), vv (I6 b), vv (I6 c)] [] (vv (.bool (inB a b c))) [] :=
  fc_of_calls fun w η ω us hm ⟨hl, ha⟩ => by
    obtain ⟨u0, g0, d0⟩ := ha 0 _ rfl
    obtain ⟨u1, g1, d1⟩ := ha 1 _ rfl
    obtain ⟨u2, g2, d2⟩ := ha 2 _ rfl
    have d0 : u0 = I6 a := d0
    have d1 : u1 = I6 b := d1
    have d2 : u2 = I6 c := d2
    subst d0 d1 d2
    rw [us_three hl g0 g1 g2]
    refine (specIn_any a b c w).mono ?_
    rintro e w' ⟨rfl, rfl⟩
    exact ⟨rfl, Below.refl _ _⟩
set_option maxRecDepth 100000 in
theorem maskS_fc (zs : List Int) (L : Nat) (m : Int) (hL : zs.length = L) (hn : L ≤ 4398046511104) : FC Try.prog 130 [(1003, wRo zs)] [o1 (.sl 1003 0 L), vv (I6 m)] [] (vv (I6 (maskC zs m))) [] := by
  have hI := diagS_fc zs L hL hn
  unfold maskC
  refine fc_enter (nt := 20) Try.func130 rfl rfl (by simp) fun w0 ω0 => ?_
  cases hd : isDiag zs with
  | false =>
    rw [hd] at hI
    rw [if_neg (by simp)]
    (refine goes_seq ?_; refine goes_region ?_; apply run_step rfl; (exact stp_assign rfl rfl); refine run_nil ?_; refine fin_seq ?_; refine goes_seq ?_; refine goes_block ?_; refine goes_seq ?_; refine goes_region ?_; apply run_step rfl; (exact stp_move rfl rfl); apply run_step rfl; (apply call_gate 75; exact stp_callR hI (by as_aux_lemma => kernel_rfl) rfl rfl ⟨rfl, trivial⟩ ⟨⟨_, rfl, .inl rfl⟩, trivial⟩ rfl rfl); apply run_step rfl; (exact stp_not rfl rfl); apply run_step rfl; (exact stp_assign rfl rfl); refine run_nil ?_; refine fin_seq ?_)
    refine goes_cond rfl (fun _ => ?_) (fun e => by cases e)
    (refine goes_seq ?_; refine goes_region ?_; apply run_step rfl; (exact stp_assign rfl rfl); refine run_nil ?_; refine fin_seq ?_; refine goes_ret ?_; refine fin_ret_block ?_; refine fin_ret_then ?_)
    exact fin_ret1 (.inl rfl) rfl (.tmp rfl) trivial trivial
  | true =>
    rw [hd] at hI
    rw [if_pos rfl]
    have h4 : L ≤ 4 := by have := isDiag_len hd; omega
    have hW := wholeS_fc zs L hL h4
    have hIn := in_fc m 0 (allN zs)
    (refine goes_seq ?_; refine goes_region ?_; apply run_step rfl; (exact stp_assign rfl rfl); refine run_nil ?_; refine fin_seq ?_; refine goes_seq ?_; refine goes_block ?_; refine goes_seq ?_; refine goes_region ?_; apply run_step rfl; (exact stp_move rfl rfl); apply run_step rfl; (apply call_gate 75; exact stp_callR hI (by as_aux_lemma => kernel_rfl) rfl rfl ⟨rfl, trivial⟩ ⟨⟨_, rfl, .inl rfl⟩, trivial⟩ rfl rfl); apply run_step rfl; (exact stp_not rfl rfl); apply run_step rfl; (exact stp_assign rfl rfl); refine run_nil ?_; refine fin_seq ?_)
    refine goes_cond rfl (fun e => by cases e) (fun _ => ?_)
    (refine goes_seq ?_; refine goes_region ?_; apply run_step rfl; (exact stp_move rfl rfl); apply run_step rfl; (exact stp_move rfl rfl); apply run_step rfl; (first | (apply call_gate 77; exact stp_callR hW (by as_aux_lemma => kernel_rfl) rfl rfl ⟨rfl, trivial⟩ ⟨⟨_, rfl, .inl rfl⟩, trivial⟩ rfl rfl) | (apply call_gate 76; exact stp_callR hIn (by as_aux_lemma => kernel_rfl) rfl rfl ⟨rfl, rfl, rfl, trivial⟩ trivial rfl rfl)); apply run_step rfl; (first | (apply call_gate 77; exact stp_callR hW (by as_aux_lemma => kernel_rfl) rfl rfl ⟨rfl, trivial⟩ ⟨⟨_, rfl, .inl rfl⟩, trivial⟩ rfl rfl) | (apply call_gate 76; exact stp_callR hIn (by as_aux_lemma => kernel_rfl) rfl rfl ⟨rfl, rfl, rfl, trivial⟩ trivial rfl rfl)); apply run_step rfl; (exact stp_not rfl rfl); apply run_step rfl; (exact stp_assign rfl rfl); refine run_nil ?_; refine fin_seq ?_)
    refine goes_cond rfl (fun h => ?_) (fun h => ?_)
    · have hb : inB m 0 (allN zs) = false := by simpa using h
      rw [hb, if_neg (by simp)]
      (refine goes_seq ?_; refine goes_region ?_; apply run_step rfl; (exact stp_assign rfl rfl); refine run_nil ?_; refine fin_seq ?_; refine goes_ret ?_; refine fin_ret_block ?_; refine fin_ret_then ?_)
      exact fin_ret1 (.inl rfl) rfl (.tmp rfl) trivial trivial
    have hb : inB m 0 (allN zs) = true := by simpa using h
    rw [hb, if_pos rfl]
    have hlt := allN_lt (zs := zs) (by omega)
    have hbb := inB_true.1 hb
    obtain ⟨k, hk⟩ := Int.eq_ofNat_of_zero_le hbb.1
    subst hk
    rw [Int.toNat_natCast]
    have hK := kindK_fc zs L k hL hd (by omega)
    (refine goes_seq ?_; refine goes_region ?_; apply run_step rfl; (exact stp_move rfl rfl); apply run_step rfl; (exact stp_move rfl rfl); apply run_step rfl; (apply call_gate 173; exact stp_callR hK (by as_aux_lemma => kernel_rfl) rfl rfl ⟨rfl, rfl, trivial⟩ ⟨⟨_, rfl, .inl rfl⟩, trivial⟩ rfl rfl); apply run_step rfl; (exact stp_bin rfl rfl rfl rfl); apply run_step rfl; (exact stp_assign rfl rfl); refine run_nil ?_; refine fin_seq ?_)
    refine goes_cond rfl (fun h => ?_) (fun h => ?_)
    · have hf : finB zs k = false := by
        have : ((kindN (comps zs k) (comps zs k).length : Nat) : Int) ≠ 0 := by simpa using h
        unfold finB; rw [decide_eq_false_iff_not]; omega
      rw [hf, if_neg (by simp)]
      (refine goes_seq ?_; refine goes_region ?_; apply run_step rfl; (exact stp_assign rfl rfl); refine run_nil ?_; refine fin_seq ?_; refine goes_ret ?_; refine fin_ret_block ?_; refine fin_ret_then ?_)
      exact fin_ret1 (.inl rfl) rfl (.tmp rfl) trivial trivial
    have hf : finB zs k = true := by
      have : ((kindN (comps zs k) (comps zs k).length : Nat) : Int) = 0 := by simpa using h
      unfold finB; rw [decide_eq_true_iff]; omega
    rw [hf, if_pos rfl]
    (refine goes_skip ?_; refine fin_block ?_; refine fin_seq ?_; refine goes_seq ?_; refine goes_region ?_; apply run_step rfl; (exact stp_assign rfl rfl); refine run_nil ?_; refine fin_seq ?_; refine goes_ret ?_)
    exact fin_ret1 (.inl rfl) rfl (.tmp rfl) trivial trivial
/-- the error of a diagram that has to be finite -/
def finC (zs : List Int) : Int := maskC zs (allN zs)
theorem finC_in (zs : List Int) (hd : isDiag zs = true) : finC zs = if finB zs (allN zs) = true then 0 else 5 := by
  unfold finC maskC
  rw [if_pos hd, if_pos (inB_true.2 ⟨by omega, by omega⟩), Int.toNat_natCast]
end Go.Proofs.Ytnfkhgamnapgmaa

/- All degrees of a finite diagram: the reference's. guards: -/
namespace Go.Proofs.Ytnfkhgamnapgmaa
open Go.RowKit

theorem reads_dropI {S : St} {n : Nm} {at_ m : Nat} {c : Ch} {zs : List Int} (hc : S.ch n = some c) (hd : c.d = .vals (ivals zs)) (hk : c.k = 1) (hl : at_ + m = zs.length) : Reads S (.sl n at_ m) m 1 (ivals (zs.drop at_)) := by
  have := reads_vals (S := S) (n := n) (off := at_) (m := m) (k := 1) hc hd hk rfl (by rw [ivals_len]; omega)
  rwa [Nat.mul_one, Nat.mul_one, show ((ivals zs).drop at_).take m = ivals (zs.drop at_) by
    unfold ivals; rw [← List.map_drop, List.take_of_length_le (by simp; omega)]] at this
theorem reads_takeI {S : St} {n : Nm} {m : Nat} {c : Ch} {zs : List Int} (hc : S.ch n = some c) (hd : c.d = .vals (ivals zs)) (hk : c.k = 1) (hl : m ≤ zs.length) : Reads S (.sl n 0 m) m 1 (ivals (zs.take m)) := by
  have := reads_vals (S := S) (n := n) (off := 0) (m := m) (k := 1) hc hd hk rfl (by rw [ivals_len]; omega)
  rwa [Nat.zero_mul, List.drop_zero, Nat.mul_one, show (ivals zs).take m = ivals (zs.take m) by unfold ivals; rw [List.map_take]] at this
theorem sortL_asc (A : List Int) : (sortL A).Pairwise (· ≤ ·) := by
  have := List.pairwise_mergeSort (le := fun a b : Int => decide (a ≤ b)) (fun a b c h1 h2 => by simp at *; omega) (fun a b => by simp; omega) A
  exact this.imp (by simp)
theorem ins_ok {A : List Int} {e : Int} {i : Nat} (hi : i ≤ (sortL A).length) (h1 : ∀ x, x < i → iget (sortL A) x ≤ e) (h2 : i = (sortL A).length ∨ e < iget (sortL A) i) :
    (sortL A).take i ++ ([e] ++ (sortL A).drop i) = sortL (A ++ [e]) := by
  have hs := sortL_asc A
  have hp : (sortL A).Perm A := List.mergeSort_perm A _
  generalize sortL A = l at *
  apply sortL_uniq
  · have q1 : (l.take i ++ ([e] ++ l.drop i)).Perm (e :: (l.take i ++ l.drop i)) := by
      rw [List.singleton_append]; exact List.perm_middle
    rw [List.take_append_drop] at q1
    exact q1.trans ((hp.cons e).trans (List.perm_append_singleton e A).symm)
  · rw [← List.take_append_drop i l, List.pairwise_append] at hs
    obtain ⟨s1, s2, s3⟩ := hs
    have ha : ∀ a ∈ l.take i, a ≤ e := fun a ha => by
      obtain ⟨x, hx, rfl⟩ := List.getElem_of_mem ha
      have hx' : x < i := by rw [List.length_take] at hx; omega
      have := h1 x hx'
      rw [iget_lt (by omega)] at this
      rw [List.getElem_take]; exact this
    have hb : ∀ b ∈ l.drop i, e ≤ b := fun b hb => by
      rcases h2 with h2 | h2
      · rw [List.drop_of_length_le (by omega)] at hb; cases hb
      · have hil : i < l.length := by
          rcases Nat.lt_or_ge i l.length with h | h
          · exact h
          · rw [List.drop_of_length_le h] at hb; cases hb
        rw [iget_lt hil] at h2
        rw [List.drop_eq_getElem_cons hil] at s2 hb
        rcases List.mem_cons.1 hb with rfl | hb
        · omega
        · have := (List.pairwise_cons.1 s2).1 b hb; omega
    rw [List.pairwise_append, List.singleton_append, List.pairwise_cons]
    refine ⟨s1, ⟨hb, s2⟩, fun a h3 b h4 => ?_⟩
    rcases List.mem_cons.1 h4 with rfl | h4
    · exact ha a h3
    · exact s3 a h3 b h4
section
variable {P : Program} {nt : Nat} {S : St} {t : Nat} {ty : TypeId} {ps : String} {af : Array Edge} {gd : Option (Nat × Bool)} {x : Operand}
theorem stp_sliceM {T : TypeId} {n : Nm} {len l h m : Nat} {c : Ch} {lo hi : Option Operand} (hm : l + m = h) (ht : Nat.blt t nt = true) (hx : S.op x = some (o1 (.sl n 0 len))) (hc : S.ch n = some c) (hk : c.k = 1) (hT : elemB P T 1 = true)
    (hlo : bnd S lo 0 l) (hhi : bnd S hi len h) (hhl : h ≤ len) (hl : len ≤ c.d.len) : Stp P nt ⟨some t, .slice T x lo hi none, ty, ps, af, gd⟩ S (S.put t (o1 (.sl n l m))) := by
  have := stp_slice (P := P) (nt := nt) (ty := ty) (ps := ps) (af := af) (gd := gd) (k := 1) ht hx hc hk hT (by omega) hlo hhi (by omega) hhl (by omega)
  rwa [Nat.zero_add, show h - l = m by omega] at this
end
set_option maxRecDepth 100000 in
set_option maxHeartbeats 4000000 in
theorem allS_fc (zs : List Int) (L mask : Nat) (hL : zs.length = L) (hd : isDiag zs = true) (hmk : mask < 1000) (hf : finB zs mask = true) :
    FC Try.prog 142 [(1003, wRo zs)] [o1 (.sl 1003 0 L), vv (I6 mask)] [(2300, leOw (allD zs mask))] (o1 (.sl 2300 0 (catD (comps zs mask) (comps zs mask).length).length)) [] := by
  have h4 : L ≤ 4 := by have := isDiag_len hd; omega
  have hC := (parts_fc zs L mask hL h4 hmk).nm [(1003, 1003), (8, 14)] (by kernel_rfl)
  have hC : FC Try.prog 180 [(1003, wRo zs)] [o1 (.sl 1003 0 L), vv (I6 mask)] [(14, rwOw (comps zs mask))] (o1 (.sl 14 0 (comps zs mask).length)) [] := hC
  have hlab : ∀ k, k < (comps zs mask).length → Labs (cget (comps zs mask) k).2 := fun k hk => labs_of hd hk
  have hcs : csum (comps zs mask) ≤ 5 := by have := (comps_ok zs mask).sum; omega
  have hnp : (comps zs mask).length ≤ 5 := by have := csum_len (comps zs mask); omega
  have hfa := (fin_all (ps := comps zs mask) (comps zs mask).length (Nat.le_refl _)).1 (by simpa [finB] using hf)
  have hcl : ∀ j, j ≤ (comps zs mask).length → (catD (comps zs mask) j).length ≤ 5 := fun j hj => Nat.le_trans (catD_len hlab j hj) (Nat.le_trans (csum_take _ _) hcs)
  unfold allD
  refine fc_enter (nt := 67) Try.func142 rfl rfl (by simp) fun w0 ω0 => ?_
  generalize comps zs mask = ps at *
  generalize hN : ps.length = N at *
  have hrx := rowsP_len ps
  rw [hN] at hrx
  (refine goes_seq ?_; refine goes_region ?_; apply run_step rfl; (exact stp_assign rfl rfl); refine run_nil ?_; refine fin_seq ?_; refine goes_seq ?_; refine goes_region ?_; apply run_step rfl; (exact stp_move rfl rfl); apply run_step rfl; (exact stp_move rfl rfl); apply run_step rfl; (apply call_gate 180; exact stp_callN hC (by as_aux_lemma => kernel_rfl) rfl rfl ⟨rfl, rfl, trivial⟩ ⟨⟨_, rfl, .inl rfl⟩, trivial⟩ rfl rfl rfl); apply run_step rfl; (exact stp_lit0 (E := 2) (k := 1) rfl (by as_aux_lemma => kernel_rfl)); apply run_step rfl; (exact stp_assign rfl rfl); apply run_step rfl; (exact stp_assign rfl rfl); refine run_nil ?_; refine fin_seq ?_; refine goes_seq ?_; refine goes_seq ?_; refine goes_region ?_; apply run_step rfl; (exact stp_assign rfl rfl); refine run_nil ?_; refine fin_seq ?_; refine goes_block ?_)
  refine goes_loop (fun j : Nat => St.of [(5, o1 (.sl 14 0 N)), (6, o1 (.sl 2300 0 (catD ps j).length)), (7, vv (I6 j))] [(14, rwOw ps), (2300, leOw (sortL (catD ps j)))]) (fun j => j ≤ N) (fun j => N - j) 0 (Nat.zero_le _) (Wk.trans (wk_ren (x := 15) (y := 2300) (s := 6) (m := 0) rfl rfl) (Wk.of ⟨rfl, rfl, rfl, trivial⟩ ⟨rfl, congrArg (fun z => some (leOw z)) (show [] = sortL (catD ps 0) by simp [catD, sortL]), trivial⟩ trivial)) ?_
  rintro j hj
  (refine goes_seq ?_; refine goes_seq ?_; refine goes_region ?_; apply run_step rfl; (exact stp_move rfl rfl); apply run_step rfl; (exact stp_move rfl rfl); apply run_step rfl; (exact stp_len rfl rfl rfl (by as_aux_lemma => kernel_rfl)); apply run_step rfl; (exact stp_bin rfl rfl rfl rfl); refine run_nil ?_; refine fin_seq ?_)
  refine goes_if rfl (fun hlt => ?_) (fun hlt => ?_)
  · have hjN : j < N := by omega
    have hjp : j < ps.length := by omega
    have hL := hlab j hjN
    have hne := hfa j hjN
    have hcat := catD_succ hjp
    have hc5 := hcl (j + 1) (by omega)
    have hrj := irowsP_get hjp
    have hrg := rowsP_get hjp
    have hjr : j < (rowsP ps).length := by omega
    have hix : N ≤ (irows (rowsP ps)).length := by rw [irows_len, hrx]; exact Nat.le_refl _
    generalize (cget ps j).2 = labs at *
    have hm4 := hL.1
    have hlm : (ivals labs).length = labs.length := ivals_len _
    rcases degS_fc (rowsP ps) j labs.length labs hjr hrg rfl hm4 with ⟨hnil, _⟩ | hD
    · exact absurd (by rw [hnil]; rfl) hne
    have hD := hD.nm [(1000, 14), (2100, 26)] (by kernel_rfl)
    have hD : FC Try.prog 181 [(14, rowsRo (rowsP ps))] [o1 (.esl 14 j 0 labs.length)] [(26, leOw (degs labs))] (o1 (.sl 26 0 (degs labs).length)) [] := hD
    rw [hcat, List.length_append] at hc5
    generalize hA : catD ps j = A at *
    generalize hM : degs labs = ds at *
    (refine goes_skip ?_; refine fin_seq ?_; refine goes_seq ?_; refine goes_block ?_; refine goes_seq ?_; refine goes_region ?_; apply run_step rfl; (exact stp_move rfl rfl); apply run_step rfl; (exact stp_move rfl rfl); apply run_step rfl; (first | exact stp_ix (j := j) rfl rfl rfl rfl rfl (by as_aux_lemma => kernel_rfl) rfl hjN hix | exact stp_loadR rfl (by as_aux_lemma => kernel_rfl) rfl rfl rfl hrj hlm | (apply call_gate 181; exact stp_callN hD (by as_aux_lemma => kernel_rfl) rfl rfl ⟨rfl, trivial⟩ ⟨⟨_, rfl, .inr rfl⟩, trivial⟩ rfl rfl rfl)); apply run_step rfl; (first | exact stp_ix (j := j) rfl rfl rfl rfl rfl (by as_aux_lemma => kernel_rfl) rfl hjN hix | exact stp_loadR rfl (by as_aux_lemma => kernel_rfl) rfl rfl rfl hrj hlm | (apply call_gate 181; exact stp_callN hD (by as_aux_lemma => kernel_rfl) rfl rfl ⟨rfl, trivial⟩ ⟨⟨_, rfl, .inr rfl⟩, trivial⟩ rfl rfl rfl)); apply run_step rfl; (first | exact stp_ix (j := j) rfl rfl rfl rfl rfl (by as_aux_lemma => kernel_rfl) rfl hjN hix | exact stp_loadR rfl (by as_aux_lemma => kernel_rfl) rfl rfl rfl hrj hlm | (apply call_gate 181; exact stp_callN hD (by as_aux_lemma => kernel_rfl) rfl rfl ⟨rfl, trivial⟩ ⟨⟨_, rfl, .inr rfl⟩, trivial⟩ rfl rfl rfl)); apply run_step rfl; (exact stp_assign rfl rfl); refine run_nil ?_; refine fin_seq ?_; refine goes_seq ?_; refine goes_region ?_; apply run_step rfl; (exact stp_assign rfl rfl); refine run_nil ?_; refine fin_seq ?_; refine goes_block ?_)
    refine goes_loop (fun k : Nat => St.of [(5, o1 (.sl 14 0 N)), (6, o1 (.sl 2300 0 (A.length + k))), (7, vv (I6 j)), (8, o1 (.sl 26 0 ds.length)), (9, vv (I6 k))] [(14, rwOw ps), (2300, leOw (sortL (A ++ ds.take k))), (26, leOw ds)]) (fun k => k ≤ ds.length) (fun k => ds.length - k) 0 (Nat.zero_le _) (Wk.of ⟨rfl, rfl, rfl, rfl, rfl, trivial⟩ ⟨rfl, congrArg (fun z => some (leOw (sortL z))) (by rw [List.take_zero, List.append_nil]), rfl, trivial⟩ trivial) ?_
    rintro k hk
    (refine goes_seq ?_; refine goes_seq ?_; refine goes_region ?_; apply run_step rfl; (exact stp_move rfl rfl); apply run_step rfl; (exact stp_move rfl rfl); apply run_step rfl; (exact stp_len rfl rfl rfl (by as_aux_lemma => kernel_rfl)); apply run_step rfl; (exact stp_bin rfl rfl rfl rfl); refine run_nil ?_; refine fin_seq ?_)
    refine goes_if rfl (fun hlt => ?_) (fun hlt => ?_)
    · have hkm : k < ds.length := by omega
      have hln : (sortL (A ++ ds.take k)).length = A.length + k := by rw [sortL_len, List.length_append, List.length_take]; omega
      have hol : A.length + k ≤ (ivals (sortL (A ++ ds.take k))).length := by rw [ivals_len, hln]; exact Nat.le_refl _
      have hdl : ds.length ≤ (ivals ds).length := by rw [ivals_len]; exact Nat.le_refl _
      have hg2 : (ivals ds)[k]? = some (I6 (iget ds k)) := ivals_get hkm
      (refine goes_skip ?_; refine fin_seq ?_; refine goes_seq ?_; refine goes_block ?_; refine goes_seq ?_; refine goes_region ?_; apply run_step rfl; (exact stp_assign rfl rfl); refine run_nil ?_; refine fin_seq ?_; refine goes_seq ?_; refine goes_block ?_)
      refine goes_loop (fun i : Nat => St.of [(5, o1 (.sl 14 0 N)), (6, o1 (.sl 2300 0 (A.length + k))), (7, vv (I6 j)), (8, o1 (.sl 26 0 ds.length)), (9, vv (I6 k)), (10, vv (I6 i))] [(14, rwOw ps), (2300, leOw (sortL (A ++ ds.take k))), (26, leOw ds)]) (fun i => i ≤ A.length + k ∧ ∀ x, x < i → iget (sortL (A ++ ds.take k)) x ≤ iget ds k) (fun i => A.length + k - i) 0 ⟨Nat.zero_le _, fun x hx => absurd hx (by omega)⟩ (Wk.of ⟨rfl, rfl, rfl, rfl, rfl, rfl, trivial⟩ ⟨rfl, rfl, rfl, trivial⟩ trivial) ?_
      rintro at_ ⟨hat, hall⟩
      have hstop : (at_ = A.length + k ∨ iget ds k < iget (sortL (A ++ ds.take k)) at_) → (sortL (A ++ ds.take k)).take at_ ++ ([iget ds k] ++ (sortL (A ++ ds.take k)).drop at_) = sortL (A ++ ds.take (k + 1)) := fun h => by
        rw [ins_ok (by rw [hln]; exact hat) hall (by rw [hln]; exact h), List.append_assoc, List.take_add_one, List.getElem?_eq_getElem hkm, iget_lt hkm]; rfl
      by_cases hatl : at_ < A.length + k
      · have hb1 : binI .i64 .lss (at_ : Int) ((A.length + k : Nat) : Int) = some (.bool true) := by simp [binI]; omega
        have hg1 : (ivals (sortL (A ++ ds.take k)))[at_]? = some (I6 (iget (sortL (A ++ ds.take k)) at_)) := ivals_get (by omega)
        by_cases hle : iget (sortL (A ++ ds.take k)) at_ ≤ iget ds k
        · have hb2 : binI .i64 .leq (iget (sortL (A ++ ds.take k)) at_) (iget ds k) = some (.bool true) := by simp [binI]; exact hle
          (refine goes_seq ?_; refine goes_seq ?_)
          apply goes_drawG 15 [] [[], [], [1], [0, 1, 2], [0, 1, 2, 3], [0, 1, 2, 3, 4], [0, 1, 2, 3, 4], [0, 1, 2, 3, 4, 5, 6], [0, 1, 2, 3, 4, 5, 6, 7], [0, 1, 2, 3, 4], [0, 1, 2, 3, 4], [0, 1, 2, 3, 4, 9, 10], [0, 1, 2, 3, 4, 9, 10, 11], [0, 1, 2, 3, 4, 5, 6, 7, 8, 9, 10, 11, 12], [0, 1, 2, 3, 4, 5, 6, 7, 8, 9, 10, 11, 12, 13]] [33, 34, 35, 36, 37, 38, 39, 40, 41, 42, 43, 44, 45, 46, 47] [] (by kernel_rfl) (by kernel_rfl)
          · (apply drawG_put rfl; (intro S1 hS; exact stp_move rfl (hS.op rfl)))
            (apply drawG_put rfl; (intro S1 hS; exact stp_move rfl (hS.op rfl)))
            (apply drawG_put rfl; (intro S1 hS; exact stp_len rfl (hS.op rfl) rfl (by as_aux_lemma => kernel_rfl)))
            (apply drawG_put rfl; (intro S1 hS; exact stp_bin rfl (hS.op rfl) (hS.op rfl) hb1))
            (apply drawG_put rfl; (intro S1 hS; exact stp_move rfl (hS.op rfl)))
            (apply drawG_yes rfl rfl rfl; (intro S1 hS; exact stp_move rfl (hS.op rfl)))
            (apply drawG_yes rfl rfl rfl; (intro S1 hS; exact stp_move rfl (hS.op rfl)))
            (apply drawG_yes rfl rfl rfl; (intro S1 hS; exact stp_ix (j := at_) rfl (hS.op rfl) (hS.op rfl) (hS.ch _ _ rfl) rfl (by as_aux_lemma => kernel_rfl) rfl hatl hol))
            (apply drawG_yes rfl rfl rfl; (intro S1 hS; exact stp_loadV rfl (by as_aux_lemma => kernel_rfl) (hS.op rfl) (hS.ch _ _ rfl) rfl hg1))
            (apply drawG_yes rfl rfl rfl; (intro S1 hS; exact stp_move rfl (hS.op rfl)))
            (apply drawG_yes rfl rfl rfl; (intro S1 hS; exact stp_move rfl (hS.op rfl)))
            (apply drawG_yes rfl rfl rfl; (intro S1 hS; exact stp_ix (j := k) rfl (hS.op rfl) (hS.op rfl) (hS.ch _ _ rfl) rfl (by as_aux_lemma => kernel_rfl) rfl hkm hdl))
            (apply drawG_yes rfl rfl rfl; (intro S1 hS; exact stp_loadV rfl (by as_aux_lemma => kernel_rfl) (hS.op rfl) (hS.ch _ _ rfl) rfl hg2))
            (apply drawG_yes rfl rfl rfl; (intro S1 hS; exact stp_bin rfl (hS.op rfl) (hS.op rfl) hb2))
            (apply drawG_put rfl; (intro S1 hS; exact stp_pickT rfl (hS.op rfl) (hS.op rfl)))
            exact DrawG.nil
          · rfl
          ((refine rest_done (by as_aux_lemma => kernel_rfl) ?_; skip))
          (refine fin_seq ?_)
          refine goes_cond rfl (fun _ => ?_) (fun e => by cases e)
          (refine goes_skip ?_; refine fin_seq ?_; refine goes_block ?_; refine goes_region ?_; apply run_step rfl; (exact stp_move rfl rfl); apply run_step rfl; (exact stp_add rfl rfl rfl (by first | exact IntWalk.i64_in _ (by omega) | rfl)); apply run_step rfl; (exact stp_assign rfl rfl); refine run_nil ?_; refine fin_block ?_)
          exact fin_round (at_ + 1) ⟨hatl, fun x hx => by
            rcases Nat.lt_succ_iff_lt_or_eq.1 hx with h | rfl
            · exact hall x h
            · exact hle⟩ (by omega) (Wk.of ⟨rfl, rfl, rfl, rfl, rfl, rfl, trivial⟩ ⟨rfl, rfl, rfl, trivial⟩ trivial)
        · have hb2 : binI .i64 .leq (iget (sortL (A ++ ds.take k)) at_) (iget ds k) = some (.bool false) := by simp [binI]; omega
          have hins := hstop (.inr (by omega))
          (refine goes_seq ?_; refine goes_seq ?_)
          apply goes_drawG 15 [] [[], [], [1], [0, 1, 2], [0, 1, 2, 3], [0, 1, 2, 3, 4], [0, 1, 2, 3, 4], [0, 1, 2, 3, 4, 5, 6], [0, 1, 2, 3, 4, 5, 6, 7], [0, 1, 2, 3, 4], [0, 1, 2, 3, 4], [0, 1, 2, 3, 4, 9, 10], [0, 1, 2, 3, 4, 9, 10, 11], [0, 1, 2, 3, 4, 5, 6, 7, 8, 9, 10, 11, 12], [0, 1, 2, 3, 4, 5, 6, 7, 8, 9, 10, 11, 12, 13]] [33, 34, 35, 36, 37, 38, 39, 40, 41, 42, 43, 44, 45, 46, 47] [] (by kernel_rfl) (by kernel_rfl)
          · (apply drawG_put rfl; (intro S1 hS; exact stp_move rfl (hS.op rfl)))
            (apply drawG_put rfl; (intro S1 hS; exact stp_move rfl (hS.op rfl)))
            (apply drawG_put rfl; (intro S1 hS; exact stp_len rfl (hS.op rfl) rfl (by as_aux_lemma => kernel_rfl)))
            (apply drawG_put rfl; (intro S1 hS; exact stp_bin rfl (hS.op rfl) (hS.op rfl) hb1))
            (apply drawG_put rfl; (intro S1 hS; exact stp_move rfl (hS.op rfl)))
            (apply drawG_yes rfl rfl rfl; (intro S1 hS; exact stp_move rfl (hS.op rfl)))
            (apply drawG_yes rfl rfl rfl; (intro S1 hS; exact stp_move rfl (hS.op rfl)))
            (apply drawG_yes rfl rfl rfl; (intro S1 hS; exact stp_ix (j := at_) rfl (hS.op rfl) (hS.op rfl) (hS.ch _ _ rfl) rfl (by as_aux_lemma => kernel_rfl) rfl hatl hol))
            (apply drawG_yes rfl rfl rfl; (intro S1 hS; exact stp_loadV rfl (by as_aux_lemma => kernel_rfl) (hS.op rfl) (hS.ch _ _ rfl) rfl hg1))
            (apply drawG_yes rfl rfl rfl; (intro S1 hS; exact stp_move rfl (hS.op rfl)))
            (apply drawG_yes rfl rfl rfl; (intro S1 hS; exact stp_move rfl (hS.op rfl)))
            (apply drawG_yes rfl rfl rfl; (intro S1 hS; exact stp_ix (j := k) rfl (hS.op rfl) (hS.op rfl) (hS.ch _ _ rfl) rfl (by as_aux_lemma => kernel_rfl) rfl hkm hdl))
            (apply drawG_yes rfl rfl rfl; (intro S1 hS; exact stp_loadV rfl (by as_aux_lemma => kernel_rfl) (hS.op rfl) (hS.ch _ _ rfl) rfl hg2))
            (apply drawG_yes rfl rfl rfl; (intro S1 hS; exact stp_bin rfl (hS.op rfl) (hS.op rfl) hb2))
            (apply drawG_put rfl; (intro S1 hS; exact stp_pickT rfl (hS.op rfl) (hS.op rfl)))
            exact DrawG.nil
          · rfl
          ((refine rest_done (by as_aux_lemma => kernel_rfl) ?_; skip))
          (refine fin_seq ?_)
          refine goes_cond rfl (fun e => by cases e) (fun _ => ?_)
          obtain ⟨m, hm⟩ : ∃ m, at_ + m = A.length + k := ⟨A.length + k - at_, by omega⟩
          have hm0 : 0 < m := by omega
          have hdm : at_ + m = (sortL (A ++ ds.take k)).length := by rw [hln]; exact hm
          have hat2 : at_ ≤ (sortL (A ++ ds.take k)).length := by omega
          refine goes_wk (S' := St.of [(5, o1 (.sl 14 0 N)), (6, o1 (.sl 2300 0 (A.length + k))), (7, vv (I6 j)), (8, o1 (.sl 26 0 ds.length)), (9, vv (I6 k)), (10, vv (I6 at_))] [(14, rwOw ps), (2300, leOw (sortL (A ++ ds.take k))), (26, leOw ds)]) (Wk.of ⟨rfl, rfl, rfl, rfl, rfl, rfl, trivial⟩ ⟨rfl, rfl, rfl, trivial⟩ trivial) ?_
          (refine goes_exit ?_; refine fin_exit_then ?_; refine fin_exit_then ?_; refine fin_exit_eq ?_; refine fin_seq ?_; refine goes_seq ?_)
          apply goes_draw 8 [] [[], [], [0, 1], [0, 1, 2], [0, 1, 2, 3], [], [], [5, 6], [0, 1, 2, 3, 4, 5, 6, 7], [0, 1, 2, 3, 4, 5, 6, 7, 8]] [50, 51, 52, 53, 54, 55, 56, 57] [54] (by kernel_rfl) (by kernel_rfl)
          · (apply draw_put rfl; (focus (intro S1 hS; exact stp_move rfl (hS.op rfl))))
            (apply draw_put rfl; (focus (intro S1 hS; exact stp_move rfl (hS.op rfl))))
            (apply draw_put rfl; (focus (intro S1 hS; exact stp_ix (j := k) rfl (hS.op rfl) (hS.op rfl) (hS.ch _ _ rfl) rfl (by as_aux_lemma => kernel_rfl) rfl hkm hdl)))
            (apply draw_put rfl; (focus (intro S1 hS; exact stp_loadV rfl (by as_aux_lemma => kernel_rfl) (hS.op rfl) (hS.ch _ _ rfl) rfl hg2)))
            (apply draw_new rfl; (focus (intro S1 hS; exact stp_lit1I (E := 2) rfl (by as_aux_lemma => kernel_rfl) (hS.op rfl))))
            (apply draw_put rfl; (focus (intro S1 hS; exact stp_move rfl (hS.op rfl))))
            (apply draw_put rfl; (focus (intro S1 hS; exact stp_move rfl (hS.op rfl))))
            (apply draw_put rfl; (focus (intro S1 hS; exact stp_sliceM (l := at_) (m := m) hm rfl (hS.op rfl) (hS.ch _ _ rfl) rfl (by as_aux_lemma => kernel_rfl) (bnd_some (hS.op rfl) rfl) bnd_none (Nat.le_refl _) hol)))
            exact Draw.nil
          · rfl
          refine rest_join (St.of [(5, o1 (.sl 14 0 N)), (6, o1 (.sl 2300 0 (A.length + k))), (7, vv (I6 j)), (8, o1 (.sl 26 0 ds.length)), (9, vv (I6 k)), (10, vv (I6 at_)), (11, o1 (.sl 54 0 (1 + m)))] [(14, rwOw ps), (2300, leOw (sortL (A ++ ds.take k))), (26, leOw ds), (54, leOw ([iget ds k] ++ (sortL (A ++ ds.take k)).drop at_))]) ?_ ?_
          · ((apply rest_one 8 rfl (by as_aux_lemma => kernel_rfl) rfl rfl; (exact stp_appL (E := 2) (zs := [iget ds k]) (m := m) rfl (by as_aux_lemma => kernel_rfl) rfl rfl rfl rfl rfl (reads_dropI rfl rfl rfl hdm) hm0 (by omega))); (apply rest_one 9 rfl (by as_aux_lemma => kernel_rfl) rfl rfl; (exact stp_assign rfl rfl)); (refine rest_done (by as_aux_lemma => kernel_rfl) ?_; exact fin_join (Wk.of ⟨rfl, rfl, rfl, rfl, rfl, rfl, rfl, trivial⟩ ⟨rfl, rfl, rfl, rfl, trivial⟩ trivial)))
          have hrl : (ivals ([iget ds k] ++ (sortL (A ++ ds.take k)).drop at_)).length = 1 + m := by rw [ivals_len, List.length_append, List.length_drop]; simp; omega
          rcases Nat.eq_zero_or_pos at_ with h0 | h0
          · have hs0 : ∀ {S : St} {o : Operand}, S.op o = some (vv (I6 at_)) → bnd S (some o) (A.length + k) 0 := fun h => bnd_some h (by omega)
            rw [h0] at hins
            (refine fin_seq ?_; refine goes_region ?_; apply run_step rfl; (exact stp_lit0 (E := 2) (k := 1) rfl (by as_aux_lemma => kernel_rfl)); apply run_step rfl; (exact stp_move rfl rfl); apply run_step rfl; (exact stp_move rfl rfl); apply run_step rfl; (first | exact stp_sliceM (l := 0) (h := 0) (m := 0) rfl rfl rfl rfl rfl (by as_aux_lemma => kernel_rfl) bnd_none (hs0 rfl) (Nat.zero_le _) hol | exact stp_app0 (zs := []) rfl (by as_aux_lemma => kernel_rfl) rfl rfl rfl rfl rfl | exact stp_appL (E := 2) (zs := []) (m := 1 + m) rfl (by as_aux_lemma => kernel_rfl) rfl rfl rfl rfl rfl (reads_all rfl rfl rfl hrl) (by omega) (by omega)); apply run_step rfl; (first | exact stp_sliceM (l := 0) (h := 0) (m := 0) rfl rfl rfl rfl rfl (by as_aux_lemma => kernel_rfl) bnd_none (hs0 rfl) (Nat.zero_le _) hol | exact stp_app0 (zs := []) rfl (by as_aux_lemma => kernel_rfl) rfl rfl rfl rfl rfl | exact stp_appL (E := 2) (zs := []) (m := 1 + m) rfl (by as_aux_lemma => kernel_rfl) rfl rfl rfl rfl rfl (reads_all rfl rfl rfl hrl) (by omega) (by omega)); apply run_step rfl; (exact stp_move rfl rfl); apply run_step rfl; (first | exact stp_sliceM (l := 0) (h := 0) (m := 0) rfl rfl rfl rfl rfl (by as_aux_lemma => kernel_rfl) bnd_none (hs0 rfl) (Nat.zero_le _) hol | exact stp_app0 (zs := []) rfl (by as_aux_lemma => kernel_rfl) rfl rfl rfl rfl rfl | exact stp_appL (E := 2) (zs := []) (m := 1 + m) rfl (by as_aux_lemma => kernel_rfl) rfl rfl rfl rfl rfl (reads_all rfl rfl rfl hrl) (by omega) (by omega)); apply run_step rfl; (exact stp_assign rfl rfl); refine run_nil ?_; refine fin_block ?_; refine fin_seq ?_; refine goes_region ?_; apply run_step rfl; (exact stp_move rfl rfl); apply run_step rfl; (exact stp_add rfl rfl rfl (by first | exact IntWalk.i64_in _ (by omega) | rfl)); apply run_step rfl; (exact stp_assign rfl rfl); refine run_nil ?_)
            exact fin_round (k + 1) (by omega) (by omega) (Wk.trans (wk_ren (x := 59) (y := 2300) (s := 6) rfl rfl) (Wk.of ⟨rfl, congrArg (fun z : Nat => some (o1 (.sl 2300 0 z))) (show 0 + (1 + m) = A.length + (k + 1) by omega), rfl, rfl, rfl, trivial⟩ ⟨rfl, congrArg (fun z => some (leOw z)) (show [] ++ ([iget ds k] ++ (sortL (A ++ ds.take k)).drop at_) = _ by rw [List.nil_append, ← hins, List.take_zero, List.nil_append, h0]), rfl, trivial⟩ trivial))
          · have hz : (0 : Nat) + at_ = at_ := Nat.zero_add _
            have htl : ([] ++ (sortL (A ++ ds.take k)).take at_).length = 0 + at_ := by rw [List.nil_append, List.length_take]; omega
            (refine fin_seq ?_; refine goes_region ?_; apply run_step rfl; (exact stp_lit0 (E := 2) (k := 1) rfl (by as_aux_lemma => kernel_rfl)); apply run_step rfl; (exact stp_move rfl rfl); apply run_step rfl; (exact stp_move rfl rfl); apply run_step rfl; (first | exact stp_sliceM (l := 0) (h := at_) (m := at_) hz rfl rfl rfl rfl (by as_aux_lemma => kernel_rfl) bnd_none (bnd_some rfl rfl) (by omega) hol | exact stp_appL (E := 2) (zs := []) (m := at_) rfl (by as_aux_lemma => kernel_rfl) rfl rfl rfl rfl rfl (reads_takeI rfl rfl rfl hat2) h0 (by omega) | exact stp_appL (E := 2) (zs := [] ++ (sortL (A ++ ds.take k)).take at_) (m := 1 + m) rfl (by as_aux_lemma => kernel_rfl) rfl rfl rfl htl rfl (reads_all rfl rfl rfl hrl) (by omega) (by omega)); apply run_step rfl; (first | exact stp_sliceM (l := 0) (h := at_) (m := at_) hz rfl rfl rfl rfl (by as_aux_lemma => kernel_rfl) bnd_none (bnd_some rfl rfl) (by omega) hol | exact stp_appL (E := 2) (zs := []) (m := at_) rfl (by as_aux_lemma => kernel_rfl) rfl rfl rfl rfl rfl (reads_takeI rfl rfl rfl hat2) h0 (by omega) | exact stp_appL (E := 2) (zs := [] ++ (sortL (A ++ ds.take k)).take at_) (m := 1 + m) rfl (by as_aux_lemma => kernel_rfl) rfl rfl rfl htl rfl (reads_all rfl rfl rfl hrl) (by omega) (by omega)); apply run_step rfl; (exact stp_move rfl rfl); apply run_step rfl; (first | exact stp_sliceM (l := 0) (h := at_) (m := at_) hz rfl rfl rfl rfl (by as_aux_lemma => kernel_rfl) bnd_none (bnd_some rfl rfl) (by omega) hol | exact stp_appL (E := 2) (zs := []) (m := at_) rfl (by as_aux_lemma => kernel_rfl) rfl rfl rfl rfl rfl (reads_takeI rfl rfl rfl hat2) h0 (by omega) | exact stp_appL (E := 2) (zs := [] ++ (sortL (A ++ ds.take k)).take at_) (m := 1 + m) rfl (by as_aux_lemma => kernel_rfl) rfl rfl rfl htl rfl (reads_all rfl rfl rfl hrl) (by omega) (by omega)); apply run_step rfl; (exact stp_assign rfl rfl); refine run_nil ?_; refine fin_block ?_; refine fin_seq ?_; refine goes_region ?_; apply run_step rfl; (exact stp_move rfl rfl); apply run_step rfl; (exact stp_add rfl rfl rfl (by first | exact IntWalk.i64_in _ (by omega) | rfl)); apply run_step rfl; (exact stp_assign rfl rfl); refine run_nil ?_)
            exact fin_round (k + 1) (by omega) (by omega) (Wk.trans (wk_ren (x := 59) (y := 2300) (s := 6) rfl rfl) (Wk.of ⟨rfl, congrArg (fun z : Nat => some (o1 (.sl 2300 0 z))) (show 0 + at_ + (1 + m) = A.length + (k + 1) by omega), rfl, rfl, rfl, trivial⟩ ⟨rfl, congrArg (fun z => some (leOw z)) (show [] ++ (sortL (A ++ ds.take k)).take at_ ++ ([iget ds k] ++ (sortL (A ++ ds.take k)).drop at_) = _ by rw [List.nil_append]; exact hins), rfl, trivial⟩ trivial))
      · obtain rfl : at_ = A.length + k := by omega
        have hb1 : binI .i64 .lss ((A.length + k : Nat) : Int) ((A.length + k : Nat) : Int) = some (.bool false) := by simp [binI]
        have hins := hstop (.inl rfl)
        (refine goes_seq ?_; refine goes_seq ?_)
        apply goes_drawG 15 [] [[], [], [1], [0, 1, 2], [0, 1, 2, 3], [0, 1, 2, 3, 4], [0, 1, 2, 3, 4], [0, 1, 2, 3, 4, 5, 6], [0, 1, 2, 3, 4, 5, 6, 7], [0, 1, 2, 3, 4], [0, 1, 2, 3, 4], [0, 1, 2, 3, 4, 9, 10], [0, 1, 2, 3, 4, 9, 10, 11], [0, 1, 2, 3, 4, 5, 6, 7, 8, 9, 10, 11, 12], [0, 1, 2, 3, 4, 5, 6, 7, 8, 9, 10, 11, 12, 13]] [33, 34, 35, 36, 37, 38, 39, 40, 41, 42, 43, 44, 45, 46, 47] [] (by kernel_rfl) (by kernel_rfl)
        · (apply drawG_put rfl; (intro S1 hS; exact stp_move rfl (hS.op rfl)))
          (apply drawG_put rfl; (intro S1 hS; exact stp_move rfl (hS.op rfl)))
          (apply drawG_put rfl; (intro S1 hS; exact stp_len rfl (hS.op rfl) rfl (by as_aux_lemma => kernel_rfl)))
          (apply drawG_put rfl; (intro S1 hS; exact stp_bin rfl (hS.op rfl) (hS.op rfl) hb1))
          (apply drawG_put rfl; (intro S1 hS; exact stp_move rfl (hS.op rfl)))
          apply drawG_no rfl rfl rfl rfl rfl
          apply drawG_no rfl rfl rfl rfl rfl
          apply drawG_no rfl rfl rfl rfl rfl
          apply drawG_no rfl rfl rfl rfl rfl
          apply drawG_no rfl rfl rfl rfl rfl
          apply drawG_no rfl rfl rfl rfl rfl
          apply drawG_no rfl rfl rfl rfl rfl
          apply drawG_no rfl rfl rfl rfl rfl
          apply drawG_no rfl rfl rfl rfl rfl
          (apply drawG_put rfl; (intro S1 hS; exact stp_pickF rfl (hS.op rfl) (hS.op rfl)))
          exact DrawG.nil
        · rfl
        ((refine rest_done (by as_aux_lemma => kernel_rfl) ?_; skip))
        (refine fin_seq ?_)
        refine goes_cond rfl (fun e => by cases e) (fun _ => ?_)
        have hm : (A.length + k) + 0 = A.length + k := rfl
        have hdm : (A.length + k) + 0 = (sortL (A ++ ds.take k)).length := by rw [hln]; exact hm
        have hat2 : (A.length + k) ≤ (sortL (A ++ ds.take k)).length := by omega
        refine goes_wk (S' := St.of [(5, o1 (.sl 14 0 N)), (6, o1 (.sl 2300 0 (A.length + k))), (7, vv (I6 j)), (8, o1 (.sl 26 0 ds.length)), (9, vv (I6 k)), (10, vv (I6 (A.length + k)))] [(14, rwOw ps), (2300, leOw (sortL (A ++ ds.take k))), (26, leOw ds)]) (Wk.of ⟨rfl, rfl, rfl, rfl, rfl, rfl, trivial⟩ ⟨rfl, rfl, rfl, trivial⟩ trivial) ?_
        (refine goes_exit ?_; refine fin_exit_then ?_; refine fin_exit_then ?_; refine fin_exit_eq ?_; refine fin_seq ?_; refine goes_seq ?_)
        apply goes_draw 8 [] [[], [], [0, 1], [0, 1, 2], [0, 1, 2, 3], [], [], [5, 6], [0, 1, 2, 3, 4, 5, 6, 7], [0, 1, 2, 3, 4, 5, 6, 7, 8]] [50, 51, 52, 53, 54, 55, 56, 57] [54] (by kernel_rfl) (by kernel_rfl)
        · (apply draw_put rfl; (focus (intro S1 hS; exact stp_move rfl (hS.op rfl))))
          (apply draw_put rfl; (focus (intro S1 hS; exact stp_move rfl (hS.op rfl))))
          (apply draw_put rfl; (focus (intro S1 hS; exact stp_ix (j := k) rfl (hS.op rfl) (hS.op rfl) (hS.ch _ _ rfl) rfl (by as_aux_lemma => kernel_rfl) rfl hkm hdl)))
          (apply draw_put rfl; (focus (intro S1 hS; exact stp_loadV rfl (by as_aux_lemma => kernel_rfl) (hS.op rfl) (hS.ch _ _ rfl) rfl hg2)))
          (apply draw_new rfl; (focus (intro S1 hS; exact stp_lit1I (E := 2) rfl (by as_aux_lemma => kernel_rfl) (hS.op rfl))))
          (apply draw_put rfl; (focus (intro S1 hS; exact stp_move rfl (hS.op rfl))))
          (apply draw_put rfl; (focus (intro S1 hS; exact stp_move rfl (hS.op rfl))))
          (apply draw_put rfl; (focus (intro S1 hS; exact stp_sliceM (l := (A.length + k)) (m := 0) hm rfl (hS.op rfl) (hS.ch _ _ rfl) rfl (by as_aux_lemma => kernel_rfl) (bnd_some (hS.op rfl) rfl) bnd_none (Nat.le_refl _) hol)))
          exact Draw.nil
        · rfl
        refine rest_join (St.of [(5, o1 (.sl 14 0 N)), (6, o1 (.sl 2300 0 (A.length + k))), (7, vv (I6 j)), (8, o1 (.sl 26 0 ds.length)), (9, vv (I6 k)), (10, vv (I6 (A.length + k))), (11, o1 (.sl 54 0 (1 + 0)))] [(14, rwOw ps), (2300, leOw (sortL (A ++ ds.take k))), (26, leOw ds), (54, leOw ([iget ds k] ++ (sortL (A ++ ds.take k)).drop (A.length + k)))]) ?_ ?_
        · ((apply rest_one 8 rfl (by as_aux_lemma => kernel_rfl) rfl rfl; (exact stp_app0 (zs := [iget ds k]) rfl (by as_aux_lemma => kernel_rfl) rfl rfl rfl rfl rfl)); (apply rest_one 9 rfl (by as_aux_lemma => kernel_rfl) rfl rfl; (exact stp_assign rfl rfl)); (refine rest_done (by as_aux_lemma => kernel_rfl) ?_; exact fin_join (Wk.of ⟨rfl, rfl, rfl, rfl, rfl, rfl, rfl, trivial⟩ ⟨rfl, rfl, rfl, congrArg (fun z => some (leOw ([iget ds k] ++ z))) (List.drop_of_length_le (Nat.le_of_eq hln)).symm, trivial⟩ trivial)))
        have hrl : (ivals ([iget ds k] ++ (sortL (A ++ ds.take k)).drop (A.length + k))).length = 1 + 0 := by rw [ivals_len, List.length_append, List.length_drop]; simp; omega
        rcases Nat.eq_zero_or_pos (A.length + k) with h0 | h0
        · have hs0 : ∀ {S : St} {o : Operand}, S.op o = some (vv (I6 (A.length + k))) → bnd S (some o) (A.length + k) 0 := fun h => bnd_some h (by omega)
          rw [h0] at hins
          (refine fin_seq ?_; refine goes_region ?_; apply run_step rfl; (exact stp_lit0 (E := 2) (k := 1) rfl (by as_aux_lemma => kernel_rfl)); apply run_step rfl; (exact stp_move rfl rfl); apply run_step rfl; (exact stp_move rfl rfl); apply run_step rfl; (first | exact stp_sliceM (l := 0) (h := 0) (m := 0) rfl rfl rfl rfl rfl (by as_aux_lemma => kernel_rfl) bnd_none (hs0 rfl) (Nat.zero_le _) hol | exact stp_app0 (zs := []) rfl (by as_aux_lemma => kernel_rfl) rfl rfl rfl rfl rfl | exact stp_appL (E := 2) (zs := []) (m := 1 + 0) rfl (by as_aux_lemma => kernel_rfl) rfl rfl rfl rfl rfl (reads_all rfl rfl rfl hrl) (by omega) (by omega)); apply run_step rfl; (first | exact stp_sliceM (l := 0) (h := 0) (m := 0) rfl rfl rfl rfl rfl (by as_aux_lemma => kernel_rfl) bnd_none (hs0 rfl) (Nat.zero_le _) hol | exact stp_app0 (zs := []) rfl (by as_aux_lemma => kernel_rfl) rfl rfl rfl rfl rfl | exact stp_appL (E := 2) (zs := []) (m := 1 + 0) rfl (by as_aux_lemma => kernel_rfl) rfl rfl rfl rfl rfl (reads_all rfl rfl rfl hrl) (by omega) (by omega)); apply run_step rfl; (exact stp_move rfl rfl); apply run_step rfl; (first | exact stp_sliceM (l := 0) (h := 0) (m := 0) rfl rfl rfl rfl rfl (by as_aux_lemma => kernel_rfl) bnd_none (hs0 rfl) (Nat.zero_le _) hol | exact stp_app0 (zs := []) rfl (by as_aux_lemma => kernel_rfl) rfl rfl rfl rfl rfl | exact stp_appL (E := 2) (zs := []) (m := 1 + 0) rfl (by as_aux_lemma => kernel_rfl) rfl rfl rfl rfl rfl (reads_all rfl rfl rfl hrl) (by omega) (by omega)); apply run_step rfl; (exact stp_assign rfl rfl); refine run_nil ?_; refine fin_block ?_; refine fin_seq ?_; refine goes_region ?_; apply run_step rfl; (exact stp_move rfl rfl); apply run_step rfl; (exact stp_add rfl rfl rfl (by first | exact IntWalk.i64_in _ (by omega) | rfl)); apply run_step rfl; (exact stp_assign rfl rfl); refine run_nil ?_)
          exact fin_round (k + 1) (by omega) (by omega) (Wk.trans (wk_ren (x := 59) (y := 2300) (s := 6) rfl rfl) (Wk.of ⟨rfl, congrArg (fun z : Nat => some (o1 (.sl 2300 0 z))) (show 0 + (1 + 0) = A.length + (k + 1) by omega), rfl, rfl, rfl, trivial⟩ ⟨rfl, congrArg (fun z => some (leOw z)) (show [] ++ ([iget ds k] ++ (sortL (A ++ ds.take k)).drop (A.length + k)) = _ by rw [List.nil_append, ← hins, List.take_zero, List.nil_append, h0]), rfl, trivial⟩ trivial))
        · have hz : (0 : Nat) + (A.length + k) = (A.length + k) := Nat.zero_add _
          have htl : ([] ++ (sortL (A ++ ds.take k)).take (A.length + k)).length = 0 + (A.length + k) := by rw [List.nil_append, List.length_take]; omega
          (refine fin_seq ?_; refine goes_region ?_; apply run_step rfl; (exact stp_lit0 (E := 2) (k := 1) rfl (by as_aux_lemma => kernel_rfl)); apply run_step rfl; (exact stp_move rfl rfl); apply run_step rfl; (exact stp_move rfl rfl); apply run_step rfl; (first | exact stp_sliceM (l := 0) (h := (A.length + k)) (m := (A.length + k)) hz rfl rfl rfl rfl (by as_aux_lemma => kernel_rfl) bnd_none (bnd_some rfl rfl) (by omega) hol | exact stp_appL (E := 2) (zs := []) (m := (A.length + k)) rfl (by as_aux_lemma => kernel_rfl) rfl rfl rfl rfl rfl (reads_takeI rfl rfl rfl hat2) h0 (by omega) | exact stp_appL (E := 2) (zs := [] ++ (sortL (A ++ ds.take k)).take (A.length + k)) (m := 1 + 0) rfl (by as_aux_lemma => kernel_rfl) rfl rfl rfl htl rfl (reads_all rfl rfl rfl hrl) (by omega) (by omega)); apply run_step rfl; (first | exact stp_sliceM (l := 0) (h := (A.length + k)) (m := (A.length + k)) hz rfl rfl rfl rfl (by as_aux_lemma => kernel_rfl) bnd_none (bnd_some rfl rfl) (by omega) hol | exact stp_appL (E := 2) (zs := []) (m := (A.length + k)) rfl (by as_aux_lemma => kernel_rfl) rfl rfl rfl rfl rfl (reads_takeI rfl rfl rfl hat2) h0 (by omega) | exact stp_appL (E := 2) (zs := [] ++ (sortL (A ++ ds.take k)).take (A.length + k)) (m := 1 + 0) rfl (by as_aux_lemma => kernel_rfl) rfl rfl rfl htl rfl (reads_all rfl rfl rfl hrl) (by omega) (by omega)); apply run_step rfl; (exact stp_move rfl rfl); apply run_step rfl; (first | exact stp_sliceM (l := 0) (h := (A.length + k)) (m := (A.length + k)) hz rfl rfl rfl rfl (by as_aux_lemma => kernel_rfl) bnd_none (bnd_some rfl rfl) (by omega) hol | exact stp_appL (E := 2) (zs := []) (m := (A.length + k)) rfl (by as_aux_lemma => kernel_rfl) rfl rfl rfl rfl rfl (reads_takeI rfl rfl rfl hat2) h0 (by omega) | exact stp_appL (E := 2) (zs := [] ++ (sortL (A ++ ds.take k)).take (A.length + k)) (m := 1 + 0) rfl (by as_aux_lemma => kernel_rfl) rfl rfl rfl htl rfl (reads_all rfl rfl rfl hrl) (by omega) (by omega)); apply run_step rfl; (exact stp_assign rfl rfl); refine run_nil ?_; refine fin_block ?_; refine fin_seq ?_; refine goes_region ?_; apply run_step rfl; (exact stp_move rfl rfl); apply run_step rfl; (exact stp_add rfl rfl rfl (by first | exact IntWalk.i64_in _ (by omega) | rfl)); apply run_step rfl; (exact stp_assign rfl rfl); refine run_nil ?_)
          exact fin_round (k + 1) (by omega) (by omega) (Wk.trans (wk_ren (x := 59) (y := 2300) (s := 6) rfl rfl) (Wk.of ⟨rfl, congrArg (fun z : Nat => some (o1 (.sl 2300 0 z))) (show 0 + (A.length + k) + (1 + 0) = A.length + (k + 1) by omega), rfl, rfl, rfl, trivial⟩ ⟨rfl, congrArg (fun z => some (leOw z)) (show [] ++ (sortL (A ++ ds.take k)).take (A.length + k) ++ ([iget ds k] ++ (sortL (A ++ ds.take k)).drop (A.length + k)) = _ by rw [List.nil_append]; exact hins), rfl, trivial⟩ trivial))
    · obtain rfl : k = ds.length := by omega
      (refine goes_exit ?_; refine fin_exit_then ?_; refine fin_exit_then ?_; refine fin_exit_eq ?_; refine fin_block ?_; refine fin_seq ?_; refine goes_region ?_; apply run_step rfl; (exact stp_move rfl rfl); apply run_step rfl; (exact stp_add rfl rfl rfl (by first | exact IntWalk.i64_in _ (by omega) | rfl)); apply run_step rfl; (exact stp_assign rfl rfl); refine run_nil ?_)
      exact fin_round (j + 1) (by omega) (by omega) (Wk.of ⟨rfl, congrArg (fun z : Nat => some (o1 (.sl 2300 0 z))) (by rw [hcat, List.length_append]), rfl, trivial⟩ ⟨rfl, congrArg (fun z => some (leOw (sortL z))) (by rw [hcat, List.take_length]), trivial⟩ trivial)
  · obtain rfl : j = N := by omega
    (refine goes_exit ?_; refine fin_exit_then ?_; refine fin_exit_then ?_; refine fin_exit_eq ?_; refine fin_seq ?_; refine goes_seq ?_; refine goes_region ?_; apply run_step rfl; (exact stp_move rfl rfl); apply run_step rfl; (exact stp_assign rfl rfl); refine run_nil ?_; refine fin_seq ?_; refine goes_ret ?_)
    exact fin_ret1 (.inl rfl) rfl (.tmp rfl) ⟨rfl, trivial⟩ trivial
end Go.Proofs.Ytnfkhgamnapgmaa

/- From contracts in names to contracts in words: the doors of the functions that the laws call. -/
namespace Go.Proofs.Ytnfkhgamnapgmaa
open Go.RowKit

theorem den_tup2 {η : Env} {a b : A2} {v : Value} (h : Den η (.tup [a, b]) v) : ∃ u u', v = .tuple #[u, u'] ∧ Den2 η a u ∧ Den2 η b u' := by
  obtain ⟨us, rfl, hl, ha⟩ := h
  obtain ⟨u0, g0, d0⟩ := ha 0 _ rfl
  obtain ⟨u1, g1, d1⟩ := ha 1 _ rfl
  refine ⟨u0, u1, ?_, d0, d1⟩
  match us, hl with
  | ⟨[p, q]⟩, _ => simp at g0 g1; rw [g0, g1]
theorem two_vals {P : Program} {f : FuncId} {args : Array Value} {w : World} {a b : Value} {outs : List (Nm × Ch)} (h : Calls P f args w fun e w' => ∃ v η ω, e = .returned v ∧ Den η (.tup [.one (.val a), .one (.val b)]) v ∧ Mem η ω w' (fun x => lk x outs) ∧ Below w.heap.size w w' ∧ ∀ b, b < w.heap.size → ω b = none) :
    Calls P f args w fun e w' => e = .returned (.tuple #[a, b]) ∧ Below w.heap.size w w' := by
  refine h.mono ?_
  rintro e w' ⟨v, η, ω, rfl, hd, _, hb, _⟩
  obtain ⟨u, u', rfl, h1, h2⟩ := den_tup2 hd
  have h1 : u = a := h1
  have h2 : u' = b := h2
  subst h1 h2
  exact ⟨rfl, hb⟩

/-- a list, and a list and a number -/
theorem fitS {E : Nat} {w : World} {v : Value} {zs : List Int} (h : OwS E w v zs) : zs.length ≤ 4398046511104 := by
  obtain ⟨ao, n, c, rfl, ho⟩ := h
  have := ho.len; have := ho.2
  simp at *; omega
end Go.Proofs.Ytnfkhgamnapgmaa

/- OrderOfNodes. guards: -/
namespace Go.Proofs.Ytnfkhgamnapgmaa
open Go.RowKit

def prodTo (A : List Int) (k : Nat) : Int := (A.take k).foldl (· * ·) 1
theorem prodTo_succ {A : List Int} {k : Nat} (h : k < A.length) : prodTo A (k + 1) = prodTo A k * iget A k := by
  unfold prodTo
  rw [List.take_add_one, List.getElem?_eq_getElem h, List.foldl_append, iget_lt h]; rfl
theorem prodTo_in {A : List Int} (hA : ∀ z ∈ A, 2 ≤ z ∧ z ≤ 32) : ∀ k, k ≤ A.length → 1 ≤ prodTo A k ∧ prodTo A k ≤ ((32 ^ k : Nat) : Int)
  | 0, _ => by simp [prodTo]
  | k + 1, h => by
    have ih := prodTo_in hA k (by omega)
    have hz := hA _ (iget_mem (zs := A) (k := k) (by omega))
    rw [prodTo_succ (by omega), Nat.pow_succ, Int.natCast_mul]
    refine ⟨?_, Int.mul_le_mul ih.2 (by omega) (by omega) (Int.natCast_nonneg _)⟩
    have := Int.mul_le_mul ih.1 (show (1 : Int) ≤ iget A k by omega) (by omega) (by omega)
    omega
theorem prodTo_lt {A : List Int} (hA : ∀ z ∈ A, 2 ≤ z ∧ z ≤ 32) (h5 : A.length ≤ 5) {k : Nat} (h : k ≤ A.length) : 1 ≤ prodTo A k ∧ prodTo A k ≤ 33554432 := by
  have h1 := prodTo_in hA k h
  have h2 : 32 ^ k ≤ 32 ^ 5 := Nat.pow_le_pow_right (by decide) (by omega)
  have h3 : (32 : Nat) ^ 5 = 33554432 := by decide
  omega
theorem catD_in {ps : Cmps} (hL : ∀ k, k < ps.length → Labs (cget ps k).2) : ∀ j, j ≤ ps.length → ∀ z ∈ catD ps j, 2 ≤ z ∧ z ≤ 32
  | 0, _ => by intro z hz; simp [catD] at hz
  | j + 1, h => by
    intro z hz
    rw [catD_succ (by omega)] at hz
    rcases List.mem_append.1 hz with hz | hz
    · exact catD_in hL j (by omega) z hz
    · exact degs_in (hL j (by omega)) z hz
theorem allD_in {zs : List Int} {mask : Nat} (hd : isDiag zs = true) : ∀ z ∈ allD zs mask, 2 ≤ z ∧ z ≤ 32 := fun z hz =>
  catD_in (fun k hk => labs_of hd hk) _ (Nat.le_refl _) z ((List.mergeSort_perm _ _).mem_iff.1 hz)
theorem allD_len (zs : List Int) (mask : Nat) : (allD zs mask).length = (catD (comps zs mask) (comps zs mask).length).length := sortL_len _
theorem allD_le {zs : List Int} {mask : Nat} (hd : isDiag zs = true) : (allD zs mask).length ≤ 5 := by
  have h4 := isDiag_len hd
  have h1 := catD_len (fun k hk => labs_of hd (mask := mask) hk) _ (Nat.le_refl _)
  have h2 := csum_take (comps zs mask) (comps zs mask).length
  have h3 := (comps_ok zs mask).sum
  rw [allD_len]; omega
/-- the order of a finite set of nodes -/
def ordL (zs : List Int) (mask : Nat) : Int := prodTo (allD zs mask) (allD zs mask).length
set_option maxRecDepth 100000 in
theorem ordS_fc (zs : List Int) (L mask : Nat) (hL : zs.length = L) (hd : isDiag zs = true) (hmk : mask < 1000) (hf : finB zs mask = true) :
    FC Try.prog 90 [(1003, wRo zs)] [o1 (.sl 1003 0 L), vv (I6 mask)] [] (vv (I6 (ordL zs mask))) [] := by
  have hA := (allS_fc zs L mask hL hd hmk hf).nm [(1003, 1003), (2300, 10)] (by kernel_rfl)
  rw [← allD_len] at hA
  have hA : FC Try.prog 142 [(1003, wRo zs)] [o1 (.sl 1003 0 L), vv (I6 mask)] [(10, leOw (allD zs mask))] (o1 (.sl 10 0 (allD zs mask).length)) [] := hA
  have hin := allD_in (mask := mask) hd
  have hle := allD_le (mask := mask) hd
  unfold ordL
  refine fc_enter (nt := 24) Try.func90 rfl rfl (by simp) fun w0 ω0 => ?_
  generalize allD zs mask = B at *
  have hil : B.length ≤ (ivals B).length := by rw [ivals_len]; exact Nat.le_refl _
  (refine goes_seq ?_; refine goes_region ?_; apply run_step rfl; (exact stp_assign rfl rfl); refine run_nil ?_; refine fin_seq ?_; refine goes_seq ?_; refine goes_region ?_; apply run_step rfl; (exact stp_move rfl rfl); apply run_step rfl; (exact stp_move rfl rfl); apply run_step rfl; (apply call_gate 142; exact stp_callN hA (by as_aux_lemma => kernel_rfl) rfl rfl ⟨rfl, rfl, trivial⟩ ⟨⟨_, rfl, .inl rfl⟩, trivial⟩ rfl rfl rfl); apply run_step rfl; (exact stp_assign rfl rfl); apply run_step rfl; (exact stp_assign rfl rfl); refine run_nil ?_; refine fin_seq ?_; refine goes_seq ?_; refine goes_seq ?_; refine goes_region ?_; apply run_step rfl; (exact stp_assign rfl rfl); refine run_nil ?_; refine fin_seq ?_; refine goes_block ?_)
  refine goes_loop (fun k : Nat => St.of [(5, o1 (.sl 10 0 B.length)), (6, vv (I6 (prodTo B k))), (7, vv (I6 k))] [(10, leOw B)]) (fun k => k ≤ B.length) (fun k => B.length - k) 0 (Nat.zero_le _) (Wk.of ⟨rfl, rfl, rfl, trivial⟩ ⟨rfl, trivial⟩ trivial) ?_
  rintro k hk
  (refine goes_seq ?_; refine goes_seq ?_; refine goes_region ?_; apply run_step rfl; (exact stp_move rfl rfl); apply run_step rfl; (exact stp_move rfl rfl); apply run_step rfl; (exact stp_len rfl rfl rfl (by as_aux_lemma => kernel_rfl)); apply run_step rfl; (exact stp_bin rfl rfl rfl rfl); refine run_nil ?_; refine fin_seq ?_)
  refine goes_if rfl (fun hlt => ?_) (fun hlt => ?_)
  · have hkm : k < B.length := by omega
    have hp := prodTo_lt hin hle (k := k + 1) hkm
    have hg : (ivals B)[k]? = some (I6 (iget B k)) := ivals_get hkm
    have hw : IntKind.i64.wrap (prodTo B k * iget B k) = prodTo B (k + 1) := by rw [← prodTo_succ hkm]; exact IntWalk.i64_in _ (by omega)
    (refine goes_skip ?_; refine fin_seq ?_; refine goes_seq ?_; refine goes_block ?_; refine goes_region ?_; apply run_step rfl; (exact stp_move rfl rfl); apply run_step rfl; (exact stp_move rfl rfl); apply run_step rfl; (exact stp_move rfl rfl); apply run_step rfl; (first | exact stp_ix (j := k) rfl rfl rfl rfl rfl (by as_aux_lemma => kernel_rfl) rfl hkm hil | exact stp_mul rfl rfl rfl hw); apply run_step rfl; (exact stp_loadV rfl (by as_aux_lemma => kernel_rfl) rfl rfl rfl (by first | assumption | exact ivals_get (by assumption) | exact irows_get (by assumption) | exact ivals_get (by omega) | exact irows_get (by omega) | rfl)); apply run_step rfl; (first | exact stp_ix (j := k) rfl rfl rfl rfl rfl (by as_aux_lemma => kernel_rfl) rfl hkm hil | exact stp_mul rfl rfl rfl hw); apply run_step rfl; (exact stp_assign rfl rfl); refine run_nil ?_; refine fin_block ?_; refine fin_seq ?_; refine goes_region ?_; apply run_step rfl; (exact stp_move rfl rfl); apply run_step rfl; (exact stp_add rfl rfl rfl (by first | exact IntWalk.i64_in _ (by omega) | rfl)); apply run_step rfl; (exact stp_assign rfl rfl); refine run_nil ?_)
    exact fin_round (k + 1) (by omega) (by omega) (Wk.of ⟨rfl, rfl, rfl, trivial⟩ ⟨rfl, trivial⟩ trivial)
  · obtain rfl : k = B.length := by omega
    (refine goes_exit ?_; refine fin_exit_then ?_; refine fin_exit_then ?_; refine fin_exit_eq ?_; refine fin_seq ?_; refine goes_seq ?_; refine goes_region ?_; apply run_step rfl; (exact stp_move rfl rfl); apply run_step rfl; (exact stp_assign rfl rfl); refine run_nil ?_; refine fin_seq ?_; refine goes_ret ?_)
    exact fin_ret1 (.inl rfl) rfl (.tmp rfl) trivial trivial
set_option maxRecDepth 100000 in
theorem ordYes_fc (zs : List Int) (L mask : Nat) (hL : zs.length = L) (hd : isDiag zs = true) (hmk : mask < 1000) (hf : finB zs mask = true) :
    FC Try.prog 140 [(1003, wRo zs)] [o1 (.sl 1003 0 L), vv (I6 mask)] [] (.tup [.one (.val (I6 (ordL zs mask))), .one (.val (.bool true))]) [] := by
  have hA := (allYes_fc zs L mask hL hd hmk hf).nm [(1003, 1003), (2200, 15)] (by kernel_rfl)
  unfold aRes at hA
  rw [← allD_len] at hA
  have hA : FC Try.prog 179 [(1003, wRo zs)] [o1 (.sl 1003 0 L), vv (I6 mask)] [(15, leOw (allD zs mask))] (.tup [.one (.sl 15 0 (allD zs mask).length), .one (.val (I6 (mulA zs mask : Nat))), .one (.val (.bool true))]) [] := hA
  have hin := allD_in (mask := mask) hd
  have hle := allD_le (mask := mask) hd
  unfold ordL
  refine fc_enter (nt := 31) Try.func140 rfl rfl (by simp) fun w0 ω0 => ?_
  generalize allD zs mask = B at *
  have hil : B.length ≤ (ivals B).length := by rw [ivals_len]; exact Nat.le_refl _
  (refine goes_seq ?_; refine goes_region ?_; apply run_step rfl; (exact stp_assign rfl rfl); apply run_step rfl; (exact stp_assign rfl rfl); refine run_nil ?_; refine fin_seq ?_; refine goes_seq ?_; refine goes_region ?_; apply run_step rfl; (exact stp_move rfl rfl); apply run_step rfl; (exact stp_move rfl rfl); apply run_step rfl; (apply call_gate 179; exact stp_callN hA (by as_aux_lemma => kernel_rfl) rfl rfl ⟨rfl, rfl, trivial⟩ ⟨⟨_, rfl, .inl rfl⟩, trivial⟩ rfl rfl rfl); apply run_step rfl; (exact stp_move rfl rfl); apply run_step rfl; (exact stp_extract rfl rfl rfl); apply run_step rfl; (exact stp_extract rfl rfl rfl); apply run_step rfl; (exact stp_extract rfl rfl rfl); apply run_step rfl; (exact stp_assign rfl rfl); apply run_step rfl; (exact stp_assign rfl rfl); apply run_step rfl; (exact stp_assign rfl rfl); refine run_nil ?_; refine fin_seq ?_; refine goes_seq ?_; refine goes_region ?_; apply run_step rfl; (exact stp_assign rfl rfl); refine run_nil ?_; refine fin_seq ?_; refine goes_seq ?_; refine goes_seq ?_; refine goes_region ?_; apply run_step rfl; (exact stp_move rfl rfl); apply run_step rfl; (exact stp_len rfl rfl rfl (by as_aux_lemma => kernel_rfl)); apply run_step rfl; (exact stp_move rfl rfl); refine run_nil ?_; refine fin_seq ?_; refine goes_block ?_)
  refine goes_loop (fun k : Nat => St.of [(8, vv (.bool true)), (9, vv (I6 (prodTo B k))), (19, o1 (.sl 15 0 B.length)), (20, vv (I6 B.length)), (21, vv (I6 k))] [(15, leOw B)]) (fun k => k ≤ B.length) (fun k => B.length - k) 0 (Nat.zero_le _) (Wk.of ⟨rfl, rfl, rfl, rfl, rfl, trivial⟩ ⟨rfl, trivial⟩ trivial) ?_
  rintro k hk
  (refine goes_seq ?_; refine goes_region ?_; apply run_step rfl; (exact stp_bin rfl rfl rfl rfl); refine run_nil ?_; refine fin_seq ?_; refine goes_seq ?_)
  refine goes_if rfl (fun hlt => ?_) (fun hlt => ?_)
  · have hkm : k < B.length := by omega
    have hp := prodTo_lt hin hle (k := k + 1) hkm
    have hg : (ivals B)[k]? = some (I6 (iget B k)) := ivals_get hkm
    have hw : IntKind.i64.wrap (prodTo B k * iget B k) = prodTo B (k + 1) := by rw [← prodTo_succ hkm]; exact IntWalk.i64_in _ (by omega)
    (refine goes_skip ?_; refine fin_seq ?_; refine goes_seq ?_; refine goes_block ?_; refine goes_seq ?_; refine goes_region ?_; apply run_step rfl; (first | exact stp_ix (j := k) rfl rfl rfl rfl rfl (by as_aux_lemma => kernel_rfl) rfl hkm hil | exact stp_mul rfl rfl rfl hw); apply run_step rfl; (exact stp_loadV rfl (by as_aux_lemma => kernel_rfl) rfl rfl rfl (by first | assumption | exact ivals_get (by assumption) | exact irows_get (by assumption) | exact ivals_get (by omega) | exact irows_get (by omega) | rfl)); apply run_step rfl; (exact stp_assign rfl rfl); refine run_nil ?_; refine fin_seq ?_; refine goes_region ?_; apply run_step rfl; (exact stp_move rfl rfl); apply run_step rfl; (exact stp_move rfl rfl); apply run_step rfl; (first | exact stp_ix (j := k) rfl rfl rfl rfl rfl (by as_aux_lemma => kernel_rfl) rfl hkm hil | exact stp_mul rfl rfl rfl hw); apply run_step rfl; (exact stp_assign rfl rfl); refine run_nil ?_; refine fin_block ?_; refine fin_seq ?_; refine goes_region ?_; apply run_step rfl; (exact stp_add rfl rfl rfl (by first | exact IntWalk.i64_in _ (by omega) | rfl)); apply run_step rfl; (exact stp_move rfl rfl); refine run_nil ?_)
    exact fin_round (k + 1) (by omega) (by omega) (Wk.of ⟨rfl, rfl, rfl, rfl, rfl, trivial⟩ ⟨rfl, trivial⟩ trivial)
  · obtain rfl : k = B.length := by omega
    (refine goes_exit ?_; refine fin_exit_then ?_; refine fin_exit_then ?_; refine fin_exit_eq ?_; refine fin_seq ?_; refine goes_seq ?_; refine goes_region ?_; apply run_step rfl; (exact stp_move rfl rfl); apply run_step rfl; (exact stp_move rfl rfl); apply run_step rfl; (exact stp_assign rfl rfl); apply run_step rfl; (exact stp_assign rfl rfl); refine run_nil ?_; refine fin_seq ?_; refine goes_ret ?_)
    exact fin_ret2 (.inl rfl) rfl (.tmp rfl) (.tmp rfl) trivial trivial
set_option maxRecDepth 100000 in
theorem ordNo_fc (zs : List Int) (L mask : Nat) (hL : zs.length = L) (hd : isDiag zs = true) (hmk : mask < 1000) (hf : finB zs mask = false) :
    FC Try.prog 140 [(1003, wRo zs)] [o1 (.sl 1003 0 L), vv (I6 mask)] [] (.tup [.one (.val (I6 1)), .one (.val (.bool false))]) [] := by
  have hA := allNo_fc zs L mask hL hd hmk hf
  refine fc_enter (nt := 31) Try.func140 rfl rfl (by simp) fun w0 ω0 => ?_
  (refine goes_seq ?_; refine goes_region ?_; apply run_step rfl; (exact stp_assign rfl rfl); apply run_step rfl; (exact stp_assign rfl rfl); refine run_nil ?_; refine fin_seq ?_; refine goes_seq ?_; refine goes_region ?_; apply run_step rfl; (exact stp_move rfl rfl); apply run_step rfl; (exact stp_move rfl rfl); apply run_step rfl; (apply call_gate 179; exact stp_callR hA (by as_aux_lemma => kernel_rfl) rfl rfl ⟨rfl, rfl, trivial⟩ ⟨⟨_, rfl, .inl rfl⟩, trivial⟩ rfl rfl); apply run_step rfl; (exact stp_move rfl rfl); apply run_step rfl; (exact stp_extract rfl rfl rfl); apply run_step rfl; (exact stp_extract rfl rfl rfl); apply run_step rfl; (exact stp_extract rfl rfl rfl); apply run_step rfl; (exact stp_assign rfl rfl); apply run_step rfl; (exact stp_assign rfl rfl); apply run_step rfl; (exact stp_assign rfl rfl); refine run_nil ?_; refine fin_seq ?_; refine goes_seq ?_; refine goes_region ?_; apply run_step rfl; (exact stp_assign rfl rfl); refine run_nil ?_; refine fin_seq ?_; refine goes_seq ?_; refine goes_seq ?_; refine goes_region ?_; apply run_step rfl; (exact stp_move rfl rfl); apply run_step rfl; (exact stp_len rfl rfl rfl (by as_aux_lemma => kernel_rfl)); apply run_step rfl; (exact stp_move rfl rfl); refine run_nil ?_; refine fin_seq ?_; refine goes_block ?_)
  refine goes_loop (fun _ : Nat => St.of [(8, vv (.bool false)), (9, vv (I6 1)), (20, vv (I6 0)), (21, vv (I6 0))] []) (fun _ => True) (fun _ => 0) 0 trivial (Wk.of ⟨rfl, rfl, rfl, rfl, trivial⟩ trivial trivial) ?_
  rintro _ _
  (refine goes_seq ?_; refine goes_region ?_; apply run_step rfl; (exact stp_bin rfl rfl rfl rfl); refine run_nil ?_; refine fin_seq ?_; refine goes_seq ?_)
  refine goes_cond rfl (fun e => by simp at e) (fun _ => ?_)
  (refine goes_exit ?_; refine fin_exit_then ?_; refine fin_exit_then ?_; refine fin_exit_eq ?_; refine fin_seq ?_; refine goes_seq ?_; refine goes_region ?_; apply run_step rfl; (exact stp_move rfl rfl); apply run_step rfl; (exact stp_move rfl rfl); apply run_step rfl; (exact stp_assign rfl rfl); apply run_step rfl; (exact stp_assign rfl rfl); refine run_nil ?_; refine fin_seq ?_; refine goes_ret ?_)
  exact fin_ret2 (.inl rfl) rfl (.tmp rfl) (.tmp rfl) trivial trivial
set_option maxRecDepth 100000 in
theorem isMask_fc (zs : List Int) (L : Nat) (m : Int) (hL : zs.length = L) (h4 : L ≤ 4) :
    FC Try.prog 83 [(1003, wRo zs)] [o1 (.sl 1003 0 L), vv (I6 m)] [] (vv (.bool (inB m 0 (allN zs)))) [] := by
  have hA := allI_fc zs L hL h4
  have hW := within_fc m 0 (allN zs)
  refine fc_enter (nt := 9) Try.func83 rfl rfl (by simp) fun w0 ω0 => ?_
  (refine goes_seq ?_; refine goes_region ?_; apply run_step rfl; (exact stp_assign rfl rfl); refine run_nil ?_; refine fin_seq ?_; refine goes_seq ?_; refine goes_region ?_; apply run_step rfl; (exact stp_move rfl rfl); apply run_step rfl; (exact stp_move rfl rfl); apply run_step rfl; (first | (apply call_gate 133; exact stp_callR hA (by as_aux_lemma => kernel_rfl) rfl rfl ⟨rfl, trivial⟩ ⟨⟨_, rfl, .inl rfl⟩, trivial⟩ rfl rfl) | (apply call_gate 84; exact stp_callR hW (by as_aux_lemma => kernel_rfl) rfl rfl ⟨rfl, rfl, rfl, trivial⟩ trivial rfl rfl)); apply run_step rfl; (first | (apply call_gate 133; exact stp_callR hA (by as_aux_lemma => kernel_rfl) rfl rfl ⟨rfl, trivial⟩ ⟨⟨_, rfl, .inl rfl⟩, trivial⟩ rfl rfl) | (apply call_gate 84; exact stp_callR hW (by as_aux_lemma => kernel_rfl) rfl rfl ⟨rfl, rfl, rfl, trivial⟩ trivial rfl rfl)); apply run_step rfl; (exact stp_assign rfl rfl); refine run_nil ?_; refine fin_seq ?_; refine goes_ret ?_)
  exact fin_ret1 (.inl rfl) rfl (.tmp rfl) trivial trivial
end Go.Proofs.Ytnfkhgamnapgmaa

/- OrderOfNodes, the program's and the reference's. guards: -/
namespace Go.Proofs.Ytnfkhgamnapgmaa
open Go.RowKit

end Go.Proofs.Ytnfkhgamnapgmaa

/- Whether each component of a set has a ringed node: lists; the program's. guards: -/
namespace Go.Proofs.Ytnfkhgamnapgmaa
open Go.RowKit

def ringB (r : Nat) (p : Nat × List Int) : Bool := !((p.1 &&& r) == 0)
def admB (zs : List Int) (set r : Nat) : Bool := (comps zs set).all (ringB r)
/-- the first component without a ringed node, -1 if there is none -/
def idxZ (ps : Cmps) (r : Nat) : Int := match ps.findIdx? (fun p => !ringB r p) with | some k => (k : Int) | none => -1
theorem idxZ_hit {ps : Cmps} {r j : Nat} (hj : j < ps.length) (h1 : ∀ x, x < j → ringB r (cget ps x) = true) (h2 : ringB r (cget ps j) = false) : idxZ ps r = j := by
  have : ps.findIdx? (fun p => !ringB r p) = some j := by
    rw [List.findIdx?_eq_some_iff_getElem]
    refine ⟨hj, by rw [← cget_lt hj, h2]; rfl, fun x hx => ?_⟩
    have := h1 x hx
    rw [cget_lt (by omega)] at this
    rw [this]; simp
  unfold idxZ; rw [this]
theorem idxZ_none {ps : Cmps} {r : Nat} (h1 : ∀ x, x < ps.length → ringB r (cget ps x) = true) : idxZ ps r = -1 := by
  have : ps.findIdx? (fun p => !ringB r p) = none := by
    rw [List.findIdx?_eq_none_iff]
    intro p hp
    obtain ⟨x, hx, rfl⟩ := List.getElem_of_mem hp
    have := h1 x hx
    rw [cget_lt hx] at this
    rw [this]; rfl
  unfold idxZ; rw [this]
theorem idxZ_adm (ps : Cmps) (r : Nat) : (!decide (idxZ ps r ≥ 0)) = ps.all (ringB r) := by
  cases h : ps.all (ringB r) with
  | true =>
    rw [List.all_eq_true] at h
    rw [idxZ_none fun x hx => h _ (cget_mem hx)]; rfl
  | false =>
    have : ∃ k, ps.findIdx? (fun p => !ringB r p) = some k := by
      cases hf : ps.findIdx? (fun p => !ringB r p) with
      | some k => exact ⟨k, rfl⟩
      | none =>
        rw [List.findIdx?_eq_none_iff] at hf
        have : ps.all (ringB r) = true := List.all_eq_true.2 fun p hp => by simpa using hf p hp
        rw [this] at h; cases h
    obtain ⟨k, hk⟩ := this
    unfold idxZ; rw [hk]; simp
abbrev bxRo (r : Nat) : Ch := ⟨false, 2, 1, .flat [.val (I6 (r : Int))]⟩
set_option maxRecDepth 100000 in
theorem clo_fc (cs : List Cel) (mv r i m : Nat) (labs : List Int) (hi : cs[i]? = some (.r 2 1 m (ivals labs))) (hmv : mv < 1000000) (hr : r < 1000000) :
    FC Try.prog 176 [(1000, cxRo cs), (1006, bxRo r)] [cA mv i m, o1 (.ptr 1006 0)] [] (vv (.bool (decide (((mv &&& r : Nat) : Int) = 0)))) [] := by
  refine fc_enter (nt := 9) Try.func176 rfl rfl (by simp) fun w0 ω0 => ?_
  (refine goes_seq ?_; refine goes_region ?_; apply run_step rfl; (exact stp_box rfl rfl rfl rfl); apply run_step rfl; (exact stp_assign rfl rfl); refine run_nil ?_; refine fin_seq ?_; refine goes_seq ?_; refine goes_region ?_; apply run_step rfl; (exact stp_fieldAddr (d := 0) rfl rfl rfl (by as_aux_lemma => kernel_rfl)); apply run_step rfl; (exact stp_loadF rfl (by as_aux_lemma => kernel_rfl) rfl rfl rfl rfl); apply run_step rfl; (exact stp_loadF rfl (by as_aux_lemma => kernel_rfl) rfl rfl rfl rfl); apply run_step rfl; (exact stp_andN rfl rfl rfl hmv hr); apply run_step rfl; (exact stp_bin rfl rfl rfl rfl); apply run_step rfl; (exact stp_assign rfl rfl); refine run_nil ?_; refine fin_seq ?_; refine goes_ret ?_)
  exact fin_ret1 (.inl rfl) rfl (.tmp rfl) trivial trivial
set_option maxRecDepth 100000 in
theorem idx_fc (ps : Cmps) (N r : Nat) (hN : ps.length = N) (h5 : N ≤ 5) (hr : r < 1000000) (hm : ∀ k, k < N → (cget ps k).1 < 1000000) :
    FC Try.prog 202 [(1000, cxRo (mixC ps)), (1006, bxRo r)] [o1 (.sl 1000 0 N), o1 (.clo (.func 176) [(1006, 0)])] [] (vv (I6 (idxZ ps r))) [] := by
  refine fc_enter (nt := 19) Try.func202 rfl rfl (by simp) fun w0 ω0 => ?_
  have hmx := mixC_len ps
  rw [hN] at hmx
  (refine goes_seq ?_; refine goes_region ?_; apply run_step rfl; (exact stp_assign rfl rfl); refine run_nil ?_; refine fin_seq ?_; refine goes_seq ?_; refine goes_seq ?_; refine goes_region ?_; apply run_step rfl; (exact stp_move rfl rfl); apply run_step rfl; (exact stp_len rfl rfl rfl (by as_aux_lemma => kernel_rfl)); apply run_step rfl; (exact stp_move rfl rfl); refine run_nil ?_; refine fin_seq ?_; refine goes_block ?_)
  refine goes_loop (fun j : Nat => St.of [(0, o1 (.sl 1000 0 N)), (1, o1 (.clo (.func 176) [(1006, 0)])), (7, vv (I6 N)), (8, vv (I6 j))] [(1000, cxRo (mixC ps)), (1006, bxRo r)]) (fun j => j ≤ N ∧ ∀ x, x < j → ringB r (cget ps x) = true) (fun j => N - j) 0 ⟨Nat.zero_le _, fun x hx => absurd hx (by omega)⟩ (Wk.of ⟨rfl, rfl, rfl, rfl, trivial⟩ ⟨rfl, rfl, trivial⟩ trivial) ?_
  rintro j ⟨hj, hall⟩
  (refine goes_seq ?_; refine goes_region ?_; apply run_step rfl; (exact stp_bin rfl rfl rfl rfl); refine run_nil ?_; refine fin_seq ?_; refine goes_seq ?_)
  refine goes_if rfl (fun hlt => ?_) (fun hlt => ?_)
  · have hjN : j < N := by omega
    have hjp : j < ps.length := by omega
    have hagg := comp_agg hjp 1000
    have hcel := (mixC_get hjp).2
    have hix : N * 2 ≤ (mixC ps).length := Nat.le_of_eq hmx.symm
    have hmk := hm j hjN
    have hC := clo_fc (mixC ps) (cget ps j).1 r (j * 2 + 1) (cget ps j).2.length (cget ps j).2 hcel hmk hr
    have hrb : ringB r (cget ps j) = !decide ((((cget ps j).1 &&& r : Nat) : Int) = 0) := by
      unfold ringB
      congr 1
      by_cases e : (cget ps j).1 &&& r = 0
      · rw [e]; rfl
      · rw [decide_eq_false (by omega), beq_eq_false_iff_ne]; exact e
    (refine goes_skip ?_; refine fin_seq ?_; refine goes_seq ?_; refine goes_block ?_; refine goes_seq ?_; refine goes_region ?_; apply run_step rfl; (exact stp_move rfl rfl); apply run_step rfl; (exact stp_assign rfl rfl); refine run_nil ?_; refine fin_seq ?_; refine goes_seq ?_; refine goes_region ?_; apply run_step rfl; (exact stp_move rfl rfl); apply run_step rfl; (exact stp_move rfl rfl); apply run_step rfl; (exact stp_move rfl rfl); apply run_step rfl; (first | exact stp_ixT (k := 2) (j := j) rfl rfl rfl rfl rfl (by as_aux_lemma => kernel_rfl) rfl hjN hix (by omega) rfl | exact stp_loadAggD (k := 2) rfl rfl rfl rfl rfl (by as_aux_lemma => kernel_rfl) hagg | exact stp_callC (args := [cA ((cget ps j).1 : Nat) (j * 2 + 1) (cget ps j).2.length]) rfl hC (by as_aux_lemma => kernel_rfl) rfl rfl ⟨⟨.inl rfl, .inl rfl, trivial⟩, trivial⟩ ⟨⟨_, rfl, .inl rfl⟩, ⟨_, rfl, .inl rfl⟩, trivial⟩ rfl rfl); apply run_step rfl; (first | exact stp_ixT (k := 2) (j := j) rfl rfl rfl rfl rfl (by as_aux_lemma => kernel_rfl) rfl hjN hix (by omega) rfl | exact stp_loadAggD (k := 2) rfl rfl rfl rfl rfl (by as_aux_lemma => kernel_rfl) hagg | exact stp_callC (args := [cA ((cget ps j).1 : Nat) (j * 2 + 1) (cget ps j).2.length]) rfl hC (by as_aux_lemma => kernel_rfl) rfl rfl ⟨⟨.inl rfl, .inl rfl, trivial⟩, trivial⟩ ⟨⟨_, rfl, .inl rfl⟩, ⟨_, rfl, .inl rfl⟩, trivial⟩ rfl rfl); apply run_step rfl; (first | exact stp_ixT (k := 2) (j := j) rfl rfl rfl rfl rfl (by as_aux_lemma => kernel_rfl) rfl hjN hix (by omega) rfl | exact stp_loadAggD (k := 2) rfl rfl rfl rfl rfl (by as_aux_lemma => kernel_rfl) hagg | exact stp_callC (args := [cA ((cget ps j).1 : Nat) (j * 2 + 1) (cget ps j).2.length]) rfl hC (by as_aux_lemma => kernel_rfl) rfl rfl ⟨⟨.inl rfl, .inl rfl, trivial⟩, trivial⟩ ⟨⟨_, rfl, .inl rfl⟩, ⟨_, rfl, .inl rfl⟩, trivial⟩ rfl rfl); refine run_nil ?_; refine fin_seq ?_)
    refine goes_cond rfl (fun e => ?_) (fun e => ?_)
    · rw [e] at hrb
      rw [idxZ_hit hjp hall (by rw [hrb]; rfl)]
      (refine goes_seq ?_; refine goes_region ?_; apply run_step rfl; (exact stp_move rfl rfl); apply run_step rfl; (exact stp_assign rfl rfl); refine run_nil ?_; refine fin_seq ?_; refine goes_ret ?_; refine fin_ret_block ?_; refine fin_ret_then ?_; refine fin_ret_then ?_; refine fin_ret_block ?_; refine fin_ret_then ?_)
      exact fin_ret1 (.inl rfl) rfl (.tmp rfl) trivial trivial
    · rw [e] at hrb
      (refine goes_skip ?_; refine fin_block ?_; refine fin_seq ?_; refine goes_region ?_; apply run_step rfl; (exact stp_add rfl rfl rfl (by first | exact IntWalk.i64_in _ (by omega) | rfl)); apply run_step rfl; (exact stp_move rfl rfl); refine run_nil ?_)
      exact fin_round (j + 1) ⟨by omega, fun x hx => by
        by_cases ex : x = j
        · rw [ex, hrb]; rfl
        · exact hall x (by omega)⟩ (by omega) (Wk.of ⟨rfl, rfl, rfl, rfl, trivial⟩ ⟨rfl, rfl, trivial⟩ trivial)
  · obtain rfl : j = N := by omega
    rw [idxZ_none fun x hx => hall x (by omega)]
    (refine goes_exit ?_; refine fin_exit_then ?_; refine fin_exit_then ?_; refine fin_exit_eq ?_; refine fin_seq ?_; refine goes_seq ?_; refine goes_region ?_; apply run_step rfl; (exact stp_assign rfl rfl); refine run_nil ?_; refine fin_seq ?_; refine goes_ret ?_)
    exact fin_ret1 (.inl rfl) rfl (.tmp rfl) trivial trivial
set_option maxRecDepth 100000 in
theorem has_fc (ps : Cmps) (N r : Nat) (hN : ps.length = N) (h5 : N ≤ 5) (hr : r < 1000000) (hm : ∀ k, k < N → (cget ps k).1 < 1000000) :
    FC Try.prog 174 [(1000, cxRo (mixC ps)), (1006, bxRo r)] [o1 (.sl 1000 0 N), o1 (.clo (.func 176) [(1006, 0)])] [] (vv (.bool (decide (idxZ ps r ≥ 0)))) [] := by
  have hI := idx_fc ps N r hN h5 hr hm
  refine fc_enter (nt := 9) Try.func174 rfl rfl (by simp) fun w0 ω0 => ?_
  (refine goes_seq ?_; refine goes_region ?_; apply run_step rfl; (exact stp_assign rfl rfl); refine run_nil ?_; refine fin_seq ?_; refine goes_seq ?_; refine goes_region ?_; apply run_step rfl; (exact stp_move rfl rfl); apply run_step rfl; (exact stp_move rfl rfl); apply run_step rfl; (apply call_gate 202; exact stp_callR hI (by as_aux_lemma => kernel_rfl) rfl rfl ⟨rfl, rfl, trivial⟩ ⟨⟨_, rfl, .inl rfl⟩, ⟨_, rfl, .inl rfl⟩, trivial⟩ rfl rfl); apply run_step rfl; (exact stp_bin rfl rfl rfl rfl); apply run_step rfl; (exact stp_assign rfl rfl); refine run_nil ?_; refine fin_seq ?_; refine goes_ret ?_)
  exact fin_ret1 (.inl rfl) rfl (.tmp rfl) trivial trivial
theorem comps_len5 {zs : List Int} (h4 : zs.length ≤ 4) (mask : Nat) : (comps zs mask).length ≤ 5 := by
  have h1 := csum_len (comps zs mask); have h2 := (comps_ok zs mask).sum; omega
theorem comps_lt {zs : List Int} (h4 : zs.length ≤ 4) (mask : Nat) : ∀ k, k < (comps zs mask).length → (cget (comps zs mask) k).1 < 1000000 := fun k hk => by
  have h1 := (comps_ok zs mask).lt _ (cget_mem hk)
  have h2 : 2 ^ (zs.length + 1) ≤ 2 ^ 5 := Nat.pow_le_pow_right (by decide) (by omega)
  omega
set_option maxRecDepth 100000 in
theorem adm_fc (zs : List Int) (L r set : Nat) (hL : zs.length = L) (h4 : L ≤ 4) (hr : r < 1000) (hs : set < 1000) :
    FC Try.prog 134 [(1003, wRo zs)] [o1 (.sl 1003 0 L), vv (I6 r), vv (I6 set)] [] (vv (.bool (admB zs set r))) [] := by
  have hC := (comps_fc zs L set hL h4 hs).nm [(1003, 1003), (2000, 9)] (by kernel_rfl)
  have hC : FC Try.prog 175 [(1003, wRo zs)] [o1 (.sl 1003 0 L), vv (I6 set)] [(9, cpOw (comps zs set))] (o1 (.sl 9 0 (comps zs set).length)) [] := hC
  have hH := (has_fc (comps zs set) (comps zs set).length r rfl (comps_len5 (by omega) set) (by omega) (comps_lt (by omega) set)).nm [(1000, 9), (1006, 4)] (by kernel_rfl)
  have hH : FC Try.prog 174 [(9, cxRo (mixC (comps zs set))), (4, bxRo r)] [o1 (.sl 9 0 (comps zs set).length), o1 (.clo (.func 176) [(4, 0)])] [] (vv (.bool (decide (idxZ (comps zs set) r ≥ 0)))) [] := hH
  have hv : admB zs set r = !decide (idxZ (comps zs set) r ≥ 0) := (idxZ_adm _ _).symm
  rw [hv]
  refine fc_enter (nt := 13) Try.func134 rfl rfl (by simp) fun w0 ω0 => ?_
  (refine goes_seq ?_; refine goes_region ?_; apply run_step rfl; (exact stp_box rfl rfl rfl rfl); apply run_step rfl; (exact stp_assign rfl rfl); refine run_nil ?_; refine fin_seq ?_; refine goes_seq ?_; refine goes_region ?_; apply run_step rfl; (exact stp_move rfl rfl); apply run_step rfl; (exact stp_move rfl rfl); apply run_step rfl; (first | (apply call_gate 175; exact stp_callN hC (by as_aux_lemma => kernel_rfl) rfl rfl ⟨rfl, rfl, trivial⟩ ⟨⟨_, rfl, .inl rfl⟩, trivial⟩ rfl rfl rfl) | exact stp_makeFunc rfl rfl | (apply call_gate 174; exact stp_callR hH (by as_aux_lemma => kernel_rfl) rfl rfl ⟨rfl, rfl, trivial⟩ ⟨⟨_, rfl, .inr rfl⟩, ⟨_, rfl, .inr rfl⟩, trivial⟩ rfl rfl)); apply run_step rfl; (first | (apply call_gate 175; exact stp_callN hC (by as_aux_lemma => kernel_rfl) rfl rfl ⟨rfl, rfl, trivial⟩ ⟨⟨_, rfl, .inl rfl⟩, trivial⟩ rfl rfl rfl) | exact stp_makeFunc rfl rfl | (apply call_gate 174; exact stp_callR hH (by as_aux_lemma => kernel_rfl) rfl rfl ⟨rfl, rfl, trivial⟩ ⟨⟨_, rfl, .inr rfl⟩, ⟨_, rfl, .inr rfl⟩, trivial⟩ rfl rfl)); apply run_step rfl; (first | (apply call_gate 175; exact stp_callN hC (by as_aux_lemma => kernel_rfl) rfl rfl ⟨rfl, rfl, trivial⟩ ⟨⟨_, rfl, .inl rfl⟩, trivial⟩ rfl rfl rfl) | exact stp_makeFunc rfl rfl | (apply call_gate 174; exact stp_callR hH (by as_aux_lemma => kernel_rfl) rfl rfl ⟨rfl, rfl, trivial⟩ ⟨⟨_, rfl, .inr rfl⟩, ⟨_, rfl, .inr rfl⟩, trivial⟩ rfl rfl)); apply run_step rfl; (exact stp_not rfl rfl); apply run_step rfl; (exact stp_assign rfl rfl); refine run_nil ?_; refine fin_seq ?_; refine goes_ret ?_)
  exact fin_ret1 (.inl rfl) rfl (.tmp rfl) trivial trivial
end Go.Proofs.Ytnfkhgamnapgmaa

/- Whether each component of a set has a ringed node: the reference's. guards: -/
namespace Go.Proofs.Ytnfkhgamnapgmaa
open Go.RowKit

def gB (r : Nat) (ps : Cmps) : Bool := ps.dropLast.all (ringB r)
def rB (r : Nat) (ps : Cmps) : Bool := match ps.getLast? with | none => true | some p => ringB r p
theorem gB_app (r : Nat) (qs : Cmps) (p : Nat × List Int) : gB r (qs ++ [p]) = qs.all (ringB r) := by unfold gB; rw [List.dropLast_concat]
theorem rB_app (r : Nat) (qs : Cmps) (p : Nat × List Int) : rB r (qs ++ [p]) = ringB r p := by unfold rB; rw [List.getLast?_concat]
theorem cmps_cases (ps : Cmps) : ps = [] ∨ ∃ qs p, ps = qs ++ [p] := by
  rcases List.eq_nil_or_concat ps with h | ⟨qs, p, h⟩
  · exact .inl h
  · exact .inr ⟨qs, p, by rw [h, List.concat_eq_append]⟩
theorem all_gr (r : Nat) (ps : Cmps) : ps.all (ringB r) = (gB r ps && rB r ps) := by
  rcases cmps_cases ps with rfl | ⟨qs, p, rfl⟩
  · rfl
  · rw [gB_app, rB_app, List.all_append, List.all_cons, List.all_nil, Bool.and_true]
theorem ring_one (r i : Nat) (l : List Int) : ringB r (2 ^ i, l) = mBit r i := by
  unfold ringB
  have h : mBit r i = r.testBit i := by unfold mBit; rw [Nat.testBit_eq_decide_div_mod_eq]; rfl
  rw [h]
  show (!(2 ^ i &&& r == 0)) = _
  cases hb : r.testBit i with
  | true =>
    have : 2 ^ i &&& r ≠ 0 := fun e => by
      have h2 : (2 ^ i &&& r).testBit i = true := by rw [Nat.testBit_and, Nat.testBit_two_pow_self, hb]; rfl
      rw [e] at h2; simp at h2
    simpa using this
  | false =>
    have : 2 ^ i &&& r = 0 := by
      apply Nat.eq_of_testBit_eq
      intro j
      rw [Nat.testBit_and, Nat.zero_testBit, Nat.testBit_two_pow]
      by_cases e : i = j
      · rw [← e, hb]; simp
      · simp [e]
    rw [this]; rfl
theorem ring_or (r m i : Nat) (l l' : List Int) : ringB r (m ||| 2 ^ i, l) = (ringB r (m, l') || mBit r i) := by
  rw [← ring_one r i []]
  unfold ringB
  show (!((m ||| 2 ^ i) &&& r == 0)) = (!(m &&& r == 0) || !(2 ^ i &&& r == 0))
  rw [Nat.and_or_distrib_right]
  by_cases h1 : m &&& r = 0
  · rw [h1, Nat.zero_or]; simp
  · have : ¬ (m &&& r ||| 2 ^ i &&& r) = 0 := fun e => h1 (Nat.or_eq_zero_iff.1 e).1
    rw [beq_eq_false_iff_ne.2 this, beq_eq_false_iff_ne.2 h1]; rfl
theorem gr_none {zs : List Int} {set i : Nat} (h : mBit set i = false) : pTo zs set (i + 1) = pTo zs set i := by
  rw [pTo_succ]; unfold pStep; rw [if_neg (by rw [h]; simp)]
theorem gr_new {zs : List Int} {set i : Nat} (r : Nat) (h : mBit set i = true) (hj : jn zs set i = false) : gB r (pTo zs set (i + 1)) = (gB r (pTo zs set i) && rB r (pTo zs set i)) ∧ rB r (pTo zs set (i + 1)) = mBit r i := by
  rw [pTo_succ]; unfold pStep; rw [if_pos h, if_neg (by rw [hj]; simp), gB_app, rB_app, ring_one, all_gr]
  exact ⟨rfl, rfl⟩
theorem gr_join {zs : List Int} {set i : Nat} (r : Nat) (h : mBit set i = true) (hj : jn zs set i = true) (hi : i ≤ zs.length + 1) : gB r (pTo zs set (i + 1)) = gB r (pTo zs set i) ∧ rB r (pTo zs set (i + 1)) = (rB r (pTo zs set i) || mBit r i) := by
  have hok := pTo_ok zs set i hi
  have hs := jn_spec hj
  have hne := hok.ne hs.1 hs.2.1
  rw [pTo_succ]; unfold pStep; rw [if_pos h, if_pos hj]
  rcases cmps_cases (pTo zs set i) with e | ⟨qs, p, e⟩
  · rw [e] at hne; exact absurd hne (by simp)
  · rw [e]
    have hl : (qs ++ [p]).length - 1 = qs.length := by simp
    have hg : cget (qs ++ [p]) qs.length = p := by rw [cget_lt (by simp)]; simp
    unfold pLast
    rw [hl, hg, show (qs ++ [p]).set qs.length (p.1 ||| 2 ^ i, p.2 ++ [iget zs (i - 1)]) = qs ++ [(p.1 ||| 2 ^ i, p.2 ++ [iget zs (i - 1)])] by rw [List.set_append_right _ _ (Nat.le_refl _)]; simp, gB_app, gB_app, rB_app, rB_app]
    exact ⟨rfl, ring_or r p.1 i _ p.2⟩
set_option maxRecDepth 100000 in
set_option maxHeartbeats 2000000 in
theorem rng_fc (zs : List Int) (L set r : Nat) (hL : zs.length = L) (h4 : L ≤ 4) (hs : set < 1000) (hr : r < 1000) :
    FC Try.prog 131 [(1003, wRo zs)] [o1 (.sl 1003 0 L), vv (I6 set), vv (I6 r)] [] (vv (.bool (admB zs set r))) [] := by
  have hR := rankS_fc zs L h4
  have hil : L ≤ (ivals zs).length := by rw [ivals_len, hL]; exact Nat.le_refl _
  have hss : set < 1000000 := by omega
  have hrr : r < 1000000 := by omega
  refine fc_enter (nt := 58) Try.func131 rfl rfl (by simp) fun w0 ω0 => ?_
  (refine goes_seq ?_; refine goes_region ?_; apply run_step rfl; (exact stp_assign rfl rfl); refine run_nil ?_; refine fin_seq ?_; refine goes_seq ?_; refine goes_region ?_; apply run_step rfl; (exact stp_assign rfl rfl); refine run_nil ?_; refine fin_seq ?_; refine goes_seq ?_; refine goes_region ?_; apply run_step rfl; (exact stp_assign rfl rfl); refine run_nil ?_; refine fin_seq ?_; refine goes_seq ?_; refine goes_seq ?_; refine goes_region ?_; apply run_step rfl; (exact stp_assign rfl rfl); refine run_nil ?_; refine fin_seq ?_; refine goes_block ?_)
  refine goes_loop (fun i : Nat => St.of [(0, o1 (.sl 1003 0 L)), (1, vv (I6 set)), (2, vv (I6 r)), (7, vv (.bool (gB r (pTo zs set i)))), (8, vv (.bool (rB r (pTo zs set i)))), (9, vv (I6 i))] [(1003, wRo zs)]) (fun i => i ≤ L + 1) (fun i => L + 1 - i) 0 (Nat.zero_le _) (Wk.of ⟨rfl, rfl, rfl, rfl, rfl, rfl, trivial⟩ ⟨rfl, trivial⟩ trivial) ?_
  rintro i hi
  (refine goes_seq ?_; refine goes_seq ?_; refine goes_region ?_; apply run_step rfl; (exact stp_move rfl rfl); apply run_step rfl; (exact stp_move rfl rfl); apply run_step rfl; (apply call_gate 78; exact stp_callR hR (by as_aux_lemma => kernel_rfl) rfl rfl ⟨rfl, trivial⟩ ⟨⟨_, rfl, .inl rfl⟩, trivial⟩ rfl rfl); apply run_step rfl; (exact stp_bin rfl rfl rfl rfl); refine run_nil ?_; refine fin_seq ?_)
  refine goes_if rfl (fun hlt => ?_) (fun hlt => ?_)
  · have hiL : i ≤ L := by omega
    have hi64 : i ≤ 64 := by omega
    have hcv : IntKind.u64.wrap (i : Int) = (i : Int) := by rw [IntKind.wrap_u64]; omega
    (refine goes_skip ?_; refine fin_seq ?_; refine goes_seq ?_; refine goes_block ?_; refine goes_seq ?_; refine goes_seq ?_; refine goes_region ?_; apply run_step rfl; (exact stp_move rfl rfl); apply run_step rfl; (exact stp_move rfl rfl); apply run_step rfl; (first | exact stp_convN rfl rfl (by as_aux_lemma => kernel_rfl) (by as_aux_lemma => kernel_rfl) hcv | exact stp_shrN (g := i) rfl rfl rfl hi64 | exact stp_bit rfl rfl hss | exact stp_eqBit0 rfl rfl); apply run_step rfl; (first | exact stp_convN rfl rfl (by as_aux_lemma => kernel_rfl) (by as_aux_lemma => kernel_rfl) hcv | exact stp_shrN (g := i) rfl rfl rfl hi64 | exact stp_bit rfl rfl hss | exact stp_eqBit0 rfl rfl); apply run_step rfl; (first | exact stp_convN rfl rfl (by as_aux_lemma => kernel_rfl) (by as_aux_lemma => kernel_rfl) hcv | exact stp_shrN (g := i) rfl rfl rfl hi64 | exact stp_bit rfl rfl hss | exact stp_eqBit0 rfl rfl); apply run_step rfl; (first | exact stp_convN rfl rfl (by as_aux_lemma => kernel_rfl) (by as_aux_lemma => kernel_rfl) hcv | exact stp_shrN (g := i) rfl rfl rfl hi64 | exact stp_bit rfl rfl hss | exact stp_eqBit0 rfl rfl); refine run_nil ?_; refine fin_seq ?_)
    refine goes_cond rfl (fun hb => ?_) (fun hb => ?_)
    · have hb : mBit set i = false := by simpa using hb
      have hv := gr_none (zs := zs) hb
      (refine goes_exit ?_; refine fin_exit_then ?_; refine fin_exit_eq ?_; refine fin_seq ?_; refine goes_region ?_; apply run_step rfl; (exact stp_move rfl rfl); apply run_step rfl; (exact stp_add rfl rfl rfl (by first | exact IntWalk.i64_in _ (by omega) | rfl)); apply run_step rfl; (exact stp_assign rfl rfl); refine run_nil ?_)
      exact fin_round (i + 1) (by omega) (by omega) (Wk.of ⟨rfl, rfl, rfl, congrArg (fun z => some (vv (.bool (gB r z)))) hv.symm, congrArg (fun z => some (vv (.bool (rB r z)))) hv.symm, rfl, trivial⟩ ⟨rfl, trivial⟩ trivial)
    · have hb : mBit set i = true := by simpa using hb
      (repeat (first | refine goes_seq ?_ | refine fin_seq ?_ | refine goes_skip ?_ | refine goes_block ?_ | refine fin_block ?_ | refine goes_exit ?_ | refine fin_exit_eq ?_ | refine fin_exit_ne rfl ?_ | refine fin_exit_then ?_))
      refine goes_cut (St.of [(0, o1 (.sl 1003 0 L)), (1, vv (I6 set)), (2, vv (I6 r)), (7, vv (.bool (gB r (pTo zs set i)))), (8, vv (.bool (rB r (pTo zs set i)))), (9, vv (I6 i)), (40, vv (.bool (!jn zs set i)))] [(1003, wRo zs)]) ?_ ?_
      · refine goes_region ?_
        (apply run_step rfl; (exact stp_move rfl rfl); apply run_step rfl; (exact stp_bin rfl rfl rfl rfl); apply run_step rfl; (exact stp_move rfl rfl))
        refine run_bool 24 rfl (fun h1 => ?_) (fun h1 => ?_)
        · have hv : jn zs set i = false := by
            have : ¬ 0 < i := by
              have : (i : Int) = 0 := by simpa using h1
              omega
            unfold jn; rw [decide_eq_false this]; rfl
          rw [hv]
          (apply run_gNo rfl rfl rfl rfl rfl; apply run_gNo rfl rfl rfl rfl rfl; apply run_gNo rfl rfl rfl rfl rfl; apply run_gNo rfl rfl rfl rfl rfl; apply run_gNo rfl rfl rfl rfl rfl; apply run_gNo rfl rfl rfl rfl rfl; apply run_gNo rfl rfl rfl rfl rfl; apply run_step rfl; (exact stp_pickT rfl rfl rfl); apply run_step rfl; (exact stp_move rfl rfl); apply run_gNo rfl rfl rfl rfl rfl; apply run_gNo rfl rfl rfl rfl rfl; apply run_gNo rfl rfl rfl rfl rfl; apply run_gNo rfl rfl rfl rfl rfl; apply run_gNo rfl rfl rfl rfl rfl; apply run_gNo rfl rfl rfl rfl rfl; apply run_step rfl; (exact stp_pickT rfl rfl rfl); refine run_nil ?_)
          exact fin_join (Wk.of ⟨rfl, rfl, rfl, rfl, rfl, rfl, rfl, trivial⟩ ⟨rfl, trivial⟩ trivial)
        · have hi0 : 0 < i := by
            have : (i : Int) ≠ 0 := by simpa using h1
            omega
          have hsb : IntKind.i64.wrap ((i : Int) - 1) = ((i - 1 : Nat) : Int) := (IntWalk.i64_in _ (by omega)).trans (by omega)
          have hcv1 : IntKind.u64.wrap ((i - 1 : Nat) : Int) = ((i - 1 : Nat) : Int) := by rw [IntKind.wrap_u64]; omega
          have hi64' : i - 1 ≤ 64 := by omega
          (apply run_gYes rfl rfl rfl; (exact stp_move rfl rfl); apply run_gYes rfl rfl rfl; (exact stp_move rfl rfl); apply run_gYes rfl rfl rfl; (first | exact stp_sub rfl rfl rfl hsb | exact stp_convN rfl rfl (by as_aux_lemma => kernel_rfl) (by as_aux_lemma => kernel_rfl) hcv1 | exact stp_shrN (g := i - 1) rfl rfl rfl hi64' | exact stp_bit rfl rfl hss | exact stp_eqBit0 rfl rfl); apply run_gYes rfl rfl rfl; (first | exact stp_sub rfl rfl rfl hsb | exact stp_convN rfl rfl (by as_aux_lemma => kernel_rfl) (by as_aux_lemma => kernel_rfl) hcv1 | exact stp_shrN (g := i - 1) rfl rfl rfl hi64' | exact stp_bit rfl rfl hss | exact stp_eqBit0 rfl rfl); apply run_gYes rfl rfl rfl; (first | exact stp_sub rfl rfl rfl hsb | exact stp_convN rfl rfl (by as_aux_lemma => kernel_rfl) (by as_aux_lemma => kernel_rfl) hcv1 | exact stp_shrN (g := i - 1) rfl rfl rfl hi64' | exact stp_bit rfl rfl hss | exact stp_eqBit0 rfl rfl); apply run_gYes rfl rfl rfl; (first | exact stp_sub rfl rfl rfl hsb | exact stp_convN rfl rfl (by as_aux_lemma => kernel_rfl) (by as_aux_lemma => kernel_rfl) hcv1 | exact stp_shrN (g := i - 1) rfl rfl rfl hi64' | exact stp_bit rfl rfl hss | exact stp_eqBit0 rfl rfl); apply run_gYes rfl rfl rfl; (first | exact stp_sub rfl rfl rfl hsb | exact stp_convN rfl rfl (by as_aux_lemma => kernel_rfl) (by as_aux_lemma => kernel_rfl) hcv1 | exact stp_shrN (g := i - 1) rfl rfl rfl hi64' | exact stp_bit rfl rfl hss | exact stp_eqBit0 rfl rfl); apply run_step rfl; (exact stp_pickF rfl rfl rfl); apply run_step rfl; (exact stp_move rfl rfl))
          refine run_bool 33 rfl (fun h2 => ?_) (fun h2 => ?_)
          · have h2 : mBit set (i - 1) = false := by simpa using h2
            have hv : jn zs set i = false := by unfold jn; rw [h2]; simp
            rw [hv]
            (apply run_gNo rfl rfl rfl rfl rfl; apply run_gNo rfl rfl rfl rfl rfl; apply run_gNo rfl rfl rfl rfl rfl; apply run_gNo rfl rfl rfl rfl rfl; apply run_gNo rfl rfl rfl rfl rfl; apply run_gNo rfl rfl rfl rfl rfl; apply run_step rfl; (exact stp_pickT rfl rfl rfl); refine run_nil ?_)
            exact fin_join (Wk.of ⟨rfl, rfl, rfl, rfl, rfl, rfl, rfl, trivial⟩ ⟨rfl, trivial⟩ trivial)
          · have h2 : mBit set (i - 1) = true := by simpa using h2
            have gz : (ivals zs)[i - 1]? = some (I6 (iget zs (i - 1))) := ivals_get (by omega)
            have hv : (!jn zs set i) = (iget zs (i - 1) == 2) := by unfold jn; rw [decide_eq_true hi0, h2]; simp
            rw [hv]
            (apply run_gYes rfl rfl rfl; (exact stp_move rfl rfl); apply run_gYes rfl rfl rfl; (exact stp_move rfl rfl); apply run_gYes rfl rfl rfl; (first | exact stp_sub rfl rfl rfl hsb | exact stp_ix (j := i - 1) rfl rfl rfl rfl rfl (by as_aux_lemma => kernel_rfl) rfl (by omega) hil | exact stp_loadV rfl (by as_aux_lemma => kernel_rfl) rfl rfl rfl gz); apply run_gYes rfl rfl rfl; (first | exact stp_sub rfl rfl rfl hsb | exact stp_ix (j := i - 1) rfl rfl rfl rfl rfl (by as_aux_lemma => kernel_rfl) rfl (by omega) hil | exact stp_loadV rfl (by as_aux_lemma => kernel_rfl) rfl rfl rfl gz); apply run_gYes rfl rfl rfl; (first | exact stp_sub rfl rfl rfl hsb | exact stp_ix (j := i - 1) rfl rfl rfl rfl rfl (by as_aux_lemma => kernel_rfl) rfl (by omega) hil | exact stp_loadV rfl (by as_aux_lemma => kernel_rfl) rfl rfl rfl gz); apply run_gYes rfl rfl rfl; (exact stp_bin rfl rfl rfl rfl); apply run_step rfl; (exact stp_pickF rfl rfl rfl); refine run_nil ?_)
            exact fin_join (Wk.of ⟨rfl, rfl, rfl, rfl, rfl, rfl, rfl, trivial⟩ ⟨rfl, trivial⟩ trivial)
      (refine fin_seq ?_)
      refine goes_cond rfl (fun hjb => ?_) (fun hjb => ?_)
      · have hjb : jn zs set i = false := by simpa using hjb
        obtain ⟨hv1, hv2⟩ := gr_new r hb hjb
        cases hg : gB r (pTo zs set i) with
        | true =>
          rw [hg, Bool.true_and] at hv1
          (refine goes_seq ?_; refine goes_region ?_; apply run_step rfl; (exact stp_move rfl rfl); apply run_step rfl; (exact stp_move rfl rfl); apply run_gYes rfl rfl rfl; (exact stp_move rfl rfl); apply run_step rfl; (exact stp_pickT rfl rfl rfl); apply run_step rfl; (exact stp_assign rfl rfl); refine run_nil ?_; refine fin_seq ?_; refine goes_region ?_; apply run_step rfl; (exact stp_assign rfl rfl); refine run_nil ?_; refine fin_seq ?_; refine goes_region ?_; apply run_step rfl; (exact stp_move rfl rfl); apply run_step rfl; (exact stp_move rfl rfl); apply run_gYes rfl rfl rfl; (exact stp_move rfl rfl); apply run_gYes rfl rfl rfl; (exact stp_move rfl rfl); apply run_gYes rfl rfl rfl; (first | exact stp_convN rfl rfl (by as_aux_lemma => kernel_rfl) (by as_aux_lemma => kernel_rfl) hcv | exact stp_shrN (g := i) rfl rfl rfl hi64 | exact stp_bit rfl rfl hrr | exact stp_eqBit rfl rfl); apply run_gYes rfl rfl rfl; (first | exact stp_convN rfl rfl (by as_aux_lemma => kernel_rfl) (by as_aux_lemma => kernel_rfl) hcv | exact stp_shrN (g := i) rfl rfl rfl hi64 | exact stp_bit rfl rfl hrr | exact stp_eqBit rfl rfl); apply run_gYes rfl rfl rfl; (first | exact stp_convN rfl rfl (by as_aux_lemma => kernel_rfl) (by as_aux_lemma => kernel_rfl) hcv | exact stp_shrN (g := i) rfl rfl rfl hi64 | exact stp_bit rfl rfl hrr | exact stp_eqBit rfl rfl); apply run_gYes rfl rfl rfl; (first | exact stp_convN rfl rfl (by as_aux_lemma => kernel_rfl) (by as_aux_lemma => kernel_rfl) hcv | exact stp_shrN (g := i) rfl rfl rfl hi64 | exact stp_bit rfl rfl hrr | exact stp_eqBit rfl rfl); apply run_step rfl; (exact stp_pickF rfl rfl rfl); apply run_step rfl; (exact stp_assign rfl rfl); refine run_nil ?_; refine fin_block ?_; refine fin_seq ?_; refine goes_region ?_; apply run_step rfl; (exact stp_move rfl rfl); apply run_step rfl; (exact stp_add rfl rfl rfl (by first | exact IntWalk.i64_in _ (by omega) | rfl)); apply run_step rfl; (exact stp_assign rfl rfl); refine run_nil ?_)
          exact fin_round (i + 1) (by omega) (by omega) (Wk.of ⟨rfl, rfl, rfl, congrArg (fun z => some (vv (.bool z))) hv1.symm, congrArg (fun z => some (vv (.bool z))) hv2.symm, rfl, trivial⟩ ⟨rfl, trivial⟩ trivial)
        | false =>
          rw [hg, Bool.false_and] at hv1
          (refine goes_seq ?_; refine goes_region ?_; apply run_step rfl; (exact stp_move rfl rfl); apply run_step rfl; (exact stp_move rfl rfl); apply run_gNo rfl rfl rfl rfl rfl; apply run_step rfl; (exact stp_pickF rfl rfl rfl); apply run_step rfl; (exact stp_assign rfl rfl); refine run_nil ?_; refine fin_seq ?_; refine goes_region ?_; apply run_step rfl; (exact stp_assign rfl rfl); refine run_nil ?_; refine fin_seq ?_; refine goes_region ?_; apply run_step rfl; (exact stp_move rfl rfl); apply run_step rfl; (exact stp_move rfl rfl); apply run_gYes rfl rfl rfl; (exact stp_move rfl rfl); apply run_gYes rfl rfl rfl; (exact stp_move rfl rfl); apply run_gYes rfl rfl rfl; (first | exact stp_convN rfl rfl (by as_aux_lemma => kernel_rfl) (by as_aux_lemma => kernel_rfl) hcv | exact stp_shrN (g := i) rfl rfl rfl hi64 | exact stp_bit rfl rfl hrr | exact stp_eqBit rfl rfl); apply run_gYes rfl rfl rfl; (first | exact stp_convN rfl rfl (by as_aux_lemma => kernel_rfl) (by as_aux_lemma => kernel_rfl) hcv | exact stp_shrN (g := i) rfl rfl rfl hi64 | exact stp_bit rfl rfl hrr | exact stp_eqBit rfl rfl); apply run_gYes rfl rfl rfl; (first | exact stp_convN rfl rfl (by as_aux_lemma => kernel_rfl) (by as_aux_lemma => kernel_rfl) hcv | exact stp_shrN (g := i) rfl rfl rfl hi64 | exact stp_bit rfl rfl hrr | exact stp_eqBit rfl rfl); apply run_gYes rfl rfl rfl; (first | exact stp_convN rfl rfl (by as_aux_lemma => kernel_rfl) (by as_aux_lemma => kernel_rfl) hcv | exact stp_shrN (g := i) rfl rfl rfl hi64 | exact stp_bit rfl rfl hrr | exact stp_eqBit rfl rfl); apply run_step rfl; (exact stp_pickF rfl rfl rfl); apply run_step rfl; (exact stp_assign rfl rfl); refine run_nil ?_; refine fin_block ?_; refine fin_seq ?_; refine goes_region ?_; apply run_step rfl; (exact stp_move rfl rfl); apply run_step rfl; (exact stp_add rfl rfl rfl (by first | exact IntWalk.i64_in _ (by omega) | rfl)); apply run_step rfl; (exact stp_assign rfl rfl); refine run_nil ?_)
          exact fin_round (i + 1) (by omega) (by omega) (Wk.of ⟨rfl, rfl, rfl, congrArg (fun z => some (vv (.bool z))) hv1.symm, congrArg (fun z => some (vv (.bool z))) hv2.symm, rfl, trivial⟩ ⟨rfl, trivial⟩ trivial)
      · have hjb : jn zs set i = true := by simpa using hjb
        obtain ⟨hv1, hv2⟩ := gr_join r hb hjb (by omega)
        cases hg : rB r (pTo zs set i) with
        | true =>
          rw [hg, Bool.true_or] at hv2
          (refine goes_skip ?_; refine fin_seq ?_; refine goes_region ?_; apply run_step rfl; (exact stp_move rfl rfl); apply run_step rfl; (exact stp_move rfl rfl); apply run_gNo rfl rfl rfl rfl rfl; apply run_gNo rfl rfl rfl rfl rfl; apply run_gNo rfl rfl rfl rfl rfl; apply run_gNo rfl rfl rfl rfl rfl; apply run_gNo rfl rfl rfl rfl rfl; apply run_gNo rfl rfl rfl rfl rfl; apply run_step rfl; (exact stp_pickT rfl rfl rfl); apply run_step rfl; (exact stp_assign rfl rfl); refine run_nil ?_; refine fin_block ?_; refine fin_seq ?_; refine goes_region ?_; apply run_step rfl; (exact stp_move rfl rfl); apply run_step rfl; (exact stp_add rfl rfl rfl (by first | exact IntWalk.i64_in _ (by omega) | rfl)); apply run_step rfl; (exact stp_assign rfl rfl); refine run_nil ?_)
          exact fin_round (i + 1) (by omega) (by omega) (Wk.of ⟨rfl, rfl, rfl, congrArg (fun z => some (vv (.bool z))) hv1.symm, congrArg (fun z => some (vv (.bool z))) hv2.symm, rfl, trivial⟩ ⟨rfl, trivial⟩ trivial)
        | false =>
          rw [hg, Bool.false_or] at hv2
          (refine goes_skip ?_; refine fin_seq ?_; refine goes_region ?_; apply run_step rfl; (exact stp_move rfl rfl); apply run_step rfl; (exact stp_move rfl rfl); apply run_gYes rfl rfl rfl; (exact stp_move rfl rfl); apply run_gYes rfl rfl rfl; (exact stp_move rfl rfl); apply run_gYes rfl rfl rfl; (first | exact stp_convN rfl rfl (by as_aux_lemma => kernel_rfl) (by as_aux_lemma => kernel_rfl) hcv | exact stp_shrN (g := i) rfl rfl rfl hi64 | exact stp_bit rfl rfl hrr | exact stp_eqBit rfl rfl); apply run_gYes rfl rfl rfl; (first | exact stp_convN rfl rfl (by as_aux_lemma => kernel_rfl) (by as_aux_lemma => kernel_rfl) hcv | exact stp_shrN (g := i) rfl rfl rfl hi64 | exact stp_bit rfl rfl hrr | exact stp_eqBit rfl rfl); apply run_gYes rfl rfl rfl; (first | exact stp_convN rfl rfl (by as_aux_lemma => kernel_rfl) (by as_aux_lemma => kernel_rfl) hcv | exact stp_shrN (g := i) rfl rfl rfl hi64 | exact stp_bit rfl rfl hrr | exact stp_eqBit rfl rfl); apply run_gYes rfl rfl rfl; (first | exact stp_convN rfl rfl (by as_aux_lemma => kernel_rfl) (by as_aux_lemma => kernel_rfl) hcv | exact stp_shrN (g := i) rfl rfl rfl hi64 | exact stp_bit rfl rfl hrr | exact stp_eqBit rfl rfl); apply run_step rfl; (exact stp_pickF rfl rfl rfl); apply run_step rfl; (exact stp_assign rfl rfl); refine run_nil ?_; refine fin_block ?_; refine fin_seq ?_; refine goes_region ?_; apply run_step rfl; (exact stp_move rfl rfl); apply run_step rfl; (exact stp_add rfl rfl rfl (by first | exact IntWalk.i64_in _ (by omega) | rfl)); apply run_step rfl; (exact stp_assign rfl rfl); refine run_nil ?_)
          exact fin_round (i + 1) (by omega) (by omega) (Wk.of ⟨rfl, rfl, rfl, congrArg (fun z => some (vv (.bool z))) hv1.symm, congrArg (fun z => some (vv (.bool z))) hv2.symm, rfl, trivial⟩ ⟨rfl, trivial⟩ trivial)
  · obtain rfl : i = L + 1 := by omega
    have hv : admB zs set r = (gB r (pTo zs set (L + 1)) && rB r (pTo zs set (L + 1))) := by unfold admB comps; rw [all_gr, hL]
    rw [hv]
    cases hg : gB r (pTo zs set (L + 1)) with
    | true =>
      rw [Bool.true_and]
      (refine goes_exit ?_; refine fin_exit_then ?_; refine fin_exit_then ?_; refine fin_exit_eq ?_; refine fin_seq ?_; refine goes_seq ?_; refine goes_region ?_; apply run_step rfl; (exact stp_move rfl rfl); apply run_step rfl; (exact stp_move rfl rfl); apply run_gYes rfl rfl rfl; (exact stp_move rfl rfl); apply run_step rfl; (exact stp_pickT rfl rfl rfl); apply run_step rfl; (exact stp_assign rfl rfl); refine run_nil ?_; refine fin_seq ?_; refine goes_ret ?_)
      exact fin_ret1 (.inl rfl) rfl (.tmp rfl) trivial trivial
    | false =>
      rw [Bool.false_and]
      (refine goes_exit ?_; refine fin_exit_then ?_; refine fin_exit_then ?_; refine fin_exit_eq ?_; refine fin_seq ?_; refine goes_seq ?_; refine goes_region ?_; apply run_step rfl; (exact stp_move rfl rfl); apply run_step rfl; (exact stp_move rfl rfl); apply run_gNo rfl rfl rfl rfl rfl; apply run_step rfl; (exact stp_pickF rfl rfl rfl); apply run_step rfl; (exact stp_assign rfl rfl); refine run_nil ?_; refine fin_seq ?_; refine goes_ret ?_)
      exact fin_ret1 (.inl rfl) rfl (.tmp rfl) trivial trivial
end Go.Proofs.Ytnfkhgamnapgmaa

/- The errors of ringed diagrams; IsRinged. guards: -/
namespace Go.Proofs.Ytnfkhgamnapgmaa
open Go.RowKit

section
variable {P : Program} {nt : Nat} {S : St} {t : Nat} {ty : TypeId} {ps : String} {af : Array Edge} {gd : Option (Nat × Bool)} {x y : Operand}
theorem stp_shlX {xt yt : TypeId} {kk : IntKind} {g : Nat} (ht : Nat.blt t nt = true) (hx : S.op x = some (vv (I6 1))) (hy : S.op y = some (vv (.int kk (g : Int)))) :
    Stp P nt ⟨some t, .binOp .shl xt x y yt, ty, ps, af, gd⟩ S (S.put t (vv (I6 (IntKind.i64.wrap (1 * 2 ^ (min g 64)))))) :=
  Stp.pure rfl ht fun _ _ η _ s w hs => by
    refine ⟨I6 (IntKind.i64.wrap (1 * 2 ^ (min g 64))), ?_, rfl⟩
    have e : Op.shift .shl .i64 1 kk (g : Int) = pure (I6 (IntKind.i64.wrap (1 * 2 ^ (min g 64)))) := by
      unfold Op.shift
      rw [if_neg (by omega)]
      rfl
    simp [execOp, hs.opV hx, hs.opV hy, eqGuard, binOp, e]
end
/-- what the reference takes for the mask of all nodes, whatever the labels -/
def wholeV (L : Nat) : Int := IntKind.i64.wrap (IntKind.i64.wrap (1 * 2 ^ (min (L + 1) 64)) - 1)
set_option maxRecDepth 100000 in
theorem rank2_fc (zs : List Int) (L : Nat) (hn : L ≤ 4398046511104) : FC Try.prog 78 [(1003, wRo zs)] [o1 (.sl 1003 0 L)] [] (vv (I6 (L + 1 : Nat))) [] := by
  have hw : IntKind.i64.wrap ((L : Int) + 1) = ((L + 1 : Nat) : Int) := IntWalk.i64_in _ (by omega)
  have hw2 : IntKind.i64.wrap (L : Int) = (L : Int) := IntWalk.i64_in _ (by omega)
  refine fc_enter (nt := 6) Try.func78 rfl rfl (by simp) fun w0 ω0 => ?_
  (refine goes_seq ?_; refine goes_region ?_; apply run_step rfl; (exact stp_assign rfl rfl); refine run_nil ?_; refine fin_seq ?_; refine goes_seq ?_; refine goes_region ?_; apply run_step rfl; (exact stp_move rfl rfl); apply run_step rfl; (exact stp_len rfl rfl rfl (by as_aux_lemma => kernel_rfl)); apply run_step rfl; (first | exact stp_add rfl rfl rfl hw | exact stp_convN rfl rfl (by as_aux_lemma => kernel_rfl) (by as_aux_lemma => kernel_rfl) hw2); apply run_step rfl; (exact stp_assign rfl rfl); refine run_nil ?_; refine fin_seq ?_; refine goes_ret ?_)
  exact fin_ret1 (.inl rfl) rfl (.tmp rfl) trivial trivial
set_option maxRecDepth 100000 in
theorem whole2_fc (zs : List Int) (L : Nat) (hn : L ≤ 4398046511104) : FC Try.prog 77 [(1003, wRo zs)] [o1 (.sl 1003 0 L)] [] (vv (I6 (wholeV L))) [] := by
  have hR := rank2_fc zs L hn
  have hcv : IntKind.u64.wrap ((L + 1 : Nat) : Int) = ((L + 1 : Nat) : Int) := by rw [IntKind.wrap_u64]; omega
  refine fc_enter (nt := 8) Try.func77 rfl rfl (by simp) fun w0 ω0 => ?_
  (refine goes_seq ?_; refine goes_region ?_; apply run_step rfl; (exact stp_assign rfl rfl); refine run_nil ?_; refine fin_seq ?_; refine goes_seq ?_; refine goes_region ?_; apply run_step rfl; (exact stp_move rfl rfl); apply run_step rfl; (first | (apply call_gate 78; exact stp_callR hR (by as_aux_lemma => kernel_rfl) rfl rfl ⟨rfl, trivial⟩ ⟨⟨_, rfl, .inl rfl⟩, trivial⟩ rfl rfl) | exact stp_convN rfl rfl (by as_aux_lemma => kernel_rfl) (by as_aux_lemma => kernel_rfl) hcv | exact stp_shlX (g := L + 1) rfl rfl rfl | exact stp_sub rfl rfl rfl rfl); apply run_step rfl; (first | (apply call_gate 78; exact stp_callR hR (by as_aux_lemma => kernel_rfl) rfl rfl ⟨rfl, trivial⟩ ⟨⟨_, rfl, .inl rfl⟩, trivial⟩ rfl rfl) | exact stp_convN rfl rfl (by as_aux_lemma => kernel_rfl) (by as_aux_lemma => kernel_rfl) hcv | exact stp_shlX (g := L + 1) rfl rfl rfl | exact stp_sub rfl rfl rfl rfl); apply run_step rfl; (first | (apply call_gate 78; exact stp_callR hR (by as_aux_lemma => kernel_rfl) rfl rfl ⟨rfl, trivial⟩ ⟨⟨_, rfl, .inl rfl⟩, trivial⟩ rfl rfl) | exact stp_convN rfl rfl (by as_aux_lemma => kernel_rfl) (by as_aux_lemma => kernel_rfl) hcv | exact stp_shlX (g := L + 1) rfl rfl rfl | exact stp_sub rfl rfl rfl rfl); apply run_step rfl; (first | (apply call_gate 78; exact stp_callR hR (by as_aux_lemma => kernel_rfl) rfl rfl ⟨rfl, trivial⟩ ⟨⟨_, rfl, .inl rfl⟩, trivial⟩ rfl rfl) | exact stp_convN rfl rfl (by as_aux_lemma => kernel_rfl) (by as_aux_lemma => kernel_rfl) hcv | exact stp_shlX (g := L + 1) rfl rfl rfl | exact stp_sub rfl rfl rfl rfl); apply run_step rfl; (exact stp_assign rfl rfl); refine run_nil ?_; refine fin_seq ?_; refine goes_ret ?_)
  exact fin_ret1 (.inl rfl) rfl (.tmp rfl) trivial trivial
/-- the error of a ringed diagram -/
def ringC (zs : List Int) (m : Int) : Int := if isDiag zs = true then (if inB m 0 (allN zs) = true then (if finB zs (allN zs) = true then (if admB zs (allN zs) m.toNat = true then 0 else 5) else 5) else 2) else 1
theorem ringC_no {zs : List Int} {m : Int} (hd : isDiag zs = false) : ringC zs m = 1 := by unfold ringC; rw [hd, if_neg (by simp)]
theorem ringC_out {zs : List Int} {m : Int} (hd : isDiag zs = true) (hb : inB m 0 (allN zs) = false) : ringC zs m = 2 := by unfold ringC; rw [hd, if_pos rfl, hb, if_neg (by simp)]
theorem ringC_inf {zs : List Int} {k : Nat} (hd : isDiag zs = true) (hb : inB (k : Int) 0 (allN zs) = true) (hf : finB zs (allN zs) = false) : ringC zs k = 5 := by unfold ringC; rw [hd, if_pos rfl, hb, if_pos rfl, hf, if_neg (by simp)]
theorem ringC_in {zs : List Int} {k : Nat} (hd : isDiag zs = true) (hb : inB (k : Int) 0 (allN zs) = true) (hf : finB zs (allN zs) = true) : ringC zs k = if admB zs (allN zs) k = true then 0 else 5 := by unfold ringC; rw [hd, if_pos rfl, hb, if_pos rfl, hf, if_pos rfl, Int.toNat_natCast]
theorem finC_diag {zs : List Int} (hd : isDiag zs = true) : maskC zs (allN zs) = if finB zs (allN zs) = true then 0 else 5 := finC_in zs hd
set_option maxRecDepth 100000 in
set_option maxHeartbeats 1000000 in
theorem codeS_fc (zs : List Int) (L : Nat) (m : Int) (hL : zs.length = L) (hn : L ≤ 4398046511104) :
    FC Try.prog 71 [(1003, wRo zs)] [o1 (.sl 1003 0 L), vv (I6 m)] [] (vv (I6 (ringC zs m))) [] := by
  have hI := diagS_fc zs L hL hn
  refine fc_enter (nt := 31) Try.func71 rfl rfl (by simp) fun w0 ω0 => ?_
  cases hd : isDiag zs with
  | false =>
    rw [hd] at hI
    have hW := whole2_fc zs L hn
    have hM := maskS_fc zs L (wholeV L) hL hn
    rw [ringC_no hd]
    (refine goes_seq ?_; refine goes_region ?_; apply run_step rfl; (exact stp_assign rfl rfl); refine run_nil ?_; refine fin_seq ?_; refine goes_seq ?_; refine goes_region ?_; apply run_step rfl; (exact stp_move rfl rfl); apply run_step rfl; (exact stp_move rfl rfl); apply run_step rfl; (first | (apply call_gate 77; exact stp_callR hW (by as_aux_lemma => kernel_rfl) rfl rfl ⟨rfl, trivial⟩ ⟨⟨_, rfl, .inl rfl⟩, trivial⟩ rfl rfl) | (apply call_gate 130; exact stp_callR hM (by as_aux_lemma => kernel_rfl) rfl rfl ⟨rfl, rfl, trivial⟩ ⟨⟨_, rfl, .inl rfl⟩, trivial⟩ rfl rfl) | (apply call_gate 75; exact stp_callR hI (by as_aux_lemma => kernel_rfl) rfl rfl ⟨rfl, trivial⟩ ⟨⟨_, rfl, .inl rfl⟩, trivial⟩ rfl rfl)); apply run_step rfl; (first | (apply call_gate 77; exact stp_callR hW (by as_aux_lemma => kernel_rfl) rfl rfl ⟨rfl, trivial⟩ ⟨⟨_, rfl, .inl rfl⟩, trivial⟩ rfl rfl) | (apply call_gate 130; exact stp_callR hM (by as_aux_lemma => kernel_rfl) rfl rfl ⟨rfl, rfl, trivial⟩ ⟨⟨_, rfl, .inl rfl⟩, trivial⟩ rfl rfl) | (apply call_gate 75; exact stp_callR hI (by as_aux_lemma => kernel_rfl) rfl rfl ⟨rfl, trivial⟩ ⟨⟨_, rfl, .inl rfl⟩, trivial⟩ rfl rfl)); apply run_step rfl; (exact stp_assign rfl rfl); refine run_nil ?_; refine fin_seq ?_; refine goes_seq ?_; refine goes_block ?_; refine goes_seq ?_; refine goes_region ?_; apply run_step rfl; (exact stp_move rfl rfl); apply run_step rfl; (first | (apply call_gate 77; exact stp_callR hW (by as_aux_lemma => kernel_rfl) rfl rfl ⟨rfl, trivial⟩ ⟨⟨_, rfl, .inl rfl⟩, trivial⟩ rfl rfl) | (apply call_gate 130; exact stp_callR hM (by as_aux_lemma => kernel_rfl) rfl rfl ⟨rfl, rfl, trivial⟩ ⟨⟨_, rfl, .inl rfl⟩, trivial⟩ rfl rfl) | (apply call_gate 75; exact stp_callR hI (by as_aux_lemma => kernel_rfl) rfl rfl ⟨rfl, trivial⟩ ⟨⟨_, rfl, .inl rfl⟩, trivial⟩ rfl rfl)); apply run_step rfl; (exact stp_not rfl rfl); apply run_step rfl; (exact stp_assign rfl rfl); refine run_nil ?_; refine fin_seq ?_)
    refine goes_cond rfl (fun _ => ?_) (fun e => by cases e)
    (refine goes_seq ?_; refine goes_region ?_; apply run_step rfl; (exact stp_assign rfl rfl); refine run_nil ?_; refine fin_seq ?_; refine goes_ret ?_; refine fin_ret_block ?_; refine fin_ret_then ?_)
    exact fin_ret1 (.inl rfl) rfl (.tmp rfl) trivial trivial
  | true =>
    rw [hd] at hI
    have h4 : L ≤ 4 := by have := isDiag_len hd; omega
    have hW := wholeS_fc zs L hL h4
    have hM := maskS_fc zs L (allN zs) hL hn
    rw [finC_diag hd] at hM
    have hIn := in_fc m 0 (allN zs)
    cases hb : inB m 0 (allN zs) with
    | false =>
      rw [hb] at hIn
      rw [ringC_out hd hb]
      (refine goes_seq ?_; refine goes_region ?_; apply run_step rfl; (exact stp_assign rfl rfl); refine run_nil ?_; refine fin_seq ?_; refine goes_seq ?_; refine goes_region ?_; apply run_step rfl; (exact stp_move rfl rfl); apply run_step rfl; (exact stp_move rfl rfl); apply run_step rfl; (first | (apply call_gate 77; exact stp_callR hW (by as_aux_lemma => kernel_rfl) rfl rfl ⟨rfl, trivial⟩ ⟨⟨_, rfl, .inl rfl⟩, trivial⟩ rfl rfl) | (apply call_gate 130; exact stp_callR hM (by as_aux_lemma => kernel_rfl) rfl rfl ⟨rfl, rfl, trivial⟩ ⟨⟨_, rfl, .inl rfl⟩, trivial⟩ rfl rfl) | (apply call_gate 75; exact stp_callR hI (by as_aux_lemma => kernel_rfl) rfl rfl ⟨rfl, trivial⟩ ⟨⟨_, rfl, .inl rfl⟩, trivial⟩ rfl rfl)); apply run_step rfl; (first | (apply call_gate 77; exact stp_callR hW (by as_aux_lemma => kernel_rfl) rfl rfl ⟨rfl, trivial⟩ ⟨⟨_, rfl, .inl rfl⟩, trivial⟩ rfl rfl) | (apply call_gate 130; exact stp_callR hM (by as_aux_lemma => kernel_rfl) rfl rfl ⟨rfl, rfl, trivial⟩ ⟨⟨_, rfl, .inl rfl⟩, trivial⟩ rfl rfl) | (apply call_gate 75; exact stp_callR hI (by as_aux_lemma => kernel_rfl) rfl rfl ⟨rfl, trivial⟩ ⟨⟨_, rfl, .inl rfl⟩, trivial⟩ rfl rfl)); apply run_step rfl; (exact stp_assign rfl rfl); refine run_nil ?_; refine fin_seq ?_; refine goes_seq ?_; refine goes_block ?_; refine goes_seq ?_; refine goes_region ?_; apply run_step rfl; (exact stp_move rfl rfl); apply run_step rfl; (first | (apply call_gate 77; exact stp_callR hW (by as_aux_lemma => kernel_rfl) rfl rfl ⟨rfl, trivial⟩ ⟨⟨_, rfl, .inl rfl⟩, trivial⟩ rfl rfl) | (apply call_gate 130; exact stp_callR hM (by as_aux_lemma => kernel_rfl) rfl rfl ⟨rfl, rfl, trivial⟩ ⟨⟨_, rfl, .inl rfl⟩, trivial⟩ rfl rfl) | (apply call_gate 75; exact stp_callR hI (by as_aux_lemma => kernel_rfl) rfl rfl ⟨rfl, trivial⟩ ⟨⟨_, rfl, .inl rfl⟩, trivial⟩ rfl rfl)); apply run_step rfl; (exact stp_not rfl rfl); apply run_step rfl; (exact stp_assign rfl rfl); refine run_nil ?_; refine fin_seq ?_)
      refine goes_cond rfl (fun e => by cases e) (fun _ => ?_)
      (refine goes_seq ?_; refine goes_region ?_; apply run_step rfl; (exact stp_move rfl rfl); apply run_step rfl; (exact stp_move rfl rfl); apply run_step rfl; (first | (apply call_gate 77; exact stp_callR hW (by as_aux_lemma => kernel_rfl) rfl rfl ⟨rfl, trivial⟩ ⟨⟨_, rfl, .inl rfl⟩, trivial⟩ rfl rfl) | (apply call_gate 76; exact stp_callR hIn (by as_aux_lemma => kernel_rfl) rfl rfl ⟨rfl, rfl, rfl, trivial⟩ trivial rfl rfl)); apply run_step rfl; (first | (apply call_gate 77; exact stp_callR hW (by as_aux_lemma => kernel_rfl) rfl rfl ⟨rfl, trivial⟩ ⟨⟨_, rfl, .inl rfl⟩, trivial⟩ rfl rfl) | (apply call_gate 76; exact stp_callR hIn (by as_aux_lemma => kernel_rfl) rfl rfl ⟨rfl, rfl, rfl, trivial⟩ trivial rfl rfl)); apply run_step rfl; (exact stp_not rfl rfl); apply run_step rfl; (exact stp_assign rfl rfl); refine run_nil ?_; refine fin_seq ?_)
      refine goes_cond rfl (fun _ => ?_) (fun e => by cases e)
      (refine goes_seq ?_; refine goes_region ?_; apply run_step rfl; (exact stp_assign rfl rfl); refine run_nil ?_; refine fin_seq ?_; refine goes_ret ?_; refine fin_ret_block ?_; refine fin_ret_then ?_)
      exact fin_ret1 (.inl rfl) rfl (.tmp rfl) trivial trivial
    | true =>
      rw [hb] at hIn
      have hlt := allN_lt (zs := zs) (by omega)
      have hbb := inB_true.1 hb
      obtain ⟨k, rfl⟩ := Int.eq_ofNat_of_zero_le hbb.1
      have hG := rng_fc zs L (allN zs) k hL h4 (by omega) (by omega)
      (refine goes_seq ?_; refine goes_region ?_; apply run_step rfl; (exact stp_assign rfl rfl); refine run_nil ?_; refine fin_seq ?_; refine goes_seq ?_; refine goes_region ?_; apply run_step rfl; (exact stp_move rfl rfl); apply run_step rfl; (exact stp_move rfl rfl); apply run_step rfl; (first | (apply call_gate 77; exact stp_callR hW (by as_aux_lemma => kernel_rfl) rfl rfl ⟨rfl, trivial⟩ ⟨⟨_, rfl, .inl rfl⟩, trivial⟩ rfl rfl) | (apply call_gate 130; exact stp_callR hM (by as_aux_lemma => kernel_rfl) rfl rfl ⟨rfl, rfl, trivial⟩ ⟨⟨_, rfl, .inl rfl⟩, trivial⟩ rfl rfl) | (apply call_gate 75; exact stp_callR hI (by as_aux_lemma => kernel_rfl) rfl rfl ⟨rfl, trivial⟩ ⟨⟨_, rfl, .inl rfl⟩, trivial⟩ rfl rfl)); apply run_step rfl; (first | (apply call_gate 77; exact stp_callR hW (by as_aux_lemma => kernel_rfl) rfl rfl ⟨rfl, trivial⟩ ⟨⟨_, rfl, .inl rfl⟩, trivial⟩ rfl rfl) | (apply call_gate 130; exact stp_callR hM (by as_aux_lemma => kernel_rfl) rfl rfl ⟨rfl, rfl, trivial⟩ ⟨⟨_, rfl, .inl rfl⟩, trivial⟩ rfl rfl) | (apply call_gate 75; exact stp_callR hI (by as_aux_lemma => kernel_rfl) rfl rfl ⟨rfl, trivial⟩ ⟨⟨_, rfl, .inl rfl⟩, trivial⟩ rfl rfl)); apply run_step rfl; (exact stp_assign rfl rfl); refine run_nil ?_; refine fin_seq ?_; refine goes_seq ?_; refine goes_block ?_; refine goes_seq ?_; refine goes_region ?_; apply run_step rfl; (exact stp_move rfl rfl); apply run_step rfl; (first | (apply call_gate 77; exact stp_callR hW (by as_aux_lemma => kernel_rfl) rfl rfl ⟨rfl, trivial⟩ ⟨⟨_, rfl, .inl rfl⟩, trivial⟩ rfl rfl) | (apply call_gate 130; exact stp_callR hM (by as_aux_lemma => kernel_rfl) rfl rfl ⟨rfl, rfl, trivial⟩ ⟨⟨_, rfl, .inl rfl⟩, trivial⟩ rfl rfl) | (apply call_gate 75; exact stp_callR hI (by as_aux_lemma => kernel_rfl) rfl rfl ⟨rfl, trivial⟩ ⟨⟨_, rfl, .inl rfl⟩, trivial⟩ rfl rfl)); apply run_step rfl; (exact stp_not rfl rfl); apply run_step rfl; (exact stp_assign rfl rfl); refine run_nil ?_; refine fin_seq ?_)
      refine goes_cond rfl (fun e => by cases e) (fun _ => ?_)
      (refine goes_seq ?_; refine goes_region ?_; apply run_step rfl; (exact stp_move rfl rfl); apply run_step rfl; (exact stp_move rfl rfl); apply run_step rfl; (first | (apply call_gate 77; exact stp_callR hW (by as_aux_lemma => kernel_rfl) rfl rfl ⟨rfl, trivial⟩ ⟨⟨_, rfl, .inl rfl⟩, trivial⟩ rfl rfl) | (apply call_gate 76; exact stp_callR hIn (by as_aux_lemma => kernel_rfl) rfl rfl ⟨rfl, rfl, rfl, trivial⟩ trivial rfl rfl)); apply run_step rfl; (first | (apply call_gate 77; exact stp_callR hW (by as_aux_lemma => kernel_rfl) rfl rfl ⟨rfl, trivial⟩ ⟨⟨_, rfl, .inl rfl⟩, trivial⟩ rfl rfl) | (apply call_gate 76; exact stp_callR hIn (by as_aux_lemma => kernel_rfl) rfl rfl ⟨rfl, rfl, rfl, trivial⟩ trivial rfl rfl)); apply run_step rfl; (exact stp_not rfl rfl); apply run_step rfl; (exact stp_assign rfl rfl); refine run_nil ?_; refine fin_seq ?_)
      refine goes_cond rfl (fun e => by cases e) (fun _ => ?_)
      cases hf : finB zs (allN zs) with
      | false =>
        rw [ringC_inf hd hb hf, if_neg (show ¬ (false = true) by simp)]
        (refine goes_seq ?_; refine goes_region ?_; apply run_step rfl; (exact stp_move rfl rfl); apply run_step rfl; (exact stp_bin rfl rfl rfl rfl); apply run_step rfl; (exact stp_assign rfl rfl); refine run_nil ?_; refine fin_seq ?_)
        refine goes_cond rfl (fun _ => ?_) (fun e => by cases e)
        (refine goes_seq ?_; refine goes_region ?_; apply run_step rfl; (exact stp_move rfl rfl); apply run_step rfl; (exact stp_assign rfl rfl); refine run_nil ?_; refine fin_seq ?_; refine goes_ret ?_; refine fin_ret_block ?_; refine fin_ret_then ?_)
        exact fin_ret1 (.inl rfl) rfl (.tmp rfl) trivial trivial
      | true =>
        rw [ringC_in hd hb hf, if_pos (show true = true from rfl)]
        (refine goes_seq ?_; refine goes_region ?_; apply run_step rfl; (exact stp_move rfl rfl); apply run_step rfl; (exact stp_bin rfl rfl rfl rfl); apply run_step rfl; (exact stp_assign rfl rfl); refine run_nil ?_; refine fin_seq ?_)
        refine goes_cond rfl (fun e => by cases e) (fun _ => ?_)
        (refine goes_seq ?_; refine goes_region ?_; apply run_step rfl; (exact stp_move rfl rfl); apply run_step rfl; (exact stp_move rfl rfl); apply run_step rfl; (first | (apply call_gate 77; exact stp_callR hW (by as_aux_lemma => kernel_rfl) rfl rfl ⟨rfl, trivial⟩ ⟨⟨_, rfl, .inl rfl⟩, trivial⟩ rfl rfl) | (apply call_gate 131; exact stp_callR hG (by as_aux_lemma => kernel_rfl) rfl rfl ⟨rfl, rfl, rfl, trivial⟩ ⟨⟨_, rfl, .inl rfl⟩, trivial⟩ rfl rfl)); apply run_step rfl; (exact stp_move rfl rfl); apply run_step rfl; (first | (apply call_gate 77; exact stp_callR hW (by as_aux_lemma => kernel_rfl) rfl rfl ⟨rfl, trivial⟩ ⟨⟨_, rfl, .inl rfl⟩, trivial⟩ rfl rfl) | (apply call_gate 131; exact stp_callR hG (by as_aux_lemma => kernel_rfl) rfl rfl ⟨rfl, rfl, rfl, trivial⟩ ⟨⟨_, rfl, .inl rfl⟩, trivial⟩ rfl rfl)); apply run_step rfl; (exact stp_not rfl rfl); apply run_step rfl; (exact stp_assign rfl rfl); refine run_nil ?_; refine fin_seq ?_)
        refine goes_cond rfl (fun h => ?_) (fun h => ?_)
        · have ha : admB zs (allN zs) k = false := by simpa using h
          rw [ha, if_neg (by simp)]
          (refine goes_seq ?_; refine goes_region ?_; apply run_step rfl; (exact stp_assign rfl rfl); refine run_nil ?_; refine fin_seq ?_; refine goes_ret ?_; refine fin_ret_block ?_; refine fin_ret_then ?_)
          exact fin_ret1 (.inl rfl) rfl (.tmp rfl) trivial trivial
        · have ha : admB zs (allN zs) k = true := by simpa using h
          rw [ha, if_pos rfl]
          (refine goes_skip ?_; refine fin_block ?_; refine fin_seq ?_; refine goes_seq ?_; refine goes_region ?_; apply run_step rfl; (exact stp_assign rfl rfl); refine run_nil ?_; refine fin_seq ?_; refine goes_ret ?_)
          exact fin_ret1 (.inl rfl) rfl (.tmp rfl) trivial trivial
end Go.Proofs.Ytnfkhgamnapgmaa
