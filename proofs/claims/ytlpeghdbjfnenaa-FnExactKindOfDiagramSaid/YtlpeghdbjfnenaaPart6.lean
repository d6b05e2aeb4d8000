/- The components of a diagram, the reference's: l12Parts. guards: -/
import Derived.Test.YtlpeghdbjfnenaaPart1
import Derived.Test.YtlpeghdbjfnenaaPart3
import Derived.Test.YtlpeghdbjfnenaaPart4
import Derived.Test.YtlpeghdbjfnenaaPart5
import Derived.Laws.CopyOwn
import Derived.Deep.RegionLaw
import Derived.RegionTactic
import Derived.Deep.RegionHeld3
namespace Go.Proofs.Ytlpeghdbjfnenaa
open Go.RowKit

/-- components as rows: their labels -/
def rowsP (ps : Cmps) : List (List Int) := ps.map (·.2)
abbrev rwOw (ps : Cmps) : Ch := ⟨true, 31, 1, .rows 2 (irows (rowsP ps)) []⟩
theorem rowsP_len (ps : Cmps) : (rowsP ps).length = ps.length := by simp [rowsP]
theorem rowsP_get {ps : Cmps} {k : Nat} (h : k < ps.length) : lget (rowsP ps) k = (cget ps k).2 := by simp [rowsP, lget, cget, h]
theorem irowsP_get {ps : Cmps} {k : Nat} (h : k < ps.length) : (irows (rowsP ps))[k]? = some (ivals (cget ps k).2) := by rw [← rowsP_get h]; exact irows_get (by rw [rowsP_len]; exact h)
theorem rowsP_set (ps : Cmps) (k : Nat) (p : Nat × List Int) : (irows (rowsP ps)).set k (ivals p.2) = irows (rowsP (ps.set k p)) := by
  rw [irows_set]; unfold rowsP; rw [List.map_set]
set_option maxRecDepth 100000 in
theorem rankS_fc (zs : List Int) (L : Nat) (h4 : L ≤ 4) : FC Try.prog 103 [(1003, wRo zs)] [o1 (.sl 1003 0 L)] [] (vv (I6 (L + 1 : Nat))) [] := by
  have hw : IntKind.i64.wrap ((L : Int) + 1) = ((L + 1 : Nat) : Int) := IntWalk.i64_in _ (by omega)
  refine fc_enter (nt := 6) Try.func103 rfl rfl (by simp) fun w0 ω0 => ?_
  (refine goes_seq ?_; refine goes_region ?_; apply run_step rfl; (exact stp_assign rfl rfl); refine run_nil ?_; refine fin_seq ?_; refine goes_seq ?_; refine goes_region ?_; apply run_step rfl; (exact stp_move rfl rfl); apply run_step rfl; (exact stp_len rfl rfl rfl (by as_aux_lemma => kernel_rfl)); apply run_step rfl; (first | exact stp_add rfl rfl rfl hw | exact stp_convN rfl rfl (by as_aux_lemma => kernel_rfl) (by as_aux_lemma => kernel_rfl) rfl); apply run_step rfl; (exact stp_assign rfl rfl); refine run_nil ?_; refine fin_seq ?_; refine goes_ret ?_)
  exact fin_ret1 (.inl rfl) rfl (.tmp rfl) trivial trivial
set_option maxRecDepth 100000 in
set_option maxHeartbeats 2000000 in
theorem parts_fc (zs : List Int) (L mask : Nat) (hL : zs.length = L) (h4 : L ≤ 4) (hm : mask < 1000) :
    FC Try.prog 79 [(1003, wRo zs)] [o1 (.sl 1003 0 L), vv (I6 mask)] [(8, rwOw (comps zs mask))] (o1 (.sl 8 0 (comps zs mask).length)) [] := by
  have hR := rankS_fc zs L h4
  refine fc_enter (nt := 62) Try.func79 rfl rfl (by simp) fun w0 ω0 => ?_
  have hil : L ≤ (ivals zs).length := by rw [ivals_len, hL]; exact Nat.le_refl _
  (refine goes_seq ?_; refine goes_region ?_; apply run_step rfl; (exact stp_assign rfl rfl); refine run_nil ?_; refine fin_seq ?_; refine goes_seq ?_; refine goes_region ?_; apply run_step rfl; (exact stp_lit0R (E := 31) (F := 2) rfl (by as_aux_lemma => kernel_rfl)); apply run_step rfl; (exact stp_assign rfl rfl); refine run_nil ?_; refine fin_seq ?_; refine goes_seq ?_; refine goes_seq ?_; refine goes_region ?_; apply run_step rfl; (exact stp_assign rfl rfl); refine run_nil ?_; refine fin_seq ?_; refine goes_block ?_)
  refine goes_loop (fun q : Nat × Cmps => St.of [(0, o1 (.sl 1003 0 L)), (1, vv (I6 mask)), (5, o1 (.sl 8 0 q.2.length)), (6, vv (I6 q.1))] [(1003, wRo zs), (8, rwOw q.2)])
    (fun q => q.1 ≤ L + 1 ∧ pTo zs mask q.1 = q.2) (fun q => L + 1 - q.1) (0, []) ⟨Nat.zero_le _, rfl⟩ (Wk.of ⟨rfl, rfl, rfl, rfl, trivial⟩ ⟨rfl, rfl, trivial⟩ trivial) ?_
  rintro ⟨i, ps⟩ ⟨hi, hp⟩
  dsimp only at hi hp ⊢
  have hps := pTo_ok zs mask i (by omega)
  have hnx := pTo_succ zs mask i
  rw [hp] at hps hnx
  have hpl : ps.length ≤ 5 := by have := csum_len ps; have := hps.sum; omega
  have hrx := rowsP_len ps
  (refine goes_seq ?_; refine goes_seq ?_; refine goes_region ?_; apply run_step rfl; (exact stp_move rfl rfl); apply run_step rfl; (exact stp_move rfl rfl); apply run_step rfl; (apply call_gate 103; exact stp_callR hR (by as_aux_lemma => kernel_rfl) rfl rfl ⟨rfl, trivial⟩ ⟨⟨_, rfl, .inl rfl⟩, trivial⟩ rfl rfl); apply run_step rfl; (exact stp_bin rfl rfl rfl rfl); refine run_nil ?_; refine fin_seq ?_)
  refine goes_if rfl (fun hlt => ?_) (fun hlt => ?_)
  · have hiL : i ≤ L := by omega
    have hi64 : i ≤ 64 := by omega
    have hmm : mask < 1000000 := by omega
    have hcv : IntKind.u64.wrap (i : Int) = (i : Int) := by rw [IntKind.wrap_u64]; omega
    (refine goes_skip ?_; refine fin_seq ?_; refine goes_seq ?_; refine goes_block ?_; refine goes_seq ?_; refine goes_seq ?_; refine goes_region ?_; apply run_step rfl; (exact stp_move rfl rfl); apply run_step rfl; (exact stp_move rfl rfl); apply run_step rfl; (first | exact stp_convN rfl rfl (by as_aux_lemma => kernel_rfl) (by as_aux_lemma => kernel_rfl) hcv | exact stp_shrN (g := i) rfl rfl rfl hi64 | exact stp_bit rfl rfl hmm | exact stp_eqBit0 rfl rfl); apply run_step rfl; (first | exact stp_convN rfl rfl (by as_aux_lemma => kernel_rfl) (by as_aux_lemma => kernel_rfl) hcv | exact stp_shrN (g := i) rfl rfl rfl hi64 | exact stp_bit rfl rfl hmm | exact stp_eqBit0 rfl rfl); apply run_step rfl; (first | exact stp_convN rfl rfl (by as_aux_lemma => kernel_rfl) (by as_aux_lemma => kernel_rfl) hcv | exact stp_shrN (g := i) rfl rfl rfl hi64 | exact stp_bit rfl rfl hmm | exact stp_eqBit0 rfl rfl); apply run_step rfl; (first | exact stp_convN rfl rfl (by as_aux_lemma => kernel_rfl) (by as_aux_lemma => kernel_rfl) hcv | exact stp_shrN (g := i) rfl rfl rfl hi64 | exact stp_bit rfl rfl hmm | exact stp_eqBit0 rfl rfl); refine run_nil ?_; refine fin_seq ?_)
    refine goes_cond rfl (fun hb => ?_) (fun hb => ?_)
    · have hb : mBit mask i = false := by simpa using hb
      have hv : pTo zs mask (i + 1) = ps := by rw [hnx]; unfold pStep; rw [if_neg (by rw [hb]; simp)]
      (refine goes_exit ?_; refine fin_exit_then ?_; refine fin_exit_eq ?_; refine fin_seq ?_; refine goes_region ?_; apply run_step rfl; (exact stp_move rfl rfl); apply run_step rfl; (exact stp_add rfl rfl rfl (by first | exact IntWalk.i64_in _ (by omega) | rfl)); apply run_step rfl; (exact stp_assign rfl rfl); refine run_nil ?_)
      exact fin_round (i + 1, ps) ⟨by omega, hv⟩ (by show L + 1 - (i + 1) < L + 1 - i; omega) (Wk.of ⟨rfl, rfl, rfl, rfl, trivial⟩ ⟨rfl, rfl, trivial⟩ trivial)
    · have hb : mBit mask i = true := by simpa using hb
      unfold pStep at hnx
      rw [if_pos hb] at hnx
      (repeat (first | refine goes_seq ?_ | refine fin_seq ?_ | refine goes_skip ?_ | refine goes_block ?_ | refine fin_block ?_ | refine goes_exit ?_ | refine fin_exit_eq ?_ | refine fin_exit_ne rfl ?_ | refine fin_exit_then ?_))
      refine goes_cut (St.of [(0, o1 (.sl 1003 0 L)), (1, vv (I6 mask)), (5, o1 (.sl 8 0 ps.length)), (6, vv (I6 i)), (39, vv (.bool (jn zs mask i)))] [(1003, wRo zs), (8, rwOw ps)]) ?_ ?_
      · refine goes_region ?_
        (apply run_step rfl; (exact stp_move rfl rfl); apply run_step rfl; (exact stp_bin rfl rfl rfl rfl); apply run_step rfl; (exact stp_move rfl rfl))
        refine run_bool 23 rfl (fun h1 => ?_) (fun h1 => ?_)
        · have hi0 : 0 < i := by have := of_decide_eq_true h1; omega
          have hsb : IntKind.i64.wrap ((i : Int) - 1) = ((i - 1 : Nat) : Int) := (IntWalk.i64_in _ (by omega)).trans (by omega)
          have hcv1 : IntKind.u64.wrap ((i - 1 : Nat) : Int) = ((i - 1 : Nat) : Int) := by rw [IntKind.wrap_u64]; omega
          have hi64' : i - 1 ≤ 64 := by omega
          (apply run_gYes rfl rfl rfl; (exact stp_move rfl rfl); apply run_gYes rfl rfl rfl; (exact stp_move rfl rfl); apply run_gYes rfl rfl rfl; (first | exact stp_sub rfl rfl rfl hsb | exact stp_convN rfl rfl (by as_aux_lemma => kernel_rfl) (by as_aux_lemma => kernel_rfl) hcv1 | exact stp_shrN (g := i - 1) rfl rfl rfl hi64' | exact stp_bit rfl rfl hmm | exact stp_eqBit rfl rfl); apply run_gYes rfl rfl rfl; (first | exact stp_sub rfl rfl rfl hsb | exact stp_convN rfl rfl (by as_aux_lemma => kernel_rfl) (by as_aux_lemma => kernel_rfl) hcv1 | exact stp_shrN (g := i - 1) rfl rfl rfl hi64' | exact stp_bit rfl rfl hmm | exact stp_eqBit rfl rfl); apply run_gYes rfl rfl rfl; (first | exact stp_sub rfl rfl rfl hsb | exact stp_convN rfl rfl (by as_aux_lemma => kernel_rfl) (by as_aux_lemma => kernel_rfl) hcv1 | exact stp_shrN (g := i - 1) rfl rfl rfl hi64' | exact stp_bit rfl rfl hmm | exact stp_eqBit rfl rfl); apply run_gYes rfl rfl rfl; (first | exact stp_sub rfl rfl rfl hsb | exact stp_convN rfl rfl (by as_aux_lemma => kernel_rfl) (by as_aux_lemma => kernel_rfl) hcv1 | exact stp_shrN (g := i - 1) rfl rfl rfl hi64' | exact stp_bit rfl rfl hmm | exact stp_eqBit rfl rfl); apply run_gYes rfl rfl rfl; (first | exact stp_sub rfl rfl rfl hsb | exact stp_convN rfl rfl (by as_aux_lemma => kernel_rfl) (by as_aux_lemma => kernel_rfl) hcv1 | exact stp_shrN (g := i - 1) rfl rfl rfl hi64' | exact stp_bit rfl rfl hmm | exact stp_eqBit rfl rfl); apply run_step rfl; (exact stp_pickT rfl rfl rfl); apply run_step rfl; (exact stp_move rfl rfl))
          refine run_bool 32 rfl (fun h2 => ?_) (fun h2 => ?_)
          · have gz : (ivals zs)[i - 1]? = some (I6 (iget zs (i - 1))) := ivals_get (by omega)
            have hv : jn zs mask i = (iget zs (i - 1) != 2) := by unfold jn; rw [decide_eq_true hi0, h2]; rfl
            rw [hv]
            (apply run_gYes rfl rfl rfl; (exact stp_move rfl rfl); apply run_gYes rfl rfl rfl; (exact stp_move rfl rfl); apply run_gYes rfl rfl rfl; (first | exact stp_sub rfl rfl rfl hsb | exact stp_ix (j := i - 1) rfl rfl rfl rfl rfl (by as_aux_lemma => kernel_rfl) rfl (by omega) hil | exact stp_loadV rfl (by as_aux_lemma => kernel_rfl) rfl rfl rfl gz); apply run_gYes rfl rfl rfl; (first | exact stp_sub rfl rfl rfl hsb | exact stp_ix (j := i - 1) rfl rfl rfl rfl rfl (by as_aux_lemma => kernel_rfl) rfl (by omega) hil | exact stp_loadV rfl (by as_aux_lemma => kernel_rfl) rfl rfl rfl gz); apply run_gYes rfl rfl rfl; (first | exact stp_sub rfl rfl rfl hsb | exact stp_ix (j := i - 1) rfl rfl rfl rfl rfl (by as_aux_lemma => kernel_rfl) rfl (by omega) hil | exact stp_loadV rfl (by as_aux_lemma => kernel_rfl) rfl rfl rfl gz); apply run_gYes rfl rfl rfl; (exact stp_bin rfl rfl rfl rfl); apply run_step rfl; (exact stp_pickT rfl rfl rfl); refine run_nil ?_)
            exact fin_join (Wk.of ⟨rfl, rfl, rfl, rfl, rfl, trivial⟩ ⟨rfl, rfl, trivial⟩ trivial)
          · have hv : jn zs mask i = false := by unfold jn; rw [h2]; simp
            rw [hv]
            (apply run_gNo rfl rfl rfl rfl rfl; apply run_gNo rfl rfl rfl rfl rfl; apply run_gNo rfl rfl rfl rfl rfl; apply run_gNo rfl rfl rfl rfl rfl; apply run_gNo rfl rfl rfl rfl rfl; apply run_gNo rfl rfl rfl rfl rfl; apply run_step rfl; (exact stp_pickF rfl rfl rfl); refine run_nil ?_)
            exact fin_join (Wk.of ⟨rfl, rfl, rfl, rfl, rfl, trivial⟩ ⟨rfl, rfl, trivial⟩ trivial)
        · have hv : jn zs mask i = false := by
            have : ¬ 0 < i := by have := of_decide_eq_false h1; omega
            unfold jn; rw [decide_eq_false this]; rfl
          rw [hv]
          (apply run_gNo rfl rfl rfl rfl rfl; apply run_gNo rfl rfl rfl rfl rfl; apply run_gNo rfl rfl rfl rfl rfl; apply run_gNo rfl rfl rfl rfl rfl; apply run_gNo rfl rfl rfl rfl rfl; apply run_gNo rfl rfl rfl rfl rfl; apply run_gNo rfl rfl rfl rfl rfl; apply run_step rfl; (exact stp_pickF rfl rfl rfl); apply run_step rfl; (exact stp_move rfl rfl); apply run_gNo rfl rfl rfl rfl rfl; apply run_gNo rfl rfl rfl rfl rfl; apply run_gNo rfl rfl rfl rfl rfl; apply run_gNo rfl rfl rfl rfl rfl; apply run_gNo rfl rfl rfl rfl rfl; apply run_gNo rfl rfl rfl rfl rfl; apply run_step rfl; (exact stp_pickF rfl rfl rfl); refine run_nil ?_)
          exact fin_join (Wk.of ⟨rfl, rfl, rfl, rfl, rfl, trivial⟩ ⟨rfl, rfl, trivial⟩ trivial)
      (refine fin_seq ?_)
      refine goes_cond rfl (fun hjb => ?_) (fun hjb => ?_)
      · have hjs := jn_spec hjb
        have hne := hps.ne hjs.1 hjs.2.1
        obtain ⟨j, hjl⟩ : ∃ j, ps.length = j + 1 := ⟨ps.length - 1, by omega⟩
        have hjp : j < ps.length := by omega
        have hv : pTo zs mask (i + 1) = ps.set j ((cget ps j).1 ||| 2 ^ i, (cget ps j).2 ++ [iget zs (i - 1)]) := by
          rw [hnx, if_pos hjb]; unfold pLast; rw [show ps.length - 1 = j by omega]
        have hsub : IntKind.i64.wrap ((ps.length : Int) - 1) = (j : Int) := by rw [hjl]; exact (IntWalk.i64_in _ (by omega)).trans (by omega)
        have hrj := irowsP_get hjp
        have hllt := csum_le (cget_mem hjp)
        have hsum := hps.sum
        have hfin0 := rowsP_set ps j ((cget ps j).1 ||| 2 ^ i, (cget ps j).2 ++ [iget zs (i - 1)])
        generalize (cget ps j).1 = m at *
        generalize (cget ps j).2 = labs at *
        have hmj : (ivals labs).length = labs.length := ivals_len _
        have gz : (ivals zs)[i - 1]? = some (I6 (iget zs (i - 1))) := ivals_get (by omega)
        have hsb : IntKind.i64.wrap ((i : Int) - 1) = ((i - 1 : Nat) : Int) := (IntWalk.i64_in _ (by omega)).trans (by omega)
        have hi1L : i - 1 < L := by omega
        have hrl : ps.length ≤ (irows (rowsP ps)).length := by rw [irows_len, hrx]; exact Nat.le_refl _
        have hjl2 : j < (irows (rowsP ps)).length := by omega
        have hvl : (ivals (labs ++ [iget zs (i - 1)])).length = labs.length + 1 := by rw [ivals_len]; simp
        have hfin : (irows (rowsP ps)).set j (ivals (labs ++ [iget zs (i - 1)])) = irows (rowsP (ps.set j (m ||| 2 ^ i, labs ++ [iget zs (i - 1)]))) := hfin0
        (refine goes_seq ?_; refine goes_region ?_; apply run_step rfl; (exact stp_move rfl rfl); apply run_step rfl; (exact stp_len rfl rfl rfl (by as_aux_lemma => kernel_rfl)); apply run_step rfl; (exact stp_sub rfl rfl rfl hsub); apply run_step rfl; (exact stp_assign rfl rfl); refine run_nil ?_; refine fin_seq ?_; refine goes_seq ?_)
        refine goes_cut (St.of [(0, o1 (.sl 1003 0 L)), (1, vv (I6 mask)), (5, o1 (.sl 8 0 ps.length)), (6, vv (I6 i))] [(1003, wRo zs), (8, rwOw (ps.set j (m ||| 2 ^ i, labs ++ [iget zs (i - 1)])))]) ?_ ?_
        · apply goes_drawL 12 [] [0, 1] [[], [], [], [], [2, 3], [2, 3, 4], [], [], [7], [6, 7, 8], [6, 7, 8, 9], [6, 7, 8, 9, 10], [2, 3, 4, 5, 6, 7, 8, 9, 10, 11], [0, 1, 2, 3, 4, 5, 6, 7, 8, 9, 10, 11, 12], [0, 1, 2, 3, 4, 5, 6, 7, 8, 9, 10, 11, 12, 13]] [43, 44, 45, 46, 47, 48, 49, 50, 51, 52, 53, 54] [54] (by kernel_rfl) (by kernel_rfl) (by kernel_rfl)
          · (apply draw_put rfl; (intro S1 hS; exact stp_move rfl (hS.op rfl)); apply draw_put rfl; (intro S1 hS; exact stp_move rfl (hS.op rfl)); apply draw_put rfl; (intro S1 hS; exact stp_move rfl (hS.op rfl)); apply draw_put rfl; (intro S1 hS; exact stp_move rfl (hS.op rfl)); (first | (apply draw_put rfl; (focus (intro S1 hS; exact stp_ix (j := j) rfl (hS.op rfl) (hS.op rfl) (hS.ch _ _ rfl) rfl (by as_aux_lemma => kernel_rfl) rfl hjp hrl))) | (apply draw_put rfl; (focus (intro S1 hS; exact stp_loadR rfl (by as_aux_lemma => kernel_rfl) (hS.op rfl) (hS.ch _ _ rfl) rfl hrj hmj))) | (apply draw_put rfl; (focus (intro S1 hS; exact stp_sub rfl (hS.op rfl) (hS.op rfl) hsb))) | (apply draw_put rfl; (focus (intro S1 hS; exact stp_ix (j := i - 1) rfl (hS.op rfl) (hS.op rfl) (hS.ch _ _ rfl) rfl (by as_aux_lemma => kernel_rfl) rfl hi1L hil))) | (apply draw_put rfl; (focus (intro S1 hS; exact stp_loadV rfl (by as_aux_lemma => kernel_rfl) (hS.op rfl) (hS.ch _ _ rfl) rfl gz)))); (first | (apply draw_put rfl; (focus (intro S1 hS; exact stp_ix (j := j) rfl (hS.op rfl) (hS.op rfl) (hS.ch _ _ rfl) rfl (by as_aux_lemma => kernel_rfl) rfl hjp hrl))) | (apply draw_put rfl; (focus (intro S1 hS; exact stp_loadR rfl (by as_aux_lemma => kernel_rfl) (hS.op rfl) (hS.ch _ _ rfl) rfl hrj hmj))) | (apply draw_put rfl; (focus (intro S1 hS; exact stp_sub rfl (hS.op rfl) (hS.op rfl) hsb))) | (apply draw_put rfl; (focus (intro S1 hS; exact stp_ix (j := i - 1) rfl (hS.op rfl) (hS.op rfl) (hS.ch _ _ rfl) rfl (by as_aux_lemma => kernel_rfl) rfl hi1L hil))) | (apply draw_put rfl; (focus (intro S1 hS; exact stp_loadV rfl (by as_aux_lemma => kernel_rfl) (hS.op rfl) (hS.ch _ _ rfl) rfl gz)))); apply draw_put rfl; (intro S1 hS; exact stp_move rfl (hS.op rfl)); apply draw_put rfl; (intro S1 hS; exact stp_move rfl (hS.op rfl)); (first | (apply draw_put rfl; (focus (intro S1 hS; exact stp_ix (j := j) rfl (hS.op rfl) (hS.op rfl) (hS.ch _ _ rfl) rfl (by as_aux_lemma => kernel_rfl) rfl hjp hrl))) | (apply draw_put rfl; (focus (intro S1 hS; exact stp_loadR rfl (by as_aux_lemma => kernel_rfl) (hS.op rfl) (hS.ch _ _ rfl) rfl hrj hmj))) | (apply draw_put rfl; (focus (intro S1 hS; exact stp_sub rfl (hS.op rfl) (hS.op rfl) hsb))) | (apply draw_put rfl; (focus (intro S1 hS; exact stp_ix (j := i - 1) rfl (hS.op rfl) (hS.op rfl) (hS.ch _ _ rfl) rfl (by as_aux_lemma => kernel_rfl) rfl hi1L hil))) | (apply draw_put rfl; (focus (intro S1 hS; exact stp_loadV rfl (by as_aux_lemma => kernel_rfl) (hS.op rfl) (hS.ch _ _ rfl) rfl gz)))); (first | (apply draw_put rfl; (focus (intro S1 hS; exact stp_ix (j := j) rfl (hS.op rfl) (hS.op rfl) (hS.ch _ _ rfl) rfl (by as_aux_lemma => kernel_rfl) rfl hjp hrl))) | (apply draw_put rfl; (focus (intro S1 hS; exact stp_loadR rfl (by as_aux_lemma => kernel_rfl) (hS.op rfl) (hS.ch _ _ rfl) rfl hrj hmj))) | (apply draw_put rfl; (focus (intro S1 hS; exact stp_sub rfl (hS.op rfl) (hS.op rfl) hsb))) | (apply draw_put rfl; (focus (intro S1 hS; exact stp_ix (j := i - 1) rfl (hS.op rfl) (hS.op rfl) (hS.ch _ _ rfl) rfl (by as_aux_lemma => kernel_rfl) rfl hi1L hil))) | (apply draw_put rfl; (focus (intro S1 hS; exact stp_loadV rfl (by as_aux_lemma => kernel_rfl) (hS.op rfl) (hS.ch _ _ rfl) rfl gz)))); (first | (apply draw_put rfl; (focus (intro S1 hS; exact stp_ix (j := j) rfl (hS.op rfl) (hS.op rfl) (hS.ch _ _ rfl) rfl (by as_aux_lemma => kernel_rfl) rfl hjp hrl))) | (apply draw_put rfl; (focus (intro S1 hS; exact stp_loadR rfl (by as_aux_lemma => kernel_rfl) (hS.op rfl) (hS.ch _ _ rfl) rfl hrj hmj))) | (apply draw_put rfl; (focus (intro S1 hS; exact stp_sub rfl (hS.op rfl) (hS.op rfl) hsb))) | (apply draw_put rfl; (focus (intro S1 hS; exact stp_ix (j := i - 1) rfl (hS.op rfl) (hS.op rfl) (hS.ch _ _ rfl) rfl (by as_aux_lemma => kernel_rfl) rfl hi1L hil))) | (apply draw_put rfl; (focus (intro S1 hS; exact stp_loadV rfl (by as_aux_lemma => kernel_rfl) (hS.op rfl) (hS.ch _ _ rfl) rfl gz)))); apply draw_new rfl; (intro S1 hS; exact stp_lit1I (E := 2) rfl (by as_aux_lemma => kernel_rfl) (hS.op rfl)); exact Draw.nil)
          · rfl
          · refine ⟨⟨?_, ?_⟩, ?_, ?_⟩
            · refine rest_join (St.of [(0, o1 (.sl 1003 0 L)), (1, vv (I6 mask)), (5, o1 (.sl 8 0 ps.length)), (6, vv (I6 i))] [(1003, wRo zs), (8, rwOw (ps.set j (m ||| 2 ^ i, labs ++ [iget zs (i - 1)])))]) ?_ ?_
              · ((apply rest_one 12 rfl (by as_aux_lemma => kernel_rfl) rfl rfl; ((first | exact Stp.pre (wk_takeRow (n := 8) (z := 55) (s := 48) rfl rfl hrj hmj rfl) (stp_appI rfl (by as_aux_lemma => kernel_rfl) rfl rfl rfl rfl rfl rfl (by omega)) | exact stp_ix (j := j) rfl rfl rfl rfl rfl (by as_aux_lemma => kernel_rfl) rfl hjp hrl | exact stp_storeRow rfl rfl (by simp) rfl rfl hvl rfl hjl2 (by as_aux_lemma => kernel_rfl)))); (apply rest_one 13 rfl (by as_aux_lemma => kernel_rfl) rfl rfl; ((first | exact Stp.pre (wk_takeRow (n := 8) (z := 55) (s := 48) rfl rfl hrj hmj rfl) (stp_appI rfl (by as_aux_lemma => kernel_rfl) rfl rfl rfl rfl rfl rfl (by omega)) | exact stp_ix (j := j) rfl rfl rfl rfl rfl (by as_aux_lemma => kernel_rfl) rfl hjp hrl | exact stp_storeRow rfl rfl (by simp) rfl rfl hvl rfl hjl2 (by as_aux_lemma => kernel_rfl)))); (apply rest_one 14 rfl (by as_aux_lemma => kernel_rfl) rfl rfl; ((first | exact Stp.pre (wk_takeRow (n := 8) (z := 55) (s := 48) rfl rfl hrj hmj rfl) (stp_appI rfl (by as_aux_lemma => kernel_rfl) rfl rfl rfl rfl rfl rfl (by omega)) | exact stp_ix (j := j) rfl rfl rfl rfl rfl (by as_aux_lemma => kernel_rfl) rfl hjp hrl | exact stp_storeRow rfl rfl (by simp) rfl rfl hvl rfl hjl2 (by as_aux_lemma => kernel_rfl)))); (refine rest_done (by as_aux_lemma => kernel_rfl) ?_; exact fin_join (Wk.of ⟨rfl, rfl, rfl, rfl, trivial⟩ ⟨rfl, congrArg (fun l => some (⟨true, 31, 1, .rows 2 l []⟩ : Ch)) hfin, trivial⟩ trivial)))
              · (skip)
                exact fin_join (Wk.of ⟨rfl, rfl, rfl, rfl, trivial⟩ ⟨rfl, rfl, trivial⟩ trivial)
            · refine rest_join (St.of [(0, o1 (.sl 1003 0 L)), (1, vv (I6 mask)), (5, o1 (.sl 8 0 ps.length)), (6, vv (I6 i))] [(1003, wRo zs), (8, rwOw (ps.set j (m ||| 2 ^ i, labs ++ [iget zs (i - 1)])))]) ?_ ?_
              · ((apply rest_two 1 12 rfl (by as_aux_lemma => kernel_rfl) rfl rfl rfl rfl; (exact stp_move rfl rfl); ((first | exact Stp.pre (wk_takeRow (n := 8) (z := 55) (s := 48) rfl rfl hrj hmj rfl) (stp_appI rfl (by as_aux_lemma => kernel_rfl) rfl rfl rfl rfl rfl rfl (by omega)) | exact stp_ix (j := j) rfl rfl rfl rfl rfl (by as_aux_lemma => kernel_rfl) rfl hjp hrl | exact stp_storeRow rfl rfl (by simp) rfl rfl hvl rfl hjl2 (by as_aux_lemma => kernel_rfl))); (focus ((apply rest_one 12 rfl (by as_aux_lemma => kernel_rfl) rfl rfl; ((first | exact Stp.pre (wk_takeRow (n := 8) (z := 55) (s := 48) rfl rfl hrj hmj rfl) (stp_appI rfl (by as_aux_lemma => kernel_rfl) rfl rfl rfl rfl rfl rfl (by omega)) | exact stp_ix (j := j) rfl rfl rfl rfl rfl (by as_aux_lemma => kernel_rfl) rfl hjp hrl | exact stp_storeRow rfl rfl (by simp) rfl rfl hvl rfl hjl2 (by as_aux_lemma => kernel_rfl)))); (apply rest_one 13 rfl (by as_aux_lemma => kernel_rfl) rfl rfl; ((first | exact Stp.pre (wk_takeRow (n := 8) (z := 55) (s := 48) rfl rfl hrj hmj rfl) (stp_appI rfl (by as_aux_lemma => kernel_rfl) rfl rfl rfl rfl rfl rfl (by omega)) | exact stp_ix (j := j) rfl rfl rfl rfl rfl (by as_aux_lemma => kernel_rfl) rfl hjp hrl | exact stp_storeRow rfl rfl (by simp) rfl rfl hvl rfl hjl2 (by as_aux_lemma => kernel_rfl)))); (apply rest_one 14 rfl (by as_aux_lemma => kernel_rfl) rfl rfl; ((first | exact Stp.pre (wk_takeRow (n := 8) (z := 55) (s := 48) rfl rfl hrj hmj rfl) (stp_appI rfl (by as_aux_lemma => kernel_rfl) rfl rfl rfl rfl rfl rfl (by omega)) | exact stp_ix (j := j) rfl rfl rfl rfl rfl (by as_aux_lemma => kernel_rfl) rfl hjp hrl | exact stp_storeRow rfl rfl (by simp) rfl rfl hvl rfl hjl2 (by as_aux_lemma => kernel_rfl)))); (refine rest_done (by as_aux_lemma => kernel_rfl) ?_; exact fin_join (Wk.of ⟨rfl, rfl, rfl, rfl, trivial⟩ ⟨rfl, congrArg (fun l => some (⟨true, 31, 1, .rows 2 l []⟩ : Ch)) hfin, trivial⟩ trivial)))); (focus ((apply rest_one 1 rfl (by as_aux_lemma => kernel_rfl) rfl rfl; (exact stp_move rfl rfl)); (apply rest_one 13 rfl (by as_aux_lemma => kernel_rfl) rfl rfl; ((first | exact Stp.pre (wk_takeRow (n := 8) (z := 55) (s := 48) rfl rfl hrj hmj rfl) (stp_appI rfl (by as_aux_lemma => kernel_rfl) rfl rfl rfl rfl rfl rfl (by omega)) | exact stp_ix (j := j) rfl rfl rfl rfl rfl (by as_aux_lemma => kernel_rfl) rfl hjp hrl | exact stp_storeRow rfl rfl (by simp) rfl rfl hvl rfl hjl2 (by as_aux_lemma => kernel_rfl)))); (apply rest_one 14 rfl (by as_aux_lemma => kernel_rfl) rfl rfl; ((first | exact Stp.pre (wk_takeRow (n := 8) (z := 55) (s := 48) rfl rfl hrj hmj rfl) (stp_appI rfl (by as_aux_lemma => kernel_rfl) rfl rfl rfl rfl rfl rfl (by omega)) | exact stp_ix (j := j) rfl rfl rfl rfl rfl (by as_aux_lemma => kernel_rfl) rfl hjp hrl | exact stp_storeRow rfl rfl (by simp) rfl rfl hvl rfl hjl2 (by as_aux_lemma => kernel_rfl)))); (refine rest_done (by as_aux_lemma => kernel_rfl) ?_; exact fin_join (Wk.of ⟨rfl, rfl, rfl, rfl, trivial⟩ ⟨rfl, congrArg (fun l => some (⟨true, 31, 1, .rows 2 l []⟩ : Ch)) hfin, trivial⟩ trivial))))))
              · (skip)
                exact fin_join (Wk.of ⟨rfl, rfl, rfl, rfl, trivial⟩ ⟨rfl, rfl, trivial⟩ trivial)
            · refine rest_join (St.of [(0, o1 (.sl 1003 0 L)), (1, vv (I6 mask)), (5, o1 (.sl 8 0 ps.length)), (6, vv (I6 i))] [(1003, wRo zs), (8, rwOw (ps.set j (m ||| 2 ^ i, labs ++ [iget zs (i - 1)])))]) ?_ ?_
              · ((apply rest_two 0 12 rfl (by as_aux_lemma => kernel_rfl) rfl rfl rfl rfl; (exact stp_move rfl rfl); ((first | exact Stp.pre (wk_takeRow (n := 8) (z := 55) (s := 48) rfl rfl hrj hmj rfl) (stp_appI rfl (by as_aux_lemma => kernel_rfl) rfl rfl rfl rfl rfl rfl (by omega)) | exact stp_ix (j := j) rfl rfl rfl rfl rfl (by as_aux_lemma => kernel_rfl) rfl hjp hrl | exact stp_storeRow rfl rfl (by simp) rfl rfl hvl rfl hjl2 (by as_aux_lemma => kernel_rfl))); (focus ((apply rest_one 12 rfl (by as_aux_lemma => kernel_rfl) rfl rfl; ((first | exact Stp.pre (wk_takeRow (n := 8) (z := 55) (s := 48) rfl rfl hrj hmj rfl) (stp_appI rfl (by as_aux_lemma => kernel_rfl) rfl rfl rfl rfl rfl rfl (by omega)) | exact stp_ix (j := j) rfl rfl rfl rfl rfl (by as_aux_lemma => kernel_rfl) rfl hjp hrl | exact stp_storeRow rfl rfl (by simp) rfl rfl hvl rfl hjl2 (by as_aux_lemma => kernel_rfl)))); (apply rest_one 13 rfl (by as_aux_lemma => kernel_rfl) rfl rfl; ((first | exact Stp.pre (wk_takeRow (n := 8) (z := 55) (s := 48) rfl rfl hrj hmj rfl) (stp_appI rfl (by as_aux_lemma => kernel_rfl) rfl rfl rfl rfl rfl rfl (by omega)) | exact stp_ix (j := j) rfl rfl rfl rfl rfl (by as_aux_lemma => kernel_rfl) rfl hjp hrl | exact stp_storeRow rfl rfl (by simp) rfl rfl hvl rfl hjl2 (by as_aux_lemma => kernel_rfl)))); (apply rest_one 14 rfl (by as_aux_lemma => kernel_rfl) rfl rfl; ((first | exact Stp.pre (wk_takeRow (n := 8) (z := 55) (s := 48) rfl rfl hrj hmj rfl) (stp_appI rfl (by as_aux_lemma => kernel_rfl) rfl rfl rfl rfl rfl rfl (by omega)) | exact stp_ix (j := j) rfl rfl rfl rfl rfl (by as_aux_lemma => kernel_rfl) rfl hjp hrl | exact stp_storeRow rfl rfl (by simp) rfl rfl hvl rfl hjl2 (by as_aux_lemma => kernel_rfl)))); (refine rest_done (by as_aux_lemma => kernel_rfl) ?_; exact fin_join (Wk.of ⟨rfl, rfl, rfl, rfl, trivial⟩ ⟨rfl, congrArg (fun l => some (⟨true, 31, 1, .rows 2 l []⟩ : Ch)) hfin, trivial⟩ trivial)))); (focus ((apply rest_one 0 rfl (by as_aux_lemma => kernel_rfl) rfl rfl; (exact stp_move rfl rfl)); (apply rest_one 13 rfl (by as_aux_lemma => kernel_rfl) rfl rfl; ((first | exact Stp.pre (wk_takeRow (n := 8) (z := 55) (s := 48) rfl rfl hrj hmj rfl) (stp_appI rfl (by as_aux_lemma => kernel_rfl) rfl rfl rfl rfl rfl rfl (by omega)) | exact stp_ix (j := j) rfl rfl rfl rfl rfl (by as_aux_lemma => kernel_rfl) rfl hjp hrl | exact stp_storeRow rfl rfl (by simp) rfl rfl hvl rfl hjl2 (by as_aux_lemma => kernel_rfl)))); (apply rest_one 14 rfl (by as_aux_lemma => kernel_rfl) rfl rfl; ((first | exact Stp.pre (wk_takeRow (n := 8) (z := 55) (s := 48) rfl rfl hrj hmj rfl) (stp_appI rfl (by as_aux_lemma => kernel_rfl) rfl rfl rfl rfl rfl rfl (by omega)) | exact stp_ix (j := j) rfl rfl rfl rfl rfl (by as_aux_lemma => kernel_rfl) rfl hjp hrl | exact stp_storeRow rfl rfl (by simp) rfl rfl hvl rfl hjl2 (by as_aux_lemma => kernel_rfl)))); (refine rest_done (by as_aux_lemma => kernel_rfl) ?_; exact fin_join (Wk.of ⟨rfl, rfl, rfl, rfl, trivial⟩ ⟨rfl, congrArg (fun l => some (⟨true, 31, 1, .rows 2 l []⟩ : Ch)) hfin, trivial⟩ trivial))))))
              · (skip)
                exact fin_join (Wk.of ⟨rfl, rfl, rfl, rfl, trivial⟩ ⟨rfl, rfl, trivial⟩ trivial)
            · refine rest_join (St.of [(0, o1 (.sl 1003 0 L)), (1, vv (I6 mask)), (5, o1 (.sl 8 0 ps.length)), (6, vv (I6 i))] [(1003, wRo zs), (8, rwOw (ps.set j (m ||| 2 ^ i, labs ++ [iget zs (i - 1)])))]) ?_ ?_
              · ((apply rest_three 0 1 12 rfl (by as_aux_lemma => kernel_rfl) rfl rfl rfl rfl rfl rfl; (exact stp_move rfl rfl); (exact stp_move rfl rfl); ((first | exact Stp.pre (wk_takeRow (n := 8) (z := 55) (s := 48) rfl rfl hrj hmj rfl) (stp_appI rfl (by as_aux_lemma => kernel_rfl) rfl rfl rfl rfl rfl rfl (by omega)) | exact stp_ix (j := j) rfl rfl rfl rfl rfl (by as_aux_lemma => kernel_rfl) rfl hjp hrl | exact stp_storeRow rfl rfl (by simp) rfl rfl hvl rfl hjl2 (by as_aux_lemma => kernel_rfl))); (focus ((apply rest_two 1 12 rfl (by as_aux_lemma => kernel_rfl) rfl rfl rfl rfl; (exact stp_move rfl rfl); ((first | exact Stp.pre (wk_takeRow (n := 8) (z := 55) (s := 48) rfl rfl hrj hmj rfl) (stp_appI rfl (by as_aux_lemma => kernel_rfl) rfl rfl rfl rfl rfl rfl (by omega)) | exact stp_ix (j := j) rfl rfl rfl rfl rfl (by as_aux_lemma => kernel_rfl) rfl hjp hrl | exact stp_storeRow rfl rfl (by simp) rfl rfl hvl rfl hjl2 (by as_aux_lemma => kernel_rfl))); (focus ((apply rest_one 12 rfl (by as_aux_lemma => kernel_rfl) rfl rfl; ((first | exact Stp.pre (wk_takeRow (n := 8) (z := 55) (s := 48) rfl rfl hrj hmj rfl) (stp_appI rfl (by as_aux_lemma => kernel_rfl) rfl rfl rfl rfl rfl rfl (by omega)) | exact stp_ix (j := j) rfl rfl rfl rfl rfl (by as_aux_lemma => kernel_rfl) rfl hjp hrl | exact stp_storeRow rfl rfl (by simp) rfl rfl hvl rfl hjl2 (by as_aux_lemma => kernel_rfl)))); (apply rest_one 13 rfl (by as_aux_lemma => kernel_rfl) rfl rfl; ((first | exact Stp.pre (wk_takeRow (n := 8) (z := 55) (s := 48) rfl rfl hrj hmj rfl) (stp_appI rfl (by as_aux_lemma => kernel_rfl) rfl rfl rfl rfl rfl rfl (by omega)) | exact stp_ix (j := j) rfl rfl rfl rfl rfl (by as_aux_lemma => kernel_rfl) rfl hjp hrl | exact stp_storeRow rfl rfl (by simp) rfl rfl hvl rfl hjl2 (by as_aux_lemma => kernel_rfl)))); (apply rest_one 14 rfl (by as_aux_lemma => kernel_rfl) rfl rfl; ((first | exact Stp.pre (wk_takeRow (n := 8) (z := 55) (s := 48) rfl rfl hrj hmj rfl) (stp_appI rfl (by as_aux_lemma => kernel_rfl) rfl rfl rfl rfl rfl rfl (by omega)) | exact stp_ix (j := j) rfl rfl rfl rfl rfl (by as_aux_lemma => kernel_rfl) rfl hjp hrl | exact stp_storeRow rfl rfl (by simp) rfl rfl hvl rfl hjl2 (by as_aux_lemma => kernel_rfl)))); (refine rest_done (by as_aux_lemma => kernel_rfl) ?_; exact fin_join (Wk.of ⟨rfl, rfl, rfl, rfl, trivial⟩ ⟨rfl, congrArg (fun l => some (⟨true, 31, 1, .rows 2 l []⟩ : Ch)) hfin, trivial⟩ trivial)))); (focus ((apply rest_one 1 rfl (by as_aux_lemma => kernel_rfl) rfl rfl; (exact stp_move rfl rfl)); (apply rest_one 13 rfl (by as_aux_lemma => kernel_rfl) rfl rfl; ((first | exact Stp.pre (wk_takeRow (n := 8) (z := 55) (s := 48) rfl rfl hrj hmj rfl) (stp_appI rfl (by as_aux_lemma => kernel_rfl) rfl rfl rfl rfl rfl rfl (by omega)) | exact stp_ix (j := j) rfl rfl rfl rfl rfl (by as_aux_lemma => kernel_rfl) rfl hjp hrl | exact stp_storeRow rfl rfl (by simp) rfl rfl hvl rfl hjl2 (by as_aux_lemma => kernel_rfl)))); (apply rest_one 14 rfl (by as_aux_lemma => kernel_rfl) rfl rfl; ((first | exact Stp.pre (wk_takeRow (n := 8) (z := 55) (s := 48) rfl rfl hrj hmj rfl) (stp_appI rfl (by as_aux_lemma => kernel_rfl) rfl rfl rfl rfl rfl rfl (by omega)) | exact stp_ix (j := j) rfl rfl rfl rfl rfl (by as_aux_lemma => kernel_rfl) rfl hjp hrl | exact stp_storeRow rfl rfl (by simp) rfl rfl hvl rfl hjl2 (by as_aux_lemma => kernel_rfl)))); (refine rest_done (by as_aux_lemma => kernel_rfl) ?_; exact fin_join (Wk.of ⟨rfl, rfl, rfl, rfl, trivial⟩ ⟨rfl, congrArg (fun l => some (⟨true, 31, 1, .rows 2 l []⟩ : Ch)) hfin, trivial⟩ trivial))))))); (focus ((apply rest_two 0 12 rfl (by as_aux_lemma => kernel_rfl) rfl rfl rfl rfl; (exact stp_move rfl rfl); ((first | exact Stp.pre (wk_takeRow (n := 8) (z := 55) (s := 48) rfl rfl hrj hmj rfl) (stp_appI rfl (by as_aux_lemma => kernel_rfl) rfl rfl rfl rfl rfl rfl (by omega)) | exact stp_ix (j := j) rfl rfl rfl rfl rfl (by as_aux_lemma => kernel_rfl) rfl hjp hrl | exact stp_storeRow rfl rfl (by simp) rfl rfl hvl rfl hjl2 (by as_aux_lemma => kernel_rfl))); (focus ((apply rest_one 12 rfl (by as_aux_lemma => kernel_rfl) rfl rfl; ((first | exact Stp.pre (wk_takeRow (n := 8) (z := 55) (s := 48) rfl rfl hrj hmj rfl) (stp_appI rfl (by as_aux_lemma => kernel_rfl) rfl rfl rfl rfl rfl rfl (by omega)) | exact stp_ix (j := j) rfl rfl rfl rfl rfl (by as_aux_lemma => kernel_rfl) rfl hjp hrl | exact stp_storeRow rfl rfl (by simp) rfl rfl hvl rfl hjl2 (by as_aux_lemma => kernel_rfl)))); (apply rest_one 13 rfl (by as_aux_lemma => kernel_rfl) rfl rfl; ((first | exact Stp.pre (wk_takeRow (n := 8) (z := 55) (s := 48) rfl rfl hrj hmj rfl) (stp_appI rfl (by as_aux_lemma => kernel_rfl) rfl rfl rfl rfl rfl rfl (by omega)) | exact stp_ix (j := j) rfl rfl rfl rfl rfl (by as_aux_lemma => kernel_rfl) rfl hjp hrl | exact stp_storeRow rfl rfl (by simp) rfl rfl hvl rfl hjl2 (by as_aux_lemma => kernel_rfl)))); (apply rest_one 14 rfl (by as_aux_lemma => kernel_rfl) rfl rfl; ((first | exact Stp.pre (wk_takeRow (n := 8) (z := 55) (s := 48) rfl rfl hrj hmj rfl) (stp_appI rfl (by as_aux_lemma => kernel_rfl) rfl rfl rfl rfl rfl rfl (by omega)) | exact stp_ix (j := j) rfl rfl rfl rfl rfl (by as_aux_lemma => kernel_rfl) rfl hjp hrl | exact stp_storeRow rfl rfl (by simp) rfl rfl hvl rfl hjl2 (by as_aux_lemma => kernel_rfl)))); (refine rest_done (by as_aux_lemma => kernel_rfl) ?_; exact fin_join (Wk.of ⟨rfl, rfl, rfl, rfl, trivial⟩ ⟨rfl, congrArg (fun l => some (⟨true, 31, 1, .rows 2 l []⟩ : Ch)) hfin, trivial⟩ trivial)))); (focus ((apply rest_one 0 rfl (by as_aux_lemma => kernel_rfl) rfl rfl; (exact stp_move rfl rfl)); (apply rest_one 13 rfl (by as_aux_lemma => kernel_rfl) rfl rfl; ((first | exact Stp.pre (wk_takeRow (n := 8) (z := 55) (s := 48) rfl rfl hrj hmj rfl) (stp_appI rfl (by as_aux_lemma => kernel_rfl) rfl rfl rfl rfl rfl rfl (by omega)) | exact stp_ix (j := j) rfl rfl rfl rfl rfl (by as_aux_lemma => kernel_rfl) rfl hjp hrl | exact stp_storeRow rfl rfl (by simp) rfl rfl hvl rfl hjl2 (by as_aux_lemma => kernel_rfl)))); (apply rest_one 14 rfl (by as_aux_lemma => kernel_rfl) rfl rfl; ((first | exact Stp.pre (wk_takeRow (n := 8) (z := 55) (s := 48) rfl rfl hrj hmj rfl) (stp_appI rfl (by as_aux_lemma => kernel_rfl) rfl rfl rfl rfl rfl rfl (by omega)) | exact stp_ix (j := j) rfl rfl rfl rfl rfl (by as_aux_lemma => kernel_rfl) rfl hjp hrl | exact stp_storeRow rfl rfl (by simp) rfl rfl hvl rfl hjl2 (by as_aux_lemma => kernel_rfl)))); (refine rest_done (by as_aux_lemma => kernel_rfl) ?_; exact fin_join (Wk.of ⟨rfl, rfl, rfl, rfl, trivial⟩ ⟨rfl, congrArg (fun l => some (⟨true, 31, 1, .rows 2 l []⟩ : Ch)) hfin, trivial⟩ trivial))))))); (focus ((apply rest_two 0 1 rfl (by as_aux_lemma => kernel_rfl) rfl rfl rfl rfl; (exact stp_move rfl rfl); (exact stp_move rfl rfl); (focus ((apply rest_one 1 rfl (by as_aux_lemma => kernel_rfl) rfl rfl; (exact stp_move rfl rfl)); (apply rest_one 13 rfl (by as_aux_lemma => kernel_rfl) rfl rfl; ((first | exact Stp.pre (wk_takeRow (n := 8) (z := 55) (s := 48) rfl rfl hrj hmj rfl) (stp_appI rfl (by as_aux_lemma => kernel_rfl) rfl rfl rfl rfl rfl rfl (by omega)) | exact stp_ix (j := j) rfl rfl rfl rfl rfl (by as_aux_lemma => kernel_rfl) rfl hjp hrl | exact stp_storeRow rfl rfl (by simp) rfl rfl hvl rfl hjl2 (by as_aux_lemma => kernel_rfl)))); (apply rest_one 14 rfl (by as_aux_lemma => kernel_rfl) rfl rfl; ((first | exact Stp.pre (wk_takeRow (n := 8) (z := 55) (s := 48) rfl rfl hrj hmj rfl) (stp_appI rfl (by as_aux_lemma => kernel_rfl) rfl rfl rfl rfl rfl rfl (by omega)) | exact stp_ix (j := j) rfl rfl rfl rfl rfl (by as_aux_lemma => kernel_rfl) rfl hjp hrl | exact stp_storeRow rfl rfl (by simp) rfl rfl hvl rfl hjl2 (by as_aux_lemma => kernel_rfl)))); (refine rest_done (by as_aux_lemma => kernel_rfl) ?_; exact fin_join (Wk.of ⟨rfl, rfl, rfl, rfl, trivial⟩ ⟨rfl, congrArg (fun l => some (⟨true, 31, 1, .rows 2 l []⟩ : Ch)) hfin, trivial⟩ trivial)))); (focus ((apply rest_one 0 rfl (by as_aux_lemma => kernel_rfl) rfl rfl; (exact stp_move rfl rfl)); (apply rest_one 13 rfl (by as_aux_lemma => kernel_rfl) rfl rfl; ((first | exact Stp.pre (wk_takeRow (n := 8) (z := 55) (s := 48) rfl rfl hrj hmj rfl) (stp_appI rfl (by as_aux_lemma => kernel_rfl) rfl rfl rfl rfl rfl rfl (by omega)) | exact stp_ix (j := j) rfl rfl rfl rfl rfl (by as_aux_lemma => kernel_rfl) rfl hjp hrl | exact stp_storeRow rfl rfl (by simp) rfl rfl hvl rfl hjl2 (by as_aux_lemma => kernel_rfl)))); (apply rest_one 14 rfl (by as_aux_lemma => kernel_rfl) rfl rfl; ((first | exact Stp.pre (wk_takeRow (n := 8) (z := 55) (s := 48) rfl rfl hrj hmj rfl) (stp_appI rfl (by as_aux_lemma => kernel_rfl) rfl rfl rfl rfl rfl rfl (by omega)) | exact stp_ix (j := j) rfl rfl rfl rfl rfl (by as_aux_lemma => kernel_rfl) rfl hjp hrl | exact stp_storeRow rfl rfl (by simp) rfl rfl hvl rfl hjl2 (by as_aux_lemma => kernel_rfl)))); (refine rest_done (by as_aux_lemma => kernel_rfl) ?_; exact fin_join (Wk.of ⟨rfl, rfl, rfl, rfl, trivial⟩ ⟨rfl, congrArg (fun l => some (⟨true, 31, 1, .rows 2 l []⟩ : Ch)) hfin, trivial⟩ trivial)))))))))
              · (skip)
                exact fin_join (Wk.of ⟨rfl, rfl, rfl, rfl, trivial⟩ ⟨rfl, rfl, trivial⟩ trivial)
        (refine fin_seq ?_; refine goes_exit ?_; refine fin_exit_then ?_; refine fin_exit_eq ?_; refine fin_seq ?_; refine goes_region ?_; apply run_step rfl; (exact stp_move rfl rfl); apply run_step rfl; (exact stp_add rfl rfl rfl (by first | exact IntWalk.i64_in _ (by omega) | rfl)); apply run_step rfl; (exact stp_assign rfl rfl); refine run_nil ?_)
        exact fin_round (i + 1, ps.set j (m ||| 2 ^ i, labs ++ [iget zs (i - 1)])) ⟨by omega, hv⟩ (by show L + 1 - (i + 1) < L + 1 - i; omega) (Wk.of ⟨rfl, rfl, congrArg (fun n => some (o1 (.sl 8 0 n))) (by simp), rfl, trivial⟩ ⟨rfl, rfl, trivial⟩ trivial)
      · have hv : pTo zs mask (i + 1) = ps ++ [(2 ^ i, [])] := by rw [hnx, if_neg (by rw [hjb]; simp)]
        have hrl : (irows (rowsP ps)).length = ps.length := by rw [irows_len, hrx]
        have hfin : irows (rowsP ps) ++ [[]] = irows (rowsP (ps ++ [(2 ^ i, [])])) := by simp [rowsP, irows, ivals]
        (refine goes_skip ?_; refine fin_seq ?_; refine goes_region ?_; apply run_step rfl; (exact stp_move rfl rfl); apply run_step rfl; (first | exact stp_lit0 (E := 2) (k := 1) rfl (by as_aux_lemma => kernel_rfl) | exact stp_appendRow (vs := []) rfl (by as_aux_lemma => kernel_rfl) rfl rfl hrl rfl rfl rfl rfl rfl (by omega)); apply run_step rfl; (exact stp_lit1 (E := 31) rfl (by as_aux_lemma => kernel_rfl) rfl rfl rfl); apply run_step rfl; (first | exact stp_lit0 (E := 2) (k := 1) rfl (by as_aux_lemma => kernel_rfl) | exact stp_appendRow (vs := []) rfl (by as_aux_lemma => kernel_rfl) rfl rfl hrl rfl rfl rfl rfl rfl (by omega)); apply run_step rfl; (exact stp_assign rfl rfl); refine run_nil ?_; refine fin_block ?_; refine fin_seq ?_; refine goes_region ?_; apply run_step rfl; (exact stp_move rfl rfl); apply run_step rfl; (exact stp_add rfl rfl rfl (by first | exact IntWalk.i64_in _ (by omega) | rfl)); apply run_step rfl; (exact stp_assign rfl rfl); refine run_nil ?_)
        exact fin_round (i + 1, ps ++ [(2 ^ i, [])]) ⟨by omega, hv⟩ (by show L + 1 - (i + 1) < L + 1 - i; omega) (Wk.of ⟨rfl, rfl, congrArg (fun n => some (o1 (.sl 8 0 n))) (by simp), rfl, trivial⟩ ⟨rfl, congrArg (fun l => some (⟨true, 31, 1, .rows 2 l []⟩ : Ch)) hfin, trivial⟩ trivial)
  · obtain rfl : i = L + 1 := by omega
    have hv : comps zs mask = ps := by unfold comps; rw [hL]; exact hp
    rw [hv]
    (refine goes_exit ?_; refine fin_exit_then ?_; refine fin_exit_then ?_; refine fin_exit_eq ?_; refine fin_seq ?_; refine goes_seq ?_; refine goes_region ?_; apply run_step rfl; (exact stp_move rfl rfl); apply run_step rfl; (exact stp_assign rfl rfl); refine run_nil ?_; refine fin_seq ?_; refine goes_ret ?_)
    exact fin_ret1 (.inl rfl) rfl (.tmp rfl) ⟨rfl, trivial⟩ trivial
end Go.Proofs.Ytlpeghdbjfnenaa

/- The kind of a diagram, on lists; isDiagram, allNodes and their like in names. -/
namespace Go.Proofs.Ytlpeghdbjfnenaa
open Go.RowKit

def kStep (k : Nat) (labs : List Int) : Nat := if (degs labs).length = 0 then (if affB labs = true ∧ k ≠ 2 then 1 else 2) else k
def kindN (ps : Cmps) (j : Nat) : Nat := (ps.take j).foldl (fun k p => kStep k p.2) 0
theorem kindN_succ {ps : Cmps} {j : Nat} (h : j < ps.length) : kindN ps (j + 1) = kStep (kindN ps j) (cget ps j).2 := by
  unfold kindN
  rw [List.take_add_one, List.getElem?_eq_getElem h, List.foldl_append, cget_lt h]
  rfl
theorem kindN_le (ps : Cmps) : ∀ j, kindN ps j ≤ 2 := by
  intro j
  induction j with
  | zero => exact Nat.zero_le _
  | succ j ih =>
    by_cases h : j < ps.length
    · rw [kindN_succ h]; unfold kStep; split
      · split
        · decide
        · exact Nat.le_refl _
      · exact ih
    · have : kindN ps (j + 1) = kindN ps j := by unfold kindN; rw [List.take_of_length_le (by omega), List.take_of_length_le (by omega)]
      rw [this]; exact ih
/-- the mask of all nodes -/
def allN (zs : List Int) : Nat := 2 ^ (zs.length + 1) - 1
theorem allN_lt {zs : List Int} (h : zs.length ≤ 4) : allN zs < 1000 := by
  have : 2 ^ (zs.length + 1) ≤ 2 ^ 5 := Nat.pow_le_pow_right (by decide) (by omega)
  unfold allN; omega
theorem isDiag_len {zs : List Int} (h : isDiag zs = true) : zs.length ≤ 4 := by unfold isDiag at h; simp at h; omega
theorem isDiag_mem {zs : List Int} (h : isDiag zs = true) : ∀ z ∈ zs, z = 0 ∨ (2 ≤ z ∧ z ≤ 32) := by
  intro z hz
  unfold isDiag at h
  simp at h
  have := h.1 z hz
  unfold isLabel inB at this
  simp at this
  omega
theorem labs_of {zs : List Int} {mask : Nat} (h : isDiag zs = true) {k : Nat} (hk : k < (comps zs mask).length) : Labs (cget (comps zs mask) k).2 := by
  have hl := isDiag_len h
  have hp := comps_ok zs mask
  have hm := cget_mem hk
  refine ⟨?_, fun z hz => ?_⟩
  · have h1 := csum_le hm
    have h2 := hp.sum
    omega
  · have h1 := hp.lab _ hm z hz
    have h2 := isDiag_mem h z h1.1
    have h3 := h1.2
    omega
theorem diagI_fc (zs : List Int) (L : Nat) (hL : zs.length = L) (hn : L ≤ 4398046511104) : FC Try.prog 62 [(1003, wRo zs)] [o1 (.sl 1003 0 L)] [] (vv (.bool (isDiag zs))) [] :=
  fc_of_calls fun w η ω us hm ⟨hl, ha⟩ => by
    subst hL
    obtain ⟨u0, g0, d0⟩ := ha 0 _ rfl
    obtain ⟨ao, c, rfl, hI⟩ := rdS (x := 1003) hm rfl d0 (by omega)
    rw [us_one hl g0]
    exact isDiagramImpl_any ao _ c _ w hI
theorem diagS_fc (zs : List Int) (L : Nat) (hL : zs.length = L) (hn : L ≤ 4398046511104) : FC Try.prog 59 [(1003, wRo zs)] [o1 (.sl 1003 0 L)] [] (vv (.bool (isDiag zs))) [] :=
  fc_of_calls fun w η ω us hm ⟨hl, ha⟩ => by
    subst hL
    obtain ⟨u0, g0, d0⟩ := ha 0 _ rfl
    obtain ⟨ao, c, rfl, hI⟩ := rdS (x := 1003) hm rfl d0 (by omega)
    rw [us_one hl g0]
    refine (spec12Is_any ao _ c _ w hI).mono ?_
    rintro e w' ⟨rfl, rfl⟩
    exact ⟨rfl, Below.refl _ _⟩
theorem allN_pos (L : Nat) : 1 ≤ 2 ^ L := Nat.one_le_two_pow
theorem allI_fc (zs : List Int) (L : Nat) (hL : zs.length = L) (h4 : L ≤ 4) : FC Try.prog 64 [(1003, wRo zs)] [o1 (.sl 1003 0 L)] [] (vv (I6 (allN zs))) [] := by
  have h5 : L ≤ 5 := by omega
  have hp : 2 ^ (L + 1) ≤ 2 ^ 5 := Nat.pow_le_pow_right (by decide) (by omega)
  have h1 := allN_pos (L + 1)
  have hw : IntKind.i64.wrap (((2 ^ (L + 1) : Nat) : Int) - 1) = ((allN zs : Nat) : Int) := by
    rw [IntWalk.i64_in _ (by omega)]
    unfold allN; rw [hL]; omega
  refine fc_enter (nt := 7) Try.func64 rfl rfl (by simp) fun w0 ω0 => ?_
  (refine goes_seq ?_; refine goes_region ?_; apply run_step rfl; (exact stp_assign rfl rfl); refine run_nil ?_; refine fin_seq ?_; refine goes_seq ?_; refine goes_region ?_; apply run_step rfl; (exact stp_move rfl rfl); apply run_step rfl; (exact stp_len rfl rfl rfl (by as_aux_lemma => kernel_rfl)); apply run_step rfl; (first | exact stp_shl2 (g := L) rfl rfl rfl h5 | exact stp_sub rfl rfl rfl hw); apply run_step rfl; (first | exact stp_shl2 (g := L) rfl rfl rfl h5 | exact stp_sub rfl rfl rfl hw); apply run_step rfl; (exact stp_assign rfl rfl); refine run_nil ?_; refine fin_seq ?_; refine goes_ret ?_)
  exact fin_ret1 (.inl rfl) rfl (.tmp rfl) trivial trivial
def kindR (zs : List Int) : Int := if isDiag zs = true then ((kindN (comps zs (allN zs)) (comps zs (allN zs)).length : Nat) : Int) else 0
def kindC (zs : List Int) : Int := if isDiag zs = true then 0 else 1
end Go.Proofs.Ytlpeghdbjfnenaa

/- KindOfDiagram, the reference's. guards: -/
namespace Go.Proofs.Ytlpeghdbjfnenaa
open Go.RowKit

set_option maxRecDepth 100000 in
theorem wholeS_fc (zs : List Int) (L : Nat) (hL : zs.length = L) (h4 : L ≤ 4) : FC Try.prog 61 [(1003, wRo zs)] [o1 (.sl 1003 0 L)] [] (vv (I6 (allN zs))) [] := by
  have hR := rankS_fc zs L h4
  have h5 : L + 1 ≤ 5 := by omega
  have hp : 2 ^ (L + 1) ≤ 2 ^ 5 := Nat.pow_le_pow_right (by decide) (by omega)
  have h1 := allN_pos (L + 1)
  have hcv : IntKind.u64.wrap ((L + 1 : Nat) : Int) = ((L + 1 : Nat) : Int) := by rw [IntKind.wrap_u64]; omega
  have hw : IntKind.i64.wrap (((2 ^ (L + 1) : Nat) : Int) - 1) = ((allN zs : Nat) : Int) := by
    rw [IntWalk.i64_in _ (by omega)]
    unfold allN; rw [hL]; omega
  refine fc_enter (nt := 8) Try.func61 rfl rfl (by simp) fun w0 ω0 => ?_
  (refine goes_seq ?_; refine goes_region ?_; apply run_step rfl; (exact stp_assign rfl rfl); refine run_nil ?_; refine fin_seq ?_; refine goes_seq ?_; refine goes_region ?_; apply run_step rfl; (exact stp_move rfl rfl); apply run_step rfl; (first | (apply call_gate 103; exact stp_callR hR (by as_aux_lemma => kernel_rfl) rfl rfl ⟨rfl, trivial⟩ ⟨⟨_, rfl, .inl rfl⟩, trivial⟩ rfl rfl) | exact stp_convN rfl rfl (by as_aux_lemma => kernel_rfl) (by as_aux_lemma => kernel_rfl) hcv | exact stp_shl1 (g := L + 1) rfl rfl rfl h5 | exact stp_sub rfl rfl rfl hw); apply run_step rfl; (first | (apply call_gate 103; exact stp_callR hR (by as_aux_lemma => kernel_rfl) rfl rfl ⟨rfl, trivial⟩ ⟨⟨_, rfl, .inl rfl⟩, trivial⟩ rfl rfl) | exact stp_convN rfl rfl (by as_aux_lemma => kernel_rfl) (by as_aux_lemma => kernel_rfl) hcv | exact stp_shl1 (g := L + 1) rfl rfl rfl h5 | exact stp_sub rfl rfl rfl hw); apply run_step rfl; (first | (apply call_gate 103; exact stp_callR hR (by as_aux_lemma => kernel_rfl) rfl rfl ⟨rfl, trivial⟩ ⟨⟨_, rfl, .inl rfl⟩, trivial⟩ rfl rfl) | exact stp_convN rfl rfl (by as_aux_lemma => kernel_rfl) (by as_aux_lemma => kernel_rfl) hcv | exact stp_shl1 (g := L + 1) rfl rfl rfl h5 | exact stp_sub rfl rfl rfl hw); apply run_step rfl; (first | (apply call_gate 103; exact stp_callR hR (by as_aux_lemma => kernel_rfl) rfl rfl ⟨rfl, trivial⟩ ⟨⟨_, rfl, .inl rfl⟩, trivial⟩ rfl rfl) | exact stp_convN rfl rfl (by as_aux_lemma => kernel_rfl) (by as_aux_lemma => kernel_rfl) hcv | exact stp_shl1 (g := L + 1) rfl rfl rfl h5 | exact stp_sub rfl rfl rfl hw); apply run_step rfl; (exact stp_assign rfl rfl); refine run_nil ?_; refine fin_seq ?_; refine goes_ret ?_)
  exact fin_ret1 (.inl rfl) rfl (.tmp rfl) trivial trivial
set_option maxRecDepth 100000 in
set_option maxHeartbeats 2000000 in
theorem kindK_fc (zs : List Int) (L mask : Nat) (hL : zs.length = L) (hd : isDiag zs = true) (hmk : mask < 1000) :
    FC Try.prog 60 [(1003, wRo zs)] [o1 (.sl 1003 0 L), vv (I6 mask)] [] (vv (I6 (kindN (comps zs mask) (comps zs mask).length : Nat))) [] := by
  have h4 : L ≤ 4 := by have := isDiag_len hd; omega
  have hC := (parts_fc zs L mask hL h4 hmk).nm [(1003, 1003), (8, 10)] (by kernel_rfl)
  have hC : FC Try.prog 79 [(1003, wRo zs)] [o1 (.sl 1003 0 L), vv (I6 mask)] [(10, rwOw (comps zs mask))] (o1 (.sl 10 0 (comps zs mask).length)) [] := hC
  have hlab : ∀ k, k < (comps zs mask).length → Labs (cget (comps zs mask) k).2 := fun k hk => labs_of hd hk
  have hnp : (comps zs mask).length ≤ 5 := by
    have h1 := csum_len (comps zs mask); have h2 := (comps_ok zs mask).sum; omega
  refine fc_enter (nt := 36) Try.func60 rfl rfl (by simp) fun w0 ω0 => ?_
  generalize comps zs mask = ps at *
  generalize hN : ps.length = N at *
  have hrx := rowsP_len ps
  rw [hN] at hrx
  (refine goes_seq ?_; refine goes_region ?_; apply run_step rfl; (exact stp_assign rfl rfl); refine run_nil ?_; refine fin_seq ?_; refine goes_seq ?_; refine goes_region ?_; apply run_step rfl; (exact stp_move rfl rfl); apply run_step rfl; (exact stp_move rfl rfl); apply run_step rfl; (apply call_gate 79; exact stp_callN hC (by as_aux_lemma => kernel_rfl) rfl rfl ⟨rfl, rfl, trivial⟩ ⟨⟨_, rfl, .inl rfl⟩, trivial⟩ rfl rfl rfl); apply run_step rfl; (exact stp_assign rfl rfl); apply run_step rfl; (exact stp_assign rfl rfl); refine run_nil ?_; refine fin_seq ?_; refine goes_seq ?_; refine goes_seq ?_; refine goes_region ?_; apply run_step rfl; (exact stp_assign rfl rfl); refine run_nil ?_; refine fin_seq ?_; refine goes_block ?_)
  refine goes_loop (fun j : Nat => St.of [(5, o1 (.sl 10 0 N)), (6, vv (I6 (kindN ps j : Nat))), (7, vv (I6 j))] [(10, rwOw ps)]) (fun j => j ≤ N) (fun j => N - j) 0 (Nat.zero_le _) (Wk.of ⟨rfl, rfl, rfl, trivial⟩ ⟨rfl, trivial⟩ trivial) ?_
  rintro j hj
  (refine goes_seq ?_; refine goes_seq ?_; refine goes_region ?_; apply run_step rfl; (exact stp_move rfl rfl); apply run_step rfl; (exact stp_move rfl rfl); apply run_step rfl; (exact stp_len rfl rfl rfl (by as_aux_lemma => kernel_rfl)); apply run_step rfl; (exact stp_bin rfl rfl rfl rfl); refine run_nil ?_; refine fin_seq ?_)
  refine goes_if rfl (fun hlt => ?_) (fun hlt => ?_)
  · have hjN : j < N := by omega
    have hjp : j < ps.length := by omega
    have hL := hlab j hjN
    have hk := kindN_succ hjp
    have hk2 := kindN_le ps j
    have hrj := irowsP_get hjp
    have hrg := rowsP_get hjp
    have hjr : j < (rowsP ps).length := by omega
    have hix : N ≤ (irows (rowsP ps)).length := by rw [irows_len, hrx]; exact Nat.le_refl _
    generalize (cget ps j).2 = labs at *
    have hm4 := hL.1
    have hlm : (ivals labs).length = labs.length := ivals_len _
    have hAf := (affineS_fc (rowsP ps) j labs.length labs hjr hrg rfl hm4).nm [(1000, 10)] (by kernel_rfl)
    have hAf : FC Try.prog 102 [(10, rowsRo (rowsP ps))] [o1 (.esl 10 j 0 labs.length)] [] (vv (.bool (affB labs))) [] := hAf
    have hrest : (degs labs).length = 0 → ∀ (S : St), S = S → True := fun _ _ _ => trivial
    rcases degS_fc (rowsP ps) j labs.length labs hjr hrg rfl hm4 with ⟨hnil, hD⟩ | hD
    · have hD := hD.nm [(1000, 10)] (by kernel_rfl)
      have hD : FC Try.prog 80 [(10, rowsRo (rowsP ps))] [o1 (.esl 10 j 0 labs.length)] [] (vv (.slice none 0 0)) [] := hD
      unfold kStep at hk
      rw [if_pos (by rw [hnil]; rfl)] at hk
      (refine goes_skip ?_; refine fin_seq ?_; refine goes_seq ?_; refine goes_block ?_; refine goes_block ?_; refine goes_seq ?_; refine goes_region ?_; apply run_step rfl; (exact stp_move rfl rfl); apply run_step rfl; (exact stp_move rfl rfl); apply run_step rfl; (first | exact stp_ix (j := j) rfl rfl rfl rfl rfl (by as_aux_lemma => kernel_rfl) rfl hjN hix | exact stp_loadR rfl (by as_aux_lemma => kernel_rfl) rfl rfl rfl hrj hlm | (apply call_gate 80; exact stp_callR hD (by as_aux_lemma => kernel_rfl) rfl rfl ⟨rfl, trivial⟩ ⟨⟨_, rfl, .inr rfl⟩, trivial⟩ rfl rfl)); apply run_step rfl; (first | exact stp_ix (j := j) rfl rfl rfl rfl rfl (by as_aux_lemma => kernel_rfl) rfl hjN hix | exact stp_loadR rfl (by as_aux_lemma => kernel_rfl) rfl rfl rfl hrj hlm | (apply call_gate 80; exact stp_callR hD (by as_aux_lemma => kernel_rfl) rfl rfl ⟨rfl, trivial⟩ ⟨⟨_, rfl, .inr rfl⟩, trivial⟩ rfl rfl)); apply run_step rfl; (first | exact stp_ix (j := j) rfl rfl rfl rfl rfl (by as_aux_lemma => kernel_rfl) rfl hjN hix | exact stp_loadR rfl (by as_aux_lemma => kernel_rfl) rfl rfl rfl hrj hlm | (apply call_gate 80; exact stp_callR hD (by as_aux_lemma => kernel_rfl) rfl rfl ⟨rfl, trivial⟩ ⟨⟨_, rfl, .inr rfl⟩, trivial⟩ rfl rfl)); apply run_step rfl; (exact stp_len rfl rfl rfl (by as_aux_lemma => kernel_rfl)); apply run_step rfl; (exact stp_bin rfl rfl rfl rfl); apply run_step rfl; (exact stp_assign rfl rfl); refine run_nil ?_; refine fin_seq ?_)
      refine goes_cond rfl (fun e => ?_) (fun _ => ?_)
      · exfalso; simp at e
      (refine goes_seq ?_; refine goes_region ?_; apply run_step rfl; (exact stp_move rfl rfl); apply run_step rfl; (exact stp_move rfl rfl); apply run_step rfl; (first | exact stp_ix (j := j) rfl rfl rfl rfl rfl (by as_aux_lemma => kernel_rfl) rfl hjN hix | exact stp_loadR rfl (by as_aux_lemma => kernel_rfl) rfl rfl rfl hrj hlm | (apply call_gate 102; exact stp_callR hAf (by as_aux_lemma => kernel_rfl) rfl rfl ⟨rfl, trivial⟩ ⟨⟨_, rfl, .inr rfl⟩, trivial⟩ rfl rfl)); apply run_step rfl; (first | exact stp_ix (j := j) rfl rfl rfl rfl rfl (by as_aux_lemma => kernel_rfl) rfl hjN hix | exact stp_loadR rfl (by as_aux_lemma => kernel_rfl) rfl rfl rfl hrj hlm | (apply call_gate 102; exact stp_callR hAf (by as_aux_lemma => kernel_rfl) rfl rfl ⟨rfl, trivial⟩ ⟨⟨_, rfl, .inr rfl⟩, trivial⟩ rfl rfl)); apply run_step rfl; (first | exact stp_ix (j := j) rfl rfl rfl rfl rfl (by as_aux_lemma => kernel_rfl) rfl hjN hix | exact stp_loadR rfl (by as_aux_lemma => kernel_rfl) rfl rfl rfl hrj hlm | (apply call_gate 102; exact stp_callR hAf (by as_aux_lemma => kernel_rfl) rfl rfl ⟨rfl, trivial⟩ ⟨⟨_, rfl, .inr rfl⟩, trivial⟩ rfl rfl)); apply run_step rfl; (exact stp_move rfl rfl))
      refine run_bool 31 rfl (fun h1 => ?_) (fun h1 => ?_)
      · rw [h1] at hk
        (apply run_gYes rfl rfl rfl; (exact stp_move rfl rfl); apply run_gYes rfl rfl rfl; (exact stp_bin rfl rfl rfl rfl); apply run_step rfl; (exact stp_pickT rfl rfl rfl); apply run_step rfl; (exact stp_assign rfl rfl); refine run_nil ?_; refine fin_seq ?_)
        refine goes_cond rfl (fun h2 => ?_) (fun h2 => ?_)
        · have h2 : kindN ps j ≠ 2 := by have : (kindN ps j : Int) ≠ 2 := by simpa using h2
                                         omega
          rw [if_pos ⟨rfl, h2⟩] at hk
          (refine goes_region ?_; apply run_step rfl; (exact stp_assign rfl rfl); refine run_nil ?_; refine fin_block ?_; refine fin_block ?_; refine fin_seq ?_; refine goes_region ?_; apply run_step rfl; (exact stp_move rfl rfl); apply run_step rfl; (exact stp_add rfl rfl rfl (by first | exact IntWalk.i64_in _ (by omega) | rfl)); apply run_step rfl; (exact stp_assign rfl rfl); refine run_nil ?_)
          exact fin_round (j + 1) (by omega) (by omega) (Wk.of ⟨rfl, congrArg (fun k : Nat => some (vv (I6 (k : Int)))) hk.symm, rfl, trivial⟩ ⟨rfl, trivial⟩ trivial)
        · have h2 : kindN ps j = 2 := by have : (kindN ps j : Int) = 2 := by simpa using h2
                                         omega
          rw [if_neg (fun h => h.2 h2)] at hk
          (refine goes_region ?_; apply run_step rfl; (exact stp_assign rfl rfl); refine run_nil ?_; refine fin_block ?_; refine fin_block ?_; refine fin_seq ?_; refine goes_region ?_; apply run_step rfl; (exact stp_move rfl rfl); apply run_step rfl; (exact stp_add rfl rfl rfl (by first | exact IntWalk.i64_in _ (by omega) | rfl)); apply run_step rfl; (exact stp_assign rfl rfl); refine run_nil ?_)
          exact fin_round (j + 1) (by omega) (by omega) (Wk.of ⟨rfl, congrArg (fun k : Nat => some (vv (I6 (k : Int)))) hk.symm, rfl, trivial⟩ ⟨rfl, trivial⟩ trivial)
      · rw [h1, if_neg (by simp)] at hk
        (apply run_gNo rfl rfl rfl rfl rfl; apply run_gNo rfl rfl rfl rfl rfl; apply run_step rfl; (exact stp_pickF rfl rfl rfl); apply run_step rfl; (exact stp_assign rfl rfl); refine run_nil ?_; refine fin_seq ?_)
        refine goes_cond rfl (fun e => by cases e) (fun _ => ?_)
        (refine goes_region ?_; apply run_step rfl; (exact stp_assign rfl rfl); refine run_nil ?_; refine fin_block ?_; refine fin_block ?_; refine fin_seq ?_; refine goes_region ?_; apply run_step rfl; (exact stp_move rfl rfl); apply run_step rfl; (exact stp_add rfl rfl rfl (by first | exact IntWalk.i64_in _ (by omega) | rfl)); apply run_step rfl; (exact stp_assign rfl rfl); refine run_nil ?_)
        exact fin_round (j + 1) (by omega) (by omega) (Wk.of ⟨rfl, congrArg (fun k : Nat => some (vv (I6 (k : Int)))) hk.symm, rfl, trivial⟩ ⟨rfl, trivial⟩ trivial)
    · have hD := hD.nm [(1000, 10), (2100, 22)] (by kernel_rfl)
      have hD : FC Try.prog 80 [(10, rowsRo (rowsP ps))] [o1 (.esl 10 j 0 labs.length)] [(22, leOw (degs labs))] (o1 (.sl 22 0 (degs labs).length)) [] := hD
      unfold kStep at hk
      (refine goes_skip ?_; refine fin_seq ?_; refine goes_seq ?_; refine goes_block ?_; refine goes_block ?_; refine goes_seq ?_; refine goes_region ?_; apply run_step rfl; (exact stp_move rfl rfl); apply run_step rfl; (exact stp_move rfl rfl); apply run_step rfl; (first | exact stp_ix (j := j) rfl rfl rfl rfl rfl (by as_aux_lemma => kernel_rfl) rfl hjN hix | exact stp_loadR rfl (by as_aux_lemma => kernel_rfl) rfl rfl rfl hrj hlm | (apply call_gate 80; exact stp_callN hD (by as_aux_lemma => kernel_rfl) rfl rfl ⟨rfl, trivial⟩ ⟨⟨_, rfl, .inr rfl⟩, trivial⟩ rfl rfl rfl)); apply run_step rfl; (first | exact stp_ix (j := j) rfl rfl rfl rfl rfl (by as_aux_lemma => kernel_rfl) rfl hjN hix | exact stp_loadR rfl (by as_aux_lemma => kernel_rfl) rfl rfl rfl hrj hlm | (apply call_gate 80; exact stp_callN hD (by as_aux_lemma => kernel_rfl) rfl rfl ⟨rfl, trivial⟩ ⟨⟨_, rfl, .inr rfl⟩, trivial⟩ rfl rfl rfl)); apply run_step rfl; (first | exact stp_ix (j := j) rfl rfl rfl rfl rfl (by as_aux_lemma => kernel_rfl) rfl hjN hix | exact stp_loadR rfl (by as_aux_lemma => kernel_rfl) rfl rfl rfl hrj hlm | (apply call_gate 80; exact stp_callN hD (by as_aux_lemma => kernel_rfl) rfl rfl ⟨rfl, trivial⟩ ⟨⟨_, rfl, .inr rfl⟩, trivial⟩ rfl rfl rfl)); apply run_step rfl; (exact stp_len rfl rfl rfl (by as_aux_lemma => kernel_rfl)); apply run_step rfl; (exact stp_bin rfl rfl rfl rfl); apply run_step rfl; (exact stp_assign rfl rfl); refine run_nil ?_; refine fin_seq ?_)
      refine goes_cond rfl (fun e => ?_) (fun e => ?_)
      · have e : ¬ (degs labs).length = 0 := by
          have := of_decide_eq_true e; omega
        rw [if_neg e] at hk
        (refine goes_skip ?_; refine fin_block ?_; refine fin_block ?_; refine fin_seq ?_; refine goes_region ?_; apply run_step rfl; (exact stp_move rfl rfl); apply run_step rfl; (exact stp_add rfl rfl rfl (by first | exact IntWalk.i64_in _ (by omega) | rfl)); apply run_step rfl; (exact stp_assign rfl rfl); refine run_nil ?_)
        exact fin_round (j + 1) (by omega) (by omega) (Wk.of ⟨rfl, congrArg (fun k : Nat => some (vv (I6 (k : Int)))) hk.symm, rfl, trivial⟩ ⟨rfl, trivial⟩ trivial)
      have e : (degs labs).length = 0 := by
        have := of_decide_eq_false e; omega
      rw [if_pos e] at hk
      (refine goes_seq ?_; refine goes_region ?_; apply run_step rfl; (exact stp_move rfl rfl); apply run_step rfl; (exact stp_move rfl rfl); apply run_step rfl; (first | exact stp_ix (j := j) rfl rfl rfl rfl rfl (by as_aux_lemma => kernel_rfl) rfl hjN hix | exact stp_loadR rfl (by as_aux_lemma => kernel_rfl) rfl rfl rfl hrj hlm | (apply call_gate 102; exact stp_callR hAf (by as_aux_lemma => kernel_rfl) rfl rfl ⟨rfl, trivial⟩ ⟨⟨_, rfl, .inr rfl⟩, trivial⟩ rfl rfl)); apply run_step rfl; (first | exact stp_ix (j := j) rfl rfl rfl rfl rfl (by as_aux_lemma => kernel_rfl) rfl hjN hix | exact stp_loadR rfl (by as_aux_lemma => kernel_rfl) rfl rfl rfl hrj hlm | (apply call_gate 102; exact stp_callR hAf (by as_aux_lemma => kernel_rfl) rfl rfl ⟨rfl, trivial⟩ ⟨⟨_, rfl, .inr rfl⟩, trivial⟩ rfl rfl)); apply run_step rfl; (first | exact stp_ix (j := j) rfl rfl rfl rfl rfl (by as_aux_lemma => kernel_rfl) rfl hjN hix | exact stp_loadR rfl (by as_aux_lemma => kernel_rfl) rfl rfl rfl hrj hlm | (apply call_gate 102; exact stp_callR hAf (by as_aux_lemma => kernel_rfl) rfl rfl ⟨rfl, trivial⟩ ⟨⟨_, rfl, .inr rfl⟩, trivial⟩ rfl rfl)); apply run_step rfl; (exact stp_move rfl rfl))
      refine run_bool 31 rfl (fun h1 => ?_) (fun h1 => ?_)
      · rw [h1] at hk
        (apply run_gYes rfl rfl rfl; (exact stp_move rfl rfl); apply run_gYes rfl rfl rfl; (exact stp_bin rfl rfl rfl rfl); apply run_step rfl; (exact stp_pickT rfl rfl rfl); apply run_step rfl; (exact stp_assign rfl rfl); refine run_nil ?_; refine fin_seq ?_)
        refine goes_cond rfl (fun h2 => ?_) (fun h2 => ?_)
        · have h2 : kindN ps j ≠ 2 := by have : (kindN ps j : Int) ≠ 2 := by simpa using h2
                                         omega
          rw [if_pos ⟨rfl, h2⟩] at hk
          (refine goes_region ?_; apply run_step rfl; (exact stp_assign rfl rfl); refine run_nil ?_; refine fin_block ?_; refine fin_block ?_; refine fin_seq ?_; refine goes_region ?_; apply run_step rfl; (exact stp_move rfl rfl); apply run_step rfl; (exact stp_add rfl rfl rfl (by first | exact IntWalk.i64_in _ (by omega) | rfl)); apply run_step rfl; (exact stp_assign rfl rfl); refine run_nil ?_)
          exact fin_round (j + 1) (by omega) (by omega) (Wk.of ⟨rfl, congrArg (fun k : Nat => some (vv (I6 (k : Int)))) hk.symm, rfl, trivial⟩ ⟨rfl, trivial⟩ trivial)
        · have h2 : kindN ps j = 2 := by have : (kindN ps j : Int) = 2 := by simpa using h2
                                         omega
          rw [if_neg (fun h => h.2 h2)] at hk
          (refine goes_region ?_; apply run_step rfl; (exact stp_assign rfl rfl); refine run_nil ?_; refine fin_block ?_; refine fin_block ?_; refine fin_seq ?_; refine goes_region ?_; apply run_step rfl; (exact stp_move rfl rfl); apply run_step rfl; (exact stp_add rfl rfl rfl (by first | exact IntWalk.i64_in _ (by omega) | rfl)); apply run_step rfl; (exact stp_assign rfl rfl); refine run_nil ?_)
          exact fin_round (j + 1) (by omega) (by omega) (Wk.of ⟨rfl, congrArg (fun k : Nat => some (vv (I6 (k : Int)))) hk.symm, rfl, trivial⟩ ⟨rfl, trivial⟩ trivial)
      · rw [h1, if_neg (by simp)] at hk
        (apply run_gNo rfl rfl rfl rfl rfl; apply run_gNo rfl rfl rfl rfl rfl; apply run_step rfl; (exact stp_pickF rfl rfl rfl); apply run_step rfl; (exact stp_assign rfl rfl); refine run_nil ?_; refine fin_seq ?_)
        refine goes_cond rfl (fun e => by cases e) (fun _ => ?_)
        (refine goes_region ?_; apply run_step rfl; (exact stp_assign rfl rfl); refine run_nil ?_; refine fin_block ?_; refine fin_block ?_; refine fin_seq ?_; refine goes_region ?_; apply run_step rfl; (exact stp_move rfl rfl); apply run_step rfl; (exact stp_add rfl rfl rfl (by first | exact IntWalk.i64_in _ (by omega) | rfl)); apply run_step rfl; (exact stp_assign rfl rfl); refine run_nil ?_)
        exact fin_round (j + 1) (by omega) (by omega) (Wk.of ⟨rfl, congrArg (fun k : Nat => some (vv (I6 (k : Int)))) hk.symm, rfl, trivial⟩ ⟨rfl, trivial⟩ trivial)
  · obtain rfl : j = N := by omega
    (refine goes_exit ?_; refine fin_exit_then ?_; refine fin_exit_then ?_; refine fin_exit_eq ?_; refine fin_seq ?_; refine goes_seq ?_; refine goes_region ?_; apply run_step rfl; (exact stp_move rfl rfl); apply run_step rfl; (exact stp_assign rfl rfl); refine run_nil ?_; refine fin_seq ?_; refine goes_ret ?_)
    exact fin_ret1 (.inl rfl) rfl (.tmp rfl) trivial trivial
set_option maxRecDepth 100000 in
theorem kindS_fc (zs : List Int) (hn : zs.length ≤ 4398046511104) :
    FC Try.prog 20 [(1003, wRo zs)] [o1 (.sl 1003 0 zs.length)] [] (.tup [.one (.val (I6 (kindR zs))), .one (.val (I6 (kindC zs)))]) [] := by
  have hI := diagS_fc zs zs.length rfl hn
  refine fc_enter (nt := 11) Try.func20 rfl rfl (by simp) fun w0 ω0 => ?_
  cases hd : isDiag zs with
  | false =>
    rw [hd] at hI
    unfold kindR kindC
    rw [hd, if_neg (by simp), if_neg (by simp)]
    (refine goes_seq ?_; refine goes_region ?_; apply run_step rfl; (exact stp_assign rfl rfl); apply run_step rfl; (exact stp_assign rfl rfl); refine run_nil ?_; refine fin_seq ?_; refine goes_seq ?_; refine goes_seq ?_; refine goes_region ?_; apply run_step rfl; (exact stp_move rfl rfl); apply run_step rfl; (apply call_gate 59; exact stp_callR hI (by as_aux_lemma => kernel_rfl) rfl rfl ⟨rfl, trivial⟩ ⟨⟨_, rfl, .inl rfl⟩, trivial⟩ rfl rfl); apply run_step rfl; (exact stp_not rfl rfl); refine run_nil ?_; refine fin_seq ?_)
    refine goes_cond rfl (fun _ => ?_) (fun e => by cases e)
    (refine goes_seq ?_; refine goes_region ?_; apply run_step rfl; (exact stp_assign rfl rfl); apply run_step rfl; (exact stp_assign rfl rfl); refine run_nil ?_; refine fin_seq ?_; refine goes_ret ?_; refine fin_ret_then ?_)
    exact fin_ret2 (.inl rfl) rfl (.tmp rfl) (.tmp rfl) trivial trivial
  | true =>
    rw [hd] at hI
    have h4 := isDiag_len hd
    have hW := wholeS_fc zs zs.length rfl h4
    have hK := kindK_fc zs zs.length (allN zs) rfl hd (allN_lt h4)
    unfold kindR kindC
    rw [hd, if_pos rfl, if_pos rfl]
    (refine goes_seq ?_; refine goes_region ?_; apply run_step rfl; (exact stp_assign rfl rfl); apply run_step rfl; (exact stp_assign rfl rfl); refine run_nil ?_; refine fin_seq ?_; refine goes_seq ?_; refine goes_seq ?_; refine goes_region ?_; apply run_step rfl; (exact stp_move rfl rfl); apply run_step rfl; (apply call_gate 59; exact stp_callR hI (by as_aux_lemma => kernel_rfl) rfl rfl ⟨rfl, trivial⟩ ⟨⟨_, rfl, .inl rfl⟩, trivial⟩ rfl rfl); apply run_step rfl; (exact stp_not rfl rfl); refine run_nil ?_; refine fin_seq ?_)
    refine goes_cond rfl (fun e => by cases e) (fun _ => ?_)
    (refine goes_skip ?_; refine fin_seq ?_; refine goes_seq ?_; refine goes_region ?_; apply run_step rfl; (exact stp_move rfl rfl); apply run_step rfl; (exact stp_move rfl rfl); apply run_step rfl; (first | (apply call_gate 61; exact stp_callR hW (by as_aux_lemma => kernel_rfl) rfl rfl ⟨rfl, trivial⟩ ⟨⟨_, rfl, .inl rfl⟩, trivial⟩ rfl rfl) | (apply call_gate 60; exact stp_callR hK (by as_aux_lemma => kernel_rfl) rfl rfl ⟨rfl, rfl, trivial⟩ ⟨⟨_, rfl, .inl rfl⟩, trivial⟩ rfl rfl)); apply run_step rfl; (first | (apply call_gate 61; exact stp_callR hW (by as_aux_lemma => kernel_rfl) rfl rfl ⟨rfl, trivial⟩ ⟨⟨_, rfl, .inl rfl⟩, trivial⟩ rfl rfl) | (apply call_gate 60; exact stp_callR hK (by as_aux_lemma => kernel_rfl) rfl rfl ⟨rfl, rfl, trivial⟩ ⟨⟨_, rfl, .inl rfl⟩, trivial⟩ rfl rfl)); apply run_step rfl; (exact stp_assign rfl rfl); apply run_step rfl; (exact stp_assign rfl rfl); refine run_nil ?_; refine fin_seq ?_; refine goes_ret ?_)
    exact fin_ret2 (.inl rfl) rfl (.tmp rfl) (.tmp rfl) trivial trivial
end Go.Proofs.Ytlpeghdbjfnenaa

/- slices.Repeat at []int64. -/
namespace Go.Proofs.Ytlpeghdbjfnenaa
open Go.RowKit

theorem ofInt_u64 (a : Nat) (ha : a < 18446744073709551616) : (BitVec.ofInt 64 (a : Int)).toNat = a := by
  rw [BitVec.ofInt_natCast, BitVec.toNat_ofNat]; exact Nat.mod_eq_of_lt (by omega)
theorem and_low (a : Nat) (ha : a ≤ 1048576) : bits .and .u64 (a : Int) 4294967295 = (a : Int) := by
  show IntKind.u64.wrap ((BitVec.ofInt 64 (a : Int) &&& BitVec.ofInt 64 ((4294967295 : Nat) : Int)).toNat : Int) = _
  rw [BitVec.toNat_and, ofInt_u64 a (by omega), ofInt_u64 4294967295 (by omega), show (4294967295 : Nat) = 2 ^ 32 - 1 from rfl, Nat.and_two_pow_sub_one_eq_mod, Nat.mod_eq_of_lt (by omega)]
  simp [IntKind.wrap, IntKind.signed, IntKind.bits]; omega

theorem wrap_u64_nat (a : Nat) (ha : a ≤ 4294967295) : IntKind.u64.wrap ((a : Nat) : Int) = (a : Int) := by
  simp [IntKind.wrap, IntKind.signed, IntKind.bits]; omega

set_option maxHeartbeats 400000 in
theorem bitsMul_any (a b : Nat) (w : World) (ha : a ≤ 1048576) (hb : b ≤ 1048576) (hab : a * b ≤ 4294967295) :
    Calls Try.prog 136 #[.int .u64 a, .int .u64 b] w fun e w' => e = .returned (.tuple #[.int .u64 0, .int .u64 ((a * b : Nat) : Int)]) ∧ w = w' := by
  have e1 : (a : Int) / 4294967296 = 0 := by omega
  have e2 : (b : Int) / 4294967296 = 0 := by omega
  have e3 : bits .and .u64 (a : Int) 4294967295 = (a : Int) := and_low a ha
  have e4 : bits .and .u64 (b : Int) 4294967295 = (b : Int) := and_low b hb
  have e5 : (a : Int) * (b : Int) = ((a * b : Nat) : Int) := by rw [Int.natCast_mul]
  have e6 : IntKind.u64.wrap ((a : Int) * (b : Int)) = ((a * b : Nat) : Int) := by rw [e5]; exact wrap_u64_nat _ hab
  have e7 : ((a : Int) * (b : Int)) / 4294967296 = 0 := by rw [e5]; omega
  have e8 : bits .and .u64 0 4294967295 = 0 := by decide +kernel
  have e9 : IntKind.u64.wrap 0 = 0 := by decide +kernel
  have H6 := Lib.hid e6
  have H5 := Lib.hid e5
  clear e5 e6
  have e10 : IntKind.u64.wrap ((a : Int) * (b : Int)) = (a : Int) * (b : Int) := by rw [H6.out, H5.out]
  go_enter Try.func136, Try.ntmps136
  go_wp2
  go_ret2
  exact ⟨by simp, rfl⟩

/-- a list again and again -/
def repL {α : Type} (zs : List α) (count : Nat) : List α := (List.replicate count zs).flatten
theorem length_repL {α : Type} (zs : List α) (count : Nat) : (repL zs count).length = zs.length * count := by
  unfold repL; rw [List.length_flatten]; simp; exact Nat.mul_comm _ _
theorem repL_add {α : Type} (zs : List α) (a b : Nat) : repL zs (a + b) = repL zs a ++ repL zs b := by
  unfold repL; rw [← List.replicate_append_replicate, List.flatten_append]
theorem repL_one {α : Type} (zs : List α) : repL zs 1 = zs := by simp [repL]
/-- what is copied from the front to behind place k, k a multiple of the period -/
theorem repL_double {α : Type} {zs : List α} {count j c : Nat} (hj : j ≤ count) (hc : c ≤ zs.length * (count - j)) : (repL zs count).take (zs.length * j + c) = (repL zs count).take (zs.length * j) ++ (repL zs count).take c := by
  have h1 : repL zs count = repL zs j ++ repL zs (count - j) := by rw [← repL_add]; congr 1; omega
  have h2 : repL zs count = repL zs (count - j) ++ repL zs j := by rw [← repL_add]; congr 1; omega
  have l1 := length_repL zs j
  have l2 := length_repL zs (count - j)
  have e3 : (repL zs count).take c = (repL zs (count - j)).take c := by rw [h2, List.take_append_of_le_length (by omega)]
  have e4 : (repL zs count).take (zs.length * j) = repL zs j := by rw [h1, ← l1, List.take_left']; rfl
  rw [e3, e4, h1, List.take_append, List.take_of_length_le (by omega)]
  congr 2; omega

theorem splice_pad {α : Type} {R : List α} {z : α} {k c T : Nat} (hR : R.length = T) (hk : k + c ≤ T) (h : R.take (k + c) = R.take k ++ R.take c) : splice (R.take k ++ List.replicate (T - k) z) k (R.take c) = R.take (k + c) ++ List.replicate (T - (k + c)) z := by
  unfold splice
  have l1 : (R.take k).length = k := by simp; omega
  have l2 : (R.take c).length = c := by simp; omega
  rw [List.take_append_of_le_length (by omega), List.take_of_length_le (by omega), l2, List.drop_append, List.drop_of_length_le (by omega), l1, h]
  simp
  omega

theorem splice_map {α β : Type} (f : α → β) (xs : List α) (k : Nat) (ys : List α) : (splice xs k ys).map f = splice (xs.map f) k (ys.map f) := by
  unfold splice; simp

/-- a whole row of the call's own, cell by cell -/
theorem Own.heap_ {w : World} {base E g T : Nat} {xs : List Value} (h : Own w base E (some ⟨g, 0, none⟩) T T xs) : w.heap[g]? = some (.cells xs.toArray E (0, 0)) := by
  rcases h.1.2 with ⟨h2, _⟩ | ⟨g', cap, cur, hv, _, hh, _, _, hs, ht⟩
  · cases h2
  · injection hv with h1 h2 h3
    injection h1 with h1; injection h1 with h1
    subst h1 h3
    have : cur.toList = xs := by rw [← ht, List.take_of_length_le]; rw [Array.length_toList, hs]; exact Nat.le_refl _
    rw [hh, ← this, Array.toArray_toList]
theorem Own.of_heap {w w' : World} {base E g T : Nat} {xs ys : List Value} (h : Own w base E (some ⟨g, 0, none⟩) T T xs) (hh : w'.heap[g]? = some (.cells ys.toArray E (0, 0))) (hl : ys.length = T) : Own w' base E (some ⟨g, 0, none⟩) T T ys := by
  refine ⟨⟨by rw [hl, Nat.mul_one], .inr ⟨g, T, ys.toArray, rfl, (h.lt g rfl).1, hh, Nat.le_refl _, by have := h.2; simp [maxLen]; omega, by simp [hl], ?_⟩⟩, h.2⟩
  simp [← hl]
section
variable {P : Program} {ops : Array Oper} {rest : List Oper} {o : Oper} {a : Act} {Q : Exit → Act → World → Prop}
/-- copy into a row of the call's own -/
theorem wpList_cp {S E : TypeId} {z : Value} {bytes : Nat} (et : ET P S E z bytes) (w : World) (hg : o.guard = none) (d s : Operand) (ho : o.op = .call { callee := .builtin .copy, args := #[d, s], argTypes := #[S, S] })
    (base g T off : Nat) (xs cs : List Value) (hown : Own w base E (some ⟨g, 0, none⟩) T T xs) (dp : Option Addr) (dLen dCap : Nat) (hd : a.eval d = .slice dp dLen dCap) (sp : Option Addr) (sLen sCap : Nat) (hs : a.eval s = .slice sp sLen sCap)
    (hn : cs.length = Nat.min sLen dLen) (hpos : 0 < cs.length → dp = some ⟨g, off, none⟩ ∧ ∃ ad, sp = some ad ∧ ∀ j v, cs[j]? = some v → w.cell? (ad.add j) = some v) (hfit : off + cs.length ≤ T) (h1 : ∀ v ∈ cs, v.oneCell' = true)
    (h : ∀ w', Own w' base E (some ⟨g, 0, none⟩) T T (splice xs off cs) → Below g w w' → wpList P ops Q rest (a.put o.dst (goInt cs.length)) w') : wpList P ops Q (o :: rest) a w := by
  obtain ⟨i, hi, hz, hsz, hby⟩ := info_parts et.info
  refine wpList_copy_splice hg d s S S ho E et.und (by rw [hi]; simp [hsz]) dp sp dLen dCap sLen sCap hd hs g off xs E hown.heap_ cs hn hpos (by rw [hown.len]; exact hfit) h1 g w (Below.refl _ _) (Nat.le_refl _) ?_
  intro w' hh hb
  exact h w' (hown.of_heap hh.out (by rw [length_splice _ _ _ (by rw [hown.len]; exact hfit), hown.len])) hb
theorem step_cp {S E : TypeId} {z : Value} {bytes : Nat} (et : ET P S E z bytes) {w : World} {K : Act → World → Prop} {X : Prop} (hg : o.guard = none) (d s : Operand) (ho : o.op = .call { callee := .builtin .copy, args := #[d, s], argTypes := #[S, S] })
    (base g T off : Nat) (xs cs : List Value) (hown : Own w base E (some ⟨g, 0, none⟩) T T xs) (dp : Option Addr) (dLen dCap : Nat) (hd : a.eval d = .slice dp dLen dCap) (sp : Option Addr) (sLen sCap : Nat) (hs : a.eval s = .slice sp sLen sCap)
    (hn : cs.length = Nat.min sLen dLen) (hpos : 0 < cs.length → dp = some ⟨g, off, none⟩ ∧ ∃ ad, sp = some ad ∧ ∀ j v, cs[j]? = some v → w.cell? (ad.add j) = some v) (hfit : off + cs.length ≤ T) (h1 : ∀ v ∈ cs, v.oneCell' = true)
    (h : ∀ w', Own w' base E (some ⟨g, 0, none⟩) T T (splice xs off cs) → Below g w w' → K (a.put o.dst (goInt cs.length)) w') : if Region.wanted o (yielded ops a.tmps) = true then Oper.wp P o a w K Q else X := by
  obtain ⟨i, hi, hz, hsz, hby⟩ := info_parts et.info
  refine step_copy_splice hg d s S S ho E et.und (by rw [hi]; simp [hsz]) dp sp dLen dCap sLen sCap hd hs g off xs E hown.heap_ cs hn hpos (by rw [hown.len]; exact hfit) h1 g w (Below.refl _ _) (Nat.le_refl _) ?_
  intro w' hh hb
  exact h w' (hown.of_heap hh.out (by rw [length_splice _ _ _ (by rw [hown.len]; exact hfit), hown.len])) hb
end

set_option maxRecDepth 100000 in
set_option maxHeartbeats 3200000 in
theorem repeat_any (ao : Option Addr) (n c count : Nat) (zs : List Int) (w : World) (h : Ints w ao n zs) (hn : n ≤ 1048576) (hc : count ≤ 1048576) (hnc : n * count ≤ 1048576) (hpos : 0 < n * count) :
    Calls Try.prog 108 #[.slice ao n c, .int .i64 count] w fun e w' => ∃ ao' c', e = .returned (.slice ao' (n * count) c') ∧ Own w' w.heap.size 2 ao' (n * count) c' ((repL zs count).map (Value.int .i64)) ∧ Below w.heap.size w w' := by
  have HL := Lib.hid h.1
  have hn0 : 0 < n := Nat.pos_of_mul_pos_right hpos
  have hc0 : 0 < count := Nat.pos_of_mul_pos_left hpos
  have hle : n ≤ n * count := Nat.le_mul_of_pos_right _ hc0
  obtain ⟨T, hT⟩ : ∃ T, n * count = T := ⟨_, rfl⟩
  rw [hT] at hpos hle ⊢
  have HT := Lib.hid hT
  have hT2 : T ≤ 1048576 := by omega
  clear hT hnc
  have hRl : ((repL zs count)).length = T := by rw [length_repL, HL.out, HT.out]
  have HR := Lib.hid hRl
  clear hRl
  obtain ⟨b, off, rfl, hb0, hcells⟩ := h.all_ hn0
  obtain ⟨cs, hcs⟩ : ∃ cs : List Value, cs = ((repL zs count).take n).map (Value.int .i64) := ⟨_, rfl⟩
  have hcl : cs.length = n := by rw [hcs]; simp [HR.out]; omega
  have hc1 : ∀ v ∈ cs, v.oneCell' = true := by rw [hcs]; exact ints_oneCell _ _
  have hcsv : ∀ j v, cs[j]? = some v → w.cell? ⟨b, off + j, none⟩ = some v := by
    intro j v hv
    have hj : j < n := by have := (List.getElem?_eq_some_iff.1 hv).1; omega
    have hrn : (repL zs count).take n = zs := by
      have e : repL zs count = zs ++ repL zs (count - 1) := by
        have : count = 1 + (count - 1) := by omega
        conv => lhs; rw [this]
        rw [repL_add, repL_one]
      rw [e, ← HL.out, List.take_left']; rfl
    rw [hcs, hrn, List.getElem?_map, List.getElem?_eq_getElem (by rw [HL.out]; exact hj)] at hv
    rw [hcells j hj, ← hv, iget_lt (by rw [HL.out]; exact hj)]; rfl
  have HCS := Lib.hid hcs
  have HCL := Lib.hid hcl
  have HC1 := Lib.hid hc1
  have HCV := Lib.hid hcsv
  have x1 := wrap_u64_nat n (by omega)
  have x2 := wrap_u64_nat count (by omega)
  clear hcs hcl hc1 hcsv hcells
  go_enter Try.func108, Try.ntmps108
  go_wp2_with (first | (go_at_call 136; refine (bitsMul_any n count _ hn hc (by rw [HT.out]; omega)).mono ?_; rintro e w' ⟨rfl, rfl⟩; rw [HT.out]) | (at_make; refine wpList_mk etI _ rfl _ _ rfl w.heap.size _ _ _ _ T rfl rfl rfl rfl (by omega) (Nat.le_refl _) ?_; intro w1 hown hgrow hsz; have hb1 : Below w.heap.size w w1 := (Below.refl _ _).grown hgrow (Nat.le_refl _) (by simp); clear hgrow) | (with_reducible refine wpList_cp (o := ⟨some 33, _, _, _, _, _⟩) etI _ rfl (.tmp 31) (.tmp 32) rfl w.heap.size w.heap.size T 0 _ cs hown _ _ _ rfl _ _ _ rfl ?_ ?_ ?_ HC1.out ?_))
  · rw [HCL.out]; exact (Nat.min_eq_left hle).symm
  · exact fun _ j v hv => (hb1.cell (p := ⟨b, off + j, none⟩) hb0).trans (HCV.out j v hv)
  · rw [HCL.out]; omega
  intro w2 o2 b2
  have hb2 : Below w.heap.size w w2 := hb1.trans b2
  have e0 : splice (List.replicate T (Value.int .i64 0)) 0 cs = ((repL zs count).take n ++ List.replicate (T - n) 0).map (Value.int .i64) := by
    rw [HCS.out, ← List.map_replicate]
    have := splice_pad (R := repL zs count) (z := (0 : Int)) (k := 0) (c := n) HR.out (by omega) (by simp)
    simp only [List.take_zero, List.nil_append, Nat.zero_add, Nat.sub_zero] at this
    rw [← this]
    simp [splice]
  rw [e0] at o2
  rw [HCL.out]
  clear e0 hown hsz hb1 b2 HCV HC1 HCS HCL
  go_wp2
  go_loopw [8] (fun i wr => ∃ k j : Nat, i = .int .i64 k ∧ 0 < k ∧ k ≤ T ∧ (k = n * j ∧ j ≤ count ∨ k = T) ∧ Own wr w.heap.size 2 (some ⟨w.heap.size, 0, none⟩) T T (((repL zs count).take k ++ List.replicate (T - k) 0).map (Value.int .i64)) ∧ Below w.heap.size w wr) (fun i _ => T - (intOf i).toNat)
  case atStart => exact ⟨n, 1, by simp, hn0, hle, .inl ⟨by omega, by omega⟩, o2, hb2⟩
  case round =>
    obtain ⟨k, j, rfl, hk0, hkT, hkj, ho, hb⟩ := hrel
    clear o2 hb2
    have HK := Lib.hid hkj
    clear hkj
    by_cases hlt : k < T
    · obtain ⟨c2, hc2⟩ : ∃ c2, c2 = Nat.min k (T - k) := ⟨_, rfl⟩
      have hc2a : c2 ≤ k := by rw [hc2]; exact Nat.min_le_left _ _
      have hc2b : c2 ≤ T - k := by rw [hc2]; exact Nat.min_le_right _ _
      have hc2c : 0 < c2 := by rw [hc2]; exact Nat.lt_min.2 ⟨hk0, by omega⟩
      have hdb : (repL zs count).take (k + c2) = (repL zs count).take k ++ (repL zs count).take c2 := by
        rcases HK.out with ⟨e, hj⟩ | e
        · have hx : c2 ≤ zs.length * (count - j) := by rw [HL.out, Nat.mul_sub, HT.out, ← e]; exact hc2b
          have := repL_double (zs := zs) hj hx
          rwa [HL.out, ← e] at this
        · omega
      obtain ⟨cs, hcs⟩ : ∃ cs : List Value, cs = ((repL zs count).take c2).map (Value.int .i64) := ⟨_, rfl⟩
      have hcl : cs.length = c2 := by rw [hcs]; simp [HR.out]; omega
      have hc1 : ∀ v ∈ cs, v.oneCell' = true := by rw [hcs]; exact ints_oneCell _ _
      have hcsv : ∀ j v, cs[j]? = some v → wr.cell? ⟨w.heap.size, j, none⟩ = some v := by
        intro j v hv
        have hj : j < c2 := by have := (List.getElem?_eq_some_iff.1 hv).1; omega
        obtain ⟨g', eg, -, -, -, hcell, -⟩ := ho.form (by omega)
        injection eg with eg; injection eg with eg; subst eg
        rw [hcell j (by omega), ← hv, hcs, List.getElem?_map, List.getElem?_map, List.getElem?_append_left (by simp [HR.out]; omega), List.getElem?_take, List.getElem?_take, if_pos (by omega), if_pos (by omega)]
      have HD := Lib.hid hdb
      have HC := Lib.hid hcs
      have HCL := Lib.hid hcl
      have HC1 := Lib.hid hc1
      have HCV := Lib.hid hcsv
      have HC2 := Lib.hid hc2
      have hTk : ((T - k : Nat) : Int) = (T : Int) - k := by omega
      clear hdb hcs hcl hc1 hcsv hc2 hTk
      go_wp2_with fail
      have HB := Lib.hid hb
      have HS := Lib.hid (show ((k : Nat) : Int) + ((c2 : Nat) : Int) = ((k + c2 : Nat) : Int) by omega)
      have hw : IntKind.i64.wrap (((k + c2 : Nat) : Nat) : Int) = ((k + c2 : Nat) : Int) := by simp [IntKind.wrap, IntKind.signed, IntKind.bits]; omega
      have HW := Lib.hid hw
      clear hw
      go_region_held3 (fun w' => Below w.heap.size w w') (first | exact HB.out.drew | assumption) (first | (refine step_cp (o := ⟨some 45, _, _, _, _, _⟩) etI rfl (.tmp 41) (.tmp 44) rfl w.heap.size w.heap.size T k _ cs (ho.drewN 1) _ _ _ rfl _ _ _ rfl ?_ ?_ ?_ HC1.out ?_; (rw [HCL.out, HC2.out]); (intro _; exact ⟨if_neg (by omega), _, rfl, fun j v hv => by have hx := HCV.out j v hv; by_cases e : j = 0 <;> simp_all [Addr.add]⟩); (rw [HCL.out]; omega); intro w3 o3 b3; have b4 : Below w.heap.size w w3 := HB.out.drew.trans b3))
      rw [HCL.out, HS.out, HW.out]
      have o4 : Own w3 w.heap.size 2 (some ⟨w.heap.size, 0, none⟩) T T (((repL zs count).take (k + c2) ++ List.replicate (T - (k + c2)) 0).map (Value.int .i64)) := by
        have e := splice_pad (R := repL zs count) (z := (0 : Int)) (k := k) (c := c2) HR.out (by omega) HD.out
        rw [← e]
        rw [HC.out] at o3
        rw [splice_map]
        exact o3
      go_roundw
      case rel =>
        refine ⟨_, _, _, _, _, _, _, _, _, _, _, _, _, _, ⟨k + c2, 2 * j, rfl, by omega, by omega, ?_, o4, b4⟩, rfl⟩
        rcases HK.out with ⟨e, hj⟩ | e
        · by_cases hx : k ≤ T - k
          · have hc2k : c2 = k := by rw [HC2.out]; exact Nat.min_eq_left hx
            left
            have e2 : n * (2 * j) = k + k := by rw [e, Nat.mul_left_comm]; omega
            refine ⟨by omega, ?_⟩
            have : n * (2 * j) ≤ n * count := by rw [HT.out]; omega
            exact Nat.le_of_mul_le_mul_left this hn0
          · have hc2k : c2 = T - k := by rw [HC2.out]; exact Nat.min_eq_right (by omega)
            right; omega
        · omega
      case measure => simp [intOf]; omega
    · obtain rfl : k = T := by omega
      rw [Nat.sub_self, List.replicate_zero, List.append_nil, List.take_of_length_le (Nat.le_of_eq HR.out)] at ho
      go_wp2
      go_ret
      exact ⟨_, _, rfl, ho, hb⟩
end Go.Proofs.Ytlpeghdbjfnenaa

/- Contracts in names of small functions: size, slices.Repeat. -/
namespace Go.Proofs.Ytlpeghdbjfnenaa
open Go.RowKit

theorem size_fc (x n : Nat) (zs : List Int) (own : Bool) : FC Try.prog 88 [(x, ⟨false, 2, 1, .vals (ivals zs)⟩)] [o1 (.sl x 0 n)] [] (vv (I6 n)) [] := by
  refine fc_enter (nt := 5) Try.func88 rfl rfl (by simp) fun w0 ω0 => ?_
  (refine goes_seq ?_; refine goes_region ?_; apply run_step rfl; (exact stp_assign rfl rfl); refine run_nil ?_; refine fin_seq ?_; refine goes_seq ?_; refine goes_region ?_; apply run_step rfl; (exact stp_move rfl rfl); apply run_step rfl; (exact stp_len rfl rfl rfl (by as_aux_lemma => kernel_rfl)); apply run_step rfl; (exact stp_assign rfl rfl); refine run_nil ?_; refine fin_seq ?_; refine goes_ret ?_)
  exact fin_ret1 (.inl rfl) rfl (.tmp rfl) trivial trivial
theorem sizeR_fc (x n : Nat) : FC Try.prog 142 [] [o1 (.sl x 0 n)] [] (vv (I6 n)) [] := by
  refine fc_enter (nt := 5) Try.func142 rfl rfl (by simp) fun w0 ω0 => ?_
  (refine goes_seq ?_; refine goes_region ?_; apply run_step rfl; (exact stp_assign rfl rfl); refine run_nil ?_; refine fin_seq ?_; refine goes_seq ?_; refine goes_region ?_; apply run_step rfl; (exact stp_move rfl rfl); apply run_step rfl; (exact stp_len rfl rfl rfl (by as_aux_lemma => kernel_rfl)); apply run_step rfl; (exact stp_assign rfl rfl); refine run_nil ?_; refine fin_seq ?_; refine goes_ret ?_)
  exact fin_ret1 (.inl rfl) rfl (.tmp rfl) trivial trivial
theorem sizeV_fc (x n : Nat) : FC Try.prog 88 [] [o1 (.sl x 0 n)] [] (vv (I6 n)) [] := by
  refine fc_enter (nt := 5) Try.func88 rfl rfl (by simp) fun w0 ω0 => ?_
  (refine goes_seq ?_; refine goes_region ?_; apply run_step rfl; (exact stp_assign rfl rfl); refine run_nil ?_; refine fin_seq ?_; refine goes_seq ?_; refine goes_region ?_; apply run_step rfl; (exact stp_move rfl rfl); apply run_step rfl; (exact stp_len rfl rfl rfl (by as_aux_lemma => kernel_rfl)); apply run_step rfl; (exact stp_assign rfl rfl); refine run_nil ?_; refine fin_seq ?_; refine goes_ret ?_)
  exact fin_ret1 (.inl rfl) rfl (.tmp rfl) trivial trivial

theorem sizeE_fc (x i n : Nat) : FC Try.prog 88 [] [o1 (.esl x i 0 n)] [] (vv (I6 n)) [] := by
  refine fc_enter (nt := 5) Try.func88 rfl rfl (by simp) fun w0 ω0 => ?_
  (refine goes_seq ?_; refine goes_region ?_; apply run_step rfl; (exact stp_assign rfl rfl); refine run_nil ?_; refine fin_seq ?_; refine goes_seq ?_; refine goes_region ?_; apply run_step rfl; (exact stp_move rfl rfl); apply run_step rfl; (exact stp_len rfl rfl rfl (by as_aux_lemma => kernel_rfl)); apply run_step rfl; (exact stp_assign rfl rfl); refine run_nil ?_; refine fin_seq ?_; refine goes_ret ?_)
  exact fin_ret1 (.inl rfl) rfl (.tmp rfl) trivial trivial

theorem repL_single (z : Int) : ∀ n, repL [z] n = List.replicate n z := fun n => by
  unfold repL
  induction n with
  | zero => rfl
  | succ n ih => simp [List.replicate_succ] at ih ⊢
theorem lk_self {α : Type} (x : Nat) (c : α) : lk x [(x, c)] = some c := by simp [lk]
/-- slices.Repeat of a list of one number -/
theorem repeat1_fc (x y n : Nat) (z : Int) (hn : n ≤ 1048576) (hn0 : 0 < n) :
    FC Try.prog 108 [(x, ⟨false, 2, 1, .vals (ivals [z])⟩)] [o1 (.sl x 0 1), vv (I6 n)] [(y, ⟨true, 2, 1, .vals (ivals (List.replicate n z))⟩)] (o1 (.sl y 0 n)) [] := by
  have h := fc_of_own (P := Try.prog) (f := 108) (ins := [(x, ⟨false, 2, 1, .vals (ivals [z])⟩)]) (args := [o1 (.sl x 0 1), vv (I6 n)]) (x := y) (E := 2) (zs := List.replicate n z) fun w η ω us hm hd => by
    obtain ⟨hl, ha⟩ := hd
    obtain ⟨u0, h0, d0⟩ := ha 0 _ rfl
    obtain ⟨u1, h1, d1⟩ := ha 1 _ rfl
    obtain ⟨ao, c, e0, hi⟩ := rdS (zs := [z]) (E := 2) (own := false) hm (lk_self _ _) d0 (by simp)
    have d1 : u1 = I6 n := d1
    subst e0 d1
    obtain rfl : us = [.slice ao 1 c, I6 n] := by
      match us, hl, h0, h1 with
      | [p, q], _, h0, h1 => simp at h0 h1; rw [h0, h1]
    refine (repeat_any ao 1 c n [z] w hi (by omega) hn (by omega) (by omega)).mono ?_
    rintro e w' ⟨ao', c', rfl, ho, hb⟩
    rw [Nat.one_mul, repL_single] at ho
    rw [List.length_replicate]
    exact ⟨ao', c', by rw [Nat.one_mul], ho, hb⟩
  rw [List.length_replicate] at h
  exact h
end Go.Proofs.Ytlpeghdbjfnenaa

/- The components of a diagram, the program's: components. guards: -/
namespace Go.Proofs.Ytlpeghdbjfnenaa
open Go.RowKit

/-- components as cells: a mask, a row of labels -/
abbrev mixC (ps : Cmps) : List Cel := ps.flatMap fun p => [.v (I6 (p.1 : Int)), .r 2 1 p.2.length (ivals p.2)]
abbrev cpOw (ps : Cmps) : Ch := ⟨true, 67, 2, .mix (mixC ps)⟩
abbrev cpRo (ps : Cmps) : Ch := ⟨false, 67, 2, .mix (mixC ps)⟩
theorem mixC_len (ps : Cmps) : (mixC ps).length = ps.length * 2 := by
  induction ps with
  | nil => rfl
  | cons p r ih => simp [mixC] at ih ⊢; omega
theorem mixC_get : ∀ {ps : Cmps} {k : Nat}, k < ps.length → (mixC ps)[k * 2]? = some (.v (I6 ((cget ps k).1 : Int))) ∧ (mixC ps)[k * 2 + 1]? = some (.r 2 1 (cget ps k).2.length (ivals (cget ps k).2))
  | [], _, h => by simp at h
  | p :: r, 0, _ => ⟨rfl, rfl⟩
  | p :: r, k + 1, h => by
    have := mixC_get (ps := r) (k := k) (by simpa using h)
    rw [show (k + 1) * 2 = k * 2 + 2 by omega]
    exact this
theorem mixC_app (a b : Cmps) : mixC (a ++ b) = mixC a ++ mixC b := by simp [mixC]
theorem mixC_set : ∀ (ps : Cmps) (k : Nat) (m : Nat) (zs : List Int), k < ps.length → ((mixC ps).set (k * 2) (.v (I6 (m : Int)))).set (k * 2 + 1) (.r 2 1 zs.length (ivals zs)) = mixC (ps.set k (m, zs))
  | [], _, _, _, h => by simp at h
  | p :: r, 0, m, zs, _ => rfl
  | p :: r, k + 1, m, zs, h => by
    have := mixC_set r k m zs (by simpa using h)
    rw [show (k + 1) * 2 = k * 2 + 2 by omega]
    show ((.v (I6 (p.1 : Int))) :: .r 2 1 p.2.length (ivals p.2) :: ((mixC r).set (k * 2) (.v (I6 (m : Int)))).set (k * 2 + 1) (.r 2 1 zs.length (ivals zs))) = _
    rw [this]; rfl
set_option maxRecDepth 100000 in
set_option maxHeartbeats 2000000 in
theorem comps_fc (zs : List Int) (L mask : Nat) (hL : zs.length = L) (h4 : L ≤ 4) (hm : mask < 1000) :
    FC Try.prog 63 [(1003, wRo zs)] [o1 (.sl 1003 0 L), vv (I6 mask)] [(2000, cpOw (comps zs mask))] (o1 (.sl 2000 0 (comps zs mask).length)) [] := by
  have hSz := sizeV_fc 1003 L
  refine fc_enter (nt := 68) Try.func63 rfl rfl (by simp) fun w0 ω0 => ?_
  have hil : L ≤ (ivals zs).length := by rw [ivals_len, hL]; exact Nat.le_refl _
  have hL1 : IntKind.i64.wrap ((L : Int) + 1) = ((L + 1 : Nat) : Int) := IntWalk.i64_in _ (by omega)
  (refine goes_seq ?_; refine goes_region ?_; apply run_step rfl; (exact stp_assign rfl rfl); refine run_nil ?_; refine fin_seq ?_; refine goes_seq ?_; refine goes_region ?_; apply run_step rfl; (exact stp_assign rfl rfl); refine run_nil ?_; refine fin_seq ?_; refine goes_seq ?_; refine goes_region ?_; apply run_step rfl; (exact stp_assign rfl rfl); refine run_nil ?_; refine fin_seq ?_; refine goes_seq ?_; refine goes_seq ?_; refine goes_region ?_; apply run_step rfl; (exact stp_move rfl rfl); apply run_step rfl; (first | (apply call_gate 88; exact stp_callR hSz (by as_aux_lemma => kernel_rfl) rfl rfl ⟨rfl, trivial⟩ trivial rfl rfl) | exact stp_add rfl rfl rfl hL1); apply run_step rfl; (first | (apply call_gate 88; exact stp_callR hSz (by as_aux_lemma => kernel_rfl) rfl rfl ⟨rfl, trivial⟩ trivial rfl rfl) | exact stp_add rfl rfl rfl hL1); apply run_step rfl; (exact stp_move rfl rfl); refine run_nil ?_; refine fin_seq ?_; refine goes_block ?_)
  refine goes_loop (fun q : Nat × Cmps × Bool => St.of [(0, o1 (.sl 1003 0 L)), (1, vv (I6 mask)), (5, o1 (.sl 2000 0 q.2.1.length)), (6, vv (.bool q.2.2)), (11, vv (I6 (L + 1 : Nat))), (12, vv (I6 q.1))] [(1003, wRo zs), (2000, cpOw q.2.1)])
    (fun q => q.1 ≤ L + 1 ∧ pTo zs mask q.1 = q.2.1 ∧ (q.1 ≤ L → q.2.2 = jn zs mask q.1)) (fun q => L + 1 - q.1) (0, [], false) ⟨Nat.zero_le _, rfl, fun _ => rfl⟩
    (Wk.trans (wk_nil (t := 5) (n := 2000) (k := 2) (E := 67) (d := .mix (mixC [])) rfl rfl) (Wk.of ⟨rfl, rfl, rfl, rfl, rfl, rfl, trivial⟩ ⟨rfl, rfl, trivial⟩ trivial)) ?_
  rintro ⟨i, ps, jb⟩ ⟨hi, hp, hj⟩
  dsimp only at hi hp hj ⊢
  have hps := pTo_ok zs mask i (by omega)
  have hnx := pTo_succ zs mask i
  rw [hp] at hps hnx
  have hpl : ps.length ≤ 5 := by have := csum_len ps; have := hps.sum; omega
  have hmx := mixC_len ps
  (refine goes_seq ?_; refine goes_region ?_; apply run_step rfl; (exact stp_bin rfl rfl rfl rfl); refine run_nil ?_; refine fin_seq ?_; refine goes_seq ?_)
  refine goes_if rfl (fun hlt => ?_) (fun hlt => ?_)
  · have hiL : i ≤ L := by omega
    have hj := hj hiL
    have hi64 : i ≤ 64 := by omega
    have hmm : mask < 1000000 := by omega
    have hmle : mask / 2 ^ i ≤ mask := Nat.div_le_self _ _
    (refine goes_skip ?_; refine fin_seq ?_; refine goes_seq ?_; refine goes_block ?_; refine goes_seq ?_; refine goes_region ?_; apply run_step rfl; (exact stp_move rfl rfl); apply run_step rfl; (exact stp_assign rfl rfl); refine run_nil ?_; refine fin_seq ?_; refine goes_seq ?_; refine goes_seq ?_; refine goes_region ?_; apply run_step rfl; (exact stp_move rfl rfl); apply run_step rfl; (exact stp_move rfl rfl); apply run_step rfl; (first | exact stp_shrN (g := i) rfl rfl rfl hi64 | exact stp_bit rfl rfl hmm | exact stp_eqBit0 rfl rfl); apply run_step rfl; (first | exact stp_shrN (g := i) rfl rfl rfl hi64 | exact stp_bit rfl rfl hmm | exact stp_eqBit0 rfl rfl); apply run_step rfl; (first | exact stp_shrN (g := i) rfl rfl rfl hi64 | exact stp_bit rfl rfl hmm | exact stp_eqBit0 rfl rfl); refine run_nil ?_; refine fin_seq ?_)
    refine goes_cond rfl (fun hb => ?_) (fun hb => ?_)
    · have hb : mBit mask i = false := by simpa using hb
      have hv : pTo zs mask (i + 1) = ps := by rw [hnx]; unfold pStep; rw [if_neg (by rw [hb]; simp)]
      (refine goes_seq ?_; refine goes_region ?_; apply run_step rfl; (exact stp_assign rfl rfl); refine run_nil ?_; refine fin_seq ?_; refine goes_exit ?_; refine fin_exit_then ?_; refine fin_exit_eq ?_; refine fin_seq ?_; refine goes_region ?_; apply run_step rfl; (exact stp_add rfl rfl rfl (by first | exact IntWalk.i64_in _ (by omega) | rfl)); apply run_step rfl; (exact stp_move rfl rfl); refine run_nil ?_)
      exact fin_round (i + 1, ps, false) ⟨by omega, hv, fun _ => by unfold jn; rw [Nat.add_sub_cancel, hb]; simp⟩ (by show L + 1 - (i + 1) < L + 1 - i; omega) (Wk.of ⟨rfl, rfl, rfl, rfl, rfl, rfl, trivial⟩ ⟨rfl, rfl, trivial⟩ trivial)
    · have hb : mBit mask i = true := by simpa using hb
      unfold pStep at hnx
      rw [if_pos hb, ← hj] at hnx
      have hjn : ∀ b : Bool, i ≤ L → (i + 1 ≤ L → b = !(iget zs i == 2)) → (i + 1 ≤ L → b = jn zs mask (i + 1)) := fun b _ h1 h2 => by
        rw [h1 h2]; unfold jn; rw [Nat.add_sub_cancel, hb]; simp
      have hi5 : i ≤ 5 := by omega
      (refine goes_skip ?_; refine fin_seq ?_; refine goes_seq ?_; refine goes_seq ?_; refine goes_region ?_; apply run_step rfl; (exact stp_move rfl rfl); refine run_nil ?_; refine fin_seq ?_)
      refine goes_cut (St.of [(0, o1 (.sl 1003 0 L)), (1, vv (I6 mask)), (5, o1 (.sl 2000 0 (pTo zs mask (i + 1)).length)), (7, vv (I6 i)), (11, vv (I6 (L + 1 : Nat))), (12, vv (I6 i))] [(1003, wRo zs), (2000, cpOw (pTo zs mask (i + 1)))]) ?_ ?_
      · refine goes_cond rfl (fun hjb => ?_) (fun hjb => ?_)
        · have hjs := jn_spec (hj ▸ hjb)
          have hne := hps.ne hjs.1 hjs.2.1
          obtain ⟨j, hjl⟩ : ∃ j, ps.length = j + 1 := ⟨ps.length - 1, by omega⟩
          have hjp : j < ps.length := by omega
          have hv : pTo zs mask (i + 1) = ps.set j ((cget ps j).1 ||| 2 ^ i, (cget ps j).2 ++ [iget zs (i - 1)]) := by
            rw [hnx, if_pos hjb]; unfold pLast; rw [show ps.length - 1 = j by omega]
          have hsub : IntKind.i64.wrap ((ps.length : Int) - 1) = (j : Int) := by rw [hjl]; exact (IntWalk.i64_in _ (by omega)).trans (by omega)
          have hget := mixC_get hjp
          have hmlt := hps.lt _ (cget_mem hjp)
          have hllt := csum_le (cget_mem hjp)
          have hsum := hps.sum
          have h2i : 2 ^ i ≤ 2 ^ 5 := Nat.pow_le_pow_right (by decide) hi5
          have hset := mixC_set ps j ((cget ps j).1 ||| 2 ^ i) ((cget ps j).2 ++ [iget zs (i - 1)]) hjp
          have hml : (mixC ps).length = ps.length * 2 := hmx
          rw [hv]
          generalize (cget ps j).1 = m at *
          generalize (cget ps j).2 = labs at *
          have gz : (ivals zs)[i - 1]? = some (I6 (iget zs (i - 1))) := ivals_get (by omega)
          have hi1 : (i : Int) - 1 = ((i - 1 : Nat) : Int) := by omega
          have hi1L : i - 1 < L := by omega
          have hm6 : m < 1000000 := by omega
          have h2i6 : 2 ^ i < 1000000 := by omega
          have hv0 : (mixC ps)[j * 2 + 0]? = some (.v (I6 (m : Int))) := hget.1
          have hv1 : ((mixC ps).set (j * 2 + 0) (.v (I6 ((m ||| 2 ^ i : Nat) : Int))))[j * 2 + 1]? = some (.r 2 1 labs.length (ivals labs)) := by
            rw [List.getElem?_set_ne (by omega)]; exact hget.2
          have hvl : (ivals (labs ++ [iget zs (i - 1)])).length = (labs.length + 1) * 1 := by rw [ivals_len]; simp
          have hk1l : j * 2 + 1 < (((mixC ps).set (j * 2 + 0) (.v (I6 ((m ||| 2 ^ i : Nat) : Int)))).set (j * 2 + 1) .any).length := by rw [List.length_set, List.length_set]; omega
          have hfin : (((mixC ps).set (j * 2 + 0) (.v (I6 ((m ||| 2 ^ i : Nat) : Int)))).set (j * 2 + 1) .any).set (j * 2 + 1) (.r 2 1 (labs.length + 1) (ivals (labs ++ [iget zs (i - 1)]))) = mixC (ps.set j (m ||| 2 ^ i, labs ++ [iget zs (i - 1)])) := by
            rw [List.set_set, ← hset]; simp
          have hix : ps.length * 2 ≤ (mixC ps).length := Nat.le_of_eq hmx.symm
          (refine goes_seq ?_; refine goes_region ?_; apply run_step rfl; (exact stp_move rfl rfl); apply run_step rfl; (exact stp_move rfl rfl); apply run_step rfl; (exact stp_len rfl rfl rfl (by as_aux_lemma => kernel_rfl)); apply run_step rfl; (first | exact stp_sub rfl rfl rfl hsub | exact stp_ixT (k := 2) (j := j) rfl rfl rfl rfl rfl (by as_aux_lemma => kernel_rfl) rfl hjp hix (by omega) rfl); apply run_step rfl; (first | exact stp_sub rfl rfl rfl hsub | exact stp_ixT (k := 2) (j := j) rfl rfl rfl rfl rfl (by as_aux_lemma => kernel_rfl) rfl hjp hix (by omega) rfl); apply run_step rfl; (exact stp_assign rfl rfl); refine run_nil ?_; refine fin_seq ?_; refine goes_seq ?_)
          apply goes_draw 7 [] [[], [0], [0, 1], [0, 1, 2], [], [4], [0, 1, 2, 3, 4, 5], [0, 1, 2, 3, 4, 5, 6], [0, 1, 2, 3, 4, 5, 6, 7], [0, 1, 2, 3, 4, 5, 6, 7, 8]] [26, 27, 28, 29, 30, 31, 32] [] (by kernel_rfl) (by kernel_rfl)
          · (apply draw_put rfl; (intro S1 hS; exact stp_move rfl (hS.op rfl)); apply draw_put rfl; (intro S1 hS; exact stp_nilCheck rfl (hS.op rfl) (hS.ch _ _ rfl)); apply draw_put rfl; (intro S1 hS; exact stp_fieldAddr (d := 0) rfl (hS.op rfl) (hS.ch _ _ rfl) (by as_aux_lemma => kernel_rfl)); (first | (apply draw_put rfl; (focus (intro S1 hS; exact stp_loadM rfl (by as_aux_lemma => kernel_rfl) (hS.op rfl) (hS.ch _ _ rfl) rfl hv0))) | (apply draw_put rfl; (focus (intro S1 hS; exact stp_shl1 (g := i) rfl (hS.op rfl) (hS.op rfl) hi5))) | (apply draw_put rfl; (focus (intro S1 hS; exact stp_orN rfl (hS.op rfl) (hS.op rfl) hm6 h2i6)))); apply draw_put rfl; (intro S1 hS; exact stp_move rfl (hS.op rfl)); (first | (apply draw_put rfl; (focus (intro S1 hS; exact stp_loadM rfl (by as_aux_lemma => kernel_rfl) (hS.op rfl) (hS.ch _ _ rfl) rfl hv0))) | (apply draw_put rfl; (focus (intro S1 hS; exact stp_shl1 (g := i) rfl (hS.op rfl) (hS.op rfl) hi5))) | (apply draw_put rfl; (focus (intro S1 hS; exact stp_orN rfl (hS.op rfl) (hS.op rfl) hm6 h2i6)))); (first | (apply draw_put rfl; (focus (intro S1 hS; exact stp_loadM rfl (by as_aux_lemma => kernel_rfl) (hS.op rfl) (hS.ch _ _ rfl) rfl hv0))) | (apply draw_put rfl; (focus (intro S1 hS; exact stp_shl1 (g := i) rfl (hS.op rfl) (hS.op rfl) hi5))) | (apply draw_put rfl; (focus (intro S1 hS; exact stp_orN rfl (hS.op rfl) (hS.op rfl) hm6 h2i6)))); exact Draw.nil)
          · rfl
          ((apply rest_one 7 rfl (by as_aux_lemma => kernel_rfl) rfl rfl; (exact stp_nilCheck rfl rfl rfl)); (apply rest_one 8 rfl (by as_aux_lemma => kernel_rfl) rfl rfl; (exact stp_fieldAddr (d := 0) rfl rfl rfl (by as_aux_lemma => kernel_rfl))); (apply rest_one 9 rfl (by as_aux_lemma => kernel_rfl) rfl rfl; (exact stp_storeM rfl rfl rfl rfl rfl hv0 (by as_aux_lemma => kernel_rfl) rfl)); (refine rest_done (by as_aux_lemma => kernel_rfl) ?_; skip))
          (refine fin_seq ?_)
          apply goes_drawF 11 [] 0 [[], [], [1], [1, 2], [1, 2, 3], [], [], [6], [5, 6, 7], [5, 6, 7, 8], [5, 6, 7, 8, 9], [1, 2, 3, 4, 5, 6, 7, 8, 9, 10], [0, 1, 2, 3, 4, 5, 6, 7, 8, 9, 10, 11], [0, 1, 2, 3, 4, 5, 6, 7, 8, 9, 10, 11, 12], [0, 1, 2, 3, 4, 5, 6, 7, 8, 9, 10, 11, 12, 13]] [35, 36, 37, 38, 39, 40, 41, 42, 43, 44, 45] [45] (by kernel_rfl) (by kernel_rfl) rfl
          · (apply draw_put rfl; (intro S1 hS; exact stp_move rfl (hS.op rfl)); apply draw_put rfl; (intro S1 hS; exact stp_move rfl (hS.op rfl)); apply draw_put rfl; (intro S1 hS; exact stp_nilCheck rfl (hS.op rfl) (hS.ch _ _ rfl)); apply draw_put rfl; (intro S1 hS; exact stp_fieldAddr (d := 1) rfl (hS.op rfl) (hS.ch _ _ rfl) (by as_aux_lemma => kernel_rfl)); (first | (apply draw_put rfl; (focus (intro S1 hS; exact stp_loadMR rfl (by as_aux_lemma => kernel_rfl) (hS.op rfl) (hS.ch _ _ rfl) rfl hv1))) | (apply draw_put rfl; (focus (intro S1 hS; exact stp_sub rfl (hS.op rfl) (hS.op rfl) (IntWalk.i64_in _ (by omega))))) | (apply draw_put rfl; (focus (intro S1 hS; exact stp_ix (j := i - 1) rfl (hS.op rfl) (hS.op rfl) (hS.ch _ _ rfl) rfl (by as_aux_lemma => kernel_rfl) hi1 hi1L hil))) | (apply draw_put rfl; (focus (intro S1 hS; exact stp_loadV rfl (by as_aux_lemma => kernel_rfl) (hS.op rfl) (hS.ch _ _ rfl) rfl gz)))); apply draw_put rfl; (intro S1 hS; exact stp_move rfl (hS.op rfl)); apply draw_put rfl; (intro S1 hS; exact stp_move rfl (hS.op rfl)); (first | (apply draw_put rfl; (focus (intro S1 hS; exact stp_loadMR rfl (by as_aux_lemma => kernel_rfl) (hS.op rfl) (hS.ch _ _ rfl) rfl hv1))) | (apply draw_put rfl; (focus (intro S1 hS; exact stp_sub rfl (hS.op rfl) (hS.op rfl) (IntWalk.i64_in _ (by omega))))) | (apply draw_put rfl; (focus (intro S1 hS; exact stp_ix (j := i - 1) rfl (hS.op rfl) (hS.op rfl) (hS.ch _ _ rfl) rfl (by as_aux_lemma => kernel_rfl) hi1 hi1L hil))) | (apply draw_put rfl; (focus (intro S1 hS; exact stp_loadV rfl (by as_aux_lemma => kernel_rfl) (hS.op rfl) (hS.ch _ _ rfl) rfl gz)))); (first | (apply draw_put rfl; (focus (intro S1 hS; exact stp_loadMR rfl (by as_aux_lemma => kernel_rfl) (hS.op rfl) (hS.ch _ _ rfl) rfl hv1))) | (apply draw_put rfl; (focus (intro S1 hS; exact stp_sub rfl (hS.op rfl) (hS.op rfl) (IntWalk.i64_in _ (by omega))))) | (apply draw_put rfl; (focus (intro S1 hS; exact stp_ix (j := i - 1) rfl (hS.op rfl) (hS.op rfl) (hS.ch _ _ rfl) rfl (by as_aux_lemma => kernel_rfl) hi1 hi1L hil))) | (apply draw_put rfl; (focus (intro S1 hS; exact stp_loadV rfl (by as_aux_lemma => kernel_rfl) (hS.op rfl) (hS.ch _ _ rfl) rfl gz)))); (first | (apply draw_put rfl; (focus (intro S1 hS; exact stp_loadMR rfl (by as_aux_lemma => kernel_rfl) (hS.op rfl) (hS.ch _ _ rfl) rfl hv1))) | (apply draw_put rfl; (focus (intro S1 hS; exact stp_sub rfl (hS.op rfl) (hS.op rfl) (IntWalk.i64_in _ (by omega))))) | (apply draw_put rfl; (focus (intro S1 hS; exact stp_ix (j := i - 1) rfl (hS.op rfl) (hS.op rfl) (hS.ch _ _ rfl) rfl (by as_aux_lemma => kernel_rfl) hi1 hi1L hil))) | (apply draw_put rfl; (focus (intro S1 hS; exact stp_loadV rfl (by as_aux_lemma => kernel_rfl) (hS.op rfl) (hS.ch _ _ rfl) rfl gz)))); apply draw_new rfl; (intro S1 hS; exact stp_lit1I (E := 2) rfl (by as_aux_lemma => kernel_rfl) (hS.op rfl)); exact Draw.nil)
          · rfl
          · refine rest_join (St.of [(0, o1 (.sl 1003 0 L)), (1, vv (I6 mask)), (5, o1 (.sl 2000 0 ps.length)), (7, vv (I6 i)), (11, vv (I6 (L + 1 : Nat))), (12, vv (I6 i))] [(1003, wRo zs), (2000, cpOw (ps.set j (m ||| 2 ^ i, labs ++ [iget zs (i - 1)])))]) ?_ ?_
            · ((apply rest_one 11 rfl (by as_aux_lemma => kernel_rfl) rfl rfl; ((first | exact Stp.pre (wk_takeMx (n := 2000) (z := 46) (s := 39) rfl rfl hv1 rfl) (stp_appI rfl (by as_aux_lemma => kernel_rfl) rfl rfl rfl rfl rfl rfl (by omega)) | exact stp_storeMx rfl rfl rfl rfl hvl rfl hk1l (by as_aux_lemma => kernel_rfl)))); (apply rest_one 12 rfl (by as_aux_lemma => kernel_rfl) rfl rfl; (exact stp_nilCheck rfl rfl rfl)); (apply rest_one 13 rfl (by as_aux_lemma => kernel_rfl) rfl rfl; (exact stp_fieldAddr (d := 1) rfl rfl rfl (by as_aux_lemma => kernel_rfl))); (apply rest_one 14 rfl (by as_aux_lemma => kernel_rfl) rfl rfl; ((first | exact Stp.pre (wk_takeMx (n := 2000) (z := 46) (s := 39) rfl rfl hv1 rfl) (stp_appI rfl (by as_aux_lemma => kernel_rfl) rfl rfl rfl rfl rfl rfl (by omega)) | exact stp_storeMx rfl rfl rfl rfl hvl rfl hk1l (by as_aux_lemma => kernel_rfl)))); (refine rest_done (by as_aux_lemma => kernel_rfl) ?_; exact fin_join (Wk.of ⟨rfl, rfl, rfl, rfl, rfl, rfl, trivial⟩ ⟨rfl, congrArg (fun l => some (⟨true, 67, 2, .mix l⟩ : Ch)) hfin, trivial⟩ trivial)))
            · (skip)
              exact fin_join (Wk.of ⟨rfl, rfl, congrArg (fun n => some (o1 (.sl 2000 0 n))) (List.length_set ..).symm, rfl, rfl, rfl, trivial⟩ ⟨rfl, rfl, trivial⟩ trivial)
          · refine rest_join (St.of [(0, o1 (.sl 1003 0 L)), (1, vv (I6 mask)), (5, o1 (.sl 2000 0 ps.length)), (7, vv (I6 i)), (11, vv (I6 (L + 1 : Nat))), (12, vv (I6 i))] [(1003, wRo zs), (2000, cpOw (ps.set j (m ||| 2 ^ i, labs ++ [iget zs (i - 1)])))]) ?_ ?_
            · ((apply rest_two 0 11 rfl (by as_aux_lemma => kernel_rfl) rfl rfl rfl rfl; (exact stp_move rfl rfl); ((first | exact Stp.pre (wk_takeMx (n := 2000) (z := 46) (s := 39) rfl rfl hv1 rfl) (stp_appI rfl (by as_aux_lemma => kernel_rfl) rfl rfl rfl rfl rfl rfl (by omega)) | exact stp_storeMx rfl rfl rfl rfl hvl rfl hk1l (by as_aux_lemma => kernel_rfl))); (focus ((apply rest_one 11 rfl (by as_aux_lemma => kernel_rfl) rfl rfl; ((first | exact Stp.pre (wk_takeMx (n := 2000) (z := 46) (s := 39) rfl rfl hv1 rfl) (stp_appI rfl (by as_aux_lemma => kernel_rfl) rfl rfl rfl rfl rfl rfl (by omega)) | exact stp_storeMx rfl rfl rfl rfl hvl rfl hk1l (by as_aux_lemma => kernel_rfl)))); (apply rest_one 12 rfl (by as_aux_lemma => kernel_rfl) rfl rfl; (exact stp_nilCheck rfl rfl rfl)); (apply rest_one 13 rfl (by as_aux_lemma => kernel_rfl) rfl rfl; (exact stp_fieldAddr (d := 1) rfl rfl rfl (by as_aux_lemma => kernel_rfl))); (apply rest_one 14 rfl (by as_aux_lemma => kernel_rfl) rfl rfl; ((first | exact Stp.pre (wk_takeMx (n := 2000) (z := 46) (s := 39) rfl rfl hv1 rfl) (stp_appI rfl (by as_aux_lemma => kernel_rfl) rfl rfl rfl rfl rfl rfl (by omega)) | exact stp_storeMx rfl rfl rfl rfl hvl rfl hk1l (by as_aux_lemma => kernel_rfl)))); (refine rest_done (by as_aux_lemma => kernel_rfl) ?_; exact fin_join (Wk.of ⟨rfl, rfl, rfl, rfl, rfl, rfl, trivial⟩ ⟨rfl, congrArg (fun l => some (⟨true, 67, 2, .mix l⟩ : Ch)) hfin, trivial⟩ trivial)))); (focus ((apply rest_one 0 rfl (by as_aux_lemma => kernel_rfl) rfl rfl; (exact stp_move rfl rfl)); (apply rest_one 12 rfl (by as_aux_lemma => kernel_rfl) rfl rfl; (exact stp_nilCheck rfl rfl rfl)); (apply rest_one 13 rfl (by as_aux_lemma => kernel_rfl) rfl rfl; (exact stp_fieldAddr (d := 1) rfl rfl rfl (by as_aux_lemma => kernel_rfl))); (apply rest_one 14 rfl (by as_aux_lemma => kernel_rfl) rfl rfl; ((first | exact Stp.pre (wk_takeMx (n := 2000) (z := 46) (s := 39) rfl rfl hv1 rfl) (stp_appI rfl (by as_aux_lemma => kernel_rfl) rfl rfl rfl rfl rfl rfl (by omega)) | exact stp_storeMx rfl rfl rfl rfl hvl rfl hk1l (by as_aux_lemma => kernel_rfl)))); (refine rest_done (by as_aux_lemma => kernel_rfl) ?_; exact fin_join (Wk.of ⟨rfl, rfl, rfl, rfl, rfl, rfl, trivial⟩ ⟨rfl, congrArg (fun l => some (⟨true, 67, 2, .mix l⟩ : Ch)) hfin, trivial⟩ trivial))))))
            · (skip)
              exact fin_join (Wk.of ⟨rfl, rfl, congrArg (fun n => some (o1 (.sl 2000 0 n))) (List.length_set ..).symm, rfl, rfl, rfl, trivial⟩ ⟨rfl, rfl, trivial⟩ trivial)
        · have hv : pTo zs mask (i + 1) = ps ++ [(2 ^ i, [])] := by rw [hnx, if_neg (by rw [hjb]; simp)]
          rw [hv]
          have hcel : ∀ (j : Nat) (c : Cel) (u : Value), [Cel.v (I6 ((2 ^ i : Nat) : Int)), Cel.r 2 1 0 []][j]? = some c → [I6 ((2 ^ i : Nat) : Int), Value.slice none 0 0][j]? = some u → celNew c u := by
            intro j c u h1 h2
            match j, h1, h2 with
            | 0, h1, h2 => simp at h1 h2; subst h1 h2; rfl
            | 1, h1, h2 => simp at h1 h2; subst h1 h2; exact ⟨rfl, rfl, rfl⟩
          have h1c : ∀ v ∈ [I6 ((2 ^ i : Nat) : Int), Value.slice none 0 0], v.oneCell' = true := by
            intro v hv
            rcases List.mem_cons.1 hv with rfl | hv
            · rfl
            · obtain rfl : v = .slice none 0 0 := by simpa using hv
              rfl
          (refine goes_region ?_; apply run_step rfl; (exact stp_move rfl rfl); apply run_step rfl; (exact stp_move rfl rfl); apply run_step rfl; (first | exact stp_shl1 (g := i) rfl rfl rfl hi5 | exact stp_build1V (vs := [I6 ((2 ^ i : Nat) : Int), .slice none 0 0]) rfl rfl rfl | exact stp_lit2V (E := 67) rfl (by as_aux_lemma => kernel_rfl) rfl | exact stp_appendMx (cn := [Cel.v (I6 ((2 ^ i : Nat) : Int)), Cel.r 2 1 0 []]) (news := [I6 ((2 ^ i : Nat) : Int), .slice none 0 0]) (k := 2) (m := 1) rfl (by as_aux_lemma => kernel_rfl) rfl rfl rfl hmx rfl (reads_vals (k := 2) (vs := [I6 ((2 ^ i : Nat) : Int), .slice none 0 0]) rfl rfl rfl rfl (Nat.le_refl _)) (by omega) h1c rfl hcel (by omega)); apply run_step rfl; (first | exact stp_shl1 (g := i) rfl rfl rfl hi5 | exact stp_build1V (vs := [I6 ((2 ^ i : Nat) : Int), .slice none 0 0]) rfl rfl rfl | exact stp_lit2V (E := 67) rfl (by as_aux_lemma => kernel_rfl) rfl | exact stp_appendMx (cn := [Cel.v (I6 ((2 ^ i : Nat) : Int)), Cel.r 2 1 0 []]) (news := [I6 ((2 ^ i : Nat) : Int), .slice none 0 0]) (k := 2) (m := 1) rfl (by as_aux_lemma => kernel_rfl) rfl rfl rfl hmx rfl (reads_vals (k := 2) (vs := [I6 ((2 ^ i : Nat) : Int), .slice none 0 0]) rfl rfl rfl rfl (Nat.le_refl _)) (by omega) h1c rfl hcel (by omega)); apply run_step rfl; (first | exact stp_shl1 (g := i) rfl rfl rfl hi5 | exact stp_build1V (vs := [I6 ((2 ^ i : Nat) : Int), .slice none 0 0]) rfl rfl rfl | exact stp_lit2V (E := 67) rfl (by as_aux_lemma => kernel_rfl) rfl | exact stp_appendMx (cn := [Cel.v (I6 ((2 ^ i : Nat) : Int)), Cel.r 2 1 0 []]) (news := [I6 ((2 ^ i : Nat) : Int), .slice none 0 0]) (k := 2) (m := 1) rfl (by as_aux_lemma => kernel_rfl) rfl rfl rfl hmx rfl (reads_vals (k := 2) (vs := [I6 ((2 ^ i : Nat) : Int), .slice none 0 0]) rfl rfl rfl rfl (Nat.le_refl _)) (by omega) h1c rfl hcel (by omega)); apply run_step rfl; (first | exact stp_shl1 (g := i) rfl rfl rfl hi5 | exact stp_build1V (vs := [I6 ((2 ^ i : Nat) : Int), .slice none 0 0]) rfl rfl rfl | exact stp_lit2V (E := 67) rfl (by as_aux_lemma => kernel_rfl) rfl | exact stp_appendMx (cn := [Cel.v (I6 ((2 ^ i : Nat) : Int)), Cel.r 2 1 0 []]) (news := [I6 ((2 ^ i : Nat) : Int), .slice none 0 0]) (k := 2) (m := 1) rfl (by as_aux_lemma => kernel_rfl) rfl rfl rfl hmx rfl (reads_vals (k := 2) (vs := [I6 ((2 ^ i : Nat) : Int), .slice none 0 0]) rfl rfl rfl rfl (Nat.le_refl _)) (by omega) h1c rfl hcel (by omega)); apply run_step rfl; (exact stp_assign rfl rfl); refine run_nil ?_)
          exact fin_join (Wk.of ⟨rfl, rfl, congrArg (fun n => some (o1 (.sl 2000 0 n))) (by simp), rfl, rfl, rfl, trivial⟩ ⟨rfl, congrArg (fun l => some (⟨true, 67, 2, .mix l⟩ : Ch)) (mixC_app ps [(2 ^ i, [])]).symm, trivial⟩ trivial)
      · (refine fin_seq ?_; refine goes_region ?_; apply run_step rfl; (exact stp_move rfl rfl); apply run_step rfl; (exact stp_move rfl rfl); apply run_step rfl; (apply call_gate 88; exact stp_callR hSz (by as_aux_lemma => kernel_rfl) rfl rfl ⟨rfl, trivial⟩ trivial rfl rfl); apply run_step rfl; (exact stp_bin rfl rfl rfl rfl); apply run_step rfl; (exact stp_move rfl rfl))
        refine run_bool 59 rfl (fun h1 => ?_) (fun h1 => ?_)
        · have h1' : i < L := by have := of_decide_eq_true h1; omega
          have gi : (ivals zs)[i]? = some (I6 (iget zs i)) := ivals_get (by omega)
          (apply run_gYes rfl rfl rfl; (exact stp_move rfl rfl); apply run_gYes rfl rfl rfl; (exact stp_move rfl rfl); apply run_gYes rfl rfl rfl; (exact stp_ix (j := i) rfl rfl rfl rfl rfl (by as_aux_lemma => kernel_rfl) rfl h1' hil); apply run_gYes rfl rfl rfl; (exact stp_loadV rfl (by as_aux_lemma => kernel_rfl) rfl rfl rfl (by first | assumption | exact ivals_get (by assumption) | exact irows_get (by assumption) | exact ivals_get (by omega) | exact irows_get (by omega) | rfl)); apply run_gYes rfl rfl rfl; (exact stp_bin rfl rfl rfl rfl); apply run_step rfl; (exact stp_pickT rfl rfl rfl); apply run_step rfl; (exact stp_assign rfl rfl); refine run_nil ?_; refine fin_block ?_; refine fin_seq ?_; refine goes_region ?_; apply run_step rfl; (exact stp_add rfl rfl rfl (by first | exact IntWalk.i64_in _ (by omega) | rfl)); apply run_step rfl; (exact stp_move rfl rfl); refine run_nil ?_)
          exact fin_round (i + 1, pTo zs mask (i + 1), iget zs i != 2) ⟨by omega, rfl, hjn _ hiL fun _ => rfl⟩ (by show L + 1 - (i + 1) < L + 1 - i; omega) (Wk.of ⟨rfl, rfl, rfl, rfl, rfl, rfl, trivial⟩ ⟨rfl, rfl, trivial⟩ trivial)
        · have h1' : ¬ i < L := by have := of_decide_eq_false h1; omega
          (apply run_gNo rfl rfl rfl rfl rfl; apply run_gNo rfl rfl rfl rfl rfl; apply run_gNo rfl rfl rfl rfl rfl; apply run_gNo rfl rfl rfl rfl rfl; apply run_gNo rfl rfl rfl rfl rfl; apply run_step rfl; (exact stp_pickF rfl rfl rfl); apply run_step rfl; (exact stp_assign rfl rfl); refine run_nil ?_; refine fin_block ?_; refine fin_seq ?_; refine goes_region ?_; apply run_step rfl; (exact stp_add rfl rfl rfl (by first | exact IntWalk.i64_in _ (by omega) | rfl)); apply run_step rfl; (exact stp_move rfl rfl); refine run_nil ?_)
          exact fin_round (i + 1, pTo zs mask (i + 1), false) ⟨by omega, rfl, fun h => absurd h (by omega)⟩ (by show L + 1 - (i + 1) < L + 1 - i; omega) (Wk.of ⟨rfl, rfl, rfl, rfl, rfl, rfl, trivial⟩ ⟨rfl, rfl, trivial⟩ trivial)
  · obtain rfl : i = L + 1 := by omega
    have hv : comps zs mask = ps := by unfold comps; rw [hL]; exact hp
    rw [hv]
    (refine goes_exit ?_; refine fin_exit_then ?_; refine fin_exit_then ?_; refine fin_exit_eq ?_; refine fin_seq ?_; refine goes_seq ?_; refine goes_region ?_; apply run_step rfl; (exact stp_move rfl rfl); apply run_step rfl; (exact stp_assign rfl rfl); refine run_nil ?_; refine fin_seq ?_; refine goes_ret ?_)
    exact fin_ret1 (.inl rfl) rfl (.tmp rfl) ⟨rfl, trivial⟩ trivial
end Go.Proofs.Ytlpeghdbjfnenaa
