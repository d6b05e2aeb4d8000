/- What a maniplex is, the reference's: l02Is. guards: -/
import Derived.Test.YtmdhljleaijkbaaGreatDoorPart3
import Derived.Test.YtmdhljleaijkbaaGreatDoorPart1
import Derived.Deep.QuietTactic
import Derived.Deep.DeepCutAuto
namespace Go.Proofs.YtmdhljleaijkbaaGreatDoor
open Go.RowKit

abbrev mxB (R : Nat) : Ch := ⟨true, 26, 1, .flat [.sl 1003 0 R]⟩
theorem binNeq {a b : Int} (h : a ≠ b) : binI .i64 .neq a b = some (.bool true) := by simp [binI, h]
theorem binNeq' {a b : Int} (h : a = b) : binI .i64 .neq a b = some (.bool false) := by simp [binI, h]
theorem binEql {a b : Int} (h : a = b) : binI .i64 .eql a b = some (.bool true) := by simp [binI, h]
theorem binEql' {a b : Int} (h : a ≠ b) : binI .i64 .eql a b = some (.bool false) := by simp [binI, h]
/-- what of a maniplex is asked before it is asked whether it hangs together -/
structure Man0 (zss : List (List Int)) : Prop where
  n1 : 1 ≤ zss.length
  n5 : zss.length ≤ 5
  f2 : 2 ≤ (lget zss 0).length
  f4 : (lget zss 0).length ≤ 400
  rows : Rows zss (lget zss 0).length zss.length
  comm : ∀ i k, i + 2 ≤ k → k < zss.length → ∀ f, f < (lget zss 0).length → commAt zss i k f
theorem Man0.man {zss : List (List Int)} (h : Man0 zss) : manB zss = ((((orb zss (lget zss 0).length 0).2.length : Nat) : Int) == (((lget zss 0).length : Nat) : Int)) := by
  by_cases hc : (orb zss (lget zss 0).length 0).2.length = (lget zss 0).length
  · rw [manB_yes ⟨h.n1, h.n5, h.f2, h.f4, fun i hi => (h.rows i hi).1, fun i hi => (h.rows i hi).2.1, fun i hi => (h.rows i hi).2.2, h.comm, hc⟩, hc]; simp
  · rw [manB_no (fun hm => hc hm.conn)]
    have hc' : ((orb zss (lget zss 0).length 0).2.length : Int) ≠ ((lget zss 0).length : Int) := by omega
    symm; simpa using hc'

set_option maxRecDepth 100000 in
set_option maxHeartbeats 4000000 in
theorem manS_fc (zss : List (List Int)) (hR : zss.length ≤ 1048576) (hl : ∀ i, i < zss.length → (lget zss i).length ≤ 1048576) :
    FC Tryz.prog 24 [(1003, rowsRo zss)] [mA zss.length] [] (vv (.bool (manB zss))) [] := by
  refine fc_enter (nt := 149) Tryz.func24 rfl rfl (by simp) fun w0 ω0 => ?_
  have hlen : (irows zss).length = zss.length := irows_len _
  by_cases c1 : zss.length < 1
  · rw [manB_no (fun h => by have := h.n1; omega)]
    have b1 : decide ((zss.length : Int) < 1) = true := by simp; omega
    (refine goes_seq ?_; refine goes_region ?_; apply run_step rfl; (exact stp_box rfl rfl rfl rfl); apply run_step rfl; (exact stp_assign rfl rfl); refine run_nil ?_; refine fin_seq ?_; refine goes_seq ?_; refine goes_region ?_; apply run_step rfl; (exact stp_fieldAddr (d := 0) rfl rfl rfl (by as_aux_lemma => kernel_rfl)); apply run_step rfl; (exact stp_loadF rfl (by as_aux_lemma => kernel_rfl) rfl rfl rfl rfl); apply run_step rfl; (exact stp_len rfl rfl rfl (by as_aux_lemma => kernel_rfl)); apply run_step rfl; (exact stp_assign rfl rfl); refine run_nil ?_; refine fin_seq ?_; refine goes_seq ?_; refine goes_seq ?_; refine goes_region ?_; apply run_step rfl; (exact stp_move rfl rfl); apply run_step rfl; (exact stp_bin rfl rfl rfl rfl); apply run_step rfl; (exact stp_move rfl rfl))
    refine run_bool 13 rfl (fun h1 => ?_) (fun h1 => by rw [b1] at h1; cases h1)
    (apply run_gNo rfl rfl rfl rfl rfl; apply run_gNo rfl rfl rfl rfl rfl; apply run_step rfl; (exact stp_pickT rfl rfl rfl); apply run_step rfl; (exact stp_move rfl rfl); apply run_gNo rfl rfl rfl rfl rfl; apply run_gNo rfl rfl rfl rfl rfl; apply run_gNo rfl rfl rfl rfl rfl; apply run_gNo rfl rfl rfl rfl rfl; apply run_gNo rfl rfl rfl rfl rfl; apply run_gNo rfl rfl rfl rfl rfl; apply run_step rfl; (exact stp_pickT rfl rfl rfl); apply run_step rfl; (exact stp_move rfl rfl); apply run_gNo rfl rfl rfl rfl rfl; apply run_gNo rfl rfl rfl rfl rfl; apply run_gNo rfl rfl rfl rfl rfl; apply run_gNo rfl rfl rfl rfl rfl; apply run_gNo rfl rfl rfl rfl rfl; apply run_gNo rfl rfl rfl rfl rfl; apply run_step rfl; (exact stp_pickT rfl rfl rfl); refine run_nil ?_; refine fin_seq ?_)
    refine goes_cond rfl (fun _ => ?_) (fun e => by cases e)
    (refine goes_seq ?_; refine goes_region ?_; apply run_step rfl; (exact stp_assign rfl rfl); refine run_nil ?_; refine fin_seq ?_; refine goes_ret ?_; refine fin_ret_then ?_)
    exact fin_ret1 (.inl rfl) rfl (.tmp rfl) trivial trivial
  have b1 : decide ((zss.length : Int) < 1) = false := by simp; omega
  have hpos : 0 < zss.length := by omega
  have hl0 := hl 0 hpos
  have hrow0 : (irows zss)[0]? = some (ivals (lget zss 0)) := irows_get hpos
  obtain ⟨n, hn⟩ : ∃ n, (lget zss 0).length = n := ⟨_, rfl⟩
  have hil : (ivals (lget zss 0)).length = n := by rw [ivals_len]; exact hn
  have hl0' : (lget zss 0).length ≤ 1048576 := hl0
  rw [hn] at hl0'
  by_cases c2 : 5 < zss.length
  · rw [manB_no (fun h => by have := h.n5; omega)]
    have b2 : decide ((zss.length : Int) > 5) = true := by simp; omega
    (refine goes_seq ?_; refine goes_region ?_; apply run_step rfl; (exact stp_box rfl rfl rfl rfl); apply run_step rfl; (exact stp_assign rfl rfl); refine run_nil ?_; refine fin_seq ?_; refine goes_seq ?_; refine goes_region ?_; apply run_step rfl; (exact stp_fieldAddr (d := 0) rfl rfl rfl (by as_aux_lemma => kernel_rfl)); apply run_step rfl; (exact stp_loadF rfl (by as_aux_lemma => kernel_rfl) rfl rfl rfl rfl); apply run_step rfl; (exact stp_len rfl rfl rfl (by as_aux_lemma => kernel_rfl)); apply run_step rfl; (exact stp_assign rfl rfl); refine run_nil ?_; refine fin_seq ?_; refine goes_seq ?_; refine goes_seq ?_; refine goes_region ?_; apply run_step rfl; (exact stp_move rfl rfl); apply run_step rfl; (exact stp_bin rfl rfl rfl rfl); apply run_step rfl; (exact stp_move rfl rfl))
    refine run_bool 13 rfl (fun h1 => by rw [b1] at h1; cases h1) (fun h1 => ?_)
    (apply run_gYes rfl rfl rfl; (exact stp_move rfl rfl); apply run_gYes rfl rfl rfl; (exact stp_bin rfl rfl rfl rfl); apply run_step rfl; (exact stp_pickF rfl rfl rfl); apply run_step rfl; (exact stp_move rfl rfl))
    refine run_bool 17 rfl (fun h1 => ?_) (fun h1 => by rw [b2] at h1; cases h1)
    (apply run_gNo rfl rfl rfl rfl rfl; apply run_gNo rfl rfl rfl rfl rfl; apply run_gNo rfl rfl rfl rfl rfl; apply run_gNo rfl rfl rfl rfl rfl; apply run_gNo rfl rfl rfl rfl rfl; apply run_gNo rfl rfl rfl rfl rfl; apply run_step rfl; (exact stp_pickT rfl rfl rfl); apply run_step rfl; (exact stp_move rfl rfl); apply run_gNo rfl rfl rfl rfl rfl; apply run_gNo rfl rfl rfl rfl rfl; apply run_gNo rfl rfl rfl rfl rfl; apply run_gNo rfl rfl rfl rfl rfl; apply run_gNo rfl rfl rfl rfl rfl; apply run_gNo rfl rfl rfl rfl rfl; apply run_step rfl; (exact stp_pickT rfl rfl rfl); refine run_nil ?_; refine fin_seq ?_)
    refine goes_cond rfl (fun _ => ?_) (fun e => by cases e)
    (refine goes_seq ?_; refine goes_region ?_; apply run_step rfl; (exact stp_assign rfl rfl); refine run_nil ?_; refine fin_seq ?_; refine goes_ret ?_; refine fin_ret_then ?_)
    exact fin_ret1 (.inl rfl) rfl (.tmp rfl) trivial trivial
  have b2 : decide ((zss.length : Int) > 5) = false := by simp; omega
  by_cases c3 : n < 2
  · rw [manB_no (fun h => by have := h.f2; omega)]
    have b3 : decide ((n : Int) < 2) = true := by simp; omega
    (refine goes_seq ?_; refine goes_region ?_; apply run_step rfl; (exact stp_box rfl rfl rfl rfl); apply run_step rfl; (exact stp_assign rfl rfl); refine run_nil ?_; refine fin_seq ?_; refine goes_seq ?_; refine goes_region ?_; apply run_step rfl; (exact stp_fieldAddr (d := 0) rfl rfl rfl (by as_aux_lemma => kernel_rfl)); apply run_step rfl; (exact stp_loadF rfl (by as_aux_lemma => kernel_rfl) rfl rfl rfl rfl); apply run_step rfl; (exact stp_len rfl rfl rfl (by as_aux_lemma => kernel_rfl)); apply run_step rfl; (exact stp_assign rfl rfl); refine run_nil ?_; refine fin_seq ?_; refine goes_seq ?_; refine goes_seq ?_; refine goes_region ?_; apply run_step rfl; (exact stp_move rfl rfl); apply run_step rfl; (exact stp_bin rfl rfl rfl rfl); apply run_step rfl; (exact stp_move rfl rfl))
    refine run_bool 13 rfl (fun h1 => by rw [b1] at h1; cases h1) (fun h1 => ?_)
    (apply run_gYes rfl rfl rfl; (exact stp_move rfl rfl); apply run_gYes rfl rfl rfl; (exact stp_bin rfl rfl rfl rfl); apply run_step rfl; (exact stp_pickF rfl rfl rfl); apply run_step rfl; (exact stp_move rfl rfl))
    refine run_bool 17 rfl (fun h1 => by rw [b2] at h1; cases h1) (fun h1 => ?_)
    (apply run_gYes rfl rfl rfl; (exact stp_fieldAddr (d := 0) rfl rfl rfl (by as_aux_lemma => kernel_rfl)); apply run_gYes rfl rfl rfl; (exact stp_loadF rfl (by as_aux_lemma => kernel_rfl) rfl rfl rfl rfl); apply run_gYes rfl rfl rfl; (first | exact stp_ix (j := 0) rfl rfl rfl rfl rfl (by as_aux_lemma => kernel_rfl) rfl hpos (Nat.le_of_eq hlen.symm) | exact stp_loadR rfl (by as_aux_lemma => kernel_rfl) rfl rfl rfl hrow0 hil); apply run_gYes rfl rfl rfl; (first | exact stp_ix (j := 0) rfl rfl rfl rfl rfl (by as_aux_lemma => kernel_rfl) rfl hpos (Nat.le_of_eq hlen.symm) | exact stp_loadR rfl (by as_aux_lemma => kernel_rfl) rfl rfl rfl hrow0 hil); apply run_gYes rfl rfl rfl; (exact stp_len rfl rfl rfl (by as_aux_lemma => kernel_rfl)); apply run_gYes rfl rfl rfl; (exact stp_bin rfl rfl rfl rfl); apply run_step rfl; (exact stp_pickF rfl rfl rfl); apply run_step rfl; (exact stp_move rfl rfl))
    refine run_bool 25 rfl (fun h1 => ?_) (fun h1 => by rw [b3] at h1; cases h1)
    (apply run_gNo rfl rfl rfl rfl rfl; apply run_gNo rfl rfl rfl rfl rfl; apply run_gNo rfl rfl rfl rfl rfl; apply run_gNo rfl rfl rfl rfl rfl; apply run_gNo rfl rfl rfl rfl rfl; apply run_gNo rfl rfl rfl rfl rfl; apply run_step rfl; (exact stp_pickT rfl rfl rfl); refine run_nil ?_; refine fin_seq ?_)
    refine goes_cond rfl (fun _ => ?_) (fun e => by cases e)
    (refine goes_seq ?_; refine goes_region ?_; apply run_step rfl; (exact stp_assign rfl rfl); refine run_nil ?_; refine fin_seq ?_; refine goes_ret ?_; refine fin_ret_then ?_)
    exact fin_ret1 (.inl rfl) rfl (.tmp rfl) trivial trivial
  have b3 : decide ((n : Int) < 2) = false := by simp; omega
  (refine goes_seq ?_; refine goes_region ?_; apply run_step rfl; (exact stp_box rfl rfl rfl rfl); apply run_step rfl; (exact stp_assign rfl rfl); refine run_nil ?_; refine fin_seq ?_; refine goes_seq ?_; refine goes_region ?_; apply run_step rfl; (exact stp_fieldAddr (d := 0) rfl rfl rfl (by as_aux_lemma => kernel_rfl)); apply run_step rfl; (exact stp_loadF rfl (by as_aux_lemma => kernel_rfl) rfl rfl rfl rfl); apply run_step rfl; (exact stp_len rfl rfl rfl (by as_aux_lemma => kernel_rfl)); apply run_step rfl; (exact stp_assign rfl rfl); refine run_nil ?_; refine fin_seq ?_; refine goes_seq ?_; refine goes_seq ?_; refine goes_region ?_; apply run_step rfl; (exact stp_move rfl rfl); apply run_step rfl; (exact stp_bin rfl rfl rfl rfl); apply run_step rfl; (exact stp_move rfl rfl))
  refine run_bool 13 rfl (fun h1 => by rw [b1] at h1; cases h1) (fun h1 => ?_)
  (apply run_gYes rfl rfl rfl; (exact stp_move rfl rfl); apply run_gYes rfl rfl rfl; (exact stp_bin rfl rfl rfl rfl); apply run_step rfl; (exact stp_pickF rfl rfl rfl); apply run_step rfl; (exact stp_move rfl rfl))
  refine run_bool 17 rfl (fun h1 => by rw [b2] at h1; cases h1) (fun h1 => ?_)
  (apply run_gYes rfl rfl rfl; (exact stp_fieldAddr (d := 0) rfl rfl rfl (by as_aux_lemma => kernel_rfl)); apply run_gYes rfl rfl rfl; (exact stp_loadF rfl (by as_aux_lemma => kernel_rfl) rfl rfl rfl rfl); apply run_gYes rfl rfl rfl; (first | exact stp_ix (j := 0) rfl rfl rfl rfl rfl (by as_aux_lemma => kernel_rfl) rfl hpos (Nat.le_of_eq hlen.symm) | exact stp_loadR rfl (by as_aux_lemma => kernel_rfl) rfl rfl rfl hrow0 hil); apply run_gYes rfl rfl rfl; (first | exact stp_ix (j := 0) rfl rfl rfl rfl rfl (by as_aux_lemma => kernel_rfl) rfl hpos (Nat.le_of_eq hlen.symm) | exact stp_loadR rfl (by as_aux_lemma => kernel_rfl) rfl rfl rfl hrow0 hil); apply run_gYes rfl rfl rfl; (exact stp_len rfl rfl rfl (by as_aux_lemma => kernel_rfl)); apply run_gYes rfl rfl rfl; (exact stp_bin rfl rfl rfl rfl); apply run_step rfl; (exact stp_pickF rfl rfl rfl); apply run_step rfl; (exact stp_move rfl rfl))
  refine run_bool 25 rfl (fun h1 => by rw [b3] at h1; cases h1) (fun h1 => ?_)
  (apply run_gYes rfl rfl rfl; (exact stp_fieldAddr (d := 0) rfl rfl rfl (by as_aux_lemma => kernel_rfl)); apply run_gYes rfl rfl rfl; (exact stp_loadF rfl (by as_aux_lemma => kernel_rfl) rfl rfl rfl rfl); apply run_gYes rfl rfl rfl; (first | exact stp_ix (j := 0) rfl rfl rfl rfl rfl (by as_aux_lemma => kernel_rfl) rfl hpos (Nat.le_of_eq hlen.symm) | exact stp_loadR rfl (by as_aux_lemma => kernel_rfl) rfl rfl rfl hrow0 hil); apply run_gYes rfl rfl rfl; (first | exact stp_ix (j := 0) rfl rfl rfl rfl rfl (by as_aux_lemma => kernel_rfl) rfl hpos (Nat.le_of_eq hlen.symm) | exact stp_loadR rfl (by as_aux_lemma => kernel_rfl) rfl rfl rfl hrow0 hil); apply run_gYes rfl rfl rfl; (exact stp_len rfl rfl rfl (by as_aux_lemma => kernel_rfl)); apply run_gYes rfl rfl rfl; (exact stp_bin rfl rfl rfl rfl); apply run_step rfl; (exact stp_pickF rfl rfl rfl); refine run_nil ?_; refine fin_seq ?_)
  refine goes_if rfl (fun c4 => ?_) (fun c4 => ?_)
  · rw [manB_no (fun h => by have := h.f4; omega)]
    (refine goes_seq ?_; refine goes_region ?_; apply run_step rfl; (exact stp_assign rfl rfl); refine run_nil ?_; refine fin_seq ?_; refine goes_ret ?_; refine fin_ret_then ?_)
    exact fin_ret1 (.inl rfl) rfl (.tmp rfl) trivial trivial
  (refine goes_skip ?_; refine fin_seq ?_; refine goes_seq ?_; refine goes_seq ?_; refine goes_region ?_; apply run_step rfl; (exact stp_assign rfl rfl); refine run_nil ?_; refine fin_seq ?_; refine goes_block ?_)
  refine goes_loop (fun i : Nat => St.of [(1, o1 (.ptr 1 0)), (3, vv (I6 zss.length)), (4, vv (I6 i))] [(1003, rowsRo zss), (1, mxB zss.length)]) (fun i => i ≤ zss.length ∧ Rows zss n i) (fun i => zss.length - i) 0 ⟨Nat.zero_le _, fun j hj => absurd hj (by omega)⟩ (Wk.of ⟨rfl, rfl, rfl, trivial⟩ ⟨rfl, rfl, trivial⟩ trivial) ?_
  rintro i ⟨hi, hrows⟩
  (refine goes_seq ?_; refine goes_seq ?_; refine goes_region ?_; apply run_step rfl; (exact stp_move rfl rfl); apply run_step rfl; (exact stp_move rfl rfl); apply run_step rfl; (exact stp_bin rfl rfl rfl rfl); refine run_nil ?_; refine fin_seq ?_)
  refine goes_if rfl (fun hlt => ?_) (fun hlt => ?_)
  · have hiz : i < zss.length := by omega
    have hrowi : (irows zss)[i]? = some (ivals (lget zss i)) := irows_get hiz
    have hli := hl i hiz
    have hP := permS_fc zss i hiz hli
    obtain ⟨m, hm⟩ : ∃ m, (lget zss i).length = m := ⟨_, rfl⟩
    have hilm : (ivals (lget zss i)).length = m := by rw [ivals_len]; exact hm
    rw [hm] at hP
    (refine goes_skip ?_; refine fin_seq ?_; refine goes_seq ?_; refine goes_block ?_; refine goes_seq ?_)
    by_cases e1 : (m : Int) = n
    · have e1' : m = n := by omega
      cases hp : isPerm (lget zss i) with
      | false =>
        rw [hp] at hP
        apply goes_drawG 30 [] [[], [0], [], [0, 1, 2], [0, 1, 2, 3], [0, 1, 2, 3, 4], [], [6], [6, 7], [6, 7, 8], [6, 7, 8, 9], [0, 1, 2, 3, 4, 5, 6, 7, 8, 9, 10], [0, 1, 2, 3, 4, 5, 6, 7, 8, 9, 10, 11], [0, 1, 2, 3, 4, 5, 6, 7, 8, 9, 10, 11, 12], [0, 1, 2, 3, 4, 5, 6, 7, 8, 9, 10, 11, 12, 13], [0, 1, 2, 3, 4, 5, 6, 7, 8, 9, 10, 11, 12], [0, 1, 2, 3, 4, 5, 6, 7, 8, 9, 10, 11, 12, 13, 14, 15], [0, 1, 2, 3, 4, 5, 6, 7, 8, 9, 10, 11, 12, 13, 14, 15, 16], [0, 1, 2, 3, 4, 5, 6, 7, 8, 9, 10, 11, 12, 13, 14, 15, 16, 17], [0, 1, 2, 3, 4, 5, 6, 7, 8, 9, 10, 11, 12, 13, 14, 15, 16, 17, 18], [0, 1, 2, 3, 4, 5, 6, 7, 8, 9, 10, 11, 12, 13, 14, 15, 16, 17, 18, 19], [0, 1, 2, 3, 4, 5, 6, 7, 8, 9, 10, 11, 12, 13, 14, 15, 16, 17, 18, 19, 20], [0, 1, 2, 3, 4, 5, 6, 7, 8, 9, 10, 11, 12, 13, 14, 15, 16, 17, 18, 19, 20, 21], [0, 1, 2, 3, 4, 5, 6, 7, 8, 9, 10, 11, 12, 13, 14, 15, 16, 17, 18, 19, 20, 21, 22], [0, 1, 2, 3, 4, 5, 6, 7, 8, 9, 10, 11, 12, 13, 14, 15, 16, 17, 18, 19, 20, 21], [0, 1, 2, 3, 4, 5, 6, 7, 8, 9, 10, 11, 12, 13, 14, 15, 16, 17, 18, 19, 20, 21, 22, 23, 24], [0, 1, 2, 3, 4, 5, 6, 7, 8, 9, 10, 11, 12, 13, 14, 15, 16, 17, 18, 19, 20, 21, 22, 23, 24, 25], [0, 1, 2, 3, 4, 5, 6, 7, 8, 9, 10, 11, 12, 13, 14, 15, 16, 17, 18, 19, 20, 21, 22, 23, 24, 25, 26], [0, 1, 2, 3, 4, 5, 6, 7, 8, 9, 10, 11, 12, 13, 14, 15, 16, 17, 18, 19, 20, 21, 22, 23, 24, 25, 26, 27], [0, 1, 2, 3, 4, 5, 6, 7, 8, 9, 10, 11, 12, 13, 14, 15, 16, 17, 18, 19, 20, 21, 22, 23, 24, 25, 26, 27, 28]] [38, 39, 40, 41, 42, 43, 44, 45, 46, 47, 48, 49, 50, 51, 52, 53, 54, 55, 56, 57, 58, 59, 60, 61, 62, 63, 64, 65, 66, 67] [] (by kernel_rfl) (by kernel_rfl)
        · (apply drawG_put rfl; (intro S1 hS; exact stp_fieldAddr (d := 0) rfl (hS.op rfl) (hS.ch _ _ rfl) (by as_aux_lemma => kernel_rfl)))
          (apply drawG_put rfl; (intro S1 hS; exact stp_loadF rfl (by as_aux_lemma => kernel_rfl) (hS.op rfl) (hS.ch _ _ rfl) rfl rfl))
          (apply drawG_put rfl; (intro S1 hS; exact stp_move rfl (hS.op rfl)))
          (apply drawG_put rfl; (intro S1 hS; exact stp_ix (j := i) rfl (hS.op rfl) (hS.op rfl) (hS.ch _ _ rfl) rfl (by as_aux_lemma => kernel_rfl) rfl hiz (Nat.le_of_eq hlen.symm)))
          (apply drawG_put rfl; (intro S1 hS; exact stp_loadR rfl (by as_aux_lemma => kernel_rfl) (hS.op rfl) (hS.ch _ _ rfl) rfl hrowi hilm))
          (apply drawG_put rfl; (intro S1 hS; exact stp_len rfl (hS.op rfl) rfl (by as_aux_lemma => kernel_rfl)))
          (apply drawG_put rfl; (intro S1 hS; exact stp_fieldAddr (d := 0) rfl (hS.op rfl) (hS.ch _ _ rfl) (by as_aux_lemma => kernel_rfl)))
          (apply drawG_put rfl; (intro S1 hS; exact stp_loadF rfl (by as_aux_lemma => kernel_rfl) (hS.op rfl) (hS.ch _ _ rfl) rfl rfl))
          (apply drawG_put rfl; (intro S1 hS; exact stp_ix (j := 0) rfl (hS.op rfl) (hS.op rfl) (hS.ch _ _ rfl) rfl (by as_aux_lemma => kernel_rfl) rfl hpos (Nat.le_of_eq hlen.symm)))
          (apply drawG_put rfl; (intro S1 hS; exact stp_loadR rfl (by as_aux_lemma => kernel_rfl) (hS.op rfl) (hS.ch _ _ rfl) rfl hrow0 hil))
          (apply drawG_put rfl; (intro S1 hS; exact stp_len rfl (hS.op rfl) rfl (by as_aux_lemma => kernel_rfl)))
          (apply drawG_put rfl; (intro S1 hS; exact stp_bin rfl (hS.op rfl) (hS.op rfl) (binNeq' e1)))
          (apply drawG_put rfl; (intro S1 hS; exact stp_move rfl (hS.op rfl)))
          (apply drawG_yes rfl rfl rfl; (intro S1 hS; exact stp_fieldAddr (d := 0) rfl (hS.op rfl) (hS.ch _ _ rfl) (by as_aux_lemma => kernel_rfl)))
          (apply drawG_yes rfl rfl rfl; (intro S1 hS; exact stp_loadF rfl (by as_aux_lemma => kernel_rfl) (hS.op rfl) (hS.ch _ _ rfl) rfl rfl))
          (apply drawG_yes rfl rfl rfl; (intro S1 hS; exact stp_move rfl (hS.op rfl)))
          (apply drawG_yes rfl rfl rfl; (intro S1 hS; exact stp_ix (j := i) rfl (hS.op rfl) (hS.op rfl) (hS.ch _ _ rfl) rfl (by as_aux_lemma => kernel_rfl) rfl hiz (Nat.le_of_eq hlen.symm)))
          (apply drawG_yes rfl rfl rfl; (intro S1 hS; exact stp_loadR rfl (by as_aux_lemma => kernel_rfl) (hS.op rfl) (hS.ch _ _ rfl) rfl hrowi hilm))
          (apply drawG_yes rfl rfl rfl; (intro S1 hS; apply call_gate 51; exact stp_callR hP (by as_aux_lemma => kernel_rfl) rfl (opL_le hS rfl) ⟨rfl, trivial⟩ (allIn_le hS ⟨⟨_, rfl, .inl rfl⟩, trivial⟩) rfl rfl))
          (apply drawG_yes rfl rfl rfl; (intro S1 hS; exact stp_not rfl (hS.op rfl)))
          (apply drawG_put rfl; (intro S1 hS; exact stp_pickF rfl (hS.op rfl) (hS.op rfl)))
          (apply drawG_put rfl; (intro S1 hS; exact stp_move rfl (hS.op rfl)))
          apply drawG_no rfl rfl rfl rfl rfl
          apply drawG_no rfl rfl rfl rfl rfl
          apply drawG_no rfl rfl rfl rfl rfl
          apply drawG_no rfl rfl rfl rfl rfl
          apply drawG_no rfl rfl rfl rfl rfl
          apply drawG_no rfl rfl rfl rfl rfl
          apply drawG_no rfl rfl rfl rfl rfl
          (apply drawG_put rfl; (intro S1 hS; exact stp_pickT rfl (hS.op rfl) (hS.op rfl)))
          exact DrawG.nil
        · rfl
        ((refine rest_done (by as_aux_lemma => kernel_rfl) ?_; skip))
        (refine fin_seq ?_)
        refine goes_cond rfl (fun _ => ?_) (fun e => by cases e)
        rw [manB_no (fun h => by have := h.perm i hiz; rw [hp] at this; cases this)]
        (refine goes_seq ?_; refine goes_region ?_; apply run_step rfl; (exact stp_assign rfl rfl); refine run_nil ?_; refine fin_seq ?_; refine goes_ret ?_; refine fin_ret_block ?_; refine fin_ret_then ?_; refine fin_ret_then ?_; refine fin_ret_block ?_; refine fin_ret_then ?_)
        exact fin_ret1 (.inl rfl) rfl (.tmp rfl) trivial trivial
      | true =>
        rw [hp] at hP
        have hF := freeS_fc zss i hiz hli hp
        rw [hm] at hF
        apply goes_drawG 30 [] [[], [0], [], [0, 1, 2], [0, 1, 2, 3], [0, 1, 2, 3, 4], [], [6], [6, 7], [6, 7, 8], [6, 7, 8, 9], [0, 1, 2, 3, 4, 5, 6, 7, 8, 9, 10], [0, 1, 2, 3, 4, 5, 6, 7, 8, 9, 10, 11], [0, 1, 2, 3, 4, 5, 6, 7, 8, 9, 10, 11, 12], [0, 1, 2, 3, 4, 5, 6, 7, 8, 9, 10, 11, 12, 13], [0, 1, 2, 3, 4, 5, 6, 7, 8, 9, 10, 11, 12], [0, 1, 2, 3, 4, 5, 6, 7, 8, 9, 10, 11, 12, 13, 14, 15], [0, 1, 2, 3, 4, 5, 6, 7, 8, 9, 10, 11, 12, 13, 14, 15, 16], [0, 1, 2, 3, 4, 5, 6, 7, 8, 9, 10, 11, 12, 13, 14, 15, 16, 17], [0, 1, 2, 3, 4, 5, 6, 7, 8, 9, 10, 11, 12, 13, 14, 15, 16, 17, 18], [0, 1, 2, 3, 4, 5, 6, 7, 8, 9, 10, 11, 12, 13, 14, 15, 16, 17, 18, 19], [0, 1, 2, 3, 4, 5, 6, 7, 8, 9, 10, 11, 12, 13, 14, 15, 16, 17, 18, 19, 20], [0, 1, 2, 3, 4, 5, 6, 7, 8, 9, 10, 11, 12, 13, 14, 15, 16, 17, 18, 19, 20, 21], [0, 1, 2, 3, 4, 5, 6, 7, 8, 9, 10, 11, 12, 13, 14, 15, 16, 17, 18, 19, 20, 21, 22], [0, 1, 2, 3, 4, 5, 6, 7, 8, 9, 10, 11, 12, 13, 14, 15, 16, 17, 18, 19, 20, 21], [0, 1, 2, 3, 4, 5, 6, 7, 8, 9, 10, 11, 12, 13, 14, 15, 16, 17, 18, 19, 20, 21, 22, 23, 24], [0, 1, 2, 3, 4, 5, 6, 7, 8, 9, 10, 11, 12, 13, 14, 15, 16, 17, 18, 19, 20, 21, 22, 23, 24, 25], [0, 1, 2, 3, 4, 5, 6, 7, 8, 9, 10, 11, 12, 13, 14, 15, 16, 17, 18, 19, 20, 21, 22, 23, 24, 25, 26], [0, 1, 2, 3, 4, 5, 6, 7, 8, 9, 10, 11, 12, 13, 14, 15, 16, 17, 18, 19, 20, 21, 22, 23, 24, 25, 26, 27], [0, 1, 2, 3, 4, 5, 6, 7, 8, 9, 10, 11, 12, 13, 14, 15, 16, 17, 18, 19, 20, 21, 22, 23, 24, 25, 26, 27, 28]] [38, 39, 40, 41, 42, 43, 44, 45, 46, 47, 48, 49, 50, 51, 52, 53, 54, 55, 56, 57, 58, 59, 60, 61, 62, 63, 64, 65, 66, 67] [] (by kernel_rfl) (by kernel_rfl)
        · (apply drawG_put rfl; (intro S1 hS; exact stp_fieldAddr (d := 0) rfl (hS.op rfl) (hS.ch _ _ rfl) (by as_aux_lemma => kernel_rfl)))
          (apply drawG_put rfl; (intro S1 hS; exact stp_loadF rfl (by as_aux_lemma => kernel_rfl) (hS.op rfl) (hS.ch _ _ rfl) rfl rfl))
          (apply drawG_put rfl; (intro S1 hS; exact stp_move rfl (hS.op rfl)))
          (apply drawG_put rfl; (intro S1 hS; exact stp_ix (j := i) rfl (hS.op rfl) (hS.op rfl) (hS.ch _ _ rfl) rfl (by as_aux_lemma => kernel_rfl) rfl hiz (Nat.le_of_eq hlen.symm)))
          (apply drawG_put rfl; (intro S1 hS; exact stp_loadR rfl (by as_aux_lemma => kernel_rfl) (hS.op rfl) (hS.ch _ _ rfl) rfl hrowi hilm))
          (apply drawG_put rfl; (intro S1 hS; exact stp_len rfl (hS.op rfl) rfl (by as_aux_lemma => kernel_rfl)))
          (apply drawG_put rfl; (intro S1 hS; exact stp_fieldAddr (d := 0) rfl (hS.op rfl) (hS.ch _ _ rfl) (by as_aux_lemma => kernel_rfl)))
          (apply drawG_put rfl; (intro S1 hS; exact stp_loadF rfl (by as_aux_lemma => kernel_rfl) (hS.op rfl) (hS.ch _ _ rfl) rfl rfl))
          (apply drawG_put rfl; (intro S1 hS; exact stp_ix (j := 0) rfl (hS.op rfl) (hS.op rfl) (hS.ch _ _ rfl) rfl (by as_aux_lemma => kernel_rfl) rfl hpos (Nat.le_of_eq hlen.symm)))
          (apply drawG_put rfl; (intro S1 hS; exact stp_loadR rfl (by as_aux_lemma => kernel_rfl) (hS.op rfl) (hS.ch _ _ rfl) rfl hrow0 hil))
          (apply drawG_put rfl; (intro S1 hS; exact stp_len rfl (hS.op rfl) rfl (by as_aux_lemma => kernel_rfl)))
          (apply drawG_put rfl; (intro S1 hS; exact stp_bin rfl (hS.op rfl) (hS.op rfl) (binNeq' e1)))
          (apply drawG_put rfl; (intro S1 hS; exact stp_move rfl (hS.op rfl)))
          (apply drawG_yes rfl rfl rfl; (intro S1 hS; exact stp_fieldAddr (d := 0) rfl (hS.op rfl) (hS.ch _ _ rfl) (by as_aux_lemma => kernel_rfl)))
          (apply drawG_yes rfl rfl rfl; (intro S1 hS; exact stp_loadF rfl (by as_aux_lemma => kernel_rfl) (hS.op rfl) (hS.ch _ _ rfl) rfl rfl))
          (apply drawG_yes rfl rfl rfl; (intro S1 hS; exact stp_move rfl (hS.op rfl)))
          (apply drawG_yes rfl rfl rfl; (intro S1 hS; exact stp_ix (j := i) rfl (hS.op rfl) (hS.op rfl) (hS.ch _ _ rfl) rfl (by as_aux_lemma => kernel_rfl) rfl hiz (Nat.le_of_eq hlen.symm)))
          (apply drawG_yes rfl rfl rfl; (intro S1 hS; exact stp_loadR rfl (by as_aux_lemma => kernel_rfl) (hS.op rfl) (hS.ch _ _ rfl) rfl hrowi hilm))
          (apply drawG_yes rfl rfl rfl; (intro S1 hS; apply call_gate 51; exact stp_callR hP (by as_aux_lemma => kernel_rfl) rfl (opL_le hS rfl) ⟨rfl, trivial⟩ (allIn_le hS ⟨⟨_, rfl, .inl rfl⟩, trivial⟩) rfl rfl))
          (apply drawG_yes rfl rfl rfl; (intro S1 hS; exact stp_not rfl (hS.op rfl)))
          (apply drawG_put rfl; (intro S1 hS; exact stp_pickF rfl (hS.op rfl) (hS.op rfl)))
          (apply drawG_put rfl; (intro S1 hS; exact stp_move rfl (hS.op rfl)))
          (apply drawG_yes rfl rfl rfl; (intro S1 hS; exact stp_fieldAddr (d := 0) rfl (hS.op rfl) (hS.ch _ _ rfl) (by as_aux_lemma => kernel_rfl)))
          (apply drawG_yes rfl rfl rfl; (intro S1 hS; exact stp_loadF rfl (by as_aux_lemma => kernel_rfl) (hS.op rfl) (hS.ch _ _ rfl) rfl rfl))
          (apply drawG_yes rfl rfl rfl; (intro S1 hS; exact stp_move rfl (hS.op rfl)))
          (apply drawG_yes rfl rfl rfl; (intro S1 hS; exact stp_ix (j := i) rfl (hS.op rfl) (hS.op rfl) (hS.ch _ _ rfl) rfl (by as_aux_lemma => kernel_rfl) rfl hiz (Nat.le_of_eq hlen.symm)))
          (apply drawG_yes rfl rfl rfl; (intro S1 hS; exact stp_loadR rfl (by as_aux_lemma => kernel_rfl) (hS.op rfl) (hS.ch _ _ rfl) rfl hrowi hilm))
          (apply drawG_yes rfl rfl rfl; (intro S1 hS; apply call_gate 52; exact stp_callR hF (by as_aux_lemma => kernel_rfl) rfl (opL_le hS rfl) ⟨rfl, trivial⟩ (allIn_le hS ⟨⟨_, rfl, .inl rfl⟩, trivial⟩) rfl rfl))
          (apply drawG_yes rfl rfl rfl; (intro S1 hS; exact stp_not rfl (hS.op rfl)))
          (apply drawG_put rfl; (intro S1 hS; exact stp_pickF rfl (hS.op rfl) (hS.op rfl)))
          exact DrawG.nil
        · rfl
        ((refine rest_done (by as_aux_lemma => kernel_rfl) ?_; skip))
        (refine fin_seq ?_)
        refine goes_cond rfl (fun hf => ?_) (fun hf => ?_)
        · have hf : isFreeL (lget zss i) = false := by simpa using hf
          rw [manB_no (fun h => by have := h.free i hiz; rw [hf] at this; cases this)]
          (refine goes_seq ?_; refine goes_region ?_; apply run_step rfl; (exact stp_assign rfl rfl); refine run_nil ?_; refine fin_seq ?_; refine goes_ret ?_; refine fin_ret_block ?_; refine fin_ret_then ?_; refine fin_ret_then ?_; refine fin_ret_block ?_; refine fin_ret_then ?_)
          exact fin_ret1 (.inl rfl) rfl (.tmp rfl) trivial trivial
        · have hf : isFreeL (lget zss i) = true := by simpa using hf
          (refine goes_skip ?_; refine fin_block ?_; refine fin_seq ?_; refine goes_region ?_; apply run_step rfl; (exact stp_move rfl rfl); apply run_step rfl; (exact stp_add rfl rfl rfl (by first | exact IntWalk.i64_in _ (by omega) | rfl)); apply run_step rfl; (exact stp_assign rfl rfl); refine run_nil ?_)
          exact fin_round (i + 1) ⟨hiz, fun j hj => by
            by_cases e : j = i
            · subst e; exact ⟨hm.trans e1', hp, hf⟩
            · exact hrows j (by omega)⟩ (by omega) (Wk.of ⟨rfl, rfl, rfl, trivial⟩ ⟨rfl, rfl, trivial⟩ trivial)
    · apply goes_drawG 30 [] [[], [0], [], [0, 1, 2], [0, 1, 2, 3], [0, 1, 2, 3, 4], [], [6], [6, 7], [6, 7, 8], [6, 7, 8, 9], [0, 1, 2, 3, 4, 5, 6, 7, 8, 9, 10], [0, 1, 2, 3, 4, 5, 6, 7, 8, 9, 10, 11], [0, 1, 2, 3, 4, 5, 6, 7, 8, 9, 10, 11, 12], [0, 1, 2, 3, 4, 5, 6, 7, 8, 9, 10, 11, 12, 13], [0, 1, 2, 3, 4, 5, 6, 7, 8, 9, 10, 11, 12], [0, 1, 2, 3, 4, 5, 6, 7, 8, 9, 10, 11, 12, 13, 14, 15], [0, 1, 2, 3, 4, 5, 6, 7, 8, 9, 10, 11, 12, 13, 14, 15, 16], [0, 1, 2, 3, 4, 5, 6, 7, 8, 9, 10, 11, 12, 13, 14, 15, 16, 17], [0, 1, 2, 3, 4, 5, 6, 7, 8, 9, 10, 11, 12, 13, 14, 15, 16, 17, 18], [0, 1, 2, 3, 4, 5, 6, 7, 8, 9, 10, 11, 12, 13, 14, 15, 16, 17, 18, 19], [0, 1, 2, 3, 4, 5, 6, 7, 8, 9, 10, 11, 12, 13, 14, 15, 16, 17, 18, 19, 20], [0, 1, 2, 3, 4, 5, 6, 7, 8, 9, 10, 11, 12, 13, 14, 15, 16, 17, 18, 19, 20, 21], [0, 1, 2, 3, 4, 5, 6, 7, 8, 9, 10, 11, 12, 13, 14, 15, 16, 17, 18, 19, 20, 21, 22], [0, 1, 2, 3, 4, 5, 6, 7, 8, 9, 10, 11, 12, 13, 14, 15, 16, 17, 18, 19, 20, 21], [0, 1, 2, 3, 4, 5, 6, 7, 8, 9, 10, 11, 12, 13, 14, 15, 16, 17, 18, 19, 20, 21, 22, 23, 24], [0, 1, 2, 3, 4, 5, 6, 7, 8, 9, 10, 11, 12, 13, 14, 15, 16, 17, 18, 19, 20, 21, 22, 23, 24, 25], [0, 1, 2, 3, 4, 5, 6, 7, 8, 9, 10, 11, 12, 13, 14, 15, 16, 17, 18, 19, 20, 21, 22, 23, 24, 25, 26], [0, 1, 2, 3, 4, 5, 6, 7, 8, 9, 10, 11, 12, 13, 14, 15, 16, 17, 18, 19, 20, 21, 22, 23, 24, 25, 26, 27], [0, 1, 2, 3, 4, 5, 6, 7, 8, 9, 10, 11, 12, 13, 14, 15, 16, 17, 18, 19, 20, 21, 22, 23, 24, 25, 26, 27, 28]] [38, 39, 40, 41, 42, 43, 44, 45, 46, 47, 48, 49, 50, 51, 52, 53, 54, 55, 56, 57, 58, 59, 60, 61, 62, 63, 64, 65, 66, 67] [] (by kernel_rfl) (by kernel_rfl)
      · (apply drawG_put rfl; (intro S1 hS; exact stp_fieldAddr (d := 0) rfl (hS.op rfl) (hS.ch _ _ rfl) (by as_aux_lemma => kernel_rfl)))
        (apply drawG_put rfl; (intro S1 hS; exact stp_loadF rfl (by as_aux_lemma => kernel_rfl) (hS.op rfl) (hS.ch _ _ rfl) rfl rfl))
        (apply drawG_put rfl; (intro S1 hS; exact stp_move rfl (hS.op rfl)))
        (apply drawG_put rfl; (intro S1 hS; exact stp_ix (j := i) rfl (hS.op rfl) (hS.op rfl) (hS.ch _ _ rfl) rfl (by as_aux_lemma => kernel_rfl) rfl hiz (Nat.le_of_eq hlen.symm)))
        (apply drawG_put rfl; (intro S1 hS; exact stp_loadR rfl (by as_aux_lemma => kernel_rfl) (hS.op rfl) (hS.ch _ _ rfl) rfl hrowi hilm))
        (apply drawG_put rfl; (intro S1 hS; exact stp_len rfl (hS.op rfl) rfl (by as_aux_lemma => kernel_rfl)))
        (apply drawG_put rfl; (intro S1 hS; exact stp_fieldAddr (d := 0) rfl (hS.op rfl) (hS.ch _ _ rfl) (by as_aux_lemma => kernel_rfl)))
        (apply drawG_put rfl; (intro S1 hS; exact stp_loadF rfl (by as_aux_lemma => kernel_rfl) (hS.op rfl) (hS.ch _ _ rfl) rfl rfl))
        (apply drawG_put rfl; (intro S1 hS; exact stp_ix (j := 0) rfl (hS.op rfl) (hS.op rfl) (hS.ch _ _ rfl) rfl (by as_aux_lemma => kernel_rfl) rfl hpos (Nat.le_of_eq hlen.symm)))
        (apply drawG_put rfl; (intro S1 hS; exact stp_loadR rfl (by as_aux_lemma => kernel_rfl) (hS.op rfl) (hS.ch _ _ rfl) rfl hrow0 hil))
        (apply drawG_put rfl; (intro S1 hS; exact stp_len rfl (hS.op rfl) rfl (by as_aux_lemma => kernel_rfl)))
        (apply drawG_put rfl; (intro S1 hS; exact stp_bin rfl (hS.op rfl) (hS.op rfl) (binNeq e1)))
        (apply drawG_put rfl; (intro S1 hS; exact stp_move rfl (hS.op rfl)))
        apply drawG_no rfl rfl rfl rfl rfl
        apply drawG_no rfl rfl rfl rfl rfl
        apply drawG_no rfl rfl rfl rfl rfl
        apply drawG_no rfl rfl rfl rfl rfl
        apply drawG_no rfl rfl rfl rfl rfl
        apply drawG_no rfl rfl rfl rfl rfl
        apply drawG_no rfl rfl rfl rfl rfl
        (apply drawG_put rfl; (intro S1 hS; exact stp_pickT rfl (hS.op rfl) (hS.op rfl)))
        (apply drawG_put rfl; (intro S1 hS; exact stp_move rfl (hS.op rfl)))
        apply drawG_no rfl rfl rfl rfl rfl
        apply drawG_no rfl rfl rfl rfl rfl
        apply drawG_no rfl rfl rfl rfl rfl
        apply drawG_no rfl rfl rfl rfl rfl
        apply drawG_no rfl rfl rfl rfl rfl
        apply drawG_no rfl rfl rfl rfl rfl
        apply drawG_no rfl rfl rfl rfl rfl
        (apply drawG_put rfl; (intro S1 hS; exact stp_pickT rfl (hS.op rfl) (hS.op rfl)))
        exact DrawG.nil
      · rfl
      ((refine rest_done (by as_aux_lemma => kernel_rfl) ?_; skip))
      (refine fin_seq ?_)
      refine goes_cond rfl (fun _ => ?_) (fun e => by cases e)
      rw [manB_no (fun h => by have := h.len i hiz; omega)]
      (refine goes_seq ?_; refine goes_region ?_; apply run_step rfl; (exact stp_assign rfl rfl); refine run_nil ?_; refine fin_seq ?_; refine goes_ret ?_; refine fin_ret_block ?_; refine fin_ret_then ?_; refine fin_ret_then ?_; refine fin_ret_block ?_; refine fin_ret_then ?_)
      exact fin_ret1 (.inl rfl) rfl (.tmp rfl) trivial trivial
  obtain rfl : i = zss.length := by omega
  have hrn : Rows zss n zss.length := hrows
  have hT := rows_leads hrn
  have hB := rows_back hrn
  (refine goes_exit ?_; refine fin_exit_then ?_; refine fin_exit_then ?_; refine fin_exit_eq ?_; refine fin_seq ?_; refine goes_seq ?_; refine goes_seq ?_; refine goes_region ?_; apply run_step rfl; (exact stp_assign rfl rfl); refine run_nil ?_; refine fin_seq ?_; refine goes_block ?_)
  refine goes_loop (fun i : Nat => St.of [(1, o1 (.ptr 1 0)), (3, vv (I6 zss.length)), (5, vv (I6 i))] [(1003, rowsRo zss), (1, mxB zss.length)]) (fun i => i ≤ zss.length ∧ ∀ i' k, i' < i → i' + 2 ≤ k → k < zss.length → ∀ f, f < n → commAt zss i' k f) (fun i => zss.length - i) 0 ⟨Nat.zero_le _, fun j k hj => absurd hj (by omega)⟩ (Wk.of ⟨rfl, rfl, rfl, trivial⟩ ⟨rfl, rfl, trivial⟩ trivial) ?_
  clear hi hrows hlt
  rintro i ⟨hi, hci⟩
  (refine goes_seq ?_; refine goes_seq ?_; refine goes_region ?_; apply run_step rfl; (exact stp_move rfl rfl); apply run_step rfl; (exact stp_move rfl rfl); apply run_step rfl; (exact stp_bin rfl rfl rfl rfl); refine run_nil ?_; refine fin_seq ?_)
  refine goes_if rfl (fun hlt => ?_) (fun hlt => ?_)
  · have hiz : i < zss.length := by omega
    have hrowi : (irows zss)[i]? = some (ivals (lget zss i)) := irows_get hiz
    have hilm : (ivals (lget zss i)).length = n := by rw [ivals_len]; exact (hrn i hiz).1
    have hi2 : ((i : Int) + 2) = ((i + 2 : Nat) : Int) := by omega
    (refine goes_skip ?_; refine fin_seq ?_; refine goes_seq ?_; refine goes_block ?_; refine goes_seq ?_; refine goes_region ?_; apply run_step rfl; (exact stp_move rfl rfl); apply run_step rfl; (exact stp_add rfl rfl rfl (by first | exact IntWalk.i64_in _ (by omega) | rfl)); apply run_step rfl; (exact stp_assign rfl rfl); refine run_nil ?_; refine fin_seq ?_; refine goes_block ?_)
    refine goes_loop (fun k : Nat => St.of [(1, o1 (.ptr 1 0)), (3, vv (I6 zss.length)), (5, vv (I6 i)), (6, vv (I6 k))] [(1003, rowsRo zss), (1, mxB zss.length)]) (fun k => i + 2 ≤ k ∧ ∀ k', i + 2 ≤ k' → k' < k → k' < zss.length → ∀ f, f < n → commAt zss i k' f) (fun k => zss.length + 2 - k) (i + 2) ⟨Nat.le_refl _, fun k' h1 h2 => absurd h1 (by omega)⟩ (Wk.of ⟨rfl, rfl, rfl, congrArg (fun z => some (vv (I6 z))) hi2, trivial⟩ ⟨rfl, rfl, trivial⟩ trivial) ?_
    rintro k ⟨hk, hck⟩
    (refine goes_seq ?_; refine goes_seq ?_; refine goes_region ?_; apply run_step rfl; (exact stp_move rfl rfl); apply run_step rfl; (exact stp_move rfl rfl); apply run_step rfl; (exact stp_bin rfl rfl rfl rfl); refine run_nil ?_; refine fin_seq ?_)
    refine goes_if rfl (fun hlk => ?_) (fun hlk => ?_)
    · have hkz : k < zss.length := by omega
      have hrowk : (irows zss)[k]? = some (ivals (lget zss k)) := irows_get hkz
      have hilk : (ivals (lget zss k)).length = n := by rw [ivals_len]; exact (hrn k hkz).1
      (refine goes_skip ?_; refine fin_seq ?_; refine goes_seq ?_; refine goes_block ?_; refine goes_seq ?_; refine goes_region ?_; apply run_step rfl; (exact stp_assign rfl rfl); refine run_nil ?_; refine fin_seq ?_; refine goes_block ?_)
      refine goes_loop (fun f : Nat => St.of [(1, o1 (.ptr 1 0)), (3, vv (I6 zss.length)), (5, vv (I6 i)), (6, vv (I6 k)), (7, vv (I6 f))] [(1003, rowsRo zss), (1, mxB zss.length)]) (fun f => f ≤ n ∧ ∀ f', f' < f → commAt zss i k f') (fun f => n - f) 0 ⟨Nat.zero_le _, fun f' h1 => absurd h1 (by omega)⟩ (Wk.of ⟨rfl, rfl, rfl, rfl, rfl, trivial⟩ ⟨rfl, rfl, trivial⟩ trivial) ?_
      rintro f ⟨hf, hcf⟩
      (refine goes_seq ?_; refine goes_seq ?_; refine goes_region ?_; apply run_step rfl; (exact stp_move rfl rfl); apply run_step rfl; (exact stp_fieldAddr (d := 0) rfl rfl rfl (by as_aux_lemma => kernel_rfl)); apply run_step rfl; (exact stp_loadF rfl (by as_aux_lemma => kernel_rfl) rfl rfl rfl rfl); apply run_step rfl; (first | exact stp_ix (j := 0) rfl rfl rfl rfl rfl (by as_aux_lemma => kernel_rfl) rfl hpos (Nat.le_of_eq hlen.symm) | exact stp_loadR rfl (by as_aux_lemma => kernel_rfl) rfl rfl rfl hrow0 hil); apply run_step rfl; (first | exact stp_ix (j := 0) rfl rfl rfl rfl rfl (by as_aux_lemma => kernel_rfl) rfl hpos (Nat.le_of_eq hlen.symm) | exact stp_loadR rfl (by as_aux_lemma => kernel_rfl) rfl rfl rfl hrow0 hil); apply run_step rfl; (exact stp_len rfl rfl rfl (by as_aux_lemma => kernel_rfl)); apply run_step rfl; (exact stp_bin rfl rfl rfl rfl); refine run_nil ?_; refine fin_seq ?_)
      refine goes_if rfl (fun hlf => ?_) (fun hlf => ?_)
      · have hfn : f < n := by omega
        have hd1 := bTo_lt hT hfn (g := i) hiz
        have hd2 := bTo_lt hT hfn (g := k) hkz
        have hx1 := bTo_lt hT hd1.1 (g := k) hkz
        have hx2 := bTo_lt hT hd2.1 (g := i) hiz
        have hcm : commAt zss i k f ↔ bTo zss (bTo zss f i) k = bTo zss (bTo zss f k) i ∧ bTo zss f i ≠ bTo zss f k := Iff.rfl
        generalize bTo zss (bTo zss f i) k = x1 at *
        generalize bTo zss (bTo zss f k) i = x2 at *
        generalize bTo zss f i = d1 at *
        generalize bTo zss f k = d2 at *
        have g1 : (ivals (lget zss i))[f]? = some (I6 (d1 : Int)) := by rw [ivals_get (by rw [(hrn i hiz).1]; exact hfn), hd1.2]
        have g2 : (ivals (lget zss k))[f]? = some (I6 (d2 : Int)) := by rw [ivals_get (by rw [(hrn k hkz).1]; exact hfn), hd2.2]
        have g3 : (ivals (lget zss k))[d1]? = some (I6 (x1 : Int)) := by rw [ivals_get (by rw [(hrn k hkz).1]; exact hd1.1), hx1.2]
        have g4 : (ivals (lget zss i))[d2]? = some (I6 (x2 : Int)) := by rw [ivals_get (by rw [(hrn i hiz).1]; exact hd2.1), hx2.2]
        have hni : n ≤ (ivals (lget zss i)).length := Nat.le_of_eq hilm.symm
        have hnk : n ≤ (ivals (lget zss k)).length := Nat.le_of_eq hilk.symm
        (refine goes_skip ?_; refine fin_seq ?_; refine goes_seq ?_; refine goes_block ?_; refine goes_seq ?_)
        by_cases e1 : (x1 : Int) = x2
        · apply goes_drawG 50 [] [[], [0], [], [0, 1, 2], [0, 1, 2, 3], [], [5], [], [5, 6, 7], [5, 6, 7, 8], [], [5, 6, 7, 8, 9, 10], [5, 6, 7, 8, 9, 10, 11], [0, 1, 2, 3, 4, 5, 6, 7, 8, 9, 10, 11, 12], [0, 1, 2, 3, 4, 5, 6, 7, 8, 9, 10, 11, 12, 13], [], [15], [], [15, 16, 17], [15, 16, 17, 18], [], [20], [], [20, 21, 22], [20, 21, 22, 23], [], [20, 21, 22, 23, 24, 25], [20, 21, 22, 23, 24, 25, 26], [15, 16, 17, 18, 19, 20, 21, 22, 23, 24, 25, 26, 27], [15, 16, 17, 18, 19, 20, 21, 22, 23, 24, 25, 26, 27, 28], [0, 1, 2, 3, 4, 5, 6, 7, 8, 9, 10, 11, 12, 13, 14, 15, 16, 17, 18, 19, 20, 21, 22, 23, 24, 25, 26, 27, 28, 29], [0, 1, 2, 3, 4, 5, 6, 7, 8, 9, 10, 11, 12, 13, 14, 15, 16, 17, 18, 19, 20, 21, 22, 23, 24, 25, 26, 27, 28, 29, 30], [0, 1, 2, 3, 4, 5, 6, 7, 8, 9, 10, 11, 12, 13, 14, 15, 16, 17, 18, 19, 20, 21, 22, 23, 24, 25, 26, 27, 28, 29, 30, 31], [0, 1, 2, 3, 4, 5, 6, 7, 8, 9, 10, 11, 12, 13, 14, 15, 16, 17, 18, 19, 20, 21, 22, 23, 24, 25, 26, 27, 28, 29, 30, 31, 32], [0, 1, 2, 3, 4, 5, 6, 7, 8, 9, 10, 11, 12, 13, 14, 15, 16, 17, 18, 19, 20, 21, 22, 23, 24, 25, 26, 27, 28, 29, 30, 31], [0, 1, 2, 3, 4, 5, 6, 7, 8, 9, 10, 11, 12, 13, 14, 15, 16, 17, 18, 19, 20, 21, 22, 23, 24, 25, 26, 27, 28, 29, 30, 31, 32, 33, 34], [0, 1, 2, 3, 4, 5, 6, 7, 8, 9, 10, 11, 12, 13, 14, 15, 16, 17, 18, 19, 20, 21, 22, 23, 24, 25, 26, 27, 28, 29, 30, 31, 32, 33, 34, 35], [0, 1, 2, 3, 4, 5, 6, 7, 8, 9, 10, 11, 12, 13, 14, 15, 16, 17, 18, 19, 20, 21, 22, 23, 24, 25, 26, 27, 28, 29, 30, 31], [0, 1, 2, 3, 4, 5, 6, 7, 8, 9, 10, 11, 12, 13, 14, 15, 16, 17, 18, 19, 20, 21, 22, 23, 24, 25, 26, 27, 28, 29, 30, 31, 32, 33, 34, 35, 36, 37], [0, 1, 2, 3, 4, 5, 6, 7, 8, 9, 10, 11, 12, 13, 14, 15, 16, 17, 18, 19, 20, 21, 22, 23, 24, 25, 26, 27, 28, 29, 30, 31, 32, 33, 34, 35, 36, 37, 38], [0, 1, 2, 3, 4, 5, 6, 7, 8, 9, 10, 11, 12, 13, 14, 15, 16, 17, 18, 19, 20, 21, 22, 23, 24, 25, 26, 27, 28, 29, 30, 31], [0, 1, 2, 3, 4, 5, 6, 7, 8, 9, 10, 11, 12, 13, 14, 15, 16, 17, 18, 19, 20, 21, 22, 23, 24, 25, 26, 27, 28, 29, 30, 31, 40], [0, 1, 2, 3, 4, 5, 6, 7, 8, 9, 10, 11, 12, 13, 14, 15, 16, 17, 18, 19, 20, 21, 22, 23, 24, 25, 26, 27, 28, 29, 30, 31], [0, 1, 2, 3, 4, 5, 6, 7, 8, 9, 10, 11, 12, 13, 14, 15, 16, 17, 18, 19, 20, 21, 22, 23, 24, 25, 26, 27, 28, 29, 30, 31, 40, 41, 42], [0, 1, 2, 3, 4, 5, 6, 7, 8, 9, 10, 11, 12, 13, 14, 15, 16, 17, 18, 19, 20, 21, 22, 23, 24, 25, 26, 27, 28, 29, 30, 31, 40, 41, 42, 43], [0, 1, 2, 3, 4, 5, 6, 7, 8, 9, 10, 11, 12, 13, 14, 15, 16, 17, 18, 19, 20, 21, 22, 23, 24, 25, 26, 27, 28, 29, 30, 31], [0, 1, 2, 3, 4, 5, 6, 7, 8, 9, 10, 11, 12, 13, 14, 15, 16, 17, 18, 19, 20, 21, 22, 23, 24, 25, 26, 27, 28, 29, 30, 31, 40, 41, 42, 43, 44, 45], [0, 1, 2, 3, 4, 5, 6, 7, 8, 9, 10, 11, 12, 13, 14, 15, 16, 17, 18, 19, 20, 21, 22, 23, 24, 25, 26, 27, 28, 29, 30, 31, 40, 41, 42, 43, 44, 45, 46], [0, 1, 2, 3, 4, 5, 6, 7, 8, 9, 10, 11, 12, 13, 14, 15, 16, 17, 18, 19, 20, 21, 22, 23, 24, 25, 26, 27, 28, 29, 30, 31, 32, 33, 34, 35, 36, 37, 38, 39, 40, 41, 42, 43, 44, 45, 46, 47], [0, 1, 2, 3, 4, 5, 6, 7, 8, 9, 10, 11, 12, 13, 14, 15, 16, 17, 18, 19, 20, 21, 22, 23, 24, 25, 26, 27, 28, 29, 30, 31, 32, 33, 34, 35, 36, 37, 38, 39, 40, 41, 42, 43, 44, 45, 46, 47, 48]] [89, 90, 91, 92, 93, 94, 95, 96, 97, 98, 99, 100, 101, 102, 103, 104, 105, 106, 107, 108, 109, 110, 111, 112, 113, 114, 115, 116, 117, 118, 119, 120, 121, 122, 123, 124, 125, 126, 127, 128, 129, 130, 131, 132, 133, 134, 135, 136, 137, 138] [] (by kernel_rfl) (by kernel_rfl)
          · (apply drawG_put rfl; (intro S1 hS; exact stp_fieldAddr (d := 0) rfl (hS.op rfl) (hS.ch _ _ rfl) (by as_aux_lemma => kernel_rfl)))
            (apply drawG_put rfl; (intro S1 hS; exact stp_loadF rfl (by as_aux_lemma => kernel_rfl) (hS.op rfl) (hS.ch _ _ rfl) rfl rfl))
            (apply drawG_put rfl; (intro S1 hS; exact stp_move rfl (hS.op rfl)))
            (apply drawG_put rfl; (intro S1 hS; exact stp_ix (j := k) rfl (hS.op rfl) (hS.op rfl) (hS.ch _ _ rfl) rfl (by as_aux_lemma => kernel_rfl) rfl hkz (Nat.le_of_eq hlen.symm)))
            (apply drawG_put rfl; (intro S1 hS; exact stp_loadR rfl (by as_aux_lemma => kernel_rfl) (hS.op rfl) (hS.ch _ _ rfl) rfl hrowk hilk))
            (apply drawG_put rfl; (intro S1 hS; exact stp_fieldAddr (d := 0) rfl (hS.op rfl) (hS.ch _ _ rfl) (by as_aux_lemma => kernel_rfl)))
            (apply drawG_put rfl; (intro S1 hS; exact stp_loadF rfl (by as_aux_lemma => kernel_rfl) (hS.op rfl) (hS.ch _ _ rfl) rfl rfl))
            (apply drawG_put rfl; (intro S1 hS; exact stp_move rfl (hS.op rfl)))
            (apply drawG_put rfl; (intro S1 hS; exact stp_ix (j := i) rfl (hS.op rfl) (hS.op rfl) (hS.ch _ _ rfl) rfl (by as_aux_lemma => kernel_rfl) rfl hiz (Nat.le_of_eq hlen.symm)))
            (apply drawG_put rfl; (intro S1 hS; exact stp_loadR rfl (by as_aux_lemma => kernel_rfl) (hS.op rfl) (hS.ch _ _ rfl) rfl hrowi hilm))
            (apply drawG_put rfl; (intro S1 hS; exact stp_move rfl (hS.op rfl)))
            (apply drawG_put rfl; (intro S1 hS; exact stp_ixE (j := f) rfl (hS.op rfl) (hS.op rfl) (hS.ch _ _ rfl) rfl (by as_aux_lemma => kernel_rfl) hrowi rfl hfn hni))
            (apply drawG_put rfl; (intro S1 hS; exact stp_loadE' rfl (by as_aux_lemma => kernel_rfl) (hS.op rfl) (hS.ch _ _ rfl) rfl hrowi g1))
            (apply drawG_put rfl; (intro S1 hS; exact stp_ixE (j := d1) rfl (hS.op rfl) (hS.op rfl) (hS.ch _ _ rfl) rfl (by as_aux_lemma => kernel_rfl) hrowk rfl hd1.1 hnk))
            (apply drawG_put rfl; (intro S1 hS; exact stp_loadE' rfl (by as_aux_lemma => kernel_rfl) (hS.op rfl) (hS.ch _ _ rfl) rfl hrowk g3))
            (apply drawG_put rfl; (intro S1 hS; exact stp_fieldAddr (d := 0) rfl (hS.op rfl) (hS.ch _ _ rfl) (by as_aux_lemma => kernel_rfl)))
            (apply drawG_put rfl; (intro S1 hS; exact stp_loadF rfl (by as_aux_lemma => kernel_rfl) (hS.op rfl) (hS.ch _ _ rfl) rfl rfl))
            (apply drawG_put rfl; (intro S1 hS; exact stp_move rfl (hS.op rfl)))
            (apply drawG_put rfl; (intro S1 hS; exact stp_ix (j := i) rfl (hS.op rfl) (hS.op rfl) (hS.ch _ _ rfl) rfl (by as_aux_lemma => kernel_rfl) rfl hiz (Nat.le_of_eq hlen.symm)))
            (apply drawG_put rfl; (intro S1 hS; exact stp_loadR rfl (by as_aux_lemma => kernel_rfl) (hS.op rfl) (hS.ch _ _ rfl) rfl hrowi hilm))
            (apply drawG_put rfl; (intro S1 hS; exact stp_fieldAddr (d := 0) rfl (hS.op rfl) (hS.ch _ _ rfl) (by as_aux_lemma => kernel_rfl)))
            (apply drawG_put rfl; (intro S1 hS; exact stp_loadF rfl (by as_aux_lemma => kernel_rfl) (hS.op rfl) (hS.ch _ _ rfl) rfl rfl))
            (apply drawG_put rfl; (intro S1 hS; exact stp_move rfl (hS.op rfl)))
            (apply drawG_put rfl; (intro S1 hS; exact stp_ix (j := k) rfl (hS.op rfl) (hS.op rfl) (hS.ch _ _ rfl) rfl (by as_aux_lemma => kernel_rfl) rfl hkz (Nat.le_of_eq hlen.symm)))
            (apply drawG_put rfl; (intro S1 hS; exact stp_loadR rfl (by as_aux_lemma => kernel_rfl) (hS.op rfl) (hS.ch _ _ rfl) rfl hrowk hilk))
            (apply drawG_put rfl; (intro S1 hS; exact stp_move rfl (hS.op rfl)))
            (apply drawG_put rfl; (intro S1 hS; exact stp_ixE (j := f) rfl (hS.op rfl) (hS.op rfl) (hS.ch _ _ rfl) rfl (by as_aux_lemma => kernel_rfl) hrowk rfl hfn hnk))
            (apply drawG_put rfl; (intro S1 hS; exact stp_loadE' rfl (by as_aux_lemma => kernel_rfl) (hS.op rfl) (hS.ch _ _ rfl) rfl hrowk g2))
            (apply drawG_put rfl; (intro S1 hS; exact stp_ixE (j := d2) rfl (hS.op rfl) (hS.op rfl) (hS.ch _ _ rfl) rfl (by as_aux_lemma => kernel_rfl) hrowi rfl hd2.1 hni))
            (apply drawG_put rfl; (intro S1 hS; exact stp_loadE' rfl (by as_aux_lemma => kernel_rfl) (hS.op rfl) (hS.ch _ _ rfl) rfl hrowi g4))
            (apply drawG_put rfl; (intro S1 hS; exact stp_bin rfl (hS.op rfl) (hS.op rfl) (binNeq' e1)))
            (apply drawG_put rfl; (intro S1 hS; exact stp_move rfl (hS.op rfl)))
            (apply drawG_yes rfl rfl rfl; (intro S1 hS; exact stp_fieldAddr (d := 0) rfl (hS.op rfl) (hS.ch _ _ rfl) (by as_aux_lemma => kernel_rfl)))
            (apply drawG_yes rfl rfl rfl; (intro S1 hS; exact stp_loadF rfl (by as_aux_lemma => kernel_rfl) (hS.op rfl) (hS.ch _ _ rfl) rfl rfl))
            (apply drawG_yes rfl rfl rfl; (intro S1 hS; exact stp_move rfl (hS.op rfl)))
            (apply drawG_yes rfl rfl rfl; (intro S1 hS; exact stp_ix (j := i) rfl (hS.op rfl) (hS.op rfl) (hS.ch _ _ rfl) rfl (by as_aux_lemma => kernel_rfl) rfl hiz (Nat.le_of_eq hlen.symm)))
            (apply drawG_yes rfl rfl rfl; (intro S1 hS; exact stp_loadR rfl (by as_aux_lemma => kernel_rfl) (hS.op rfl) (hS.ch _ _ rfl) rfl hrowi hilm))
            (apply drawG_yes rfl rfl rfl; (intro S1 hS; exact stp_move rfl (hS.op rfl)))
            (apply drawG_yes rfl rfl rfl; (intro S1 hS; exact stp_ixE (j := f) rfl (hS.op rfl) (hS.op rfl) (hS.ch _ _ rfl) rfl (by as_aux_lemma => kernel_rfl) hrowi rfl hfn hni))
            (apply drawG_yes rfl rfl rfl; (intro S1 hS; exact stp_loadE' rfl (by as_aux_lemma => kernel_rfl) (hS.op rfl) (hS.ch _ _ rfl) rfl hrowi g1))
            (apply drawG_yes rfl rfl rfl; (intro S1 hS; exact stp_fieldAddr (d := 0) rfl (hS.op rfl) (hS.ch _ _ rfl) (by as_aux_lemma => kernel_rfl)))
            (apply drawG_yes rfl rfl rfl; (intro S1 hS; exact stp_loadF rfl (by as_aux_lemma => kernel_rfl) (hS.op rfl) (hS.ch _ _ rfl) rfl rfl))
            (apply drawG_yes rfl rfl rfl; (intro S1 hS; exact stp_move rfl (hS.op rfl)))
            (apply drawG_yes rfl rfl rfl; (intro S1 hS; exact stp_ix (j := k) rfl (hS.op rfl) (hS.op rfl) (hS.ch _ _ rfl) rfl (by as_aux_lemma => kernel_rfl) rfl hkz (Nat.le_of_eq hlen.symm)))
            (apply drawG_yes rfl rfl rfl; (intro S1 hS; exact stp_loadR rfl (by as_aux_lemma => kernel_rfl) (hS.op rfl) (hS.ch _ _ rfl) rfl hrowk hilk))
            (apply drawG_yes rfl rfl rfl; (intro S1 hS; exact stp_move rfl (hS.op rfl)))
            (apply drawG_yes rfl rfl rfl; (intro S1 hS; exact stp_ixE (j := f) rfl (hS.op rfl) (hS.op rfl) (hS.ch _ _ rfl) rfl (by as_aux_lemma => kernel_rfl) hrowk rfl hfn hnk))
            (apply drawG_yes rfl rfl rfl; (intro S1 hS; exact stp_loadE' rfl (by as_aux_lemma => kernel_rfl) (hS.op rfl) (hS.ch _ _ rfl) rfl hrowk g2))
            (apply drawG_yes rfl rfl rfl; (intro S1 hS; exact stp_bin rfl (hS.op rfl) (hS.op rfl) rfl))
            (apply drawG_put rfl; (intro S1 hS; exact stp_pickF rfl (hS.op rfl) (hS.op rfl)))
            exact DrawG.nil
          · rfl
          ((refine rest_done (by as_aux_lemma => kernel_rfl) ?_; skip))
          (refine fin_seq ?_)
          refine goes_cond rfl (fun e2 => ?_) (fun e2 => ?_)
          · have e2 : (d1 : Int) = d2 := by simpa using e2
            rw [manB_no (fun h => by have := (hcm.1 (h.comm i k hk hkz f (by omega))).2; omega)]
            (refine goes_seq ?_; refine goes_region ?_; apply run_step rfl; (exact stp_assign rfl rfl); refine run_nil ?_; refine fin_seq ?_; refine goes_ret ?_; refine fin_ret_block ?_; refine fin_ret_then ?_; refine fin_ret_then ?_; refine fin_ret_block ?_; refine fin_ret_block ?_; refine fin_ret_then ?_; refine fin_ret_then ?_; refine fin_ret_block ?_; refine fin_ret_block ?_; refine fin_ret_then ?_; refine fin_ret_then ?_; refine fin_ret_block ?_; refine fin_ret_then ?_)
            exact fin_ret1 (.inl rfl) rfl (.tmp rfl) trivial trivial
          · have e2 : (d1 : Int) ≠ d2 := by simpa using e2
            (refine goes_skip ?_; refine fin_block ?_; refine fin_seq ?_; refine goes_region ?_; apply run_step rfl; (exact stp_move rfl rfl); apply run_step rfl; (exact stp_add rfl rfl rfl (by first | exact IntWalk.i64_in _ (by omega) | rfl)); apply run_step rfl; (exact stp_assign rfl rfl); refine run_nil ?_)
            exact fin_round (f + 1) ⟨hfn, fun f' hf' => by
              by_cases e : f' = f
              · subst e; exact hcm.2 ⟨by omega, by omega⟩
              · exact hcf f' (by omega)⟩ (by omega) (Wk.of ⟨rfl, rfl, rfl, rfl, rfl, trivial⟩ ⟨rfl, rfl, trivial⟩ trivial)
        · apply goes_drawG 50 [] [[], [0], [], [0, 1, 2], [0, 1, 2, 3], [], [5], [], [5, 6, 7], [5, 6, 7, 8], [], [5, 6, 7, 8, 9, 10], [5, 6, 7, 8, 9, 10, 11], [0, 1, 2, 3, 4, 5, 6, 7, 8, 9, 10, 11, 12], [0, 1, 2, 3, 4, 5, 6, 7, 8, 9, 10, 11, 12, 13], [], [15], [], [15, 16, 17], [15, 16, 17, 18], [], [20], [], [20, 21, 22], [20, 21, 22, 23], [], [20, 21, 22, 23, 24, 25], [20, 21, 22, 23, 24, 25, 26], [15, 16, 17, 18, 19, 20, 21, 22, 23, 24, 25, 26, 27], [15, 16, 17, 18, 19, 20, 21, 22, 23, 24, 25, 26, 27, 28], [0, 1, 2, 3, 4, 5, 6, 7, 8, 9, 10, 11, 12, 13, 14, 15, 16, 17, 18, 19, 20, 21, 22, 23, 24, 25, 26, 27, 28, 29], [0, 1, 2, 3, 4, 5, 6, 7, 8, 9, 10, 11, 12, 13, 14, 15, 16, 17, 18, 19, 20, 21, 22, 23, 24, 25, 26, 27, 28, 29, 30], [0, 1, 2, 3, 4, 5, 6, 7, 8, 9, 10, 11, 12, 13, 14, 15, 16, 17, 18, 19, 20, 21, 22, 23, 24, 25, 26, 27, 28, 29, 30, 31], [0, 1, 2, 3, 4, 5, 6, 7, 8, 9, 10, 11, 12, 13, 14, 15, 16, 17, 18, 19, 20, 21, 22, 23, 24, 25, 26, 27, 28, 29, 30, 31, 32], [0, 1, 2, 3, 4, 5, 6, 7, 8, 9, 10, 11, 12, 13, 14, 15, 16, 17, 18, 19, 20, 21, 22, 23, 24, 25, 26, 27, 28, 29, 30, 31], [0, 1, 2, 3, 4, 5, 6, 7, 8, 9, 10, 11, 12, 13, 14, 15, 16, 17, 18, 19, 20, 21, 22, 23, 24, 25, 26, 27, 28, 29, 30, 31, 32, 33, 34], [0, 1, 2, 3, 4, 5, 6, 7, 8, 9, 10, 11, 12, 13, 14, 15, 16, 17, 18, 19, 20, 21, 22, 23, 24, 25, 26, 27, 28, 29, 30, 31, 32, 33, 34, 35], [0, 1, 2, 3, 4, 5, 6, 7, 8, 9, 10, 11, 12, 13, 14, 15, 16, 17, 18, 19, 20, 21, 22, 23, 24, 25, 26, 27, 28, 29, 30, 31], [0, 1, 2, 3, 4, 5, 6, 7, 8, 9, 10, 11, 12, 13, 14, 15, 16, 17, 18, 19, 20, 21, 22, 23, 24, 25, 26, 27, 28, 29, 30, 31, 32, 33, 34, 35, 36, 37], [0, 1, 2, 3, 4, 5, 6, 7, 8, 9, 10, 11, 12, 13, 14, 15, 16, 17, 18, 19, 20, 21, 22, 23, 24, 25, 26, 27, 28, 29, 30, 31, 32, 33, 34, 35, 36, 37, 38], [0, 1, 2, 3, 4, 5, 6, 7, 8, 9, 10, 11, 12, 13, 14, 15, 16, 17, 18, 19, 20, 21, 22, 23, 24, 25, 26, 27, 28, 29, 30, 31], [0, 1, 2, 3, 4, 5, 6, 7, 8, 9, 10, 11, 12, 13, 14, 15, 16, 17, 18, 19, 20, 21, 22, 23, 24, 25, 26, 27, 28, 29, 30, 31, 40], [0, 1, 2, 3, 4, 5, 6, 7, 8, 9, 10, 11, 12, 13, 14, 15, 16, 17, 18, 19, 20, 21, 22, 23, 24, 25, 26, 27, 28, 29, 30, 31], [0, 1, 2, 3, 4, 5, 6, 7, 8, 9, 10, 11, 12, 13, 14, 15, 16, 17, 18, 19, 20, 21, 22, 23, 24, 25, 26, 27, 28, 29, 30, 31, 40, 41, 42], [0, 1, 2, 3, 4, 5, 6, 7, 8, 9, 10, 11, 12, 13, 14, 15, 16, 17, 18, 19, 20, 21, 22, 23, 24, 25, 26, 27, 28, 29, 30, 31, 40, 41, 42, 43], [0, 1, 2, 3, 4, 5, 6, 7, 8, 9, 10, 11, 12, 13, 14, 15, 16, 17, 18, 19, 20, 21, 22, 23, 24, 25, 26, 27, 28, 29, 30, 31], [0, 1, 2, 3, 4, 5, 6, 7, 8, 9, 10, 11, 12, 13, 14, 15, 16, 17, 18, 19, 20, 21, 22, 23, 24, 25, 26, 27, 28, 29, 30, 31, 40, 41, 42, 43, 44, 45], [0, 1, 2, 3, 4, 5, 6, 7, 8, 9, 10, 11, 12, 13, 14, 15, 16, 17, 18, 19, 20, 21, 22, 23, 24, 25, 26, 27, 28, 29, 30, 31, 40, 41, 42, 43, 44, 45, 46], [0, 1, 2, 3, 4, 5, 6, 7, 8, 9, 10, 11, 12, 13, 14, 15, 16, 17, 18, 19, 20, 21, 22, 23, 24, 25, 26, 27, 28, 29, 30, 31, 32, 33, 34, 35, 36, 37, 38, 39, 40, 41, 42, 43, 44, 45, 46, 47], [0, 1, 2, 3, 4, 5, 6, 7, 8, 9, 10, 11, 12, 13, 14, 15, 16, 17, 18, 19, 20, 21, 22, 23, 24, 25, 26, 27, 28, 29, 30, 31, 32, 33, 34, 35, 36, 37, 38, 39, 40, 41, 42, 43, 44, 45, 46, 47, 48]] [89, 90, 91, 92, 93, 94, 95, 96, 97, 98, 99, 100, 101, 102, 103, 104, 105, 106, 107, 108, 109, 110, 111, 112, 113, 114, 115, 116, 117, 118, 119, 120, 121, 122, 123, 124, 125, 126, 127, 128, 129, 130, 131, 132, 133, 134, 135, 136, 137, 138] [] (by kernel_rfl) (by kernel_rfl)
          · (apply drawG_put rfl; (intro S1 hS; exact stp_fieldAddr (d := 0) rfl (hS.op rfl) (hS.ch _ _ rfl) (by as_aux_lemma => kernel_rfl)))
            (apply drawG_put rfl; (intro S1 hS; exact stp_loadF rfl (by as_aux_lemma => kernel_rfl) (hS.op rfl) (hS.ch _ _ rfl) rfl rfl))
            (apply drawG_put rfl; (intro S1 hS; exact stp_move rfl (hS.op rfl)))
            (apply drawG_put rfl; (intro S1 hS; exact stp_ix (j := k) rfl (hS.op rfl) (hS.op rfl) (hS.ch _ _ rfl) rfl (by as_aux_lemma => kernel_rfl) rfl hkz (Nat.le_of_eq hlen.symm)))
            (apply drawG_put rfl; (intro S1 hS; exact stp_loadR rfl (by as_aux_lemma => kernel_rfl) (hS.op rfl) (hS.ch _ _ rfl) rfl hrowk hilk))
            (apply drawG_put rfl; (intro S1 hS; exact stp_fieldAddr (d := 0) rfl (hS.op rfl) (hS.ch _ _ rfl) (by as_aux_lemma => kernel_rfl)))
            (apply drawG_put rfl; (intro S1 hS; exact stp_loadF rfl (by as_aux_lemma => kernel_rfl) (hS.op rfl) (hS.ch _ _ rfl) rfl rfl))
            (apply drawG_put rfl; (intro S1 hS; exact stp_move rfl (hS.op rfl)))
            (apply drawG_put rfl; (intro S1 hS; exact stp_ix (j := i) rfl (hS.op rfl) (hS.op rfl) (hS.ch _ _ rfl) rfl (by as_aux_lemma => kernel_rfl) rfl hiz (Nat.le_of_eq hlen.symm)))
            (apply drawG_put rfl; (intro S1 hS; exact stp_loadR rfl (by as_aux_lemma => kernel_rfl) (hS.op rfl) (hS.ch _ _ rfl) rfl hrowi hilm))
            (apply drawG_put rfl; (intro S1 hS; exact stp_move rfl (hS.op rfl)))
            (apply drawG_put rfl; (intro S1 hS; exact stp_ixE (j := f) rfl (hS.op rfl) (hS.op rfl) (hS.ch _ _ rfl) rfl (by as_aux_lemma => kernel_rfl) hrowi rfl hfn hni))
            (apply drawG_put rfl; (intro S1 hS; exact stp_loadE' rfl (by as_aux_lemma => kernel_rfl) (hS.op rfl) (hS.ch _ _ rfl) rfl hrowi g1))
            (apply drawG_put rfl; (intro S1 hS; exact stp_ixE (j := d1) rfl (hS.op rfl) (hS.op rfl) (hS.ch _ _ rfl) rfl (by as_aux_lemma => kernel_rfl) hrowk rfl hd1.1 hnk))
            (apply drawG_put rfl; (intro S1 hS; exact stp_loadE' rfl (by as_aux_lemma => kernel_rfl) (hS.op rfl) (hS.ch _ _ rfl) rfl hrowk g3))
            (apply drawG_put rfl; (intro S1 hS; exact stp_fieldAddr (d := 0) rfl (hS.op rfl) (hS.ch _ _ rfl) (by as_aux_lemma => kernel_rfl)))
            (apply drawG_put rfl; (intro S1 hS; exact stp_loadF rfl (by as_aux_lemma => kernel_rfl) (hS.op rfl) (hS.ch _ _ rfl) rfl rfl))
            (apply drawG_put rfl; (intro S1 hS; exact stp_move rfl (hS.op rfl)))
            (apply drawG_put rfl; (intro S1 hS; exact stp_ix (j := i) rfl (hS.op rfl) (hS.op rfl) (hS.ch _ _ rfl) rfl (by as_aux_lemma => kernel_rfl) rfl hiz (Nat.le_of_eq hlen.symm)))
            (apply drawG_put rfl; (intro S1 hS; exact stp_loadR rfl (by as_aux_lemma => kernel_rfl) (hS.op rfl) (hS.ch _ _ rfl) rfl hrowi hilm))
            (apply drawG_put rfl; (intro S1 hS; exact stp_fieldAddr (d := 0) rfl (hS.op rfl) (hS.ch _ _ rfl) (by as_aux_lemma => kernel_rfl)))
            (apply drawG_put rfl; (intro S1 hS; exact stp_loadF rfl (by as_aux_lemma => kernel_rfl) (hS.op rfl) (hS.ch _ _ rfl) rfl rfl))
            (apply drawG_put rfl; (intro S1 hS; exact stp_move rfl (hS.op rfl)))
            (apply drawG_put rfl; (intro S1 hS; exact stp_ix (j := k) rfl (hS.op rfl) (hS.op rfl) (hS.ch _ _ rfl) rfl (by as_aux_lemma => kernel_rfl) rfl hkz (Nat.le_of_eq hlen.symm)))
            (apply drawG_put rfl; (intro S1 hS; exact stp_loadR rfl (by as_aux_lemma => kernel_rfl) (hS.op rfl) (hS.ch _ _ rfl) rfl hrowk hilk))
            (apply drawG_put rfl; (intro S1 hS; exact stp_move rfl (hS.op rfl)))
            (apply drawG_put rfl; (intro S1 hS; exact stp_ixE (j := f) rfl (hS.op rfl) (hS.op rfl) (hS.ch _ _ rfl) rfl (by as_aux_lemma => kernel_rfl) hrowk rfl hfn hnk))
            (apply drawG_put rfl; (intro S1 hS; exact stp_loadE' rfl (by as_aux_lemma => kernel_rfl) (hS.op rfl) (hS.ch _ _ rfl) rfl hrowk g2))
            (apply drawG_put rfl; (intro S1 hS; exact stp_ixE (j := d2) rfl (hS.op rfl) (hS.op rfl) (hS.ch _ _ rfl) rfl (by as_aux_lemma => kernel_rfl) hrowi rfl hd2.1 hni))
            (apply drawG_put rfl; (intro S1 hS; exact stp_loadE' rfl (by as_aux_lemma => kernel_rfl) (hS.op rfl) (hS.ch _ _ rfl) rfl hrowi g4))
            (apply drawG_put rfl; (intro S1 hS; exact stp_bin rfl (hS.op rfl) (hS.op rfl) (binNeq e1)))
            (apply drawG_put rfl; (intro S1 hS; exact stp_move rfl (hS.op rfl)))
            apply drawG_no rfl rfl rfl rfl rfl
            apply drawG_no rfl rfl rfl rfl rfl
            apply drawG_no rfl rfl rfl rfl rfl
            apply drawG_no rfl rfl rfl rfl rfl
            apply drawG_no rfl rfl rfl rfl rfl
            apply drawG_no rfl rfl rfl rfl rfl
            apply drawG_no rfl rfl rfl rfl rfl
            apply drawG_no rfl rfl rfl rfl rfl
            apply drawG_no rfl rfl rfl rfl rfl
            apply drawG_no rfl rfl rfl rfl rfl
            apply drawG_no rfl rfl rfl rfl rfl
            apply drawG_no rfl rfl rfl rfl rfl
            apply drawG_no rfl rfl rfl rfl rfl
            apply drawG_no rfl rfl rfl rfl rfl
            apply drawG_no rfl rfl rfl rfl rfl
            apply drawG_no rfl rfl rfl rfl rfl
            apply drawG_no rfl rfl rfl rfl rfl
            (apply drawG_put rfl; (intro S1 hS; exact stp_pickT rfl (hS.op rfl) (hS.op rfl)))
            exact DrawG.nil
          · rfl
          ((refine rest_done (by as_aux_lemma => kernel_rfl) ?_; skip))
          (refine fin_seq ?_)
          refine goes_cond rfl (fun _ => ?_) (fun e => by cases e)
          rw [manB_no (fun h => by have := (hcm.1 (h.comm i k hk hkz f (by omega))).1; omega)]
          (refine goes_seq ?_; refine goes_region ?_; apply run_step rfl; (exact stp_assign rfl rfl); refine run_nil ?_; refine fin_seq ?_; refine goes_ret ?_; refine fin_ret_block ?_; refine fin_ret_then ?_; refine fin_ret_then ?_; refine fin_ret_block ?_; refine fin_ret_block ?_; refine fin_ret_then ?_; refine fin_ret_then ?_; refine fin_ret_block ?_; refine fin_ret_block ?_; refine fin_ret_then ?_; refine fin_ret_then ?_; refine fin_ret_block ?_; refine fin_ret_then ?_)
          exact fin_ret1 (.inl rfl) rfl (.tmp rfl) trivial trivial
      · (refine goes_exit ?_; refine fin_exit_then ?_; refine fin_exit_then ?_; refine fin_exit_eq ?_; refine fin_block ?_; refine fin_seq ?_; refine goes_region ?_; apply run_step rfl; (exact stp_move rfl rfl); apply run_step rfl; (exact stp_add rfl rfl rfl (by first | exact IntWalk.i64_in _ (by omega) | rfl)); apply run_step rfl; (exact stp_assign rfl rfl); refine run_nil ?_)
        exact fin_round (k + 1) ⟨by omega, fun k' h1 h2 h3 f' hf' => by
          by_cases e : k' = k
          · subst e; exact hcf f' (by omega)
          · exact hck k' h1 (by omega) h3 f' hf'⟩ (by omega) (Wk.of ⟨rfl, rfl, rfl, rfl, trivial⟩ ⟨rfl, rfl, trivial⟩ trivial)
    · (refine goes_exit ?_; refine fin_exit_then ?_; refine fin_exit_then ?_; refine fin_exit_eq ?_; refine fin_block ?_; refine fin_seq ?_; refine goes_region ?_; apply run_step rfl; (exact stp_move rfl rfl); apply run_step rfl; (exact stp_add rfl rfl rfl (by first | exact IntWalk.i64_in _ (by omega) | rfl)); apply run_step rfl; (exact stp_assign rfl rfl); refine run_nil ?_)
      exact fin_round (i + 1) ⟨hiz, fun i' k' h1 h2 h3 => by
        by_cases e : i' = i
        · subst e; exact hck k' h2 (by omega) h3
        · exact hci i' k' (by omega) h2 h3⟩ (by omega) (Wk.of ⟨rfl, rfl, rfl, trivial⟩ ⟨rfl, rfl, trivial⟩ trivial)
  obtain rfl : i = zss.length := by omega
  have hM : Man0 zss := ⟨by omega, by omega, by omega, by omega, by rw [hn]; exact hrn, fun i k h1 h2 f hf => hci i k (by omega) h1 h2 f (by omega)⟩
  have hO := (orbS_fc zss n 0 hT hpos (by omega) (by omega) (by omega)).nm [(1003, 1003), (12, 141)] (by kernel_rfl)
  have hO : FC Tryz.prog 53 [(1003, rowsRo zss)] [o1 (.sl 1003 0 zss.length), vv (I6 0)] [(141, leOw (orb zss n 0).2)] (o1 (.sl 141 0 (orb zss n 0).2.length)) [] := hO
  rw [hM.man, hn]
  (refine goes_exit ?_; refine fin_exit_then ?_; refine fin_exit_then ?_; refine fin_exit_eq ?_; refine fin_seq ?_; refine goes_seq ?_)
  apply goes_draw 11 [] [[], [0], [0, 1], [0, 1, 2], [], [4], [4, 5], [4, 5, 6], [4, 5, 6, 7], [0, 1, 2, 3, 4, 5, 6, 7, 8], [0, 1, 2, 3, 4, 5, 6, 7, 8, 9]] [139, 140, 141, 142, 143, 144, 145, 146, 147, 148, 2] [141] (by kernel_rfl) (by kernel_rfl)
  · (apply draw_put rfl; (intro S1 hS; exact stp_fieldAddr (d := 0) rfl (hS.op rfl) (hS.ch _ _ rfl) (by as_aux_lemma => kernel_rfl)))
    (apply draw_put rfl; (intro S1 hS; exact stp_loadF rfl (by as_aux_lemma => kernel_rfl) (hS.op rfl) (hS.ch _ _ rfl) rfl rfl))
    (apply draw_new rfl; (intro S1 hS; apply call_gate 53; exact stp_callN hO (by as_aux_lemma => kernel_rfl) rfl (opL_le hS rfl) ⟨rfl, rfl, trivial⟩ (allIn_le hS ⟨⟨_, rfl, .inl rfl⟩, trivial⟩) rfl rfl rfl))
    (apply draw_put rfl; (intro S1 hS; exact stp_len rfl (hS.op rfl) rfl (by as_aux_lemma => kernel_rfl)))
    (apply draw_put rfl; (intro S1 hS; exact stp_fieldAddr (d := 0) rfl (hS.op rfl) (hS.ch _ _ rfl) (by as_aux_lemma => kernel_rfl)))
    (apply draw_put rfl; (intro S1 hS; exact stp_loadF rfl (by as_aux_lemma => kernel_rfl) (hS.op rfl) (hS.ch _ _ rfl) rfl rfl))
    (apply draw_put rfl; (intro S1 hS; exact stp_ix (j := 0) rfl (hS.op rfl) (hS.op rfl) (hS.ch _ _ rfl) rfl (by as_aux_lemma => kernel_rfl) rfl hpos (Nat.le_of_eq hlen.symm)))
    (apply draw_put rfl; (intro S1 hS; exact stp_loadR rfl (by as_aux_lemma => kernel_rfl) (hS.op rfl) (hS.ch _ _ rfl) rfl hrow0 hil))
    (apply draw_put rfl; (intro S1 hS; exact stp_len rfl (hS.op rfl) rfl (by as_aux_lemma => kernel_rfl)))
    (apply draw_put rfl; (intro S1 hS; exact stp_bin rfl (hS.op rfl) (hS.op rfl) rfl))
    (apply draw_put rfl; (intro S1 hS; exact stp_assign rfl (hS.op rfl)))
    exact Draw.nil
  · rfl
  ((refine rest_done (by as_aux_lemma => kernel_rfl) ?_; skip))
  (refine fin_seq ?_; refine goes_ret ?_)
  exact fin_ret1 (.inl rfl) rfl (.tmp rfl) trivial trivial
end Go.Proofs.YtmdhljleaijkbaaGreatDoor

/- A search in depth numbers an orbit, on lists. No program in sight. -/
namespace Go.Proofs.YtmdhljleaijkbaaGreatDoor

def negc (L : List Int) : Nat := (L.filter fun z => decide (z < 0)).length
theorem negc_set : ∀ (L : List Int) (d : Nat) (z : Int), d < L.length → iget L d < 0 → 0 ≤ z → negc (L.set d z) + 1 = negc L
  | [], d, _, h, _, _ => by simp at h
  | a :: r, 0, z, _, h, hz => by
    have h : a < 0 := by simpa [iget] using h
    simp [negc, h, show ¬ z < 0 by omega]
  | a :: r, d + 1, z, hd, h, hz => by
    have ih := negc_set r d z (by simpa using hd) (by simpa [iget] using h) hz
    unfold negc at ih ⊢
    simp only [List.set_cons_succ, List.filter_cons]
    split
    · simp only [List.length_cons]; omega
    · exact ih
theorem iget_setD {L : List Int} {d e : Nat} {z : Int} : iget (L.set d z) e = if d = e ∧ d < L.length then z else iget L e := by
  simp only [iget, List.getD_eq_getElem?_getD, List.getElem?_set]
  by_cases h : d = e
  · subst h
    by_cases h2 : d < L.length
    · simp [h2]
    · simp [h2]
  · simp [h]
structure DOK (T : List (List Int)) (n i k : Nat) (L0 : List Int) (ex : Nat → Prop) (L st : List Int) : Prop where
  len : L.length = n
  st_ : ∀ z ∈ st, ∃ d : Nat, z = (d : Int) ∧ d < n ∧ rch T n i d = true ∧ iget L d = (k : Int)
  eq : ∀ d, d < n → iget L d = iget L0 d ∨ (iget L d = (k : Int) ∧ rch T n i d = true)
  self : iget L i = (k : Int)
  cl : ∀ d, d < n → rch T n i d = true → iget L d = (k : Int) → (d : Int) ∉ st → ¬ ex d → ∀ g, g < T.length → iget L (bTo T d g) = (k : Int)
section
variable {T : List (List Int)} {n i k : Nat} {L0 L st : List Int} {ex : Nat → Prop}
theorem dok_start (hT : Leads T n) (hi : i < n) (hl : L0.length = n) (hnew : ∀ d, d < n → rch T n i d = true → iget L0 d = -1) : DOK T n i k L0 (fun _ => False) (L0.set i (k : Int)) [(i : Int)] := by
  refine ⟨by simpa using hl, fun z hz => ?_, fun d hd => ?_, by rw [iget_setD, if_pos ⟨rfl, by omega⟩], fun d hd hr he hn => ?_⟩
  · obtain rfl : z = (i : Int) := by simpa using hz
    exact ⟨i, rfl, hi, rch_refl hT hi, by rw [iget_setD, if_pos ⟨rfl, by omega⟩]⟩
  · rw [iget_setD]
    split
    · rename_i h; obtain ⟨rfl, _⟩ := h; exact .inr ⟨rfl, rch_refl hT hi⟩
    · exact .inl rfl
  · exfalso
    have hne : i ≠ d := fun e => hn (by simp [e])
    rw [iget_setD, if_neg (fun h => hne h.1), hnew d hd hr] at he
    omega
theorem dok_pop {m x : Nat} (h : DOK T n i k L0 (fun _ => False) L st) (hm : st.length = m + 1) (hx : iget st m = (x : Int)) : DOK T n i k L0 (fun d => d = x) L (st.take m) := by
  refine ⟨h.len, fun z hz => h.st_ z (List.mem_of_mem_take hz), h.eq, h.self, fun d hd hr he hn hne => ?_⟩
  refine h.cl d hd hr he (fun hs => ?_) (fun f => f)
  have hst : st = st.take m ++ [(x : Int)] := by
    have := take_iget (zs := st) (k := m) (by omega)
    rw [hx, ← hm, List.take_length] at this; exact this
  rw [hst] at hs
  rcases List.mem_append.1 hs with hs | hs
  · exact hn hs
  · have : (d : Int) = x := by simpa using hs
    exact hne (by omega)
theorem dok_step {y : Nat} (h : DOK T n i k L0 ex L st) (hy : y < n) (hr : rch T n i y = true) (hl : iget L y < 0) : DOK T n i k L0 ex (L.set y (k : Int)) (st ++ [(y : Int)]) := by
  have hyl : y < L.length := by rw [h.len]; exact hy
  have keep : ∀ d, iget L d = (k : Int) → iget (L.set y (k : Int)) d = (k : Int) := fun d hd => by
    rw [iget_setD]; split
    · rfl
    · exact hd
  refine ⟨by rw [List.length_set]; exact h.len, fun z hz => ?_, fun d hd => ?_, keep i h.self, fun d hd hrd he hn hne => ?_⟩
  · rcases List.mem_append.1 hz with hz | hz
    · obtain ⟨d, h1, h2, h3, h4⟩ := h.st_ z hz
      exact ⟨d, h1, h2, h3, keep d h4⟩
    · obtain rfl : z = (y : Int) := by simpa using hz
      exact ⟨y, rfl, hy, hr, by rw [iget_setD, if_pos ⟨rfl, hyl⟩]⟩
  · rw [iget_setD]
    split
    · rename_i e; obtain ⟨rfl, _⟩ := e; exact .inr ⟨rfl, hr⟩
    · exact h.eq d hd
  · have hyd : y ≠ d := fun e => hn (by subst e; simp)
    rw [iget_setD, if_neg (fun e => hyd e.1)] at he
    exact fun g hg => keep _ (h.cl d hd hrd he (fun hs => hn (List.mem_append_left _ hs)) hne g hg)
theorem dok_end {x : Nat} (h : DOK T n i k L0 (fun d => d = x) L st) (hx : ∀ g, g < T.length → iget L (bTo T x g) = (k : Int)) : DOK T n i k L0 (fun _ => False) L st :=
  ⟨h.len, h.st_, h.eq, h.self, fun d hd hr he hn _ => by
    by_cases e : d = x
    · subst e; exact hx
    · exact h.cl d hd hr he hn e⟩
theorem dok_done (hT : Leads T n) (hi : i < n) (h : DOK T n i k L0 (fun _ => False) L []) : L = (labSet T n i (L0, k)).1 := by
  refine iget_ext (by rw [h.len, labSet_len]) fun d hd => ?_
  rw [h.len] at hd
  rw [labSet_get hd]
  have hall : ∀ d, d < n → rch T n i d = true → iget L d = (k : Int) :=
    fun d hd hr => (rch_in (p := fun d => iget L d = (k : Int) ∧ rch T n i d = true) hT hi ⟨h.self, rch_refl hT hi⟩ (fun e he hp g hg => ⟨h.cl e he hp.2 hp.1 (by simp) (fun f => f) g hg, rch_on hT hi he hp.2 hg⟩) d hd hr).1
  split
  · rename_i hr; exact hall d hd hr
  · rename_i hr
    rcases h.eq d hd with h1 | h1
    · exact h1
    · exact absurd h1.2 hr
end
end Go.Proofs.YtmdhljleaijkbaaGreatDoor

/- Contracts in names of small functions: size, slices.Repeat. -/
namespace Go.Proofs.YtmdhljleaijkbaaGreatDoor
open Go.RowKit

theorem sizeR_fc (x n : Nat) : FC Tryz.prog 30 [] [o1 (.sl x 0 n)] [] (vv (I6 n)) [] := by
  refine fc_enter (nt := 5) Tryz.func30 rfl rfl (by simp) fun w0 ω0 => ?_
  (refine goes_seq ?_; refine goes_region ?_; apply run_step rfl; (exact stp_assign rfl rfl); refine run_nil ?_; refine fin_seq ?_; refine goes_seq ?_; refine goes_region ?_; apply run_step rfl; (exact stp_move rfl rfl); apply run_step rfl; (exact stp_len rfl rfl rfl (by as_aux_lemma => kernel_rfl)); apply run_step rfl; (exact stp_assign rfl rfl); refine run_nil ?_; refine fin_seq ?_; refine goes_ret ?_)
  exact fin_ret1 (.inl rfl) rfl (.tmp rfl) trivial trivial
theorem sizeE_fc (x i n : Nat) : FC Tryz.prog 44 [] [o1 (.esl x i 0 n)] [] (vv (I6 n)) [] := by
  refine fc_enter (nt := 5) Tryz.func44 rfl rfl (by simp) fun w0 ω0 => ?_
  (refine goes_seq ?_; refine goes_region ?_; apply run_step rfl; (exact stp_assign rfl rfl); refine run_nil ?_; refine fin_seq ?_; refine goes_seq ?_; refine goes_region ?_; apply run_step rfl; (exact stp_move rfl rfl); apply run_step rfl; (exact stp_len rfl rfl rfl (by as_aux_lemma => kernel_rfl)); apply run_step rfl; (exact stp_assign rfl rfl); refine run_nil ?_; refine fin_seq ?_; refine goes_ret ?_)
  exact fin_ret1 (.inl rfl) rfl (.tmp rfl) trivial trivial

theorem repL_single (z : Int) : ∀ n, repL [z] n = List.replicate n z := fun n => by
  unfold repL
  induction n with
  | zero => rfl
  | succ n ih => simp [List.replicate_succ] at ih ⊢
theorem lk_self {α : Type} (x : Nat) (c : α) : lk x [(x, c)] = some c := by simp [lk]
/-- slices.Repeat of a list of one number -/
theorem repeat1_fc (x y n : Nat) (z : Int) (hn : n ≤ 1048576) (hn0 : 0 < n) :
    FC Tryz.prog 72 [(x, ⟨false, 2, 1, .vals (ivals [z])⟩)] [o1 (.sl x 0 1), vv (I6 n)] [(y, ⟨true, 2, 1, .vals (ivals (List.replicate n z))⟩)] (o1 (.sl y 0 n)) [] := by
  have h := fc_of_own (P := Tryz.prog) (f := 72) (ins := [(x, ⟨false, 2, 1, .vals (ivals [z])⟩)]) (args := [o1 (.sl x 0 1), vv (I6 n)]) (x := y) (E := 2) (zs := List.replicate n z) fun w η ω us hm hd => by
    obtain ⟨hl, ha⟩ := hd
    obtain ⟨u0, h0, d0⟩ := ha 0 _ rfl
    obtain ⟨u1, h1, d1⟩ := ha 1 _ rfl
    obtain ⟨ao, c, e0, hi⟩ := rdS (zs := [z]) (E := 2) (own := false) hm (lk_self _ _) d0 (by simp)
    have d1 : u1 = I6 n := d1
    subst e0 d1
    obtain rfl : us = [.slice ao 1 c, I6 n] := by
      match us, hl, h0, h1 with
      | [p, q], _, h0, h1 => simp at h0 h1; rw [h0, h1]
    refine (repeat_any ao 1 c n [z] w hi (by omega) hn (by omega) (by omega)).mono ?_
    rintro e w' ⟨ao', c', rfl, ho, hb⟩
    rw [Nat.one_mul, repL_single] at ho
    rw [List.length_replicate]
    exact ⟨ao', c', by rw [Nat.one_mul], ho, hb⟩
  rw [List.length_replicate] at h
  exact h
end Go.Proofs.YtmdhljleaijkbaaGreatDoor

/- The numbers of orbits, the program's: orbitLabels. -/
namespace Go.Proofs.YtmdhljleaijkbaaGreatDoor
open Go.RowKit

theorem ivals_take (zs : List Int) (m : Nat) : (ivals zs).take m = ivals (zs.take m) := by simp [ivals, List.map_take]
set_option maxRecDepth 100000 in
set_option maxHeartbeats 2000000 in
theorem orbI_fcS (zss : List (List Int)) (n ng : Nat) (hng : zss.length = ng) (hT : Leads zss n) (hB : SymR zss n) (hpos : 0 < n) (hn : n ≤ 1000000) (hg : ng ≤ 1000000) :
    FC Tryz.prog 45 [(1003, rowsRo zss)] [vv (I6 n), o1 (.sl 1003 0 ng)] [(16, leOw (labs zss n).1)] (.tup [.one (.sl 16 0 n), .one (.val (I6 (labs zss n).2))]) [] := by
  have hlen : (irows zss).length = ng := by rw [irows_len]; exact hng
  have hR : FC Tryz.prog 72 [(14, ⟨false, 2, 1, .vals (ivals [-1])⟩)] [o1 (.sl 14 0 1), vv (I6 n)] [(16, ⟨true, 2, 1, .vals (ivals (List.replicate n (-1)))⟩)] (o1 (.sl 16 0 n)) [] := repeat1_fc 14 16 n (-1) (by omega) hpos
  refine fc_enter (nt := 75) Tryz.func45 rfl rfl (by simp) fun w0 ω0 => ?_
  (refine goes_seq ?_; refine goes_region ?_; apply run_step rfl; (exact stp_assign rfl rfl); apply run_step rfl; (exact stp_assign rfl rfl); refine run_nil ?_; refine fin_seq ?_; refine goes_seq ?_; refine goes_region ?_; apply run_step rfl; (exact stp_lit1I (E := 2) rfl (by as_aux_lemma => kernel_rfl) rfl); apply run_step rfl; (exact stp_move rfl rfl); apply run_step rfl; (apply call_gate 72; exact stp_callN hR (by as_aux_lemma => kernel_rfl) rfl rfl ⟨rfl, rfl, trivial⟩ ⟨⟨_, rfl, .inr rfl⟩, trivial⟩ rfl rfl rfl); apply run_step rfl; (exact stp_assign rfl rfl); refine run_nil ?_; refine fin_seq ?_; refine goes_seq ?_; refine goes_region ?_; apply run_step rfl; (exact stp_assign rfl rfl); refine run_nil ?_; refine fin_seq ?_; refine goes_seq ?_; refine goes_seq ?_; refine goes_region ?_; apply run_step rfl; (exact stp_move rfl rfl); apply run_step rfl; (exact stp_move rfl rfl); refine run_nil ?_; refine fin_seq ?_; refine goes_block ?_)
  refine goes_loop (fun q : Nat × LSt => St.of [(1, o1 (.sl 1003 0 ng)), (6, o1 (.sl 16 0 n)), (7, vv (I6 q.2.2)), (17, vv (I6 n)), (18, vv (I6 q.1))] [(1003, rowsRo zss), (16, leOw q.2.1)]) (fun q => q.1 ≤ n ∧ labTo zss n q.1 = q.2) (fun q => n - q.1) (0, labStart n) ⟨Nat.zero_le _, rfl⟩ (Wk.of ⟨rfl, rfl, rfl, rfl, rfl, trivial⟩ ⟨rfl, rfl, trivial⟩ trivial) ?_
  rintro ⟨i, L, k⟩ ⟨hi, hl⟩
  dsimp only at hi hl ⊢
  have hOK := labTo_okS hT hB i hi
  rw [hl] at hOK
  have hLl : L.length = n := hOK.len
  have hil : n ≤ (ivals L).length := by rw [ivals_len, hLl]; exact Nat.le_refl _
  have hnext := labTo_succ (T := zss) (n := n) i
  rw [hl] at hnext
  unfold labStep at hnext
  (refine goes_seq ?_; refine goes_region ?_; apply run_step rfl; (exact stp_bin rfl rfl rfl rfl); refine run_nil ?_; refine fin_seq ?_; refine goes_seq ?_)
  refine goes_if rfl (fun h => ?_) (fun h => ?_)
  · have hin : i < n := by omega
    have gi : (ivals L)[i]? = some (I6 (iget L i)) := ivals_get (by omega)
    have hkb : k ≤ n := by
      have hk : ∀ m, m ≤ n → (labTo zss n m).2 ≤ m := by
        intro m
        induction m with
        | zero => intro _; exact Nat.le_refl _
        | succ m ih =>
          intro hm
          have := ih (by omega)
          rw [labTo_succ]; unfold labStep; split
          · omega
          · show (labTo zss n m).2 + 1 ≤ m + 1; omega
      have := hk i hi
      rw [hl] at this
      have : k ≤ i := this
      omega
    (refine goes_skip ?_; refine fin_seq ?_; refine goes_seq ?_; refine goes_block ?_; refine goes_seq ?_; refine goes_region ?_; apply run_step rfl; (exact stp_move rfl rfl); apply run_step rfl; (exact stp_assign rfl rfl); refine run_nil ?_; refine fin_seq ?_; refine goes_seq ?_; refine goes_seq ?_; refine goes_region ?_; apply run_step rfl; (exact stp_move rfl rfl); apply run_step rfl; (exact stp_move rfl rfl); apply run_step rfl; (exact stp_ix (j := i) rfl rfl rfl rfl rfl (by as_aux_lemma => kernel_rfl) rfl hin hil); apply run_step rfl; (exact stp_loadV rfl (by as_aux_lemma => kernel_rfl) rfl rfl rfl (by first | assumption | exact ivals_get (by assumption) | exact irows_get (by assumption) | exact ivals_get (by omega) | exact irows_get (by omega) | rfl)); apply run_step rfl; (exact stp_bin rfl rfl rfl rfl); refine run_nil ?_; refine fin_seq ?_)
    refine goes_if rfl (fun h1 => ?_) (fun h1 => ?_)
    · have h1' : 0 ≤ iget L i := h1
      rw [if_pos h1'] at hnext
      (refine goes_exit ?_; refine fin_exit_then ?_; refine fin_exit_eq ?_; refine fin_seq ?_; refine goes_region ?_; apply run_step rfl; (exact stp_add rfl rfl rfl (by first | exact IntWalk.i64_in _ (by omega) | rfl)); apply run_step rfl; (exact stp_move rfl rfl); refine run_nil ?_)
      exact fin_round (i + 1, L, k) ⟨hin, hnext⟩ (by show n - (i + 1) < n - i; omega) (Wk.of ⟨rfl, rfl, rfl, rfl, rfl, trivial⟩ ⟨rfl, rfl, trivial⟩ trivial)
    · have h1' : ¬ 0 ≤ iget L i := h1
      rw [if_neg h1'] at hnext
      have hnew : ∀ d, d < n → rch zss n i d = true → iget L d = -1 := fun d hd hr => lab_newS hT hB hin hOK (by dsimp only; omega) hd hr
      (refine goes_skip ?_; refine fin_seq ?_; refine goes_seq ?_; refine goes_region ?_; apply run_step rfl; (exact stp_move rfl rfl); apply run_step rfl; (exact stp_move rfl rfl); apply run_step rfl; (exact stp_move rfl rfl); apply run_step rfl; (first | exact stp_ix (j := i) rfl rfl rfl rfl rfl (by as_aux_lemma => kernel_rfl) rfl hin hil | exact stp_stI rfl rfl rfl rfl rfl (by omega) (by as_aux_lemma => kernel_rfl)); apply run_step rfl; (first | exact stp_ix (j := i) rfl rfl rfl rfl rfl (by as_aux_lemma => kernel_rfl) rfl hin hil | exact stp_stI rfl rfl rfl rfl rfl (by omega) (by as_aux_lemma => kernel_rfl)); refine run_nil ?_; refine fin_seq ?_; refine goes_seq ?_; refine goes_seq ?_; refine goes_region ?_; apply run_step rfl; (exact stp_move rfl rfl); apply run_step rfl; (exact stp_lit1I (E := 2) rfl (by as_aux_lemma => kernel_rfl) rfl); apply run_step rfl; (exact stp_assign rfl rfl); refine run_nil ?_; refine fin_seq ?_; refine goes_block ?_)
      refine goes_loop (fun q : List Int × List Int => St.of [(1, o1 (.sl 1003 0 ng)), (6, o1 (.sl 16 0 n)), (7, vv (I6 k)), (9, o1 (.sl 31 0 q.2.length)), (17, vv (I6 n)), (18, vv (I6 i))] [(1003, rowsRo zss), (16, leOw q.1), (31, leOw q.2)])
        (fun q => DOK zss n i k L (fun _ => False) q.1 q.2 ∧ 2 * negc q.1 + q.2.length ≤ 2 * n + 1) (fun q => 2 * negc q.1 + q.2.length) (L.set i (k : Int), [(i : Int)]) ⟨dok_start hT hin hLl hnew, ?_⟩ (Wk.of ⟨rfl, rfl, rfl, rfl, rfl, rfl, trivial⟩ ⟨rfl, rfl, rfl, trivial⟩ trivial) ?_
      · have h2 : negc L ≤ L.length := List.length_filter_le _ _
        have h3 := negc_set L i (k : Int) (by omega) (by omega) (by omega)
        show 2 * negc (L.set i (k : Int)) + 1 ≤ 2 * n + 1
        omega
      rintro ⟨M, st⟩ ⟨hD, hmu⟩
      dsimp only at hD hmu ⊢
      have hMl : M.length = n := hD.len
      (refine goes_seq ?_; refine goes_seq ?_; refine goes_region ?_; apply run_step rfl; (exact stp_move rfl rfl); apply run_step rfl; (exact stp_len rfl rfl rfl (by as_aux_lemma => kernel_rfl)); apply run_step rfl; (exact stp_bin rfl rfl rfl rfl); refine run_nil ?_; refine fin_seq ?_)
      refine goes_if rfl (fun h2 => ?_) (fun h2 => ?_)
      · obtain ⟨m, hm⟩ : ∃ m, st.length = m + 1 := ⟨st.length - 1, by omega⟩
        obtain ⟨x, hx1, hx2, hx3, hx4⟩ := hD.st_ (iget st m) (iget_mem (by omega))
        have hP := dok_pop hD hm hx1
        have gm : (ivals st)[m]? = some (I6 (x : Int)) := by rw [ivals_get (by omega), hx1]
        have hm1 : ((st.length : Int) - 1) = ((m : Nat) : Int) := by omega
        have hsl : m + 1 ≤ (ivals st).length := by rw [ivals_len]; omega
        have htk : (st.take m).length = m := by rw [List.length_take]; omega
        rw [hm]
        rw [hm] at hm1
        (refine goes_skip ?_; refine fin_seq ?_; refine goes_block ?_; refine goes_seq ?_; refine goes_region ?_; apply run_step rfl; (exact stp_move rfl rfl); apply run_step rfl; (exact stp_move rfl rfl); apply run_step rfl; (exact stp_len rfl rfl rfl (by as_aux_lemma => kernel_rfl)); apply run_step rfl; (first | exact stp_sub rfl rfl rfl (IntWalk.i64_in _ (by omega)) | exact stp_ix (j := m) rfl rfl rfl rfl rfl (by as_aux_lemma => kernel_rfl) hm1 (by omega) hsl | exact stp_slice (k := 1) (l := 0) (h := m) rfl rfl rfl rfl (by as_aux_lemma => kernel_rfl) (by omega) bnd_none (bnd_some rfl hm1) (by omega) (by omega) (by rw [Nat.mul_one, Nat.zero_add]; exact hsl)); apply run_step rfl; (first | exact stp_sub rfl rfl rfl (IntWalk.i64_in _ (by omega)) | exact stp_ix (j := m) rfl rfl rfl rfl rfl (by as_aux_lemma => kernel_rfl) hm1 (by omega) hsl | exact stp_slice (k := 1) (l := 0) (h := m) rfl rfl rfl rfl (by as_aux_lemma => kernel_rfl) (by omega) bnd_none (bnd_some rfl hm1) (by omega) (by omega) (by rw [Nat.mul_one, Nat.zero_add]; exact hsl)); apply run_step rfl; (exact stp_loadV rfl (by as_aux_lemma => kernel_rfl) rfl rfl rfl (by first | assumption | exact ivals_get (by assumption) | exact irows_get (by assumption) | exact ivals_get (by omega) | exact irows_get (by omega) | rfl)); apply run_step rfl; (exact stp_assign rfl rfl); refine run_nil ?_; refine fin_seq ?_; refine goes_seq ?_; refine goes_region ?_; apply run_step rfl; (exact stp_move rfl rfl); apply run_step rfl; (exact stp_move rfl rfl); apply run_step rfl; (exact stp_len rfl rfl rfl (by as_aux_lemma => kernel_rfl)); apply run_step rfl; (first | exact stp_sub rfl rfl rfl (IntWalk.i64_in _ (by omega)) | exact stp_ix (j := m) rfl rfl rfl rfl rfl (by as_aux_lemma => kernel_rfl) hm1 (by omega) hsl | exact stp_slice (k := 1) (l := 0) (h := m) rfl rfl rfl rfl (by as_aux_lemma => kernel_rfl) (by omega) bnd_none (bnd_some rfl hm1) (by omega) (by omega) (by rw [Nat.mul_one, Nat.zero_add]; exact hsl)); apply run_step rfl; (first | exact stp_sub rfl rfl rfl (IntWalk.i64_in _ (by omega)) | exact stp_ix (j := m) rfl rfl rfl rfl rfl (by as_aux_lemma => kernel_rfl) hm1 (by omega) hsl | exact stp_slice (k := 1) (l := 0) (h := m) rfl rfl rfl rfl (by as_aux_lemma => kernel_rfl) (by omega) bnd_none (bnd_some rfl hm1) (by omega) (by omega) (by rw [Nat.mul_one, Nat.zero_add]; exact hsl)); apply run_step rfl; (exact stp_assign rfl rfl); refine run_nil ?_; refine fin_seq ?_; refine goes_seq ?_; refine goes_region ?_; apply run_step rfl; (exact stp_move rfl rfl); apply run_step rfl; (exact stp_len rfl rfl rfl (by as_aux_lemma => kernel_rfl)); apply run_step rfl; (exact stp_move rfl rfl); refine run_nil ?_; refine fin_seq ?_; refine goes_block ?_)
        have hsame : 2 * negc M + m + 1 = 2 * negc M + st.length := by omega
        refine goes_loop (fun q : Nat × List Int × List Int => St.of [(1, o1 (.sl 1003 0 ng)), (6, o1 (.sl 16 0 n)), (7, vv (I6 k)), (9, o1 (.sl 31 0 q.2.2.length)), (10, vv (I6 x)), (17, vv (I6 n)), (18, vv (I6 i)), (46, o1 (.sl 1003 0 ng)), (47, vv (I6 ng)), (48, vv (I6 q.1))] [(1003, rowsRo zss), (16, leOw q.2.1), (31, leOw q.2.2)])
          (fun q => q.1 ≤ ng ∧ DOK zss n i k L (fun d => d = x) q.2.1 q.2.2 ∧ (∀ g, g < q.1 → iget q.2.1 (bTo zss x g) = (k : Int)) ∧ 2 * negc q.2.1 + q.2.2.length ≤ 2 * negc M + m) (fun q => ng - q.1) (0, M, st.take m) ⟨Nat.zero_le _, hP, fun g hg => absurd hg (by omega), by dsimp only; omega⟩
          (Wk.trans (wk_cut (n := 31) (m := m) (vs := ivals st) rfl (by rw [ivals_len]; omega)) (Wk.of ⟨rfl, rfl, rfl, by rw [htk]; rfl, rfl, rfl, rfl, rfl, rfl, rfl, trivial⟩ ⟨rfl, rfl, congrArg (fun l => some (⟨true, 2, 1, .vals l⟩ : Ch)) (ivals_take st m), trivial⟩ trivial)) ?_
        rintro ⟨g, N, su⟩ ⟨hgl, hD2, hdone, hmu2⟩
        dsimp only at hgl hD2 hdone hmu2 ⊢
        have hNl : N.length = n := hD2.len
        have hsu : su.length ≤ 2 * n + 1 := by omega
        (refine goes_seq ?_; refine goes_region ?_; apply run_step rfl; (exact stp_bin rfl rfl rfl rfl); refine run_nil ?_; refine fin_seq ?_; refine goes_seq ?_)
        refine goes_if rfl (fun h3 => ?_) (fun h3 => ?_)
        · have hgn : g < ng := by omega
          have hgz : g < zss.length := by omega
          have hd := bTo_lt hT hx2 (g := g) hgz
          have hr := rch_on hT hin hx2 hx3 hgz
          obtain ⟨y, hy⟩ : ∃ y, bTo zss x g = y := ⟨_, rfl⟩
          rw [hy] at hd hr
          have hrowg : (irows zss)[g]? = some (ivals (lget zss g)) := irows_get hgz
          have hlg : (lget zss g).length = n := hT.len g hgz
          have gx : (ivals (lget zss g))[x]? = some (I6 (y : Int)) := by rw [ivals_get (by omega), hd.2]
          have gy : (ivals N)[y]? = some (I6 (iget N y)) := ivals_get (by omega)
          have hilg : (ivals (lget zss g)).length = n := by rw [ivals_len]; exact hlg
          have hNi : n ≤ (ivals N).length := by rw [ivals_len, hNl]; exact Nat.le_refl _
          have step : ∀ (N' : List Int), (∀ e, iget N e = (k : Int) → iget N' e = (k : Int)) → iget N' y = (k : Int) → ∀ g', g' < g + 1 → iget N' (bTo zss x g') = (k : Int) := fun N' hk hyk g' hg' => by
            by_cases e : g' = g
            · subst e; rw [hy]; exact hyk
            · exact hk _ (hdone g' (by omega))
          (refine goes_skip ?_; refine fin_seq ?_; refine goes_seq ?_; refine goes_block ?_; refine goes_seq ?_; refine goes_region ?_; apply run_step rfl; (first | exact stp_ix (j := g) rfl rfl rfl rfl rfl (by as_aux_lemma => kernel_rfl) rfl hgn (Nat.le_of_eq hlen.symm) | exact stp_loadR rfl (by as_aux_lemma => kernel_rfl) rfl rfl rfl hrowg hilg | exact stp_ixE (j := x) rfl rfl rfl rfl rfl (by as_aux_lemma => kernel_rfl) hrowg rfl hx2 (Nat.le_of_eq hilg.symm) | exact stp_loadE' rfl (by as_aux_lemma => kernel_rfl) rfl rfl rfl hrowg gx | exact stp_ix (j := y) rfl rfl rfl rfl rfl (by as_aux_lemma => kernel_rfl) rfl hd.1 hNi); apply run_step rfl; (first | exact stp_ix (j := g) rfl rfl rfl rfl rfl (by as_aux_lemma => kernel_rfl) rfl hgn (Nat.le_of_eq hlen.symm) | exact stp_loadR rfl (by as_aux_lemma => kernel_rfl) rfl rfl rfl hrowg hilg | exact stp_ixE (j := x) rfl rfl rfl rfl rfl (by as_aux_lemma => kernel_rfl) hrowg rfl hx2 (Nat.le_of_eq hilg.symm) | exact stp_loadE' rfl (by as_aux_lemma => kernel_rfl) rfl rfl rfl hrowg gx | exact stp_ix (j := y) rfl rfl rfl rfl rfl (by as_aux_lemma => kernel_rfl) rfl hd.1 hNi); apply run_step rfl; (exact stp_assign rfl rfl); refine run_nil ?_; refine fin_seq ?_; refine goes_seq ?_; refine goes_region ?_; apply run_step rfl; (exact stp_move rfl rfl); apply run_step rfl; (exact stp_move rfl rfl); apply run_step rfl; (first | exact stp_ix (j := g) rfl rfl rfl rfl rfl (by as_aux_lemma => kernel_rfl) rfl hgn (Nat.le_of_eq hlen.symm) | exact stp_loadR rfl (by as_aux_lemma => kernel_rfl) rfl rfl rfl hrowg hilg | exact stp_ixE (j := x) rfl rfl rfl rfl rfl (by as_aux_lemma => kernel_rfl) hrowg rfl hx2 (Nat.le_of_eq hilg.symm) | exact stp_loadE' rfl (by as_aux_lemma => kernel_rfl) rfl rfl rfl hrowg gx | exact stp_ix (j := y) rfl rfl rfl rfl rfl (by as_aux_lemma => kernel_rfl) rfl hd.1 hNi); apply run_step rfl; (first | exact stp_ix (j := g) rfl rfl rfl rfl rfl (by as_aux_lemma => kernel_rfl) rfl hgn (Nat.le_of_eq hlen.symm) | exact stp_loadR rfl (by as_aux_lemma => kernel_rfl) rfl rfl rfl hrowg hilg | exact stp_ixE (j := x) rfl rfl rfl rfl rfl (by as_aux_lemma => kernel_rfl) hrowg rfl hx2 (Nat.le_of_eq hilg.symm) | exact stp_loadE' rfl (by as_aux_lemma => kernel_rfl) rfl rfl rfl hrowg gx | exact stp_ix (j := y) rfl rfl rfl rfl rfl (by as_aux_lemma => kernel_rfl) rfl hd.1 hNi); apply run_step rfl; (exact stp_assign rfl rfl); refine run_nil ?_; refine fin_seq ?_; refine goes_seq ?_; refine goes_region ?_; apply run_step rfl; (exact stp_move rfl rfl); apply run_step rfl; (exact stp_move rfl rfl); apply run_step rfl; (first | exact stp_ix (j := g) rfl rfl rfl rfl rfl (by as_aux_lemma => kernel_rfl) rfl hgn (Nat.le_of_eq hlen.symm) | exact stp_loadR rfl (by as_aux_lemma => kernel_rfl) rfl rfl rfl hrowg hilg | exact stp_ixE (j := x) rfl rfl rfl rfl rfl (by as_aux_lemma => kernel_rfl) hrowg rfl hx2 (Nat.le_of_eq hilg.symm) | exact stp_loadE' rfl (by as_aux_lemma => kernel_rfl) rfl rfl rfl hrowg gx | exact stp_ix (j := y) rfl rfl rfl rfl rfl (by as_aux_lemma => kernel_rfl) rfl hd.1 hNi); apply run_step rfl; (exact stp_loadV rfl (by as_aux_lemma => kernel_rfl) rfl rfl rfl (by first | assumption | exact ivals_get (by assumption) | exact irows_get (by assumption) | exact ivals_get (by omega) | exact irows_get (by omega) | rfl)); apply run_step rfl; (exact stp_bin rfl rfl rfl rfl); refine run_nil ?_; refine fin_seq ?_)
          refine goes_if rfl (fun h4 => ?_) (fun h4 => ?_)
          · have h4' : iget N y < 0 := h4
            have hN' := negc_set N y (k : Int) (by omega) h4' (by omega)
            have hkeep : ∀ e, iget N e = (k : Int) → iget (N.set y (k : Int)) e = (k : Int) := fun e he => by
              rw [iget_setD]
              split
              · rfl
              · exact he
            have hyN : iget (N.set y (k : Int)) y = (k : Int) := by rw [iget_setD, if_pos ⟨rfl, by omega⟩]
            (refine goes_seq ?_; refine goes_region ?_; apply run_step rfl; (exact stp_move rfl rfl); apply run_step rfl; (exact stp_move rfl rfl); apply run_step rfl; (exact stp_move rfl rfl); apply run_step rfl; (first | exact stp_ix (j := y) rfl rfl rfl rfl rfl (by as_aux_lemma => kernel_rfl) rfl hd.1 hNi | exact stp_stI rfl rfl rfl rfl rfl (by omega) (by as_aux_lemma => kernel_rfl)); apply run_step rfl; (first | exact stp_ix (j := y) rfl rfl rfl rfl rfl (by as_aux_lemma => kernel_rfl) rfl hd.1 hNi | exact stp_stI rfl rfl rfl rfl rfl (by omega) (by as_aux_lemma => kernel_rfl)); refine run_nil ?_; refine fin_seq ?_; refine goes_region ?_; apply run_step rfl; (exact stp_move rfl rfl); apply run_step rfl; (exact stp_move rfl rfl); apply run_step rfl; (exact stp_lit1I (E := 2) rfl (by as_aux_lemma => kernel_rfl) rfl); apply run_step rfl; (exact stp_appI rfl (by as_aux_lemma => kernel_rfl) rfl rfl rfl (by first | rfl | assumption | (simp; done)) rfl rfl (by omega)); apply run_step rfl; (exact stp_assign rfl rfl); refine run_nil ?_; refine fin_block ?_; refine fin_seq ?_; refine goes_region ?_; apply run_step rfl; (exact stp_add rfl rfl rfl (by first | exact IntWalk.i64_in _ (by omega) | rfl)); apply run_step rfl; (exact stp_move rfl rfl); refine run_nil ?_)
            exact fin_round (g + 1, N.set y (k : Int), su ++ [(y : Int)]) ⟨hgn, dok_step hD2 hd.1 hr h4', step _ hkeep hyN, by simp only [List.length_append, List.length_singleton]; omega⟩ (by show ng - (g + 1) < ng - g; omega) (Wk.of ⟨rfl, rfl, rfl, congrArg (fun x => some (o1 (.sl 31 0 x))) (by simp), rfl, rfl, rfl, rfl, rfl, rfl, trivial⟩ ⟨rfl, rfl, rfl, trivial⟩ trivial)
          · have h4' : ¬ iget N y < 0 := h4
            have hyk : iget N y = (k : Int) := by
              rcases hD2.eq y hd.1 with h5 | h5
              · rw [hnew y hd.1 hr] at h5; omega
              · exact h5.1
            (refine goes_skip ?_; refine fin_block ?_; refine fin_seq ?_; refine goes_region ?_; apply run_step rfl; (exact stp_add rfl rfl rfl (by first | exact IntWalk.i64_in _ (by omega) | rfl)); apply run_step rfl; (exact stp_move rfl rfl); refine run_nil ?_)
            exact fin_round (g + 1, N, su) ⟨hgn, hD2, step N (fun _ h => h) hyk, hmu2⟩ (by show ng - (g + 1) < ng - g; omega) (Wk.of ⟨rfl, rfl, rfl, rfl, rfl, rfl, rfl, rfl, rfl, rfl, trivial⟩ ⟨rfl, rfl, rfl, trivial⟩ trivial)
        · obtain rfl : g = ng := by omega
          (refine goes_exit ?_; refine fin_exit_then ?_; refine fin_exit_then ?_; refine fin_exit_eq ?_; refine fin_block ?_)
          exact fin_round (N, su) ⟨dok_end hD2 (fun g' hg' => hdone g' (by omega)), by dsimp only; omega⟩ (by show 2 * negc N + su.length < 2 * negc M + st.length; omega) (Wk.of ⟨rfl, rfl, rfl, rfl, rfl, rfl, trivial⟩ ⟨rfl, rfl, rfl, trivial⟩ trivial)
      · obtain rfl : st = [] := List.length_eq_zero_iff.1 (by omega)
        have hM := dok_done hT hin hD
        have hk1 : (((labSet zss n i (L, k)).2 : Nat) : Int) = (k : Int) + 1 := by show ((k + 1 : Nat) : Int) = _; omega
        (refine goes_exit ?_; refine fin_exit_then ?_; refine fin_exit_then ?_; refine fin_exit_eq ?_; refine fin_seq ?_; refine goes_region ?_; apply run_step rfl; (exact stp_move rfl rfl); apply run_step rfl; (exact stp_add rfl rfl rfl (by first | exact IntWalk.i64_in _ (by omega) | rfl)); apply run_step rfl; (exact stp_assign rfl rfl); refine run_nil ?_; refine fin_block ?_; refine fin_seq ?_; refine goes_region ?_; apply run_step rfl; (exact stp_add rfl rfl rfl (by first | exact IntWalk.i64_in _ (by omega) | rfl)); apply run_step rfl; (exact stp_move rfl rfl); refine run_nil ?_)
        exact fin_round (i + 1, labSet zss n i (L, k)) ⟨hin, hnext⟩ (by show n - (i + 1) < n - i; omega) (Wk.of ⟨rfl, rfl, congrArg (fun z => some (vv (I6 z))) hk1.symm, rfl, rfl, trivial⟩ ⟨rfl, congrArg (fun l => some (leOw l)) hM, trivial⟩ trivial)
  · obtain rfl : i = n := by omega
    have hfin : labs zss i = (L, k) := hl
    rw [hfin]
    (refine goes_exit ?_; refine fin_exit_then ?_; refine fin_exit_then ?_; refine fin_exit_eq ?_; refine fin_seq ?_; refine goes_seq ?_; refine goes_region ?_; apply run_step rfl; (exact stp_move rfl rfl); apply run_step rfl; (exact stp_move rfl rfl); apply run_step rfl; (exact stp_assign rfl rfl); apply run_step rfl; (exact stp_assign rfl rfl); refine run_nil ?_; refine fin_seq ?_; refine goes_ret ?_)
    exact fin_ret2 (.inl rfl) rfl (.tmp rfl) (.tmp rfl) ⟨rfl, trivial⟩ trivial
theorem orbI_fc (zss : List (List Int)) (n ng : Nat) (hng : zss.length = ng) (hT : Leads zss n) (hB : Back2 zss n) (hpos : 0 < n) (hn : n ≤ 1000000) (hg : ng ≤ 1000000) :
    FC Tryz.prog 45 [(1003, rowsRo zss)] [vv (I6 n), o1 (.sl 1003 0 ng)] [(16, leOw (labs zss n).1)] (.tup [.one (.sl 16 0 n), .one (.val (I6 (labs zss n).2))]) [] := orbI_fcS zss n ng hng hT (hB.sym hT) hpos hn hg
end Go.Proofs.YtmdhljleaijkbaaGreatDoor

/- The program's within, in names. -/
namespace Go.Proofs.YtmdhljleaijkbaaGreatDoor
open Go.RowKit

theorem us_three {us : List Value} {u0 u1 u2 : Value} (hl : us.length = 3) (g0 : us[0]? = some u0) (g1 : us[1]? = some u1) (g2 : us[2]? = some u2) : us = [u0, u1, u2] := by
  match us, hl with
  | [p, q, r], _ => simp at g0 g1 g2; rw [g0, g1, g2]
theorem within_fc (a b c : Int) : FC Tryz.prog 41 [] [vv (I6 a), vv (I6 b), vv (I6 c)] [] (vv (.bool (inB a b c))) [] :=
  fc_of_calls fun w η ω us hm ⟨hl, ha⟩ => by
    obtain ⟨u0, g0, d0⟩ := ha 0 _ rfl
    obtain ⟨u1, g1, d1⟩ := ha 1 _ rfl
    obtain ⟨u2, g2, d2⟩ := ha 2 _ rfl
    have d0 : u0 = I6 a := d0
    have d1 : u1 = I6 b := d1
    have d2 : u2 = I6 c := d2
    subst d0 d1 d2
    rw [us_three hl g0 g1 g2]
    refine (within_any a b c w).mono ?_
    rintro e w' ⟨rfl, rfl⟩
    exact ⟨rfl, Below.refl _ _⟩
end Go.Proofs.YtmdhljleaijkbaaGreatDoor

/- What a maniplex is, the program's: isManiplex. guards: -/
namespace Go.Proofs.YtmdhljleaijkbaaGreatDoor
open Go.RowKit

abbrev mxV (R : Nat) : Ch := ⟨false, 26, 1, .flat [.sl 1003 0 R]⟩
theorem rank_fc (R : Nat) : FC Tryz.prog 42 [(1, mxV R)] [o1 (.ptr 1 0)] [] (vv (I6 R)) [] := by
  have hS := sizeR_fc 1003 R
  refine fc_enter (nt := 8) Tryz.func42 rfl rfl (by simp) fun w0 ω0 => ?_
  (refine goes_seq ?_; refine goes_region ?_; apply run_step rfl; (exact stp_assign rfl rfl); refine run_nil ?_; refine fin_seq ?_; refine goes_seq ?_; refine goes_region ?_; apply run_step rfl; (exact stp_move rfl rfl); apply run_step rfl; (exact stp_nilCheck rfl rfl rfl); apply run_step rfl; (exact stp_fieldAddr (d := 0) rfl rfl rfl (by as_aux_lemma => kernel_rfl)); apply run_step rfl; (exact stp_loadF rfl (by as_aux_lemma => kernel_rfl) rfl rfl rfl rfl); apply run_step rfl; (apply call_gate 30; exact stp_callR hS (by as_aux_lemma => kernel_rfl) rfl rfl ⟨rfl, trivial⟩ trivial rfl rfl); apply run_step rfl; (exact stp_assign rfl rfl); refine run_nil ?_; refine fin_seq ?_; refine goes_ret ?_)
  exact fin_ret1 (.inl rfl) rfl (.tmp rfl) trivial trivial
set_option maxRecDepth 100000 in
theorem flags_fc1 (zss : List (List Int)) (n : Nat) (hpos : 0 < zss.length) (hn : (lget zss 0).length = n) : FC Tryz.prog 22 [(1, mxV zss.length), (1003, rowsRo zss)] [o1 (.ptr 1 0)] [] (vv (I6 n)) [] := by
  have hlen : (irows zss).length = zss.length := irows_len _
  have hrow0 : (irows zss)[0]? = some (ivals (lget zss 0)) := irows_get hpos
  have hil : (ivals (lget zss 0)).length = n := by rw [ivals_len]; exact hn
  have hSz := sizeE_fc 1003 0 n
  refine fc_enter (nt := 10) Tryz.func22 rfl rfl (by simp) fun w0 ω0 => ?_
  (refine goes_seq ?_; refine goes_region ?_; apply run_step rfl; (exact stp_assign rfl rfl); refine run_nil ?_; refine fin_seq ?_; refine goes_seq ?_; refine goes_region ?_; apply run_step rfl; (exact stp_move rfl rfl); apply run_step rfl; (exact stp_nilCheck rfl rfl rfl); apply run_step rfl; (exact stp_fieldAddr (d := 0) rfl rfl rfl (by as_aux_lemma => kernel_rfl)); apply run_step rfl; (exact stp_loadF rfl (by as_aux_lemma => kernel_rfl) rfl rfl rfl rfl); apply run_step rfl; (first | exact stp_ix (j := 0) rfl rfl rfl rfl rfl (by as_aux_lemma => kernel_rfl) rfl hpos (Nat.le_of_eq hlen.symm) | exact stp_loadR rfl (by as_aux_lemma => kernel_rfl) rfl rfl rfl hrow0 hil | (apply call_gate 44; exact stp_callR hSz (by as_aux_lemma => kernel_rfl) rfl rfl ⟨rfl, trivial⟩ trivial rfl rfl)); apply run_step rfl; (first | exact stp_ix (j := 0) rfl rfl rfl rfl rfl (by as_aux_lemma => kernel_rfl) rfl hpos (Nat.le_of_eq hlen.symm) | exact stp_loadR rfl (by as_aux_lemma => kernel_rfl) rfl rfl rfl hrow0 hil | (apply call_gate 44; exact stp_callR hSz (by as_aux_lemma => kernel_rfl) rfl rfl ⟨rfl, trivial⟩ trivial rfl rfl)); apply run_step rfl; (first | exact stp_ix (j := 0) rfl rfl rfl rfl rfl (by as_aux_lemma => kernel_rfl) rfl hpos (Nat.le_of_eq hlen.symm) | exact stp_loadR rfl (by as_aux_lemma => kernel_rfl) rfl rfl rfl hrow0 hil | (apply call_gate 44; exact stp_callR hSz (by as_aux_lemma => kernel_rfl) rfl rfl ⟨rfl, trivial⟩ trivial rfl rfl)); apply run_step rfl; (exact stp_assign rfl rfl); refine run_nil ?_; refine fin_seq ?_; refine goes_ret ?_)
  exact fin_ret1 (.inl rfl) rfl (.tmp rfl) trivial trivial

set_option maxRecDepth 100000 in
set_option maxHeartbeats 4000000 in
theorem manI_fc (zss : List (List Int)) (hR : zss.length ≤ 1048576) (hl : ∀ i, i < zss.length → (lget zss i).length ≤ 1048576) :
    FC Tryz.prog 20 [(1003, rowsRo zss)] [mA zss.length] [] (vv (.bool (manB zss))) [] := by
  have hRk := rank_fc zss.length
  have hW1 := within_fc (zss.length : Int) 1 5
  refine fc_enter (nt := 101) Tryz.func20 rfl rfl (by simp) fun w0 ω0 => ?_
  have hlen : (irows zss).length = zss.length := irows_len _
  cases c1 : inB (zss.length : Int) 1 5 with
  | false =>
    rw [manB_no (fun h => by have h1 := h.n1; have h2 := h.n5; rw [inB_true.2 ⟨by omega, by omega⟩] at c1; cases c1)]
    rw [c1] at hW1
    (refine goes_seq ?_; refine goes_region ?_; apply run_step rfl; (exact stp_box rfl rfl rfl rfl); apply run_step rfl; (exact stp_assign rfl rfl); refine run_nil ?_; refine fin_seq ?_; refine goes_seq ?_; refine goes_seq ?_; refine goes_region ?_; apply run_step rfl; (first | (apply call_gate 42; exact stp_callR hRk (by as_aux_lemma => kernel_rfl) rfl rfl ⟨rfl, trivial⟩ ⟨⟨_, rfl, .inr rfl⟩, trivial⟩ rfl rfl) | (apply call_gate 41; exact stp_callR hW1 (by as_aux_lemma => kernel_rfl) rfl rfl ⟨rfl, rfl, rfl, trivial⟩ trivial rfl rfl)); apply run_step rfl; (first | (apply call_gate 42; exact stp_callR hRk (by as_aux_lemma => kernel_rfl) rfl rfl ⟨rfl, trivial⟩ ⟨⟨_, rfl, .inr rfl⟩, trivial⟩ rfl rfl) | (apply call_gate 41; exact stp_callR hW1 (by as_aux_lemma => kernel_rfl) rfl rfl ⟨rfl, rfl, rfl, trivial⟩ trivial rfl rfl)); apply run_step rfl; (exact stp_not rfl rfl); apply run_step rfl; (exact stp_move rfl rfl); apply run_gNo rfl rfl rfl rfl rfl; apply run_gNo rfl rfl rfl rfl rfl; apply run_gNo rfl rfl rfl rfl rfl; apply run_step rfl; (exact stp_pickT rfl rfl rfl); refine run_nil ?_; refine fin_seq ?_)
    refine goes_cond rfl (fun _ => ?_) (fun e => by cases e)
    (refine goes_seq ?_; refine goes_region ?_; apply run_step rfl; (exact stp_assign rfl rfl); refine run_nil ?_; refine fin_seq ?_; refine goes_ret ?_; refine fin_ret_then ?_)
    exact fin_ret1 (.inl rfl) rfl (.tmp rfl) trivial trivial
  | true =>
  rw [c1] at hW1
  have c1 := inB_true.1 c1
  have hpos : 0 < zss.length := by omega
  have hrow0 : (irows zss)[0]? = some (ivals (lget zss 0)) := irows_get hpos
  obtain ⟨n, hn⟩ : ∃ n, (lget zss 0).length = n := ⟨_, rfl⟩
  have hil : (ivals (lget zss 0)).length = n := by rw [ivals_len]; exact hn
  have hG := flags_fc1 zss n hpos hn
  have hW2 := within_fc (n : Int) 2 400
  cases c2 : inB (n : Int) 2 400 with
  | false =>
    rw [manB_no (fun h => by have h1 := h.f2; have h2 := h.f4; rw [inB_true.2 ⟨by omega, by omega⟩] at c2; cases c2)]
    rw [c2] at hW2
    (refine goes_seq ?_; refine goes_region ?_; apply run_step rfl; (exact stp_box rfl rfl rfl rfl); apply run_step rfl; (exact stp_assign rfl rfl); refine run_nil ?_; refine fin_seq ?_; refine goes_seq ?_; refine goes_seq ?_; refine goes_region ?_; apply run_step rfl; (first | (apply call_gate 42; exact stp_callR hRk (by as_aux_lemma => kernel_rfl) rfl rfl ⟨rfl, trivial⟩ ⟨⟨_, rfl, .inr rfl⟩, trivial⟩ rfl rfl) | (apply call_gate 41; exact stp_callR hW1 (by as_aux_lemma => kernel_rfl) rfl rfl ⟨rfl, rfl, rfl, trivial⟩ trivial rfl rfl) | (apply call_gate 41; exact stp_callR hW2 (by as_aux_lemma => kernel_rfl) rfl rfl ⟨rfl, rfl, rfl, trivial⟩ trivial rfl rfl) | (apply call_gate 22; exact stp_callR hG (by as_aux_lemma => kernel_rfl) rfl rfl ⟨rfl, trivial⟩ ⟨⟨_, rfl, .inr rfl⟩, ⟨_, rfl, .inl rfl⟩, trivial⟩ rfl rfl)); apply run_step rfl; (first | (apply call_gate 42; exact stp_callR hRk (by as_aux_lemma => kernel_rfl) rfl rfl ⟨rfl, trivial⟩ ⟨⟨_, rfl, .inr rfl⟩, trivial⟩ rfl rfl) | (apply call_gate 41; exact stp_callR hW1 (by as_aux_lemma => kernel_rfl) rfl rfl ⟨rfl, rfl, rfl, trivial⟩ trivial rfl rfl) | (apply call_gate 41; exact stp_callR hW2 (by as_aux_lemma => kernel_rfl) rfl rfl ⟨rfl, rfl, rfl, trivial⟩ trivial rfl rfl) | (apply call_gate 22; exact stp_callR hG (by as_aux_lemma => kernel_rfl) rfl rfl ⟨rfl, trivial⟩ ⟨⟨_, rfl, .inr rfl⟩, ⟨_, rfl, .inl rfl⟩, trivial⟩ rfl rfl)); apply run_step rfl; (exact stp_not rfl rfl); apply run_step rfl; (exact stp_move rfl rfl); apply run_gYes rfl rfl rfl; (first | (apply call_gate 42; exact stp_callR hRk (by as_aux_lemma => kernel_rfl) rfl rfl ⟨rfl, trivial⟩ ⟨⟨_, rfl, .inr rfl⟩, trivial⟩ rfl rfl) | (apply call_gate 41; exact stp_callR hW1 (by as_aux_lemma => kernel_rfl) rfl rfl ⟨rfl, rfl, rfl, trivial⟩ trivial rfl rfl) | (apply call_gate 41; exact stp_callR hW2 (by as_aux_lemma => kernel_rfl) rfl rfl ⟨rfl, rfl, rfl, trivial⟩ trivial rfl rfl) | (apply call_gate 22; exact stp_callR hG (by as_aux_lemma => kernel_rfl) rfl rfl ⟨rfl, trivial⟩ ⟨⟨_, rfl, .inr rfl⟩, ⟨_, rfl, .inl rfl⟩, trivial⟩ rfl rfl)); apply run_gYes rfl rfl rfl; (first | (apply call_gate 42; exact stp_callR hRk (by as_aux_lemma => kernel_rfl) rfl rfl ⟨rfl, trivial⟩ ⟨⟨_, rfl, .inr rfl⟩, trivial⟩ rfl rfl) | (apply call_gate 41; exact stp_callR hW1 (by as_aux_lemma => kernel_rfl) rfl rfl ⟨rfl, rfl, rfl, trivial⟩ trivial rfl rfl) | (apply call_gate 41; exact stp_callR hW2 (by as_aux_lemma => kernel_rfl) rfl rfl ⟨rfl, rfl, rfl, trivial⟩ trivial rfl rfl) | (apply call_gate 22; exact stp_callR hG (by as_aux_lemma => kernel_rfl) rfl rfl ⟨rfl, trivial⟩ ⟨⟨_, rfl, .inr rfl⟩, ⟨_, rfl, .inl rfl⟩, trivial⟩ rfl rfl)); apply run_gYes rfl rfl rfl; (exact stp_not rfl rfl); apply run_step rfl; (exact stp_pickF rfl rfl rfl); refine run_nil ?_; refine fin_seq ?_)
    refine goes_cond rfl (fun _ => ?_) (fun e => by cases e)
    (refine goes_seq ?_; refine goes_region ?_; apply run_step rfl; (exact stp_assign rfl rfl); refine run_nil ?_; refine fin_seq ?_; refine goes_ret ?_; refine fin_ret_then ?_)
    exact fin_ret1 (.inl rfl) rfl (.tmp rfl) trivial trivial
  | true =>
  rw [c2] at hW2
  have c2 := inB_true.1 c2
  (refine goes_seq ?_; refine goes_region ?_; apply run_step rfl; (exact stp_box rfl rfl rfl rfl); apply run_step rfl; (exact stp_assign rfl rfl); refine run_nil ?_; refine fin_seq ?_; refine goes_seq ?_; refine goes_seq ?_; refine goes_region ?_; apply run_step rfl; (first | (apply call_gate 42; exact stp_callR hRk (by as_aux_lemma => kernel_rfl) rfl rfl ⟨rfl, trivial⟩ ⟨⟨_, rfl, .inr rfl⟩, trivial⟩ rfl rfl) | (apply call_gate 41; exact stp_callR hW1 (by as_aux_lemma => kernel_rfl) rfl rfl ⟨rfl, rfl, rfl, trivial⟩ trivial rfl rfl) | (apply call_gate 41; exact stp_callR hW2 (by as_aux_lemma => kernel_rfl) rfl rfl ⟨rfl, rfl, rfl, trivial⟩ trivial rfl rfl) | (apply call_gate 22; exact stp_callR hG (by as_aux_lemma => kernel_rfl) rfl rfl ⟨rfl, trivial⟩ ⟨⟨_, rfl, .inr rfl⟩, ⟨_, rfl, .inl rfl⟩, trivial⟩ rfl rfl)); apply run_step rfl; (first | (apply call_gate 42; exact stp_callR hRk (by as_aux_lemma => kernel_rfl) rfl rfl ⟨rfl, trivial⟩ ⟨⟨_, rfl, .inr rfl⟩, trivial⟩ rfl rfl) | (apply call_gate 41; exact stp_callR hW1 (by as_aux_lemma => kernel_rfl) rfl rfl ⟨rfl, rfl, rfl, trivial⟩ trivial rfl rfl) | (apply call_gate 41; exact stp_callR hW2 (by as_aux_lemma => kernel_rfl) rfl rfl ⟨rfl, rfl, rfl, trivial⟩ trivial rfl rfl) | (apply call_gate 22; exact stp_callR hG (by as_aux_lemma => kernel_rfl) rfl rfl ⟨rfl, trivial⟩ ⟨⟨_, rfl, .inr rfl⟩, ⟨_, rfl, .inl rfl⟩, trivial⟩ rfl rfl)); apply run_step rfl; (exact stp_not rfl rfl); apply run_step rfl; (exact stp_move rfl rfl); apply run_gYes rfl rfl rfl; (first | (apply call_gate 42; exact stp_callR hRk (by as_aux_lemma => kernel_rfl) rfl rfl ⟨rfl, trivial⟩ ⟨⟨_, rfl, .inr rfl⟩, trivial⟩ rfl rfl) | (apply call_gate 41; exact stp_callR hW1 (by as_aux_lemma => kernel_rfl) rfl rfl ⟨rfl, rfl, rfl, trivial⟩ trivial rfl rfl) | (apply call_gate 41; exact stp_callR hW2 (by as_aux_lemma => kernel_rfl) rfl rfl ⟨rfl, rfl, rfl, trivial⟩ trivial rfl rfl) | (apply call_gate 22; exact stp_callR hG (by as_aux_lemma => kernel_rfl) rfl rfl ⟨rfl, trivial⟩ ⟨⟨_, rfl, .inr rfl⟩, ⟨_, rfl, .inl rfl⟩, trivial⟩ rfl rfl)); apply run_gYes rfl rfl rfl; (first | (apply call_gate 42; exact stp_callR hRk (by as_aux_lemma => kernel_rfl) rfl rfl ⟨rfl, trivial⟩ ⟨⟨_, rfl, .inr rfl⟩, trivial⟩ rfl rfl) | (apply call_gate 41; exact stp_callR hW1 (by as_aux_lemma => kernel_rfl) rfl rfl ⟨rfl, rfl, rfl, trivial⟩ trivial rfl rfl) | (apply call_gate 41; exact stp_callR hW2 (by as_aux_lemma => kernel_rfl) rfl rfl ⟨rfl, rfl, rfl, trivial⟩ trivial rfl rfl) | (apply call_gate 22; exact stp_callR hG (by as_aux_lemma => kernel_rfl) rfl rfl ⟨rfl, trivial⟩ ⟨⟨_, rfl, .inr rfl⟩, ⟨_, rfl, .inl rfl⟩, trivial⟩ rfl rfl)); apply run_gYes rfl rfl rfl; (exact stp_not rfl rfl); apply run_step rfl; (exact stp_pickF rfl rfl rfl); refine run_nil ?_; refine fin_seq ?_)
  refine goes_cond rfl (fun e => by cases e) (fun _ => ?_)
  (refine goes_skip ?_; refine fin_seq ?_; refine goes_seq ?_; refine goes_seq ?_; refine goes_region ?_; apply run_step rfl; (exact stp_fieldAddr (d := 0) rfl rfl rfl (by as_aux_lemma => kernel_rfl)); apply run_step rfl; (exact stp_loadF rfl (by as_aux_lemma => kernel_rfl) rfl rfl rfl rfl); apply run_step rfl; (exact stp_len rfl rfl rfl (by as_aux_lemma => kernel_rfl)); apply run_step rfl; (exact stp_move rfl rfl); refine run_nil ?_; refine fin_seq ?_; refine goes_block ?_)
  refine goes_loop (fun i : Nat => St.of [(1, o1 (.ptr 1 0)), (21, o1 (.sl 1003 0 zss.length)), (22, vv (I6 zss.length)), (23, vv (I6 i))] [(1003, rowsRo zss), (1, mxB zss.length)]) (fun i => i ≤ zss.length ∧ Rows zss n i) (fun i => zss.length - i) 0 ⟨Nat.zero_le _, fun j hj => absurd hj (by omega)⟩ (Wk.of ⟨rfl, rfl, rfl, rfl, trivial⟩ ⟨rfl, rfl, trivial⟩ trivial) ?_
  rintro i ⟨hi, hrows⟩
  (refine goes_seq ?_; refine goes_region ?_; apply run_step rfl; (exact stp_bin rfl rfl rfl rfl); refine run_nil ?_; refine fin_seq ?_; refine goes_seq ?_)
  refine goes_if rfl (fun hlt => ?_) (fun hlt => ?_)
  · have hiz : i < zss.length := by omega
    have hrowi : (irows zss)[i]? = some (ivals (lget zss i)) := irows_get hiz
    have hP := freeI_fc zss i hiz (hl i hiz)
    obtain ⟨m, hm⟩ : ∃ m, (lget zss i).length = m := ⟨_, rfl⟩
    have hilm : (ivals (lget zss i)).length = m := by rw [ivals_len]; exact hm
    rw [hm] at hP
    have hSz := sizeE_fc 1003 i m
    cases hf : freeInv (lget zss i) with
    | false =>
      rw [hf] at hP
      (refine goes_skip ?_; refine fin_seq ?_; refine goes_seq ?_; refine goes_block ?_; refine goes_seq ?_; refine goes_region ?_; apply run_step rfl; (first | exact stp_ix (j := i) rfl rfl rfl rfl rfl (by as_aux_lemma => kernel_rfl) rfl hiz (Nat.le_of_eq hlen.symm) | exact stp_loadR rfl (by as_aux_lemma => kernel_rfl) rfl rfl rfl hrowi hilm | (apply call_gate 43; exact stp_callR hP (by as_aux_lemma => kernel_rfl) rfl rfl ⟨rfl, trivial⟩ ⟨⟨_, rfl, .inl rfl⟩, trivial⟩ rfl rfl)); apply run_step rfl; (first | exact stp_ix (j := i) rfl rfl rfl rfl rfl (by as_aux_lemma => kernel_rfl) rfl hiz (Nat.le_of_eq hlen.symm) | exact stp_loadR rfl (by as_aux_lemma => kernel_rfl) rfl rfl rfl hrowi hilm | (apply call_gate 43; exact stp_callR hP (by as_aux_lemma => kernel_rfl) rfl rfl ⟨rfl, trivial⟩ ⟨⟨_, rfl, .inl rfl⟩, trivial⟩ rfl rfl)); apply run_step rfl; (exact stp_assign rfl rfl); refine run_nil ?_; refine fin_seq ?_; refine goes_seq ?_; refine goes_region ?_; apply run_step rfl; (exact stp_move rfl rfl); apply run_step rfl; (first | exact stp_ix (j := i) rfl rfl rfl rfl rfl (by as_aux_lemma => kernel_rfl) rfl hiz (Nat.le_of_eq hlen.symm) | exact stp_loadR rfl (by as_aux_lemma => kernel_rfl) rfl rfl rfl hrowi hilm | (apply call_gate 43; exact stp_callR hP (by as_aux_lemma => kernel_rfl) rfl rfl ⟨rfl, trivial⟩ ⟨⟨_, rfl, .inl rfl⟩, trivial⟩ rfl rfl)); apply run_step rfl; (exact stp_not rfl rfl); apply run_step rfl; (exact stp_move rfl rfl); apply run_gNo rfl rfl rfl rfl rfl; apply run_gNo rfl rfl rfl rfl rfl; apply run_gNo rfl rfl rfl rfl rfl; apply run_gNo rfl rfl rfl rfl rfl; apply run_step rfl; (exact stp_pickT rfl rfl rfl); refine run_nil ?_; refine fin_seq ?_)
      refine goes_cond rfl (fun _ => ?_) (fun e => by cases e)
      rw [manB_no (fun h => by have h1 := h.perm i hiz; have h2 := h.free i hiz; unfold freeInv at hf; rw [h1, h2] at hf; cases hf)]
      (refine goes_seq ?_; refine goes_region ?_; apply run_step rfl; (exact stp_assign rfl rfl); refine run_nil ?_; refine fin_seq ?_; refine goes_ret ?_; refine fin_ret_block ?_; refine fin_ret_then ?_; refine fin_ret_then ?_; refine fin_ret_block ?_; refine fin_ret_then ?_)
      exact fin_ret1 (.inl rfl) rfl (.tmp rfl) trivial trivial
    | true =>
      rw [hf] at hP
      unfold freeInv at hf
      rw [Bool.and_eq_true] at hf
      (refine goes_skip ?_; refine fin_seq ?_; refine goes_seq ?_; refine goes_block ?_; refine goes_seq ?_; refine goes_region ?_; apply run_step rfl; (first | exact stp_ix (j := i) rfl rfl rfl rfl rfl (by as_aux_lemma => kernel_rfl) rfl hiz (Nat.le_of_eq hlen.symm) | exact stp_loadR rfl (by as_aux_lemma => kernel_rfl) rfl rfl rfl hrowi hilm | (apply call_gate 43; exact stp_callR hP (by as_aux_lemma => kernel_rfl) rfl rfl ⟨rfl, trivial⟩ ⟨⟨_, rfl, .inl rfl⟩, trivial⟩ rfl rfl) | (apply call_gate 44; exact stp_callR hSz (by as_aux_lemma => kernel_rfl) rfl rfl ⟨rfl, trivial⟩ trivial rfl rfl) | (apply call_gate 22; exact stp_callR hG (by as_aux_lemma => kernel_rfl) rfl rfl ⟨rfl, trivial⟩ ⟨⟨_, rfl, .inr rfl⟩, ⟨_, rfl, .inl rfl⟩, trivial⟩ rfl rfl)); apply run_step rfl; (first | exact stp_ix (j := i) rfl rfl rfl rfl rfl (by as_aux_lemma => kernel_rfl) rfl hiz (Nat.le_of_eq hlen.symm) | exact stp_loadR rfl (by as_aux_lemma => kernel_rfl) rfl rfl rfl hrowi hilm | (apply call_gate 43; exact stp_callR hP (by as_aux_lemma => kernel_rfl) rfl rfl ⟨rfl, trivial⟩ ⟨⟨_, rfl, .inl rfl⟩, trivial⟩ rfl rfl) | (apply call_gate 44; exact stp_callR hSz (by as_aux_lemma => kernel_rfl) rfl rfl ⟨rfl, trivial⟩ trivial rfl rfl) | (apply call_gate 22; exact stp_callR hG (by as_aux_lemma => kernel_rfl) rfl rfl ⟨rfl, trivial⟩ ⟨⟨_, rfl, .inr rfl⟩, ⟨_, rfl, .inl rfl⟩, trivial⟩ rfl rfl)); apply run_step rfl; (exact stp_assign rfl rfl); refine run_nil ?_; refine fin_seq ?_; refine goes_seq ?_; refine goes_region ?_; apply run_step rfl; (exact stp_move rfl rfl); apply run_step rfl; (first | exact stp_ix (j := i) rfl rfl rfl rfl rfl (by as_aux_lemma => kernel_rfl) rfl hiz (Nat.le_of_eq hlen.symm) | exact stp_loadR rfl (by as_aux_lemma => kernel_rfl) rfl rfl rfl hrowi hilm | (apply call_gate 43; exact stp_callR hP (by as_aux_lemma => kernel_rfl) rfl rfl ⟨rfl, trivial⟩ ⟨⟨_, rfl, .inl rfl⟩, trivial⟩ rfl rfl) | (apply call_gate 44; exact stp_callR hSz (by as_aux_lemma => kernel_rfl) rfl rfl ⟨rfl, trivial⟩ trivial rfl rfl) | (apply call_gate 22; exact stp_callR hG (by as_aux_lemma => kernel_rfl) rfl rfl ⟨rfl, trivial⟩ ⟨⟨_, rfl, .inr rfl⟩, ⟨_, rfl, .inl rfl⟩, trivial⟩ rfl rfl)); apply run_step rfl; (exact stp_not rfl rfl); apply run_step rfl; (exact stp_move rfl rfl); apply run_gYes rfl rfl rfl; (exact stp_move rfl rfl); apply run_gYes rfl rfl rfl; (first | exact stp_ix (j := i) rfl rfl rfl rfl rfl (by as_aux_lemma => kernel_rfl) rfl hiz (Nat.le_of_eq hlen.symm) | exact stp_loadR rfl (by as_aux_lemma => kernel_rfl) rfl rfl rfl hrowi hilm | (apply call_gate 43; exact stp_callR hP (by as_aux_lemma => kernel_rfl) rfl rfl ⟨rfl, trivial⟩ ⟨⟨_, rfl, .inl rfl⟩, trivial⟩ rfl rfl) | (apply call_gate 44; exact stp_callR hSz (by as_aux_lemma => kernel_rfl) rfl rfl ⟨rfl, trivial⟩ trivial rfl rfl) | (apply call_gate 22; exact stp_callR hG (by as_aux_lemma => kernel_rfl) rfl rfl ⟨rfl, trivial⟩ ⟨⟨_, rfl, .inr rfl⟩, ⟨_, rfl, .inl rfl⟩, trivial⟩ rfl rfl)); apply run_gYes rfl rfl rfl; (first | exact stp_ix (j := i) rfl rfl rfl rfl rfl (by as_aux_lemma => kernel_rfl) rfl hiz (Nat.le_of_eq hlen.symm) | exact stp_loadR rfl (by as_aux_lemma => kernel_rfl) rfl rfl rfl hrowi hilm | (apply call_gate 43; exact stp_callR hP (by as_aux_lemma => kernel_rfl) rfl rfl ⟨rfl, trivial⟩ ⟨⟨_, rfl, .inl rfl⟩, trivial⟩ rfl rfl) | (apply call_gate 44; exact stp_callR hSz (by as_aux_lemma => kernel_rfl) rfl rfl ⟨rfl, trivial⟩ trivial rfl rfl) | (apply call_gate 22; exact stp_callR hG (by as_aux_lemma => kernel_rfl) rfl rfl ⟨rfl, trivial⟩ ⟨⟨_, rfl, .inr rfl⟩, ⟨_, rfl, .inl rfl⟩, trivial⟩ rfl rfl)); apply run_gYes rfl rfl rfl; (exact stp_bin rfl rfl rfl rfl); apply run_step rfl; (exact stp_pickF rfl rfl rfl); refine run_nil ?_; refine fin_seq ?_)
      refine goes_cond rfl (fun e1 => ?_) (fun e1 => ?_)
      · have e1 : (m : Int) ≠ n := by simpa using e1
        rw [manB_no (fun h => by have := h.len i hiz; omega)]
        (refine goes_seq ?_; refine goes_region ?_; apply run_step rfl; (exact stp_assign rfl rfl); refine run_nil ?_; refine fin_seq ?_; refine goes_ret ?_; refine fin_ret_block ?_; refine fin_ret_then ?_; refine fin_ret_then ?_; refine fin_ret_block ?_; refine fin_ret_then ?_)
        exact fin_ret1 (.inl rfl) rfl (.tmp rfl) trivial trivial
      · have e1 : (m : Int) = n := by simpa using e1
        (refine goes_skip ?_; refine fin_block ?_; refine fin_seq ?_; refine goes_region ?_; apply run_step rfl; (exact stp_add rfl rfl rfl (by first | exact IntWalk.i64_in _ (by omega) | rfl)); apply run_step rfl; (exact stp_move rfl rfl); refine run_nil ?_)
        exact fin_round (i + 1) ⟨hiz, fun j hj => by
          by_cases e : j = i
          · subst e; exact ⟨by omega, hf.1, hf.2⟩
          · exact hrows j (by omega)⟩ (by omega) (Wk.of ⟨rfl, rfl, rfl, rfl, trivial⟩ ⟨rfl, rfl, trivial⟩ trivial)
  obtain rfl : i = zss.length := by omega
  have hrn : Rows zss n zss.length := hrows
  have hT := rows_leads hrn
  have hB := rows_back hrn
  (refine goes_exit ?_; refine fin_exit_then ?_; refine fin_exit_then ?_; refine fin_exit_eq ?_; refine fin_seq ?_; refine goes_seq ?_; refine goes_seq ?_; refine goes_region ?_; apply run_step rfl; (exact stp_fieldAddr (d := 0) rfl rfl rfl (by as_aux_lemma => kernel_rfl)); apply run_step rfl; (exact stp_loadF rfl (by as_aux_lemma => kernel_rfl) rfl rfl rfl rfl); apply run_step rfl; (exact stp_len rfl rfl rfl (by as_aux_lemma => kernel_rfl)); apply run_step rfl; (exact stp_move rfl rfl); refine run_nil ?_; refine fin_seq ?_; refine goes_block ?_)
  refine goes_loop (fun i : Nat => St.of [(1, o1 (.ptr 1 0)), (38, o1 (.sl 1003 0 zss.length)), (39, vv (I6 zss.length)), (40, vv (I6 i))] [(1003, rowsRo zss), (1, mxB zss.length)]) (fun i => i ≤ zss.length ∧ ∀ i' k, i' < i → i' + 2 ≤ k → k < zss.length → ∀ f, f < n → commAt zss i' k f) (fun i => zss.length - i) 0 ⟨Nat.zero_le _, fun j k hj => absurd hj (by omega)⟩ (Wk.of ⟨rfl, rfl, rfl, rfl, trivial⟩ ⟨rfl, rfl, trivial⟩ trivial) ?_
  clear hi hrows hlt
  rintro i ⟨hi, hci⟩
  (refine goes_seq ?_; refine goes_region ?_; apply run_step rfl; (exact stp_bin rfl rfl rfl rfl); refine run_nil ?_; refine fin_seq ?_; refine goes_seq ?_)
  refine goes_if rfl (fun hlt => ?_) (fun hlt => ?_)
  · have hiz : i < zss.length := by omega
    have hrowi : (irows zss)[i]? = some (ivals (lget zss i)) := irows_get hiz
    have hilm : (ivals (lget zss i)).length = n := by rw [ivals_len]; exact (hrn i hiz).1
    obtain ⟨mm, hmm⟩ : ∃ mm, min (i + 2) zss.length = mm := ⟨_, rfl⟩
    have hmR : mm ≤ zss.length := by omega
    have hi2 : IntKind.i64.wrap ((i : Int) + 2) = ((i + 2 : Nat) : Int) := IntWalk.i64_in _ (by omega)
    (refine goes_skip ?_; refine fin_seq ?_; refine goes_seq ?_; refine goes_block ?_; refine goes_seq ?_; refine goes_region ?_; apply run_step rfl; (exact stp_move rfl rfl); apply run_step rfl; (first | exact stp_ix (j := i) rfl rfl rfl rfl rfl (by as_aux_lemma => kernel_rfl) rfl hiz (Nat.le_of_eq hlen.symm) | exact stp_loadR rfl (by as_aux_lemma => kernel_rfl) rfl rfl rfl hrowi hilm | exact stp_add rfl rfl rfl hi2 | exact stp_minN rfl rfl rfl | exact stp_slice (k := 1) (l := min (i + 2) zss.length) (h := zss.length) rfl rfl rfl rfl (by as_aux_lemma => kernel_rfl) (by omega) (bnd_some rfl rfl) bnd_none (by omega) (Nat.le_refl _) (by rw [Nat.mul_one, Nat.zero_add]; exact Nat.le_of_eq hlen.symm)); apply run_step rfl; (first | exact stp_ix (j := i) rfl rfl rfl rfl rfl (by as_aux_lemma => kernel_rfl) rfl hiz (Nat.le_of_eq hlen.symm) | exact stp_loadR rfl (by as_aux_lemma => kernel_rfl) rfl rfl rfl hrowi hilm | exact stp_add rfl rfl rfl hi2 | exact stp_minN rfl rfl rfl | exact stp_slice (k := 1) (l := min (i + 2) zss.length) (h := zss.length) rfl rfl rfl rfl (by as_aux_lemma => kernel_rfl) (by omega) (bnd_some rfl rfl) bnd_none (by omega) (Nat.le_refl _) (by rw [Nat.mul_one, Nat.zero_add]; exact Nat.le_of_eq hlen.symm)); apply run_step rfl; (exact stp_assign rfl rfl); apply run_step rfl; (exact stp_assign rfl rfl); refine run_nil ?_; refine fin_seq ?_; refine goes_seq ?_; refine goes_region ?_; apply run_step rfl; (exact stp_fieldAddr (d := 0) rfl rfl rfl (by as_aux_lemma => kernel_rfl)); apply run_step rfl; (exact stp_loadF rfl (by as_aux_lemma => kernel_rfl) rfl rfl rfl rfl); apply run_step rfl; (exact stp_move rfl rfl); apply run_step rfl; (first | exact stp_ix (j := i) rfl rfl rfl rfl rfl (by as_aux_lemma => kernel_rfl) rfl hiz (Nat.le_of_eq hlen.symm) | exact stp_loadR rfl (by as_aux_lemma => kernel_rfl) rfl rfl rfl hrowi hilm | exact stp_add rfl rfl rfl hi2 | exact stp_minN rfl rfl rfl | exact stp_slice (k := 1) (l := min (i + 2) zss.length) (h := zss.length) rfl rfl rfl rfl (by as_aux_lemma => kernel_rfl) (by omega) (bnd_some rfl rfl) bnd_none (by omega) (Nat.le_refl _) (by rw [Nat.mul_one, Nat.zero_add]; exact Nat.le_of_eq hlen.symm)); apply run_step rfl; (exact stp_fieldAddr (d := 0) rfl rfl rfl (by as_aux_lemma => kernel_rfl)); apply run_step rfl; (exact stp_loadF rfl (by as_aux_lemma => kernel_rfl) rfl rfl rfl rfl); apply run_step rfl; (exact stp_len rfl rfl rfl (by as_aux_lemma => kernel_rfl)); apply run_step rfl; (first | exact stp_ix (j := i) rfl rfl rfl rfl rfl (by as_aux_lemma => kernel_rfl) rfl hiz (Nat.le_of_eq hlen.symm) | exact stp_loadR rfl (by as_aux_lemma => kernel_rfl) rfl rfl rfl hrowi hilm | exact stp_add rfl rfl rfl hi2 | exact stp_minN rfl rfl rfl | exact stp_slice (k := 1) (l := min (i + 2) zss.length) (h := zss.length) rfl rfl rfl rfl (by as_aux_lemma => kernel_rfl) (by omega) (bnd_some rfl rfl) bnd_none (by omega) (Nat.le_refl _) (by rw [Nat.mul_one, Nat.zero_add]; exact Nat.le_of_eq hlen.symm)); apply run_step rfl; (first | exact stp_ix (j := i) rfl rfl rfl rfl rfl (by as_aux_lemma => kernel_rfl) rfl hiz (Nat.le_of_eq hlen.symm) | exact stp_loadR rfl (by as_aux_lemma => kernel_rfl) rfl rfl rfl hrowi hilm | exact stp_add rfl rfl rfl hi2 | exact stp_minN rfl rfl rfl | exact stp_slice (k := 1) (l := min (i + 2) zss.length) (h := zss.length) rfl rfl rfl rfl (by as_aux_lemma => kernel_rfl) (by omega) (bnd_some rfl rfl) bnd_none (by omega) (Nat.le_refl _) (by rw [Nat.mul_one, Nat.zero_add]; exact Nat.le_of_eq hlen.symm)); apply run_step rfl; (exact stp_len rfl rfl rfl (by as_aux_lemma => kernel_rfl)); apply run_step rfl; (exact stp_move rfl rfl); refine run_nil ?_; refine fin_seq ?_; refine goes_block ?_)
    rw [hmm]
    refine goes_loop (fun j : Nat => St.of [(1, o1 (.ptr 1 0)), (6, o1 (.esl 1003 i 0 n)), (38, o1 (.sl 1003 0 zss.length)), (39, vv (I6 zss.length)), (40, vv (I6 i)), (53, o1 (.sl 1003 mm (zss.length - mm))), (54, vv (I6 (zss.length - mm : Nat))), (55, vv (I6 j))] [(1003, rowsRo zss), (1, mxB zss.length)]) (fun j => j ≤ zss.length - mm ∧ ∀ k', i + 2 ≤ k' → k' < mm + j → ∀ f, f < n → commAt zss i k' f) (fun j => zss.length - mm - j) 0 ⟨Nat.zero_le _, fun k' h1 h2 => absurd h1 (by omega)⟩ (Wk.of ⟨rfl, rfl, rfl, rfl, rfl, congrArg (fun z => some (o1 (.sl 1003 z (zss.length - mm)))) (Nat.zero_add mm), rfl, rfl, trivial⟩ ⟨rfl, rfl, trivial⟩ trivial) ?_
    rintro j ⟨hj, hck⟩
    (refine goes_seq ?_; refine goes_region ?_; apply run_step rfl; (exact stp_bin rfl rfl rfl rfl); refine run_nil ?_; refine fin_seq ?_; refine goes_seq ?_)
    refine goes_if rfl (fun hlj => ?_) (fun hlj => ?_)
    · obtain ⟨k, hk⟩ : ∃ k, mm + j = k := ⟨_, rfl⟩
      have hkz : k < zss.length := by omega
      have hki : i + 2 ≤ k := by omega
      have hjl : j < zss.length - mm := by omega
      have hml : mm + (zss.length - mm) ≤ (irows zss).length := by rw [hlen]; omega
      have hrowk : (irows zss)[k]? = some (ivals (lget zss k)) := irows_get hkz
      have hilk : (ivals (lget zss k)).length = n := by rw [ivals_len]; exact (hrn k hkz).1
      (refine goes_skip ?_; refine fin_seq ?_; refine goes_seq ?_; refine goes_block ?_; refine goes_seq ?_; refine goes_region ?_; apply run_step rfl; (first | exact stp_ixK (j := j) rfl rfl rfl rfl rfl (by as_aux_lemma => kernel_rfl) rfl hjl hml hk | exact stp_loadR rfl (by as_aux_lemma => kernel_rfl) rfl rfl rfl hrowk hilk | (apply call_gate 22; exact stp_callR hG (by as_aux_lemma => kernel_rfl) rfl rfl ⟨rfl, trivial⟩ ⟨⟨_, rfl, .inr rfl⟩, ⟨_, rfl, .inl rfl⟩, trivial⟩ rfl rfl)); apply run_step rfl; (first | exact stp_ixK (j := j) rfl rfl rfl rfl rfl (by as_aux_lemma => kernel_rfl) rfl hjl hml hk | exact stp_loadR rfl (by as_aux_lemma => kernel_rfl) rfl rfl rfl hrowk hilk | (apply call_gate 22; exact stp_callR hG (by as_aux_lemma => kernel_rfl) rfl rfl ⟨rfl, trivial⟩ ⟨⟨_, rfl, .inr rfl⟩, ⟨_, rfl, .inl rfl⟩, trivial⟩ rfl rfl)); apply run_step rfl; (exact stp_assign rfl rfl); refine run_nil ?_; refine fin_seq ?_; refine goes_seq ?_; refine goes_region ?_; apply run_step rfl; (first | exact stp_ixK (j := j) rfl rfl rfl rfl rfl (by as_aux_lemma => kernel_rfl) rfl hjl hml hk | exact stp_loadR rfl (by as_aux_lemma => kernel_rfl) rfl rfl rfl hrowk hilk | (apply call_gate 22; exact stp_callR hG (by as_aux_lemma => kernel_rfl) rfl rfl ⟨rfl, trivial⟩ ⟨⟨_, rfl, .inr rfl⟩, ⟨_, rfl, .inl rfl⟩, trivial⟩ rfl rfl)); apply run_step rfl; (exact stp_move rfl rfl); refine run_nil ?_; refine fin_seq ?_; refine goes_block ?_)
      refine goes_loop (fun f : Nat => St.of [(1, o1 (.ptr 1 0)), (6, o1 (.esl 1003 i 0 n)), (8, o1 (.esl 1003 k 0 n)), (38, o1 (.sl 1003 0 zss.length)), (39, vv (I6 zss.length)), (40, vv (I6 i)), (53, o1 (.sl 1003 mm (zss.length - mm))), (54, vv (I6 (zss.length - mm : Nat))), (55, vv (I6 j)), (59, vv (I6 n)), (60, vv (I6 f))] [(1003, rowsRo zss), (1, mxB zss.length)]) (fun f => f ≤ n ∧ ∀ f', f' < f → commAt zss i k f') (fun f => n - f) 0 ⟨Nat.zero_le _, fun f' h1 => absurd h1 (by omega)⟩ (Wk.of ⟨rfl, rfl, rfl, rfl, rfl, rfl, rfl, rfl, rfl, rfl, rfl, trivial⟩ ⟨rfl, rfl, trivial⟩ trivial) ?_
      rintro f ⟨hf, hcf⟩
      (refine goes_seq ?_; refine goes_region ?_; apply run_step rfl; (exact stp_bin rfl rfl rfl rfl); refine run_nil ?_; refine fin_seq ?_; refine goes_seq ?_)
      refine goes_if rfl (fun hlf => ?_) (fun hlf => ?_)
      · have hfn : f < n := by omega
        have hd1 := bTo_lt hT hfn (g := i) hiz
        have hd2 := bTo_lt hT hfn (g := k) hkz
        have hx1 := bTo_lt hT hd1.1 (g := k) hkz
        have hx2 := bTo_lt hT hd2.1 (g := i) hiz
        have hcm : commAt zss i k f ↔ bTo zss (bTo zss f i) k = bTo zss (bTo zss f k) i ∧ bTo zss f i ≠ bTo zss f k := Iff.rfl
        generalize bTo zss (bTo zss f i) k = x1 at *
        generalize bTo zss (bTo zss f k) i = x2 at *
        generalize bTo zss f i = d1 at *
        generalize bTo zss f k = d2 at *
        have g1 : (ivals (lget zss i))[f]? = some (I6 (d1 : Int)) := by rw [ivals_get (by rw [(hrn i hiz).1]; exact hfn), hd1.2]
        have g2 : (ivals (lget zss k))[f]? = some (I6 (d2 : Int)) := by rw [ivals_get (by rw [(hrn k hkz).1]; exact hfn), hd2.2]
        have g3 : (ivals (lget zss k))[d1]? = some (I6 (x1 : Int)) := by rw [ivals_get (by rw [(hrn k hkz).1]; exact hd1.1), hx1.2]
        have g4 : (ivals (lget zss i))[d2]? = some (I6 (x2 : Int)) := by rw [ivals_get (by rw [(hrn i hiz).1]; exact hd2.1), hx2.2]
        have hni : n ≤ (ivals (lget zss i)).length := Nat.le_of_eq hilm.symm
        have hnk : n ≤ (ivals (lget zss k)).length := Nat.le_of_eq hilk.symm
        (refine goes_skip ?_; refine fin_seq ?_; refine goes_seq ?_; refine goes_block ?_; refine goes_seq ?_; refine goes_region ?_; apply run_step rfl; (exact stp_move rfl rfl); apply run_step rfl; (exact stp_assign rfl rfl); refine run_nil ?_; refine fin_seq ?_; refine goes_seq ?_)
        by_cases e1 : (d1 : Int) = d2
        · apply goes_drawG 26 [] [[], [], [0, 1], [0, 1, 2], [], [], [4, 5], [4, 5, 6], [0, 1, 2, 3, 4, 5, 6, 7], [0, 1, 2, 3, 4, 5, 6, 7, 8], [0, 1, 2, 3, 4, 5, 6, 7, 8, 9], [0, 1, 2, 3, 4, 5, 6, 7, 8, 9], [0, 1, 2, 3, 4, 5, 6, 7, 8, 9], [0, 1, 2, 3, 4, 5, 6, 7, 8, 9, 11, 12], [0, 1, 2, 3, 4, 5, 6, 7, 8, 9, 11, 12, 13], [0, 1, 2, 3, 4, 5, 6, 7, 8, 9, 10, 11, 12, 13, 14], [0, 1, 2, 3, 4, 5, 6, 7, 8, 9, 10, 11, 12, 13, 14, 15], [0, 1, 2, 3, 4, 5, 6, 7, 8, 9], [0, 1, 2, 3, 4, 5, 6, 7, 8, 9], [0, 1, 2, 3, 4, 5, 6, 7, 8, 9], [0, 1, 2, 3, 4, 5, 6, 7, 8, 9, 18, 19], [0, 1, 2, 3, 4, 5, 6, 7, 8, 9, 18, 19, 20], [0, 1, 2, 3, 4, 5, 6, 7, 8, 9, 17, 18, 19, 20, 21], [0, 1, 2, 3, 4, 5, 6, 7, 8, 9, 17, 18, 19, 20, 21, 22], [0, 1, 2, 3, 4, 5, 6, 7, 8, 9, 10, 11, 12, 13, 14, 15, 16, 17, 18, 19, 20, 21, 22, 23], [0, 1, 2, 3, 4, 5, 6, 7, 8, 9, 10, 11, 12, 13, 14, 15, 16, 17, 18, 19, 20, 21, 22, 23, 24]] [63, 64, 65, 66, 67, 68, 69, 70, 71, 72, 73, 74, 75, 76, 77, 78, 79, 80, 81, 82, 83, 84, 85, 86, 87, 88] [] (by kernel_rfl) (by kernel_rfl)
          · (apply drawG_put rfl; (intro S1 hS; exact stp_move rfl (hS.op rfl)))
            (apply drawG_put rfl; (intro S1 hS; exact stp_move rfl (hS.op rfl)))
            (apply drawG_put rfl; (intro S1 hS; exact stp_ixE (j := f) rfl (hS.op rfl) (hS.op rfl) (hS.ch _ _ rfl) rfl (by as_aux_lemma => kernel_rfl) hrowi rfl hfn hni))
            (apply drawG_put rfl; (intro S1 hS; exact stp_loadE' rfl (by as_aux_lemma => kernel_rfl) (hS.op rfl) (hS.ch _ _ rfl) rfl hrowi g1))
            (apply drawG_put rfl; (intro S1 hS; exact stp_move rfl (hS.op rfl)))
            (apply drawG_put rfl; (intro S1 hS; exact stp_move rfl (hS.op rfl)))
            (apply drawG_put rfl; (intro S1 hS; exact stp_ixE (j := f) rfl (hS.op rfl) (hS.op rfl) (hS.ch _ _ rfl) rfl (by as_aux_lemma => kernel_rfl) hrowk rfl hfn hnk))
            (apply drawG_put rfl; (intro S1 hS; exact stp_loadE' rfl (by as_aux_lemma => kernel_rfl) (hS.op rfl) (hS.ch _ _ rfl) rfl hrowk g2))
            (apply drawG_put rfl; (intro S1 hS; exact stp_bin rfl (hS.op rfl) (hS.op rfl) (binEql e1)))
            (apply drawG_put rfl; (intro S1 hS; exact stp_move rfl (hS.op rfl)))
            apply drawG_no rfl rfl rfl rfl rfl
            apply drawG_no rfl rfl rfl rfl rfl
            apply drawG_no rfl rfl rfl rfl rfl
            apply drawG_no rfl rfl rfl rfl rfl
            apply drawG_no rfl rfl rfl rfl rfl
            apply drawG_no rfl rfl rfl rfl rfl
            apply drawG_no rfl rfl rfl rfl rfl
            apply drawG_no rfl rfl rfl rfl rfl
            apply drawG_no rfl rfl rfl rfl rfl
            apply drawG_no rfl rfl rfl rfl rfl
            apply drawG_no rfl rfl rfl rfl rfl
            apply drawG_no rfl rfl rfl rfl rfl
            apply drawG_no rfl rfl rfl rfl rfl
            apply drawG_no rfl rfl rfl rfl rfl
            apply drawG_no rfl rfl rfl rfl rfl
            (apply drawG_put rfl; (intro S1 hS; exact stp_pickT rfl (hS.op rfl) (hS.op rfl)))
            exact DrawG.nil
          · rfl
          ((refine rest_done (by as_aux_lemma => kernel_rfl) ?_; skip))
          (refine fin_seq ?_)
          refine goes_cond rfl (fun _ => ?_) (fun e => by cases e)
          rw [manB_no (fun h => by have := (hcm.1 (h.comm i k hki hkz f (by omega))).2; omega)]
          (refine goes_seq ?_; refine goes_region ?_; apply run_step rfl; (exact stp_assign rfl rfl); refine run_nil ?_; refine fin_seq ?_; refine goes_ret ?_; refine fin_ret_block ?_; refine fin_ret_then ?_; refine fin_ret_then ?_; refine fin_ret_block ?_; refine fin_ret_block ?_; refine fin_ret_then ?_; refine fin_ret_then ?_; refine fin_ret_block ?_; refine fin_ret_block ?_; refine fin_ret_then ?_; refine fin_ret_then ?_; refine fin_ret_block ?_; refine fin_ret_then ?_)
          exact fin_ret1 (.inl rfl) rfl (.tmp rfl) trivial trivial
        · apply goes_drawG 26 [] [[], [], [0, 1], [0, 1, 2], [], [], [4, 5], [4, 5, 6], [0, 1, 2, 3, 4, 5, 6, 7], [0, 1, 2, 3, 4, 5, 6, 7, 8], [0, 1, 2, 3, 4, 5, 6, 7, 8, 9], [0, 1, 2, 3, 4, 5, 6, 7, 8, 9], [0, 1, 2, 3, 4, 5, 6, 7, 8, 9], [0, 1, 2, 3, 4, 5, 6, 7, 8, 9, 11, 12], [0, 1, 2, 3, 4, 5, 6, 7, 8, 9, 11, 12, 13], [0, 1, 2, 3, 4, 5, 6, 7, 8, 9, 10, 11, 12, 13, 14], [0, 1, 2, 3, 4, 5, 6, 7, 8, 9, 10, 11, 12, 13, 14, 15], [0, 1, 2, 3, 4, 5, 6, 7, 8, 9], [0, 1, 2, 3, 4, 5, 6, 7, 8, 9], [0, 1, 2, 3, 4, 5, 6, 7, 8, 9], [0, 1, 2, 3, 4, 5, 6, 7, 8, 9, 18, 19], [0, 1, 2, 3, 4, 5, 6, 7, 8, 9, 18, 19, 20], [0, 1, 2, 3, 4, 5, 6, 7, 8, 9, 17, 18, 19, 20, 21], [0, 1, 2, 3, 4, 5, 6, 7, 8, 9, 17, 18, 19, 20, 21, 22], [0, 1, 2, 3, 4, 5, 6, 7, 8, 9, 10, 11, 12, 13, 14, 15, 16, 17, 18, 19, 20, 21, 22, 23], [0, 1, 2, 3, 4, 5, 6, 7, 8, 9, 10, 11, 12, 13, 14, 15, 16, 17, 18, 19, 20, 21, 22, 23, 24]] [63, 64, 65, 66, 67, 68, 69, 70, 71, 72, 73, 74, 75, 76, 77, 78, 79, 80, 81, 82, 83, 84, 85, 86, 87, 88] [] (by kernel_rfl) (by kernel_rfl)
          · (apply drawG_put rfl; (intro S1 hS; exact stp_move rfl (hS.op rfl)))
            (apply drawG_put rfl; (intro S1 hS; exact stp_move rfl (hS.op rfl)))
            (apply drawG_put rfl; (intro S1 hS; exact stp_ixE (j := f) rfl (hS.op rfl) (hS.op rfl) (hS.ch _ _ rfl) rfl (by as_aux_lemma => kernel_rfl) hrowi rfl hfn hni))
            (apply drawG_put rfl; (intro S1 hS; exact stp_loadE' rfl (by as_aux_lemma => kernel_rfl) (hS.op rfl) (hS.ch _ _ rfl) rfl hrowi g1))
            (apply drawG_put rfl; (intro S1 hS; exact stp_move rfl (hS.op rfl)))
            (apply drawG_put rfl; (intro S1 hS; exact stp_move rfl (hS.op rfl)))
            (apply drawG_put rfl; (intro S1 hS; exact stp_ixE (j := f) rfl (hS.op rfl) (hS.op rfl) (hS.ch _ _ rfl) rfl (by as_aux_lemma => kernel_rfl) hrowk rfl hfn hnk))
            (apply drawG_put rfl; (intro S1 hS; exact stp_loadE' rfl (by as_aux_lemma => kernel_rfl) (hS.op rfl) (hS.ch _ _ rfl) rfl hrowk g2))
            (apply drawG_put rfl; (intro S1 hS; exact stp_bin rfl (hS.op rfl) (hS.op rfl) (binEql' e1)))
            (apply drawG_put rfl; (intro S1 hS; exact stp_move rfl (hS.op rfl)))
            (apply drawG_yes rfl rfl rfl; (intro S1 hS; exact stp_move rfl (hS.op rfl)))
            (apply drawG_yes rfl rfl rfl; (intro S1 hS; exact stp_move rfl (hS.op rfl)))
            (apply drawG_yes rfl rfl rfl; (intro S1 hS; exact stp_move rfl (hS.op rfl)))
            (apply drawG_yes rfl rfl rfl; (intro S1 hS; exact stp_ixE (j := f) rfl (hS.op rfl) (hS.op rfl) (hS.ch _ _ rfl) rfl (by as_aux_lemma => kernel_rfl) hrowi rfl hfn hni))
            (apply drawG_yes rfl rfl rfl; (intro S1 hS; exact stp_loadE' rfl (by as_aux_lemma => kernel_rfl) (hS.op rfl) (hS.ch _ _ rfl) rfl hrowi g1))
            (apply drawG_yes rfl rfl rfl; (intro S1 hS; exact stp_ixE (j := d1) rfl (hS.op rfl) (hS.op rfl) (hS.ch _ _ rfl) rfl (by as_aux_lemma => kernel_rfl) hrowk rfl hd1.1 hnk))
            (apply drawG_yes rfl rfl rfl; (intro S1 hS; exact stp_loadE' rfl (by as_aux_lemma => kernel_rfl) (hS.op rfl) (hS.ch _ _ rfl) rfl hrowk g3))
            (apply drawG_yes rfl rfl rfl; (intro S1 hS; exact stp_move rfl (hS.op rfl)))
            (apply drawG_yes rfl rfl rfl; (intro S1 hS; exact stp_move rfl (hS.op rfl)))
            (apply drawG_yes rfl rfl rfl; (intro S1 hS; exact stp_move rfl (hS.op rfl)))
            (apply drawG_yes rfl rfl rfl; (intro S1 hS; exact stp_ixE (j := f) rfl (hS.op rfl) (hS.op rfl) (hS.ch _ _ rfl) rfl (by as_aux_lemma => kernel_rfl) hrowk rfl hfn hnk))
            (apply drawG_yes rfl rfl rfl; (intro S1 hS; exact stp_loadE' rfl (by as_aux_lemma => kernel_rfl) (hS.op rfl) (hS.ch _ _ rfl) rfl hrowk g2))
            (apply drawG_yes rfl rfl rfl; (intro S1 hS; exact stp_ixE (j := d2) rfl (hS.op rfl) (hS.op rfl) (hS.ch _ _ rfl) rfl (by as_aux_lemma => kernel_rfl) hrowi rfl hd2.1 hni))
            (apply drawG_yes rfl rfl rfl; (intro S1 hS; exact stp_loadE' rfl (by as_aux_lemma => kernel_rfl) (hS.op rfl) (hS.ch _ _ rfl) rfl hrowi g4))
            (apply drawG_yes rfl rfl rfl; (intro S1 hS; exact stp_bin rfl (hS.op rfl) (hS.op rfl) rfl))
            (apply drawG_put rfl; (intro S1 hS; exact stp_pickF rfl (hS.op rfl) (hS.op rfl)))
            exact DrawG.nil
          · rfl
          ((refine rest_done (by as_aux_lemma => kernel_rfl) ?_; skip))
          (refine fin_seq ?_)
          refine goes_cond rfl (fun e2 => ?_) (fun e2 => ?_)
          · have e2 : (x1 : Int) ≠ x2 := by simpa using e2
            rw [manB_no (fun h => by have := (hcm.1 (h.comm i k hki hkz f (by omega))).1; omega)]
            (refine goes_seq ?_; refine goes_region ?_; apply run_step rfl; (exact stp_assign rfl rfl); refine run_nil ?_; refine fin_seq ?_; refine goes_ret ?_; refine fin_ret_block ?_; refine fin_ret_then ?_; refine fin_ret_then ?_; refine fin_ret_block ?_; refine fin_ret_block ?_; refine fin_ret_then ?_; refine fin_ret_then ?_; refine fin_ret_block ?_; refine fin_ret_block ?_; refine fin_ret_then ?_; refine fin_ret_then ?_; refine fin_ret_block ?_; refine fin_ret_then ?_)
            exact fin_ret1 (.inl rfl) rfl (.tmp rfl) trivial trivial
          · have e2 : (x1 : Int) = x2 := by simpa using e2
            (refine goes_skip ?_; refine fin_block ?_; refine fin_seq ?_; refine goes_region ?_; apply run_step rfl; (exact stp_add rfl rfl rfl (by first | exact IntWalk.i64_in _ (by omega) | rfl)); apply run_step rfl; (exact stp_move rfl rfl); refine run_nil ?_)
            exact fin_round (f + 1) ⟨hfn, fun f' hf' => by
              by_cases e : f' = f
              · subst e; exact hcm.2 ⟨by omega, by omega⟩
              · exact hcf f' (by omega)⟩ (by omega) (Wk.of ⟨rfl, rfl, rfl, rfl, rfl, rfl, rfl, rfl, rfl, rfl, rfl, trivial⟩ ⟨rfl, rfl, trivial⟩ trivial)
      · (refine goes_exit ?_; refine fin_exit_then ?_; refine fin_exit_then ?_; refine fin_exit_eq ?_; refine fin_block ?_; refine fin_seq ?_; refine goes_region ?_; apply run_step rfl; (exact stp_add rfl rfl rfl (by first | exact IntWalk.i64_in _ (by omega) | rfl)); apply run_step rfl; (exact stp_move rfl rfl); refine run_nil ?_)
        exact fin_round (j + 1) ⟨by omega, fun k' h1 h2 f' hf' => by
          by_cases e : k' = k
          · subst e; exact hcf f' (by omega)
          · exact hck k' h1 (by omega) f' hf'⟩ (by omega) (Wk.of ⟨rfl, rfl, rfl, rfl, rfl, rfl, rfl, rfl, trivial⟩ ⟨rfl, rfl, trivial⟩ trivial)
    · (refine goes_exit ?_; refine fin_exit_then ?_; refine fin_exit_then ?_; refine fin_exit_eq ?_; refine fin_block ?_; refine fin_seq ?_; refine goes_region ?_; apply run_step rfl; (exact stp_add rfl rfl rfl (by first | exact IntWalk.i64_in _ (by omega) | rfl)); apply run_step rfl; (exact stp_move rfl rfl); refine run_nil ?_)
      exact fin_round (i + 1) ⟨hiz, fun i' k' h1 h2 h3 => by
        by_cases e : i' = i
        · subst e; exact hck k' h2 (by omega)
        · exact hci i' k' (by omega) h2 h3⟩ (by omega) (Wk.of ⟨rfl, rfl, rfl, rfl, trivial⟩ ⟨rfl, rfl, trivial⟩ trivial)
  obtain rfl : i = zss.length := by omega
  have hM : Man0 zss := ⟨by omega, by omega, by omega, by omega, by rw [hn]; exact hrn, fun i k h1 h2 f hf => hci i k (by omega) h1 h2 f (by omega)⟩
  have hO := (orbI_fc zss n zss.length rfl hT hB (by omega) (by omega) (by omega)).nm [(1003, 1003), (16, 96)] (by kernel_rfl)
  have hO : FC Tryz.prog 45 [(1003, rowsRo zss)] [vv (I6 n), o1 (.sl 1003 0 zss.length)] [(96, leOw (labs zss n).1)] (.tup [.one (.sl 96 0 n), .one (.val (I6 (labs zss n).2))]) [] := hO
  have hv : manB zss = (((labs zss n).2 : Int) == 1) := by
    rw [hM.man, hn]
    have := labs_one hT hB (n := n) (by omega)
    by_cases hc : (orb zss n 0).2.length = n
    · rw [hc, this.2 hc]; simp
    · have h1 : (labs zss n).2 ≠ 1 := fun h => hc (this.1 h)
      have h2 : ((labs zss n).2 : Int) ≠ 1 := by omega
      have h3 : ((orb zss n 0).2.length : Int) ≠ n := by omega
      rw [beq_eq_false_iff_ne.2 h2, beq_eq_false_iff_ne.2 h3]
  rw [hv]
  (refine goes_exit ?_; refine fin_exit_then ?_; refine fin_exit_then ?_; refine fin_exit_eq ?_; refine fin_seq ?_; refine goes_seq ?_)
  apply goes_draw 5 [] [[], [], [1], [0, 1, 2], [0, 1, 2, 3], [0, 1, 2, 3, 4], [0, 1, 2, 3, 4], [0, 1, 2, 3, 4, 5], [0, 1, 2, 3, 4, 5, 6, 7]] [93, 94, 95, 96, 92] [96] (by kernel_rfl) (by kernel_rfl)
  · (apply draw_put rfl; (intro S1 hS; apply call_gate 22; exact stp_callR hG (by as_aux_lemma => kernel_rfl) rfl (opL_le hS rfl) ⟨rfl, trivial⟩ (allIn_le hS ⟨⟨_, rfl, .inr rfl⟩, ⟨_, rfl, .inl rfl⟩, trivial⟩) rfl rfl))
    (apply draw_put rfl; (intro S1 hS; exact stp_fieldAddr (d := 0) rfl (hS.op rfl) (hS.ch _ _ rfl) (by as_aux_lemma => kernel_rfl)))
    (apply draw_put rfl; (intro S1 hS; exact stp_loadF rfl (by as_aux_lemma => kernel_rfl) (hS.op rfl) (hS.ch _ _ rfl) rfl rfl))
    (apply draw_new rfl; (intro S1 hS; apply call_gate 45; exact stp_callN hO (by as_aux_lemma => kernel_rfl) rfl (opL_le hS rfl) ⟨rfl, rfl, trivial⟩ (allIn_le hS ⟨⟨_, rfl, .inl rfl⟩, trivial⟩) rfl rfl rfl))
    (apply draw_put rfl; (intro S1 hS; exact stp_move rfl (hS.op rfl)))
    exact Draw.nil
  · rfl
  refine rest_join (St.of [(11, vv (I6 (labs zss n).2))] []) ?_ ?_
  · ((apply rest_two 5 6 rfl (by as_aux_lemma => kernel_rfl) rfl rfl rfl rfl; (exact stp_extract rfl rfl rfl); (exact stp_extract rfl rfl rfl); (focus ((apply rest_two 6 7 rfl (by as_aux_lemma => kernel_rfl) rfl rfl rfl rfl; (exact stp_extract rfl rfl rfl); (exact stp_assign rfl rfl); (focus ((apply rest_one 7 rfl (by as_aux_lemma => kernel_rfl) rfl rfl; (exact stp_assign rfl rfl)); (apply rest_one 8 rfl (by as_aux_lemma => kernel_rfl) rfl rfl; (exact stp_assign rfl rfl)); (refine rest_done (by as_aux_lemma => kernel_rfl) ?_; exact fin_join (Wk.of ⟨rfl, trivial⟩ trivial trivial)))); (focus ((apply rest_one 6 rfl (by as_aux_lemma => kernel_rfl) rfl rfl; (exact stp_extract rfl rfl rfl)); (apply rest_one 8 rfl (by as_aux_lemma => kernel_rfl) rfl rfl; (exact stp_assign rfl rfl)); (refine rest_done (by as_aux_lemma => kernel_rfl) ?_; exact fin_join (Wk.of ⟨rfl, trivial⟩ trivial trivial))))))); (focus ((apply rest_one 5 rfl (by as_aux_lemma => kernel_rfl) rfl rfl; (exact stp_extract rfl rfl rfl)); (apply rest_one 7 rfl (by as_aux_lemma => kernel_rfl) rfl rfl; (exact stp_assign rfl rfl)); (apply rest_one 8 rfl (by as_aux_lemma => kernel_rfl) rfl rfl; (exact stp_assign rfl rfl)); (refine rest_done (by as_aux_lemma => kernel_rfl) ?_; exact fin_join (Wk.of ⟨rfl, trivial⟩ trivial trivial))))))
  (refine fin_seq ?_; refine goes_seq ?_; refine goes_region ?_; apply run_step rfl; (exact stp_move rfl rfl); apply run_step rfl; (exact stp_bin rfl rfl rfl rfl); apply run_step rfl; (exact stp_assign rfl rfl); refine run_nil ?_; refine fin_seq ?_; refine goes_ret ?_)
  exact fin_ret1 (.inl rfl) rfl (.tmp rfl) trivial trivial
end Go.Proofs.YtmdhljleaijkbaaGreatDoor

/- Maniplexes: the test and the number of flags, in words. -/
namespace Go.Proofs.YtmdhljleaijkbaaGreatDoor
open Go.RowKit

theorem size1_any (ao : Option Addr) (n c : Nat) (w : World) : Calls Tryz.prog 44 #[.slice ao n c] w fun e w' => e = .returned (.int .i64 n) ∧ w = w' := by
  go_enter Tryz.func44, Tryz.ntmps44
  go_wp2
  go_ret
  exact ⟨rfl, rfl⟩
theorem flagsI_any (mb : Nat) (ao : Option Addr) (n c m : Nat) (d : List (List Int)) (w : World) (hm : Blk w mb 26 #[.slice ao n c]) (h : RdSS w (.slice ao n c) d) (hn : 0 < n) (hl : (lget d 0).length = m) (hm4 : m ≤ 1000000) :
    Calls Tryz.prog 22 #[.pointer (some ⟨mb, 0, none⟩)] w fun e w' => e = .returned (.int .i64 m) ∧ w = w' := by
  obtain ⟨a1, n1, c1, e, hi⟩ := h
  injection e with e1 e2 e3
  subst e1 e2 e3
  obtain ⟨b, off, a', n', c', rfl, hc, hi'⟩ := hi.at_ hn
  have hnm : n' = m := by rw [← hi'.1]; exact hl
  subst hnm
  have x0 := hm.cell 0
  simp at x0 hc
  clear hi hi' hl hm
  go_enter Tryz.func22, Tryz.ntmps22
  go_wp2_with (go_at_call 44; refine (size1_any _ _ _ _).mono ?_; rintro e w' ⟨rfl, hw⟩; subst hw)
  go_ret
  exact ⟨rfl, rfl⟩
theorem flagsS_any (ao : Option Addr) (n c m : Nat) (d : List (List Int)) (w : World) (h : RdSS w (.slice ao n c) d) (hn : 0 < n) (hl : (lget d 0).length = m) (hm4 : m ≤ 1000000) :
    Calls Tryz.prog 26 #[.agg #[.slice ao n c]] w fun e w' => e = .returned (.int .i64 m) ∧ Below w.heap.size w w' := by
  obtain ⟨a1, n1, c1, e, hi⟩ := h
  injection e with e1 e2 e3
  subst e1 e2 e3
  obtain ⟨b, off, a', n', c', rfl, hc, hi'⟩ := hi.at_ hn
  have hnm : n' = m := by rw [← hi'.1]; exact hl
  subst hnm
  have hb := below_alloc1 w (.cells #[.slice (some ⟨b, off, none⟩) n c] 26)
  have hc2 := (hb.cell (p := ⟨b, off + 0, none⟩) (World.block_lt_of_cell? w _ hc)).trans hc
  have hc3 : (w.alloc (.cells #[.slice (some ⟨b, off, none⟩) n c] 26)).cell? ⟨b, off, none⟩ = some (.slice a' n' c') := hc2
  have kb : Blk (w.alloc (.cells #[.slice (some ⟨b, off, none⟩) n c] 26)) w.heap.size 26 #[.slice (some ⟨b, off, none⟩) n c] := blk_at rfl
  have x0 := kb.cell 0
  clear hi hi' hl hc hc2
  go_enter Tryz.func26, Tryz.ntmps26
  go_wp2
  go_ret
  exact ⟨rfl, hb⟩
theorem sizeRM_any (ao : Option Addr) (n c : Nat) (w : World) : Calls Tryz.prog 30 #[.slice ao n c] w fun e w' => e = .returned (.int .i64 n) ∧ w = w' := by
  go_enter Tryz.func30, Tryz.ntmps30
  go_wp2
  go_ret
  exact ⟨rfl, rfl⟩
theorem rankM_any (mb n c : Nat) (ao : Option Addr) (w : World) (hm : Blk w mb 26 #[.slice ao n c]) :
    Calls Tryz.prog 42 #[.pointer (some ⟨mb, 0, none⟩)] w fun e w' => e = .returned (.int .i64 n) ∧ w = w' := by
  have x0 := hm.cell 0
  simp at x0
  go_enter Tryz.func42, Tryz.ntmps42
  go_wp2_with (go_at_call 30; refine (sizeRM_any _ _ _ _).mono ?_; rintro e w' ⟨rfl, hw⟩; subst hw)
  go_ret
  exact ⟨rfl, rfl⟩
end Go.Proofs.YtmdhljleaijkbaaGreatDoor

/- Coverings of maniplexes, the program's coveringTo. -/
namespace Go.Proofs.YtmdhljleaijkbaaGreatDoor
open Go.RowKit

def isNg : Value → Bool
  | .int _ z => decide (z < 0)
  | _ => false
/-- how many of the first N cells of a block are negative -/
def negs (W : World) (g N : Nat) : Nat := match W.heap[g]? with
  | some (.cells cs _ _) => ((cs.toList.take N).filter isNg).length
  | _ => 0
def slN : Value → Nat
  | .slice _ n _ => n
  | _ => 0
theorem unl_map (L : List Int) : ((L.map (Value.int .i64)).filter isNg).length = unl L := by
  unfold unl
  rw [List.filter_map, List.length_map]
  rfl
theorem negs_own {w : World} {lo E g n c : Nat} {L : List Int} (h : Own w lo E (some ⟨g, 0, none⟩) n c (L.map (Value.int .i64))) : negs w g n = unl L := by
  rcases h.1.2 with ⟨h2, _⟩ | ⟨g', cap, cur, hv, _, hh, _, _, _, ht⟩
  · cases h2
  · injection hv with h1
    injection h1 with h1
    injection h1 with h1
    subst h1
    unfold negs
    rw [hh]
    rw [Nat.mul_one] at ht
    show ((cur.toList.take n).filter isNg).length = _
    rw [ht, unl_map]
theorem repL_rep (n : Nat) (z : Int) : repL [z] n = List.replicate n z := by
  induction n with
  | zero => rfl
  | succ n ih => rw [repL_add, ih, repL_one, List.replicate_succ']
theorem unl_start {N : Nat} (f : Nat) (h : 0 < N) : unl ((List.replicate N (-1)).set 0 (f : Int)) + 1 = N := by
  rw [unl_set (by simpa using h) (by rw [iget_rep h]; omega) (by omega)]
  unfold unl
  rw [List.filter_eq_self.2 (fun z hz => by have := List.eq_of_mem_replicate hz; subst this; rfl), List.length_replicate]
/-- what coveringTo answers -/
def CvAns (w : World) (N : Nat) (R : Option (List Int)) (e : Ending) (w' : World) : Prop :=
  ∃ (a : Option Addr) (n c : Nat), e = .returned (.slice a n c) ∧ (R = none → a = none ∧ n = 0 ∧ c = 0) ∧ (∀ p, R = some p → n = N ∧ (∃ g, a = some ⟨g, 0, none⟩) ∧ Own w' w.heap.size 2 a N c (p.map (Value.int .i64))) ∧ Below w.heap.size w w'
set_option maxRecDepth 100000 in
set_option maxHeartbeats 6400000 in
theorem coveringTo_any (ao bo : Option Addr) (n c m c' f N K : Nat) (d e : List (List Int)) (w : World) (hd : Intss w ao n d) (he : Intss w bo m e) (hM : Man d) (hE : Man e) (hN : flg d = N) (hK : flg e = K) (hf : f < K) :
    Calls Tryz.prog 58 #[.agg #[.slice ao n c], .agg #[.slice bo m c'], .int .i64 f] w (CvAns w N (covO d e f)) := by
  obtain ⟨R, hR⟩ : ∃ R, covO d e f = R := ⟨_, rfl⟩
  rw [hR]
  have HR := Lib.hid hR
  have HD := Lib.hid hd
  have HE := Lib.hid he
  have HM := Lib.hid hM
  have HEM := Lib.hid hE
  have HN := Lib.hid hN
  have HK := Lib.hid hK
  have hdl := hd.1
  have hel := he.1
  have hd1 := hM.n1
  have hd5 := hM.n5
  have he1 := hE.n1
  have he5 := hE.n5
  have hN2 : 2 ≤ N := by rw [← hN]; exact hM.f2
  have hN4 : N ≤ 400 := by rw [← hN]; exact hM.f4
  have hK4 : K ≤ 400 := by rw [← hK]; exact hE.f4
  clear hR hd he hM hE hN hK
  have b0 := below_alloc2 w (.cells #[.slice ao n c] 26) (.cells #[.slice bo m c'] 26)
  have km : Blk ((w.alloc (.cells #[.slice ao n c] 26)).alloc (.cells #[.slice bo m c'] 26)) w.heap.size 26 #[.slice ao n c] := (blk_at rfl).alloc _
  have kk : Blk ((w.alloc (.cells #[.slice ao n c] 26)).alloc (.cells #[.slice bo m c'] 26)) (w.heap.size + 1) 26 #[.slice bo m c'] := blk_at (by simp)
  have HD1 := Lib.hid (HD.out.below b0)
  have HE1 := Lib.hid (HE.out.below b0)
  go_enter Tryz.func58, Tryz.ntmps58
  go_upto_region 1 with fail
  generalize (w.alloc (.cells #[.slice ao n c] 26)).alloc (.cells #[.slice bo m c'] 26) = w1 at *
  have KM := Lib.hid km
  have KK := Lib.hid kk
  have hz1 := b0.size
  by_cases hrk : n = m
  · subst hrk
    have hbeq : ((n : Int) != (n : Int)) = false := by simp
    go_wp2_with (first | (go_at_call 42; first | (refine (rankM_any _ n c ao w1 KM.out).mono ?_; rintro e' w' ⟨rfl, hw⟩; subst hw) | (refine (rankM_any _ n c' bo w1 KK.out).mono ?_; rintro e' w' ⟨rfl, hw⟩; subst hw)))
    have b2 := below_alloc1 w1 (.cells #[.int .i64 (-1)] 2)
    have HI2 := Lib.hid (show Ints (w1.alloc (.cells #[.int .i64 (-1)] 2)) (some ⟨w1.heap.size, 0, none⟩) 1 [-1] from Own.ints (zs := [-1]) (own_lit (us := [.int .i64 (-1)]) rfl (Nat.le_refl _) (by simp)))
    have KM2 := Lib.hid (KM.out.belowS b2)
    have KK2 := Lib.hid (KK.out.belowS b2)
    have HD2 := Lib.hid (HD1.out.below b2)
    have HE2 := Lib.hid (HE1.out.below b2)
    have B2 := Lib.hid (b0.trans (b2.mono hz1))
    clear b0 b2 km kk KM KK HD1 HE1
    go_wp2_with fail
    generalize w1.alloc (.cells #[.int .i64 (-1)] 2) = w2 at *
    refine (flagsI_any _ ao n c N d w2 KM2.out ⟨ao, n, c, rfl, HD2.out⟩ (by omega) HN.out (by omega)).mono ?_
    rintro e' w' ⟨rfl, hw⟩
    subst hw
    go_wp2_with fail
    refine (repeat_any _ 1 1 N [-1] w2 HI2.out (by omega) (by omega) (by omega) (by omega)).mono ?_
    rintro e' w3 ⟨ga, gc, rfl, o3, b3⟩
    rw [Nat.one_mul, repL_rep] at o3
    obtain ⟨gl, rfl, hglb, hgll, -, hcell3, hfr3⟩ := o3.form (by omega)
    have hz2 := B2.out.size
    have x0 : w3.cell? ⟨gl, 0, none⟩ = some (.int .i64 (-1)) := by rw [hcell3 0 (by omega), List.getElem?_map, List.getElem?_replicate, if_pos (by omega)]; rfl
    have f0 := hfr3 0
    obtain ⟨st, sg⟩ := o3.stored 0 (.int .i64 (f : Int))
    have B4 := Lib.hid (b3.grown sg b3.size (fun g e => by injection e with e; omega))
    have HS := Lib.hid (CvS.start (f := f) HM.out (by rw [HK.out]; exact hf))
    have O4 := Lib.hid (show Own (w3.setCell ⟨gl, 0, none⟩ (.int .i64 (f : Int))) w2.heap.size 2 (some ⟨gl, 0, none⟩) N gc (((List.replicate (flg d) (-1)).set 0 (f : Int)).map (Value.int .i64)) from by
      rw [HN.out, List.map_set]
      simpa using st)
    clear st sg o3 b3 hcell3 hfr3
    have hN1 : 0 < N := by omega
    rw [Nat.one_mul]
    go_upto_region 5 with fail
    generalize w3.setCell ⟨gl, 0, none⟩ (.int .i64 (f : Int)) = w4 at *
    clear x0 f0
    have hz4 := B4.out.size
    have b5 := below_alloc1 w4 (.cells #[.int .i64 0] 2)
    have hQ := (own_lit (w := w4) (base := w4.heap.size) (E := 2) (us := [.int .i64 0]) rfl (Nat.le_refl _) (by simp)).que (by simp)
    have Q5 := Lib.hid hQ
    have O5 := Lib.hid (O4.out.below b5)
    have B5 := Lib.hid (B4.out.trans (b5.mono hz4))
    have hgl4 : gl < w4.heap.size := (O4.out.lt gl rfl).2
    obtain ⟨lq, hlq⟩ : ∃ lq, w4.heap.size = lq := ⟨_, rfl⟩
    have HLQ := Lib.hid hlq
    clear b5 B4 O4 hQ
    go_wp2_with fail
    generalize w4.alloc (.cells #[.int .i64 0] 2) = w5 at *
    rw [hlq] at Q5 hgl4
    have hz5 := B5.out.size
    have hlq5 : lq ≤ w5.heap.size := by exact Nat.le_of_lt (Q5.out.lt Nat.zero_lt_one lq rfl).2
    clear hlq
    go_loopw [8] (fun qv wr => ∃ (qn qc : Nat) (qa : Option Addr) (L O : List Int), qv = .slice qa qn qc ∧ CvS d e f L O ∧ Own wr w2.heap.size 2 (some ⟨gl, 0, none⟩) N gc (L.map (Value.int .i64)) ∧ Que wr lq 2 qa qn qc (O.map (Value.int .i64)) ∧ Below w2.heap.size w2 wr ∧ lq ≤ wr.heap.size ∧ 2 * unl L + qn ≤ 2 * N) (fun qv W => 2 * negs W gl N + slN qv)
    case atStart => exact ⟨1, 1, _, _, [0], rfl, HS.out, O5.out, Q5.out, B5.out, hlq5, by have := unl_start f hN1; rw [HN.out]; omega⟩
    case round =>
      clear O5 Q5 B5 HS hz5 hlq5
      obtain ⟨qn, qc, qa, L, O, rfl, st, ol, oq, hb, hlw, hfew⟩ := hrel
      obtain ⟨wA, rfl⟩ : ∃ x, x = wr := ⟨_, rfl⟩
      have hqO : O.length = qn := by have := oq.1; simpa using this
      by_cases hq : 0 < qn
      · obtain ⟨gq, off, u, rfl, hu0, hcq, hgq1, hgq2⟩ := oq.head hq
        obtain ⟨z, hz⟩ : ∃ z, O[0]? = some z := ⟨_, List.getElem?_eq_getElem (by omega)⟩
        obtain ⟨x, rfl, hxN, hxl⟩ := st.que z (List.mem_of_getElem? hz)
        have hue : u = .int .i64 (x : Int) := by
          rw [List.getElem?_map, hz] at hu0
          exact (Option.some.inj hu0).symm
        subst hue
        have HF := Lib.hid (st.front (List.mem_of_getElem? hz))
        have HZ := Lib.hid hz
        have HUN := Lib.hid (negs_own ol)
        have OL := Lib.hid ol
        have OQ := Lib.hid oq
        have HB := Lib.hid hb
        have hgt : (0 : Int) < (qn : Int) := by omega
        have xm := (KM2.out.belowS hb).cell 0
        simp at xm
        clear st ol oq hz hu0
        go_wp2_with fail
        go_loopw [8, 35] (fun qv kv wr => ∃ (k qn' qc' : Nat) (qa : Option Addr) (L' O' : List Int), qv = .slice qa qn' qc' ∧ kv = .int .i64 k ∧ k ≤ n ∧ 0 < qn' ∧ CvF d e f L' O' x k ∧ O'[0]? = some (x : Int) ∧ Own wr w2.heap.size 2 (some ⟨gl, 0, none⟩) N gc (L'.map (Value.int .i64)) ∧ Que wr lq 2 qa qn' qc' (O'.map (Value.int .i64)) ∧ Below w2.heap.size w2 wr ∧ lq ≤ wr.heap.size ∧ 2 * unl L' + qn' ≤ 2 * unl L + qn) (fun _ kv _ => n - (intOf kv).toNat)
        case atStart => exact ⟨0, qn, qc, _, L, O, rfl, rfl, Nat.zero_le _, hq, HF.out, HZ.out, OL.out, OQ.out, HB.out, hlw, Nat.le_refl _⟩
        case round =>
          clear HF HZ OL OQ HB hb hlw xm
          obtain ⟨k, qn', qc', qa', L', O', rfl, rfl, hk, hq', hF, hO0, ol, oq, hb, hlw, hmu⟩ := hrel
          obtain ⟨wC, rfl⟩ : ∃ x, x = wr := ⟨_, rfl⟩
          by_cases hlt : k < n
          · obtain ⟨y, t, hy1, hy2, hy3, ⟨u, hu1, hu2, hu3⟩, ht2⟩ := hF.vals HM.out HEM.out (by omega) (by omega)
            obtain ⟨b1, off1, a1, n1, c1, rfl, hc1, hi1⟩ := (HD2.out.below hb).at_ hlt
            obtain ⟨b3, off3, a3, n3, c3, rfl, hc3, hi3⟩ := (HE2.out.below hb).at_ hlt
            have hn1 : n1 = N := by rw [← hi1.1, ← HN.out]; exact HM.out.len k (by omega)
            have hn3 : n3 = K := by rw [← hi3.1, ← HK.out]; exact HEM.out.len k (by omega)
            subst hn1
            subst hn3
            obtain ⟨b2, off2, rfl, hc2⟩ := hi1.at_ (show x < n1 by rw [← HN.out]; exact hxN)
            obtain ⟨b4, off4, rfl, hc4⟩ := hi3.at_ (show u < n3 by rw [← HK.out]; exact hu2)
            rw [hy1] at hc2
            rw [hu3] at hc4
            obtain ⟨gl', egl, -, -, -, hcl, hfl⟩ := ol.form (by omega)
            injection egl with egl
            injection egl with egl
            subst egl
            have hLl := hF.st.len
            have rowL : ∀ j, j < n1 → wC.cell? ⟨gl, j, none⟩ = some (.int .i64 (iget L' j)) := fun j hj => by rw [hcl j hj, List.getElem?_map, List.getElem?_eq_getElem (by rw [hLl, HN.out]; exact hj), iget_lt (by rw [hLl, HN.out]; exact hj)]; rfl
            have hyN : y < n1 := by rw [← HN.out]; exact hy2
            have hxN' : x < n1 := by rw [← HN.out]; exact hxN
            have hcx := rowL x hxN'
            have hcy := rowL y hyN
            have hfy := hfl y
            rw [hu1] at hcx
            have hx0 : (x : Int) < (n1 : Int) := by omega
            have hu0 : (u : Int) < (n3 : Int) := by have := HK.out; omega
            have hy0 : (y : Int) < (n1 : Int) := by omega
            have hk0 : (k : Int) < (n : Int) := by omega
            have xk := (KK2.out.belowS hb).cell 0
            simp at xk
            have HFF := Lib.hid hF
            have OL := Lib.hid ol
            have OQ := Lib.hid oq
            have HB := Lib.hid hb
            have HY := Lib.hid hy3
            have HU := Lib.hid hu1
            have HT := Lib.hid hu3
            have HT2 := Lib.hid ht2
            have HU2 := Lib.hid hu2
            have HO0 := Lib.hid hO0
            clear hF ol oq hb hy1 hy2 hy3 hu1 hu2 hu3 ht2 hi1 hi3 hcl hfl rowL hO0
            by_cases hneg : iget L' y < 0
            · have hdn : decide (iget L' y < 0) = true := decide_eq_true hneg
              go_wp2_with fail
              go_quiet (fail)
              go_upto_region 15 with fail
              obtain ⟨st, sg⟩ := (OL.out.drewN nq).stored y (.int .i64 (t : Int))
              have HNW := Lib.hid (HFF.out.new HM.out HEM.out (by omega) (by omega) HY.out HU.out HU2.out HT.out HT2.out hneg)
              have HUS := Lib.hid (unl_set (L := L') (y := y) (x := (t : Int)) (by rw [hLl, HN.out]; exact hyN) hneg (by omega))
              have hB4 := Lib.hid ((below_drewN HB.out nq).grown sg HB.out.size (fun g e => by injection e with e; omega))
              have hcq : 0 < qc' := by have := OQ.out.2.1; omega
              have hQ4 := Lib.hid (OQ.out.same (w' := (wC.drewN nq).setCell ⟨gl, y, none⟩ (.int .i64 (t : Int))) fun g eg => sg.block g ((OQ.out.lt hcq g eg).2) (fun e => by injection e with e; have := (OQ.out.lt hcq g eg).1; omega))
              have hO4 := Lib.hid (show Own ((wC.drewN nq).setCell ⟨gl, y, none⟩ (.int .i64 (t : Int))) w2.heap.size 2 (some ⟨gl, 0, none⟩) n1 gc ((L'.set y (t : Int)).map (Value.int .i64)) from by rw [List.map_set]; exact st)
              have hlw4 : lq ≤ ((wC.drewN nq).setCell ⟨gl, y, none⟩ (.int .i64 (t : Int))).heap.size := by have := sg.size; exact Nat.le_trans hlw this
              clear st sg
              generalize (wC.drewN nq).setCell ⟨gl, y, none⟩ (.int .i64 (t : Int)) = w6 at *
              go_wp2_with (at_builtin; refine wpList_apQ etI w6 rfl _ _ rfl lq qa' qn' qc' _ rfl hQ4.out hq' (.int .i64 (y : Int)) rfl rfl (by omega) hlw4 ?_; intro ao7 c7 w7 q7 g7 hat7)
              have Q7 := Lib.hid q7
              have O7 := Lib.hid (hO4.out.same (w' := w7) fun g eg => g7.block g (hO4.out.lt g eg).2 (fun e => by have := (hQ4.out.lt hcq g e.symm).1; have e2 : gl = g := (by simpa [bk] using eg); omega))
              have B7 := Lib.hid (hB4.out.grown g7 hB4.out.size (fun g e => by have := (hQ4.out.lt hcq g e).1; omega))
              have hl7 := g7.size
              clear q7 g7 hat7 hQ4 hO4 hB4
              go_roundw
              case rel => exact ⟨k + 1, qn' + 1, c7, ao7, _, _, rfl, by go_num, by omega, by omega, HNW.out, by rw [List.getElem?_append_left (List.getElem?_eq_some_iff.1 HO0.out).1]; exact HO0.out, O7.out, by rw [List.map_append]; exact Q7.out, B7.out, by omega, by have := HUS.out; omega⟩
              case measure => simp [intOf]; omega
            · have hdn : decide (iget L' y < 0) = false := decide_eq_false hneg
              by_cases heq : iget L' y = (t : Int)
              · have hne : (iget L' y != (t : Int)) = false := by simp [heq]
                have HSM := Lib.hid (HFF.out.same HY.out HU.out HT.out heq)
                clear heq
                go_wp2_with fail
                go_quiet (fail)
                go_wp2
                go_roundw
                case rel => exact ⟨k + 1, qn', qc', qa', L', O', rfl, by go_num, by omega, hq', HSM.out, HO0.out, OL.out.drewN _, OQ.out.same (fun _ _ => rfl), below_drewN HB.out _, hlw, hmu⟩
                case measure => simp [intOf]; omega
              · have hne : (iget L' y != (t : Int)) = true := by simp [heq]
                have hnl : iget L' y ≠ -1 := by omega
                have hRn : R = none := by rw [← HR.out]; exact HFF.out.clash HM.out (by omega) HY.out HU.out HT.out hnl heq
                have HB0 := Lib.hid (B2.out.trans (HB.out.mono hz2))
                have HRN := Lib.hid hRn
                clear hRn heq
                go_wp2_with fail
                go_quiet (fail)
                go_wp2
                go_ret
                exact ⟨none, 0, 0, rfl, fun _ => ⟨rfl, rfl, rfl⟩, fun p h => (by rw [HRN.out] at h; cases h), below_drewN HB0.out _⟩
          · obtain rfl : k = n := by omega
            have hNX := Lib.hid (show CvS d e f L' (O'.drop 1) from (hdl ▸ hF : CvF d e f L' O' x d.length).next hO0)
            obtain ⟨g2, off2, u2, rfl, -, -, -, -⟩ := oq.head hq'
            obtain ⟨q2, rfl⟩ : ∃ q, qn' = q + 1 := ⟨qn' - 1, by omega⟩
            have hqc := oq.2.1
            have hcb := oq.2.2.1
            have OQ := Lib.hid oq
            have OL := Lib.hid ol
            have HB := Lib.hid hb
            have HUA := Lib.hid (negs_own ol)
            clear hF oq ol hb hO0
            have hge : (1 : Int) ≤ (qc' : Int) := by omega
            have hge2 : (1 : Int) ≤ ((q2 + 1 : Nat) : Int) := by omega
            have hmap : (O'.drop 1).map (Value.int .i64) = (O'.map (Value.int .i64)).drop 1 := List.map_drop
            by_cases hc1 : qc' = 1
            · obtain ⟨hT, hq20⟩ := OQ.out.tail0 (bo := some ⟨g2, off2, none⟩) hc1
              subst hc1
              subst hq20
              have HTQ := Lib.hid hT
              clear hT
              go_wp2
              refine ⟨⟨0, 0, _, _, _, rfl, hNX.out, OL.out, by rw [hmap]; exact HTQ.out, HB.out, hlw, by omega⟩, ?_⟩
              rw [HUA.out, HUN.out]
              show 2 * unl L' + 0 < 2 * unl L + qn
              omega
            · have HTQ := Lib.hid OQ.out.tail
              go_wp2
              refine ⟨⟨q2, qc' - 1, _, _, _, rfl, hNX.out, OL.out, by rw [hmap]; exact HTQ.out, HB.out, hlw, by omega⟩, ?_⟩
              rw [HUA.out, HUN.out]
              show 2 * unl L' + q2 < 2 * unl L + qn
              omega
      · obtain rfl : qn = 0 := by omega
        obtain rfl : O = [] := List.eq_nil_of_length_eq_zero hqO
        have hfin := st.fin HM.out HEM.out (by omega)
        rw [HR.out] at hfin
        subst hfin
        have OL := Lib.hid (ol.mono (show w.heap.size ≤ w2.heap.size from hz2))
        have HB0 := Lib.hid (B2.out.trans (hb.mono hz2))
        clear st ol oq hb
        go_wp2
        go_ret
        exact ⟨_, _, _, rfl, fun h => (by cases h), fun p h => (by injection h with h; subst h; exact ⟨rfl, ⟨gl, rfl⟩, OL.out⟩), HB0.out⟩
  · have hrn : R = none := by rw [← HR.out]; exact covO_rank (by omega)
    subst hrn
    have hbeq : ((n : Int) != (m : Int)) = true := by simp; omega
    go_wp2_with (first | (go_at_call 42; first | (refine (rankM_any _ n c ao w1 KM.out).mono ?_; rintro e' w' ⟨rfl, hw⟩; subst hw) | (refine (rankM_any _ m c' bo w1 KK.out).mono ?_; rintro e' w' ⟨rfl, hw⟩; subst hw)))
    go_ret
    exact ⟨none, 0, 0, rfl, fun _ => ⟨rfl, rfl, rfl⟩, fun p h => (by cases h), b0⟩
end Go.Proofs.YtmdhljleaijkbaaGreatDoor

/- All coverings, the program's coveringsOf. -/
namespace Go.Proofs.YtmdhljleaijkbaaGreatDoor
open Go.RowKit

/-- the coverings that give the flag 0 a flag below k -/
noncomputable def cvL (d e : List (List Int)) (k : Nat) : List (List Int) := (List.range k).filterMap (covO d e)
theorem cvL_none {d e : List (List Int)} {k : Nat} (h : covO d e k = none) : cvL d e (k + 1) = cvL d e k := by
  unfold cvL; rw [List.range_succ, List.filterMap_append]; simp [h]
theorem cvL_some {d e : List (List Int)} {k : Nat} {p : List Int} (h : covO d e k = some p) : cvL d e (k + 1) = cvL d e k ++ [p] := by
  unfold cvL; rw [List.range_succ, List.filterMap_append]; simp [h]
theorem cvL_len (d e : List (List Int)) (k : Nat) : (cvL d e k).length ≤ k := by
  have := List.length_filterMap_le (covO d e) (List.range k)
  simpa [cvL] using this
/-- what coveringsOf answers -/
def CvsAns (w : World) (L : List (List Int)) (e : Ending) (w' : World) : Prop :=
  ∃ (a : Option Addr) (n c : Nat) (us : List Value), e = .returned (.slice a n c) ∧ OwR (OwS 2) w' w.heap.size w'.heap.size 38 a n c us L ∧ Below w.heap.size w w'
set_option maxRecDepth 100000 in
set_option maxHeartbeats 6400000 in
theorem coveringsOf_any (ao bo : Option Addr) (n c m c' N K : Nat) (d e : List (List Int)) (w : World) (hd : Intss w ao n d) (he : Intss w bo m e) (hM : Man d) (hE : Man e) (hN : flg d = N) (hK : flg e = K) :
    Calls Tryz.prog 32 #[.agg #[.slice ao n c], .agg #[.slice bo m c']] w (CvsAns w (cvL d e K)) := by
  have HD := Lib.hid hd
  have HE := Lib.hid he
  have HM := Lib.hid hM
  have HEM := Lib.hid hE
  have HN := Lib.hid hN
  have HK := Lib.hid hK
  have he1 := hE.n1
  have hel := he.1
  have hK4 : K ≤ 400 := by rw [← hK]; exact hE.f4
  have hN2 : 2 ≤ N := by rw [← hN]; exact hM.f2
  clear hd he hM hE hN hK
  have b0 := below_alloc2 w (.cells #[.slice ao n c] 26) (.cells #[.slice bo m c'] 26)
  have km : Blk ((w.alloc (.cells #[.slice ao n c] 26)).alloc (.cells #[.slice bo m c'] 26)) w.heap.size 26 #[.slice ao n c] := (blk_at rfl).alloc _
  have kk : Blk ((w.alloc (.cells #[.slice ao n c] 26)).alloc (.cells #[.slice bo m c'] 26)) (w.heap.size + 1) 26 #[.slice bo m c'] := blk_at (by simp)
  have HD1 := Lib.hid (HD.out.below b0)
  have HE1 := Lib.hid (HE.out.below b0)
  go_enter Tryz.func32, Tryz.ntmps32
  go_upto_region 2 with fail
  generalize (w.alloc (.cells #[.slice ao n c] 26)).alloc (.cells #[.slice bo m c'] 26) = w1 at *
  have KM := Lib.hid km
  have KK := Lib.hid kk
  have HB0 := Lib.hid b0
  have hz1 := b0.size
  clear b0 km kk
  go_wp2_with fail
  refine (flagsI_any _ bo m c' K e w1 KK.out ⟨bo, m, c', rfl, HE1.out⟩ (by omega) HK.out (by omega)).mono ?_
  rintro e' w' ⟨rfl, hw⟩
  subst hw
  have hN0 : OwR (OwS 2) w1 w1.heap.size w1.heap.size 38 none 0 0 [] [] := OwR.empty_ (Own.nil_ _ _ _) (fun g hg => by cases hg)
  go_wp2_with fail
  go_loopw [5, 9] (fun sv fv wr => ∃ (f k : Nat) (a : Option Addr) (cc : Nat) (us : List Value), sv = .slice a k cc ∧ fv = .int .i64 f ∧ f ≤ K ∧ k ≤ f ∧ OwR (OwS 2) wr w1.heap.size wr.heap.size 38 a k cc us (cvL d e f) ∧ Below w1.heap.size w1 wr) (fun _ fv _ => K - (intOf fv).toNat)
  case atStart => exact ⟨0, 0, none, 0, [], rfl, rfl, Nat.zero_le _, Nat.le_refl _, hN0, Below.refl _ _⟩
  case round =>
    clear hN0
    obtain ⟨f, k, a, cc, us, rfl, rfl, hf, hkf, ho, hb⟩ := hrel
    obtain ⟨wA, rfl⟩ : ∃ x, x = wr := ⟨_, rfl⟩
    have OR := Lib.hid ho
    have hsz := hb.size
    clear ho
    by_cases hlt : f < K
    · have xm := (KM.out.belowS hb).cell 0
      have xk := (KK.out.belowS hb).cell 0
      simp at xm xk
      go_wp2_with fail
      refine (coveringTo_any ao bo n c m c' f N K d e wA (HD1.out.below hb) (HE1.out.below hb) HM.out HEM.out HN.out HK.out hlt).mono ?_
      rintro e' w2 ⟨a2, n2, c2, rfl, hno, hyes, b2⟩
      have hB2 := Lib.hid (hb.trans (b2.mono hsz))
      have OR2 := Lib.hid (OR.out.below (innerS _) b2)
      have hz2 := b2.size
      cases hc : covO d e f with
      | none =>
        obtain ⟨rfl, rfl, rfl⟩ := hno hc
        have HL := Lib.hid (cvL_none hc)
        clear hno hyes hc
        go_wp2
        go_roundw
        case rel => exact ⟨f + 1, k, a, cc, us, rfl, by go_num, by omega, by omega, by rw [HL.out]; exact OR2.out.mono (Nat.le_refl _) hz2, hB2.out⟩
        case measure => simp [intOf]; omega
      | some p =>
        obtain ⟨rfl, ⟨g2, rfl⟩, o2⟩ := hyes p hc
        have HL := Lib.hid (cvL_some hc)
        have O2 := Lib.hid o2
        have BB := Lib.hid b2
        have OR1 := Lib.hid OR.out
        clear hno hyes hc o2
        go_wp2_with (at_builtin; refine wpList_ap1 etSS _ rfl _ _ rfl w1.heap.size a k cc _ rfl OR2.out.own (.slice (some ⟨g2, 0, none⟩) n2 c2) rfl rfl (by omega) (by omega) ?_; intro ao3 c3 w3 o3 g3 hat3)
        have OR3 := Lib.hid (rows_push2 OR1.out hsz BB.out O2.out (Below.refl _ _) o3 g3 (hat3.imp id fun e => ⟨_, e, Nat.le_succ _⟩))
        have B3 := Lib.hid (hB2.out.grown g3 (by omega) (fun g hg => (OR2.out.own.lt g hg).1))
        clear o3 g3 hat3
        go_roundw
        case rel => exact ⟨f + 1, k + 1, ao3, c3, _, rfl, by go_num, by omega, by omega, by rw [HL.out]; exact OR3.out, B3.out⟩
        case measure => simp [intOf]; omega
    · obtain rfl : f = K := by omega
      have BF := Lib.hid (HB0.out.trans (hb.mono hz1))
      go_wp2
      go_ret
      exact ⟨a, k, cc, us, rfl, OR.out.mono hz1 (Nat.le_refl _), BF.out⟩
end Go.Proofs.YtmdhljleaijkbaaGreatDoor

/- Counting: pigeonholes; onto and one to one. No program in sight. -/
namespace Go.Proofs.YtmdhljleaijkbaaGreatDoor

theorem holes : ∀ (m n : Nat) (f : Nat → Nat), (∀ i, i < n → f i < m) → (∀ i j, i < n → j < n → f i = f j → i = j) → n ≤ m
  | 0, n, f, h, _ => by
    rcases Nat.eq_zero_or_pos n with e | e
    · omega
    · have := h 0 e; omega
  | m + 1, 0, f, _, _ => Nat.zero_le _
  | m + 1, n + 1, f, h, hi => by
    have := holes m n (fun i => if f i = m then f n else f i) (fun i hin => by
      have h1 := h i (by omega)
      have h2 := h n (by omega)
      have h3 := hi i n (by omega) (by omega)
      split <;> omega) (fun i j hin hjn e => by
      have h3 := hi i n (by omega) (by omega)
      have h4 := hi j n (by omega) (by omega)
      have h5 := hi i j (by omega) (by omega)
      split at e <;> split at e
      · omega
      · exact absurd (h4 e.symm) (by omega)
      · exact absurd (h3 e) (by omega)
      · exact h5 e)
    omega
/-- what meets all of n points from n points is one to one -/
theorem onto_inj {n : Nat} {f : Nat → Nat} (_h : ∀ i, i < n → f i < n) (hs : ∀ y, y < n → ∃ i, i < n ∧ f i = y) {a b : Nat} (ha : a < n) (hb : b < n) (e : f a = f b) : a = b := by
  apply Classical.byContradiction
  intro hne
  have hg : ∃ g : Nat → Nat, ∀ y, y < n → g y < n ∧ f (g y) = y ∧ g y ≠ b := by
    refine Classical.axiomOfChoice (r := fun y i => y < n → i < n ∧ f i = y ∧ i ≠ b) fun y => ?_
    by_cases hy : y < n
    · by_cases hya : y = f b
      · exact ⟨a, fun _ => ⟨ha, by rw [hya]; exact e, hne⟩⟩
      · obtain ⟨i, h1, h2⟩ := hs y hy
        exact ⟨i, fun _ => ⟨h1, h2, fun e2 => hya (by rw [← h2, e2])⟩⟩
    · exact ⟨0, fun q => absurd q hy⟩
  obtain ⟨g, hg⟩ := hg
  have := holes (n - 1) n (fun i => if g i = n - 1 then b else g i) (fun i hi' => by
    obtain ⟨h1, h2, h3⟩ := hg i hi'
    split
    · omega
    · omega) (fun i j hi' hj' q => by
    obtain ⟨h1, h2, h3⟩ := hg i hi'
    obtain ⟨k1, k2, k3⟩ := hg j hj'
    have q2 : g i = g j := by
      split at q <;> split at q
      · omega
      · exact absurd q.symm k3
      · exact absurd q h3
      · exact q
    rw [← h2, ← k2, q2])
  omega
end Go.Proofs.YtmdhljleaijkbaaGreatDoor

/- Automorphisms of maniplexes, plain. No program in sight. -/
namespace Go.Proofs.YtmdhljleaijkbaaGreatDoor

section
variable {d e k : List (List Int)}
/-- the flag that a flag gets -/
def at_ (p : List Int) (i : Nat) : Nat := (iget p i).toNat
theorem Cov.at_lt {p : List Int} (h : Cov d e p) {i : Nat} (hi : i < flg d) : at_ p i < flg e ∧ iget p i = (at_ p i : Int) := by
  obtain ⟨x, h1, h2⟩ := h.val i hi
  unfold at_; rw [h1]; exact ⟨by omega, by omega⟩
theorem Cov.on {p : List Int} (h : Cov d e p) {g i : Nat} (hg : g < d.length) (hi : i < flg d) : at_ p (bTo d i g) = bTo e (at_ p i) g := by
  unfold at_ bTo
  rw [← h.mov g i hg hi]; rfl
theorem cov_mk (f : Nat → Nat) (hv : ∀ i, i < flg d → f i < flg e) (hd : Man d) (he : Man e) (hl : d.length = e.length) (hm : ∀ g i, g < d.length → i < flg d → f (bTo d i g) = bTo e (f i) g) : Cov d e ((List.range (flg d)).map fun i => (f i : Int)) ∧ ∀ i, i < flg d → at_ ((List.range (flg d)).map fun i => (f i : Int)) i = f i := by
  have hg : ∀ i, i < flg d → iget ((List.range (flg d)).map fun i => (f i : Int)) i = (f i : Int) := fun i hi => by simp [iget, hi]
  refine ⟨⟨by simp, fun i hi => ⟨f i, hg i hi, hv i hi⟩, fun g i hgl hi => ?_⟩, fun i hi => by unfold at_; rw [hg i hi]; omega⟩
  have h1 := bTo_lt (man_leads hd) hi hgl
  rw [hg i hi, hg _ h1.1, hm g i hgl hi, Int.toNat_natCast]
  exact (bTo_lt (man_leads he) (hv i hi) (by omega)).2.symm
/-- coverings meet all flags -/
theorem Cov.onto {p : List Int} (h : Cov d e p) (hd : Man d) (he : Man e) (hl : d.length = e.length) : ∀ y, y < flg e → ∃ i, i < flg d ∧ at_ p i = y := by
  have h2 : 0 < flg d := by have := hd.f2; unfold flg; omega
  have key : ∀ j, j < flg e → ∀ i0, i0 < flg d → (rch e (flg e) (at_ p i0) j = true → ∃ i, i < flg d ∧ at_ p i = j) := fun j hj i0 hi0 hr =>
    rch_in (man_leads he) (h.at_lt hi0).1 (p := fun j => ∃ i, i < flg d ∧ at_ p i = j) ⟨i0, hi0, rfl⟩ (fun x hx ⟨i, hi, hix⟩ g hg => ⟨bTo d i g, (bTo_lt (man_leads hd) hi (by omega)).1, by rw [h.on (by omega) hi, hix]⟩) j hj hr
  intro y hy
  refine key y hy 0 h2 ?_
  have h0 := (h.at_lt h2).1
  have := man_rch he _ h0
  exact rch_trans (man_leads he) h0 (by have := he.f2; unfold flg; omega) hy (rch_symm (man_leads he) (man_back he) (by have := he.f2; unfold flg; omega) h0 this) (man_rch he y hy)
theorem Cov.comp {p q : List Int} (hp : Cov d e p) (hq : Cov e k q) (hd : Man d) (hk : Man k) (hl : d.length = e.length) (hl2 : e.length = k.length) : ∃ r, Cov d k r ∧ ∀ i, i < flg d → at_ r i = at_ q (at_ p i) := by
  obtain ⟨h1, h2⟩ := cov_mk (d := d) (e := k) (fun i => at_ q (at_ p i)) (fun i hi => (hq.at_lt (hp.at_lt hi).1).1) hd hk (hl.trans hl2) (fun g i hg hi => by rw [hp.on hg hi, hq.on (by omega) (hp.at_lt hi).1])
  exact ⟨_, h1, h2⟩
/-- an isomorphism turned round -/
theorem Cov.back {p : List Int} (hp : Cov d e p) (hd : Man d) (he : Man e) (hl : d.length = e.length) (hn : flg d = flg e) : ∃ q, Cov e d q ∧ (∀ i, i < flg d → at_ q (at_ p i) = i) ∧ ∀ i, i < flg e → at_ p (at_ q i) = i := by
  have honto := hp.onto hd he hl
  have hv : ∀ i, i < flg d → at_ p i < flg d := fun i hi => by rw [hn]; exact (hp.at_lt hi).1
  have hs : ∀ y, y < flg d → ∃ i, i < flg d ∧ at_ p i = y := fun y hy => honto y (by omega)
  have hinj : ∀ a b, a < flg d → b < flg d → at_ p a = at_ p b → a = b := fun a b ha hb q => onto_inj hv hs ha hb q
  obtain ⟨f, hf⟩ : ∃ f : Nat → Nat, ∀ y, y < flg d → f y < flg d ∧ at_ p (f y) = y := by
    refine Classical.axiomOfChoice (r := fun y i => y < flg d → i < flg d ∧ at_ p i = y) fun y => ?_
    by_cases hy : y < flg d
    · obtain ⟨i, h1, h2⟩ := hs y hy; exact ⟨i, fun _ => ⟨h1, h2⟩⟩
    · exact ⟨0, fun q => absurd q hy⟩
  obtain ⟨h1, h2⟩ := cov_mk (d := e) (e := d) f (fun i hi => (hf i (by omega)).1) he hd hl.symm (fun g i hg hi => by
    have h3 := hf i (by omega)
    have h4 := (bTo_lt (man_leads he) hi hg).1
    have h5 := hf (bTo e i g) (by omega)
    refine hinj _ _ h5.1 (bTo_lt (man_leads hd) h3.1 (by omega)).1 ?_
    rw [h5.2, hp.on (by omega) h3.1, h3.2])
  refine ⟨_, h1, fun i hi => ?_, fun i hi => ?_⟩
  · have h3 := hv i hi
    rw [h2 _ (by omega)]
    exact hinj _ _ (hf _ h3).1 hi (hf _ h3).2
  · rw [h2 i hi]; exact (hf i (by omega)).2
theorem cov_id (hd : Man d) : ∃ p, Cov d d p ∧ ∀ i, i < flg d → at_ p i = i := by
  obtain ⟨h1, h2⟩ := cov_mk (d := d) (e := d) (fun i => i) (fun i hi => hi) hd hd rfl (fun g i hg hi => rfl)
  exact ⟨_, h1, h2⟩
/-- who is among all coverings -/
theorem mem_cvL {n : Nat} {p : List Int} : p ∈ cvL d e n ↔ ∃ f, f < n ∧ covO d e f = some p := by
  unfold cvL; rw [List.mem_filterMap]
  constructor
  · rintro ⟨f, h1, h2⟩; exact ⟨f, List.mem_range.1 h1, h2⟩
  · rintro ⟨f, h1, h2⟩; exact ⟨f, List.mem_range.2 h1, h2⟩
theorem mem_cvs (hd : Man d) (hl : d.length = e.length) {p : List Int} : p ∈ cvL d e (flg e) ↔ Cov d e p := by
  rw [mem_cvL]
  constructor
  · rintro ⟨f, _, h⟩; exact (covO_some h).2.1
  · intro h
    have h0 := h.at_lt (show 0 < flg d by have := hd.f2; unfold flg; omega)
    exact ⟨at_ p 0, h0.1, covO_eq hd hl h h0.2⟩
/-- the automorphisms -/
noncomputable def autL (d : List (List Int)) : List (List Int) := cvL d d (flg d)
theorem autL_get (hd : Man d) {g : Nat} (hg : g < (autL d).length) : Cov d d (lget (autL d) g) := (mem_cvs hd rfl).1 (lget_mem hg)
theorem autL_leads (hd : Man d) : Leads (autL d) (flg d) := ⟨fun k hk => (autL_get hd hk).len, fun k hk x hx => by
  obtain ⟨y, h1, h2⟩ := (autL_get hd hk).val x hx
  rw [h1]; omega⟩
/-- an automorphism leads from a to b -/
def AutTo (d : List (List Int)) (a b : Nat) : Prop := ∃ p, Cov d d p ∧ at_ p a = b
theorem autTo_symm (hd : Man d) {a b : Nat} (ha : a < flg d) (h : AutTo d a b) : AutTo d b a := by
  obtain ⟨p, h1, h2⟩ := h
  obtain ⟨q, k1, k2, _⟩ := h1.back hd hd rfl rfl
  exact ⟨q, k1, by rw [← h2]; exact k2 a ha⟩
theorem autTo_trans (hd : Man d) {a b c : Nat} (ha : a < flg d) (h : AutTo d a b) (k : AutTo d b c) : AutTo d a c := by
  obtain ⟨p, h1, h2⟩ := h
  obtain ⟨q, k1, k2⟩ := k
  obtain ⟨r, r1, r2⟩ := h1.comp k1 hd hd rfl rfl
  exact ⟨r, r1, by rw [r2 a ha, h2, k2]⟩
theorem aut_rch (hd : Man d) {a b : Nat} (ha : a < flg d) (hb : b < flg d) : rch (autL d) (flg d) a b = true ↔ AutTo d a b := by
  constructor
  · intro h
    refine rch_in (autL_leads hd) ha (p := fun b => AutTo d a b) ?_ (fun x hx hax g hg => autTo_trans hd ha hax ⟨_, autL_get hd hg, rfl⟩) b hb h
    obtain ⟨p, h1, h2⟩ := cov_id hd
    exact ⟨p, h1, h2 a ha⟩
  · rintro ⟨p, h1, h2⟩
    obtain ⟨g, hg, e⟩ := List.getElem_of_mem ((mem_cvs hd rfl).2 h1)
    have hg' : g < (autL d).length := hg
    have := rch_on (autL_leads hd) ha ha (rch_refl (autL_leads hd) ha) hg'
    have e2 : bTo (autL d) a g = b := by
      unfold bTo
      rw [lget_lt hg']
      have : (autL d)[g] = p := e
      rw [this]; exact h2
    rw [e2] at this
    exact this
theorem aut_sym (hd : Man d) : SymR (autL d) (flg d) := fun c x hc hx h => (aut_rch hd hx hc).2 (autTo_symm hd hc ((aut_rch hd hc hx).1 h))
/-- the labels of orbits of flags, and how many orbits -/
noncomputable def forb (d : List (List Int)) : LSt := labs (autL d) (flg d)
end
end Go.Proofs.YtmdhljleaijkbaaGreatDoor
