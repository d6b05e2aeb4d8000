/- What a maniplex is, the reference's: l02Is. guards: -/
import Derived.Test.YtpognnifgcacnaaPart7
import Derived.Test.YtpognnifgcacnaaPart6
import Derived.Test.YtpognnifgcacnaaPart5
namespace Go.Proofs.Ytpognnifgcacnaa
open Go.RowKit

abbrev mxB (R : Nat) : Ch := ⟨true, 41, 1, .flat [.sl 1003 0 R]⟩
theorem binNeq {a b : Int} (h : a ≠ b) : binI .i64 .neq a b = some (.bool true) := by simp [binI, h]
theorem binNeq' {a b : Int} (h : a = b) : binI .i64 .neq a b = some (.bool false) := by simp [binI, h]
theorem binEql {a b : Int} (h : a = b) : binI .i64 .eql a b = some (.bool true) := by simp [binI, h]
theorem binEql' {a b : Int} (h : a ≠ b) : binI .i64 .eql a b = some (.bool false) := by simp [binI, h]
/-- what of a maniplex is asked before it is asked whether it hangs together -/
structure Man0 (zss : List (List Int)) : Prop where
  n1 : 1 ≤ zss.length
  n5 : zss.length ≤ 5
  f2 : 2 ≤ (lget zss 0).length
  f4 : (lget zss 0).length ≤ 400
  rows : Rows zss (lget zss 0).length zss.length
  comm : ∀ i k, i + 2 ≤ k → k < zss.length → ∀ f, f < (lget zss 0).length → commAt zss i k f
theorem Man0.man {zss : List (List Int)} (h : Man0 zss) : manB zss = ((((orb zss (lget zss 0).length 0).2.length : Nat) : Int) == (((lget zss 0).length : Nat) : Int)) := by
  by_cases hc : (orb zss (lget zss 0).length 0).2.length = (lget zss 0).length
  · rw [manB_yes ⟨h.n1, h.n5, h.f2, h.f4, fun i hi => (h.rows i hi).1, fun i hi => (h.rows i hi).2.1, fun i hi => (h.rows i hi).2.2, h.comm, hc⟩, hc]; simp
  · rw [manB_no (fun hm => hc hm.conn)]
    have hc' : ((orb zss (lget zss 0).length 0).2.length : Int) ≠ ((lget zss 0).length : Int) := by omega
    symm; simpa using hc'

set_option maxRecDepth 100000 in
set_option maxHeartbeats 4000000 in
theorem manS_fc (zss : List (List Int)) (hR : zss.length ≤ 1048576) (hl : ∀ i, i < zss.length → (lget zss i).length ≤ 1048576) :
    FC Try.prog 108 [(1003, rowsRo zss)] [mA zss.length] [] (vv (.bool (manB zss))) [] := by
  refine fc_enter (nt := 149) Try.func108 rfl rfl (by simp) fun w0 ω0 => ?_
  have hlen : (irows zss).length = zss.length := irows_len _
  by_cases c1 : zss.length < 1
  · rw [manB_no (fun h => by have := h.n1; omega)]
    have b1 : decide ((zss.length : Int) < 1) = true := by simp; omega
    (refine goes_seq ?_; refine goes_region ?_; apply run_step rfl; (exact stp_box rfl rfl rfl rfl); apply run_step rfl; (exact stp_assign rfl rfl); refine run_nil ?_; refine fin_seq ?_; refine goes_seq ?_; refine goes_region ?_; apply run_step rfl; (exact stp_fieldAddr (d := 0) rfl rfl rfl (by as_aux_lemma => kernel_rfl)); apply run_step rfl; (exact stp_loadF rfl (by as_aux_lemma => kernel_rfl) rfl rfl rfl rfl); apply run_step rfl; (exact stp_len rfl rfl rfl (by as_aux_lemma => kernel_rfl)); apply run_step rfl; (exact stp_assign rfl rfl); refine run_nil ?_; refine fin_seq ?_; refine goes_seq ?_; refine goes_seq ?_; refine goes_region ?_; apply run_step rfl; (exact stp_move rfl rfl); apply run_step rfl; (exact stp_bin rfl rfl rfl rfl); apply run_step rfl; (exact stp_move rfl rfl))
    refine run_bool 13 rfl (fun h1 => ?_) (fun h1 => by rw [b1] at h1; cases h1)
    (apply run_gNo rfl rfl rfl rfl rfl; apply run_gNo rfl rfl rfl rfl rfl; apply run_step rfl; (exact stp_pickT rfl rfl rfl); apply run_step rfl; (exact stp_move rfl rfl); apply run_gNo rfl rfl rfl rfl rfl; apply run_gNo rfl rfl rfl rfl rfl; apply run_gNo rfl rfl rfl rfl rfl; apply run_gNo rfl rfl rfl rfl rfl; apply run_gNo rfl rfl rfl rfl rfl; apply run_gNo rfl rfl rfl rfl rfl; apply run_step rfl; (exact stp_pickT rfl rfl rfl); apply run_step rfl; (exact stp_move rfl rfl); apply run_gNo rfl rfl rfl rfl rfl; apply run_gNo rfl rfl rfl rfl rfl; apply run_gNo rfl rfl rfl rfl rfl; apply run_gNo rfl rfl rfl rfl rfl; apply run_gNo rfl rfl rfl rfl rfl; apply run_gNo rfl rfl rfl rfl rfl; apply run_step rfl; (exact stp_pickT rfl rfl rfl); refine run_nil ?_; refine fin_seq ?_)
    refine goes_cond rfl (fun _ => ?_) (fun e => by cases e)
    (refine goes_seq ?_; refine goes_region ?_; apply run_step rfl; (exact stp_assign rfl rfl); refine run_nil ?_; refine fin_seq ?_; refine goes_ret ?_; refine fin_ret_then ?_)
    exact fin_ret1 (.inl rfl) rfl (.tmp rfl) trivial trivial
  have b1 : decide ((zss.length : Int) < 1) = false := by simp; omega
  have hpos : 0 < zss.length := by omega
  have hl0 := hl 0 hpos
  have hrow0 : (irows zss)[0]? = some (ivals (lget zss 0)) := irows_get hpos
  obtain ⟨n, hn⟩ : ∃ n, (lget zss 0).length = n := ⟨_, rfl⟩
  have hil : (ivals (lget zss 0)).length = n := by rw [ivals_len]; exact hn
  have hl0' : (lget zss 0).length ≤ 1048576 := hl0
  rw [hn] at hl0'
  by_cases c2 : 5 < zss.length
  · rw [manB_no (fun h => by have := h.n5; omega)]
    have b2 : decide ((zss.length : Int) > 5) = true := by simp; omega
    (refine goes_seq ?_; refine goes_region ?_; apply run_step rfl; (exact stp_box rfl rfl rfl rfl); apply run_step rfl; (exact stp_assign rfl rfl); refine run_nil ?_; refine fin_seq ?_; refine goes_seq ?_; refine goes_region ?_; apply run_step rfl; (exact stp_fieldAddr (d := 0) rfl rfl rfl (by as_aux_lemma => kernel_rfl)); apply run_step rfl; (exact stp_loadF rfl (by as_aux_lemma => kernel_rfl) rfl rfl rfl rfl); apply run_step rfl; (exact stp_len rfl rfl rfl (by as_aux_lemma => kernel_rfl)); apply run_step rfl; (exact stp_assign rfl rfl); refine run_nil ?_; refine fin_seq ?_; refine goes_seq ?_; refine goes_seq ?_; refine goes_region ?_; apply run_step rfl; (exact stp_move rfl rfl); apply run_step rfl; (exact stp_bin rfl rfl rfl rfl); apply run_step rfl; (exact stp_move rfl rfl))
    refine run_bool 13 rfl (fun h1 => by rw [b1] at h1; cases h1) (fun h1 => ?_)
    (apply run_gYes rfl rfl rfl; (exact stp_move rfl rfl); apply run_gYes rfl rfl rfl; (exact stp_bin rfl rfl rfl rfl); apply run_step rfl; (exact stp_pickF rfl rfl rfl); apply run_step rfl; (exact stp_move rfl rfl))
    refine run_bool 17 rfl (fun h1 => ?_) (fun h1 => by rw [b2] at h1; cases h1)
    (apply run_gNo rfl rfl rfl rfl rfl; apply run_gNo rfl rfl rfl rfl rfl; apply run_gNo rfl rfl rfl rfl rfl; apply run_gNo rfl rfl rfl rfl rfl; apply run_gNo rfl rfl rfl rfl rfl; apply run_gNo rfl rfl rfl rfl rfl; apply run_step rfl; (exact stp_pickT rfl rfl rfl); apply run_step rfl; (exact stp_move rfl rfl); apply run_gNo rfl rfl rfl rfl rfl; apply run_gNo rfl rfl rfl rfl rfl; apply run_gNo rfl rfl rfl rfl rfl; apply run_gNo rfl rfl rfl rfl rfl; apply run_gNo rfl rfl rfl rfl rfl; apply run_gNo rfl rfl rfl rfl rfl; apply run_step rfl; (exact stp_pickT rfl rfl rfl); refine run_nil ?_; refine fin_seq ?_)
    refine goes_cond rfl (fun _ => ?_) (fun e => by cases e)
    (refine goes_seq ?_; refine goes_region ?_; apply run_step rfl; (exact stp_assign rfl rfl); refine run_nil ?_; refine fin_seq ?_; refine goes_ret ?_; refine fin_ret_then ?_)
    exact fin_ret1 (.inl rfl) rfl (.tmp rfl) trivial trivial
  have b2 : decide ((zss.length : Int) > 5) = false := by simp; omega
  by_cases c3 : n < 2
  · rw [manB_no (fun h => by have := h.f2; omega)]
    have b3 : decide ((n : Int) < 2) = true := by simp; omega
    (refine goes_seq ?_; refine goes_region ?_; apply run_step rfl; (exact stp_box rfl rfl rfl rfl); apply run_step rfl; (exact stp_assign rfl rfl); refine run_nil ?_; refine fin_seq ?_; refine goes_seq ?_; refine goes_region ?_; apply run_step rfl; (exact stp_fieldAddr (d := 0) rfl rfl rfl (by as_aux_lemma => kernel_rfl)); apply run_step rfl; (exact stp_loadF rfl (by as_aux_lemma => kernel_rfl) rfl rfl rfl rfl); apply run_step rfl; (exact stp_len rfl rfl rfl (by as_aux_lemma => kernel_rfl)); apply run_step rfl; (exact stp_assign rfl rfl); refine run_nil ?_; refine fin_seq ?_; refine goes_seq ?_; refine goes_seq ?_; refine goes_region ?_; apply run_step rfl; (exact stp_move rfl rfl); apply run_step rfl; (exact stp_bin rfl rfl rfl rfl); apply run_step rfl; (exact stp_move rfl rfl))
    refine run_bool 13 rfl (fun h1 => by rw [b1] at h1; cases h1) (fun h1 => ?_)
    (apply run_gYes rfl rfl rfl; (exact stp_move rfl rfl); apply run_gYes rfl rfl rfl; (exact stp_bin rfl rfl rfl rfl); apply run_step rfl; (exact stp_pickF rfl rfl rfl); apply run_step rfl; (exact stp_move rfl rfl))
    refine run_bool 17 rfl (fun h1 => by rw [b2] at h1; cases h1) (fun h1 => ?_)
    (apply run_gYes rfl rfl rfl; (exact stp_fieldAddr (d := 0) rfl rfl rfl (by as_aux_lemma => kernel_rfl)); apply run_gYes rfl rfl rfl; (exact stp_loadF rfl (by as_aux_lemma => kernel_rfl) rfl rfl rfl rfl); apply run_gYes rfl rfl rfl; (first | exact stp_ix (j := 0) rfl rfl rfl rfl rfl (by as_aux_lemma => kernel_rfl) rfl hpos (Nat.le_of_eq hlen.symm) | exact stp_loadR rfl (by as_aux_lemma => kernel_rfl) rfl rfl rfl hrow0 hil); apply run_gYes rfl rfl rfl; (first | exact stp_ix (j := 0) rfl rfl rfl rfl rfl (by as_aux_lemma => kernel_rfl) rfl hpos (Nat.le_of_eq hlen.symm) | exact stp_loadR rfl (by as_aux_lemma => kernel_rfl) rfl rfl rfl hrow0 hil); apply run_gYes rfl rfl rfl; (exact stp_len rfl rfl rfl (by as_aux_lemma => kernel_rfl)); apply run_gYes rfl rfl rfl; (exact stp_bin rfl rfl rfl rfl); apply run_step rfl; (exact stp_pickF rfl rfl rfl); apply run_step rfl; (exact stp_move rfl rfl))
    refine run_bool 25 rfl (fun h1 => ?_) (fun h1 => by rw [b3] at h1; cases h1)
    (apply run_gNo rfl rfl rfl rfl rfl; apply run_gNo rfl rfl rfl rfl rfl; apply run_gNo rfl rfl rfl rfl rfl; apply run_gNo rfl rfl rfl rfl rfl; apply run_gNo rfl rfl rfl rfl rfl; apply run_gNo rfl rfl rfl rfl rfl; apply run_step rfl; (exact stp_pickT rfl rfl rfl); refine run_nil ?_; refine fin_seq ?_)
    refine goes_cond rfl (fun _ => ?_) (fun e => by cases e)
    (refine goes_seq ?_; refine goes_region ?_; apply run_step rfl; (exact stp_assign rfl rfl); refine run_nil ?_; refine fin_seq ?_; refine goes_ret ?_; refine fin_ret_then ?_)
    exact fin_ret1 (.inl rfl) rfl (.tmp rfl) trivial trivial
  have b3 : decide ((n : Int) < 2) = false := by simp; omega
  (refine goes_seq ?_; refine goes_region ?_; apply run_step rfl; (exact stp_box rfl rfl rfl rfl); apply run_step rfl; (exact stp_assign rfl rfl); refine run_nil ?_; refine fin_seq ?_; refine goes_seq ?_; refine goes_region ?_; apply run_step rfl; (exact stp_fieldAddr (d := 0) rfl rfl rfl (by as_aux_lemma => kernel_rfl)); apply run_step rfl; (exact stp_loadF rfl (by as_aux_lemma => kernel_rfl) rfl rfl rfl rfl); apply run_step rfl; (exact stp_len rfl rfl rfl (by as_aux_lemma => kernel_rfl)); apply run_step rfl; (exact stp_assign rfl rfl); refine run_nil ?_; refine fin_seq ?_; refine goes_seq ?_; refine goes_seq ?_; refine goes_region ?_; apply run_step rfl; (exact stp_move rfl rfl); apply run_step rfl; (exact stp_bin rfl rfl rfl rfl); apply run_step rfl; (exact stp_move rfl rfl))
  refine run_bool 13 rfl (fun h1 => by rw [b1] at h1; cases h1) (fun h1 => ?_)
  (apply run_gYes rfl rfl rfl; (exact stp_move rfl rfl); apply run_gYes rfl rfl rfl; (exact stp_bin rfl rfl rfl rfl); apply run_step rfl; (exact stp_pickF rfl rfl rfl); apply run_step rfl; (exact stp_move rfl rfl))
  refine run_bool 17 rfl (fun h1 => by rw [b2] at h1; cases h1) (fun h1 => ?_)
  (apply run_gYes rfl rfl rfl; (exact stp_fieldAddr (d := 0) rfl rfl rfl (by as_aux_lemma => kernel_rfl)); apply run_gYes rfl rfl rfl; (exact stp_loadF rfl (by as_aux_lemma => kernel_rfl) rfl rfl rfl rfl); apply run_gYes rfl rfl rfl; (first | exact stp_ix (j := 0) rfl rfl rfl rfl rfl (by as_aux_lemma => kernel_rfl) rfl hpos (Nat.le_of_eq hlen.symm) | exact stp_loadR rfl (by as_aux_lemma => kernel_rfl) rfl rfl rfl hrow0 hil); apply run_gYes rfl rfl rfl; (first | exact stp_ix (j := 0) rfl rfl rfl rfl rfl (by as_aux_lemma => kernel_rfl) rfl hpos (Nat.le_of_eq hlen.symm) | exact stp_loadR rfl (by as_aux_lemma => kernel_rfl) rfl rfl rfl hrow0 hil); apply run_gYes rfl rfl rfl; (exact stp_len rfl rfl rfl (by as_aux_lemma => kernel_rfl)); apply run_gYes rfl rfl rfl; (exact stp_bin rfl rfl rfl rfl); apply run_step rfl; (exact stp_pickF rfl rfl rfl); apply run_step rfl; (exact stp_move rfl rfl))
  refine run_bool 25 rfl (fun h1 => by rw [b3] at h1; cases h1) (fun h1 => ?_)
  (apply run_gYes rfl rfl rfl; (exact stp_fieldAddr (d := 0) rfl rfl rfl (by as_aux_lemma => kernel_rfl)); apply run_gYes rfl rfl rfl; (exact stp_loadF rfl (by as_aux_lemma => kernel_rfl) rfl rfl rfl rfl); apply run_gYes rfl rfl rfl; (first | exact stp_ix (j := 0) rfl rfl rfl rfl rfl (by as_aux_lemma => kernel_rfl) rfl hpos (Nat.le_of_eq hlen.symm) | exact stp_loadR rfl (by as_aux_lemma => kernel_rfl) rfl rfl rfl hrow0 hil); apply run_gYes rfl rfl rfl; (first | exact stp_ix (j := 0) rfl rfl rfl rfl rfl (by as_aux_lemma => kernel_rfl) rfl hpos (Nat.le_of_eq hlen.symm) | exact stp_loadR rfl (by as_aux_lemma => kernel_rfl) rfl rfl rfl hrow0 hil); apply run_gYes rfl rfl rfl; (exact stp_len rfl rfl rfl (by as_aux_lemma => kernel_rfl)); apply run_gYes rfl rfl rfl; (exact stp_bin rfl rfl rfl rfl); apply run_step rfl; (exact stp_pickF rfl rfl rfl); refine run_nil ?_; refine fin_seq ?_)
  refine goes_if rfl (fun c4 => ?_) (fun c4 => ?_)
  · rw [manB_no (fun h => by have := h.f4; omega)]
    (refine goes_seq ?_; refine goes_region ?_; apply run_step rfl; (exact stp_assign rfl rfl); refine run_nil ?_; refine fin_seq ?_; refine goes_ret ?_; refine fin_ret_then ?_)
    exact fin_ret1 (.inl rfl) rfl (.tmp rfl) trivial trivial
  (refine goes_skip ?_; refine fin_seq ?_; refine goes_seq ?_; refine goes_seq ?_; refine goes_region ?_; apply run_step rfl; (exact stp_assign rfl rfl); refine run_nil ?_; refine fin_seq ?_; refine goes_block ?_)
  refine goes_loop (fun i : Nat => St.of [(1, o1 (.ptr 1 0)), (3, vv (I6 zss.length)), (4, vv (I6 i))] [(1003, rowsRo zss), (1, mxB zss.length)]) (fun i => i ≤ zss.length ∧ Rows zss n i) (fun i => zss.length - i) 0 ⟨Nat.zero_le _, fun j hj => absurd hj (by omega)⟩ (Wk.of ⟨rfl, rfl, rfl, trivial⟩ ⟨rfl, rfl, trivial⟩ trivial) ?_
  rintro i ⟨hi, hrows⟩
  (refine goes_seq ?_; refine goes_seq ?_; refine goes_region ?_; apply run_step rfl; (exact stp_move rfl rfl); apply run_step rfl; (exact stp_move rfl rfl); apply run_step rfl; (exact stp_bin rfl rfl rfl rfl); refine run_nil ?_; refine fin_seq ?_)
  refine goes_if rfl (fun hlt => ?_) (fun hlt => ?_)
  · have hiz : i < zss.length := by omega
    have hrowi : (irows zss)[i]? = some (ivals (lget zss i)) := irows_get hiz
    have hli := hl i hiz
    have hP := permS_fc zss i hiz hli
    obtain ⟨m, hm⟩ : ∃ m, (lget zss i).length = m := ⟨_, rfl⟩
    have hilm : (ivals (lget zss i)).length = m := by rw [ivals_len]; exact hm
    rw [hm] at hP
    (refine goes_skip ?_; refine fin_seq ?_; refine goes_seq ?_; refine goes_block ?_; refine goes_seq ?_)
    by_cases e1 : (m : Int) = n
    · have e1' : m = n := by omega
      cases hp : isPerm (lget zss i) with
      | false =>
        rw [hp] at hP
        apply goes_drawG 30 [] [[], [0], [], [0, 1, 2], [0, 1, 2, 3], [0, 1, 2, 3, 4], [], [6], [6, 7], [6, 7, 8], [6, 7, 8, 9], [0, 1, 2, 3, 4, 5, 6, 7, 8, 9, 10], [0, 1, 2, 3, 4, 5, 6, 7, 8, 9, 10, 11], [0, 1, 2, 3, 4, 5, 6, 7, 8, 9, 10, 11, 12], [0, 1, 2, 3, 4, 5, 6, 7, 8, 9, 10, 11, 12, 13], [0, 1, 2, 3, 4, 5, 6, 7, 8, 9, 10, 11, 12], [0, 1, 2, 3, 4, 5, 6, 7, 8, 9, 10, 11, 12, 13, 14, 15], [0, 1, 2, 3, 4, 5, 6, 7, 8, 9, 10, 11, 12, 13, 14, 15, 16], [0, 1, 2, 3, 4, 5, 6, 7, 8, 9, 10, 11, 12, 13, 14, 15, 16, 17], [0, 1, 2, 3, 4, 5, 6, 7, 8, 9, 10, 11, 12, 13, 14, 15, 16, 17, 18], [0, 1, 2, 3, 4, 5, 6, 7, 8, 9, 10, 11, 12, 13, 14, 15, 16, 17, 18, 19], [0, 1, 2, 3, 4, 5, 6, 7, 8, 9, 10, 11, 12, 13, 14, 15, 16, 17, 18, 19, 20], [0, 1, 2, 3, 4, 5, 6, 7, 8, 9, 10, 11, 12, 13, 14, 15, 16, 17, 18, 19, 20, 21], [0, 1, 2, 3, 4, 5, 6, 7, 8, 9, 10, 11, 12, 13, 14, 15, 16, 17, 18, 19, 20, 21, 22], [0, 1, 2, 3, 4, 5, 6, 7, 8, 9, 10, 11, 12, 13, 14, 15, 16, 17, 18, 19, 20, 21], [0, 1, 2, 3, 4, 5, 6, 7, 8, 9, 10, 11, 12, 13, 14, 15, 16, 17, 18, 19, 20, 21, 22, 23, 24], [0, 1, 2, 3, 4, 5, 6, 7, 8, 9, 10, 11, 12, 13, 14, 15, 16, 17, 18, 19, 20, 21, 22, 23, 24, 25], [0, 1, 2, 3, 4, 5, 6, 7, 8, 9, 10, 11, 12, 13, 14, 15, 16, 17, 18, 19, 20, 21, 22, 23, 24, 25, 26], [0, 1, 2, 3, 4, 5, 6, 7, 8, 9, 10, 11, 12, 13, 14, 15, 16, 17, 18, 19, 20, 21, 22, 23, 24, 25, 26, 27], [0, 1, 2, 3, 4, 5, 6, 7, 8, 9, 10, 11, 12, 13, 14, 15, 16, 17, 18, 19, 20, 21, 22, 23, 24, 25, 26, 27, 28]] [38, 39, 40, 41, 42, 43, 44, 45, 46, 47, 48, 49, 50, 51, 52, 53, 54, 55, 56, 57, 58, 59, 60, 61, 62, 63, 64, 65, 66, 67] [] (by kernel_rfl) (by kernel_rfl)
        · (apply drawG_put rfl; (intro S1 hS; exact stp_fieldAddr (d := 0) rfl (hS.op rfl) (hS.ch _ _ rfl) (by as_aux_lemma => kernel_rfl)))
          (apply drawG_put rfl; (intro S1 hS; exact stp_loadF rfl (by as_aux_lemma => kernel_rfl) (hS.op rfl) (hS.ch _ _ rfl) rfl rfl))
          (apply drawG_put rfl; (intro S1 hS; exact stp_move rfl (hS.op rfl)))
          (apply drawG_put rfl; (intro S1 hS; exact stp_ix (j := i) rfl (hS.op rfl) (hS.op rfl) (hS.ch _ _ rfl) rfl (by as_aux_lemma => kernel_rfl) rfl hiz (Nat.le_of_eq hlen.symm)))
          (apply drawG_put rfl; (intro S1 hS; exact stp_loadR rfl (by as_aux_lemma => kernel_rfl) (hS.op rfl) (hS.ch _ _ rfl) rfl hrowi hilm))
          (apply drawG_put rfl; (intro S1 hS; exact stp_len rfl (hS.op rfl) rfl (by as_aux_lemma => kernel_rfl)))
          (apply drawG_put rfl; (intro S1 hS; exact stp_fieldAddr (d := 0) rfl (hS.op rfl) (hS.ch _ _ rfl) (by as_aux_lemma => kernel_rfl)))
          (apply drawG_put rfl; (intro S1 hS; exact stp_loadF rfl (by as_aux_lemma => kernel_rfl) (hS.op rfl) (hS.ch _ _ rfl) rfl rfl))
          (apply drawG_put rfl; (intro S1 hS; exact stp_ix (j := 0) rfl (hS.op rfl) (hS.op rfl) (hS.ch _ _ rfl) rfl (by as_aux_lemma => kernel_rfl) rfl hpos (Nat.le_of_eq hlen.symm)))
          (apply drawG_put rfl; (intro S1 hS; exact stp_loadR rfl (by as_aux_lemma => kernel_rfl) (hS.op rfl) (hS.ch _ _ rfl) rfl hrow0 hil))
          (apply drawG_put rfl; (intro S1 hS; exact stp_len rfl (hS.op rfl) rfl (by as_aux_lemma => kernel_rfl)))
          (apply drawG_put rfl; (intro S1 hS; exact stp_bin rfl (hS.op rfl) (hS.op rfl) (binNeq' e1)))
          (apply drawG_put rfl; (intro S1 hS; exact stp_move rfl (hS.op rfl)))
          (apply drawG_yes rfl rfl rfl; (intro S1 hS; exact stp_fieldAddr (d := 0) rfl (hS.op rfl) (hS.ch _ _ rfl) (by as_aux_lemma => kernel_rfl)))
          (apply drawG_yes rfl rfl rfl; (intro S1 hS; exact stp_loadF rfl (by as_aux_lemma => kernel_rfl) (hS.op rfl) (hS.ch _ _ rfl) rfl rfl))
          (apply drawG_yes rfl rfl rfl; (intro S1 hS; exact stp_move rfl (hS.op rfl)))
          (apply drawG_yes rfl rfl rfl; (intro S1 hS; exact stp_ix (j := i) rfl (hS.op rfl) (hS.op rfl) (hS.ch _ _ rfl) rfl (by as_aux_lemma => kernel_rfl) rfl hiz (Nat.le_of_eq hlen.symm)))
          (apply drawG_yes rfl rfl rfl; (intro S1 hS; exact stp_loadR rfl (by as_aux_lemma => kernel_rfl) (hS.op rfl) (hS.ch _ _ rfl) rfl hrowi hilm))
          (apply drawG_yes rfl rfl rfl; (intro S1 hS; apply call_gate 175; exact stp_callR hP (by as_aux_lemma => kernel_rfl) rfl (opL_le hS rfl) ⟨rfl, trivial⟩ (allIn_le hS ⟨⟨_, rfl, .inl rfl⟩, trivial⟩) rfl rfl))
          (apply drawG_yes rfl rfl rfl; (intro S1 hS; exact stp_not rfl (hS.op rfl)))
          (apply drawG_put rfl; (intro S1 hS; exact stp_pickF rfl (hS.op rfl) (hS.op rfl)))
          (apply drawG_put rfl; (intro S1 hS; exact stp_move rfl (hS.op rfl)))
          apply drawG_no rfl rfl rfl rfl rfl
          apply drawG_no rfl rfl rfl rfl rfl
          apply drawG_no rfl rfl rfl rfl rfl
          apply drawG_no rfl rfl rfl rfl rfl
          apply drawG_no rfl rfl rfl rfl rfl
          apply drawG_no rfl rfl rfl rfl rfl
          apply drawG_no rfl rfl rfl rfl rfl
          (apply drawG_put rfl; (intro S1 hS; exact stp_pickT rfl (hS.op rfl) (hS.op rfl)))
          exact DrawG.nil
        · rfl
        ((refine rest_done (by as_aux_lemma => kernel_rfl) ?_; skip))
        (refine fin_seq ?_)
        refine goes_cond rfl (fun _ => ?_) (fun e => by cases e)
        rw [manB_no (fun h => by have := h.perm i hiz; rw [hp] at this; cases this)]
        (refine goes_seq ?_; refine goes_region ?_; apply run_step rfl; (exact stp_assign rfl rfl); refine run_nil ?_; refine fin_seq ?_; refine goes_ret ?_; refine fin_ret_block ?_; refine fin_ret_then ?_; refine fin_ret_then ?_; refine fin_ret_block ?_; refine fin_ret_then ?_)
        exact fin_ret1 (.inl rfl) rfl (.tmp rfl) trivial trivial
      | true =>
        rw [hp] at hP
        have hF := freeS_fc zss i hiz hli hp
        rw [hm] at hF
        apply goes_drawG 30 [] [[], [0], [], [0, 1, 2], [0, 1, 2, 3], [0, 1, 2, 3, 4], [], [6], [6, 7], [6, 7, 8], [6, 7, 8, 9], [0, 1, 2, 3, 4, 5, 6, 7, 8, 9, 10], [0, 1, 2, 3, 4, 5, 6, 7, 8, 9, 10, 11], [0, 1, 2, 3, 4, 5, 6, 7, 8, 9, 10, 11, 12], [0, 1, 2, 3, 4, 5, 6, 7, 8, 9, 10, 11, 12, 13], [0, 1, 2, 3, 4, 5, 6, 7, 8, 9, 10, 11, 12], [0, 1, 2, 3, 4, 5, 6, 7, 8, 9, 10, 11, 12, 13, 14, 15], [0, 1, 2, 3, 4, 5, 6, 7, 8, 9, 10, 11, 12, 13, 14, 15, 16], [0, 1, 2, 3, 4, 5, 6, 7, 8, 9, 10, 11, 12, 13, 14, 15, 16, 17], [0, 1, 2, 3, 4, 5, 6, 7, 8, 9, 10, 11, 12, 13, 14, 15, 16, 17, 18], [0, 1, 2, 3, 4, 5, 6, 7, 8, 9, 10, 11, 12, 13, 14, 15, 16, 17, 18, 19], [0, 1, 2, 3, 4, 5, 6, 7, 8, 9, 10, 11, 12, 13, 14, 15, 16, 17, 18, 19, 20], [0, 1, 2, 3, 4, 5, 6, 7, 8, 9, 10, 11, 12, 13, 14, 15, 16, 17, 18, 19, 20, 21], [0, 1, 2, 3, 4, 5, 6, 7, 8, 9, 10, 11, 12, 13, 14, 15, 16, 17, 18, 19, 20, 21, 22], [0, 1, 2, 3, 4, 5, 6, 7, 8, 9, 10, 11, 12, 13, 14, 15, 16, 17, 18, 19, 20, 21], [0, 1, 2, 3, 4, 5, 6, 7, 8, 9, 10, 11, 12, 13, 14, 15, 16, 17, 18, 19, 20, 21, 22, 23, 24], [0, 1, 2, 3, 4, 5, 6, 7, 8, 9, 10, 11, 12, 13, 14, 15, 16, 17, 18, 19, 20, 21, 22, 23, 24, 25], [0, 1, 2, 3, 4, 5, 6, 7, 8, 9, 10, 11, 12, 13, 14, 15, 16, 17, 18, 19, 20, 21, 22, 23, 24, 25, 26], [0, 1, 2, 3, 4, 5, 6, 7, 8, 9, 10, 11, 12, 13, 14, 15, 16, 17, 18, 19, 20, 21, 22, 23, 24, 25, 26, 27], [0, 1, 2, 3, 4, 5, 6, 7, 8, 9, 10, 11, 12, 13, 14, 15, 16, 17, 18, 19, 20, 21, 22, 23, 24, 25, 26, 27, 28]] [38, 39, 40, 41, 42, 43, 44, 45, 46, 47, 48, 49, 50, 51, 52, 53, 54, 55, 56, 57, 58, 59, 60, 61, 62, 63, 64, 65, 66, 67] [] (by kernel_rfl) (by kernel_rfl)
        · (apply drawG_put rfl; (intro S1 hS; exact stp_fieldAddr (d := 0) rfl (hS.op rfl) (hS.ch _ _ rfl) (by as_aux_lemma => kernel_rfl)))
          (apply drawG_put rfl; (intro S1 hS; exact stp_loadF rfl (by as_aux_lemma => kernel_rfl) (hS.op rfl) (hS.ch _ _ rfl) rfl rfl))
          (apply drawG_put rfl; (intro S1 hS; exact stp_move rfl (hS.op rfl)))
          (apply drawG_put rfl; (intro S1 hS; exact stp_ix (j := i) rfl (hS.op rfl) (hS.op rfl) (hS.ch _ _ rfl) rfl (by as_aux_lemma => kernel_rfl) rfl hiz (Nat.le_of_eq hlen.symm)))
          (apply drawG_put rfl; (intro S1 hS; exact stp_loadR rfl (by as_aux_lemma => kernel_rfl) (hS.op rfl) (hS.ch _ _ rfl) rfl hrowi hilm))
          (apply drawG_put rfl; (intro S1 hS; exact stp_len rfl (hS.op rfl) rfl (by as_aux_lemma => kernel_rfl)))
          (apply drawG_put rfl; (intro S1 hS; exact stp_fieldAddr (d := 0) rfl (hS.op rfl) (hS.ch _ _ rfl) (by as_aux_lemma => kernel_rfl)))
          (apply drawG_put rfl; (intro S1 hS; exact stp_loadF rfl (by as_aux_lemma => kernel_rfl) (hS.op rfl) (hS.ch _ _ rfl) rfl rfl))
          (apply drawG_put rfl; (intro S1 hS; exact stp_ix (j := 0) rfl (hS.op rfl) (hS.op rfl) (hS.ch _ _ rfl) rfl (by as_aux_lemma => kernel_rfl) rfl hpos (Nat.le_of_eq hlen.symm)))
          (apply drawG_put rfl; (intro S1 hS; exact stp_loadR rfl (by as_aux_lemma => kernel_rfl) (hS.op rfl) (hS.ch _ _ rfl) rfl hrow0 hil))
          (apply drawG_put rfl; (intro S1 hS; exact stp_len rfl (hS.op rfl) rfl (by as_aux_lemma => kernel_rfl)))
          (apply drawG_put rfl; (intro S1 hS; exact stp_bin rfl (hS.op rfl) (hS.op rfl) (binNeq' e1)))
          (apply drawG_put rfl; (intro S1 hS; exact stp_move rfl (hS.op rfl)))
          (apply drawG_yes rfl rfl rfl; (intro S1 hS; exact stp_fieldAddr (d := 0) rfl (hS.op rfl) (hS.ch _ _ rfl) (by as_aux_lemma => kernel_rfl)))
          (apply drawG_yes rfl rfl rfl; (intro S1 hS; exact stp_loadF rfl (by as_aux_lemma => kernel_rfl) (hS.op rfl) (hS.ch _ _ rfl) rfl rfl))
          (apply drawG_yes rfl rfl rfl; (intro S1 hS; exact stp_move rfl (hS.op rfl)))
          (apply drawG_yes rfl rfl rfl; (intro S1 hS; exact stp_ix (j := i) rfl (hS.op rfl) (hS.op rfl) (hS.ch _ _ rfl) rfl (by as_aux_lemma => kernel_rfl) rfl hiz (Nat.le_of_eq hlen.symm)))
          (apply drawG_yes rfl rfl rfl; (intro S1 hS; exact stp_loadR rfl (by as_aux_lemma => kernel_rfl) (hS.op rfl) (hS.ch _ _ rfl) rfl hrowi hilm))
          (apply drawG_yes rfl rfl rfl; (intro S1 hS; apply call_gate 175; exact stp_callR hP (by as_aux_lemma => kernel_rfl) rfl (opL_le hS rfl) ⟨rfl, trivial⟩ (allIn_le hS ⟨⟨_, rfl, .inl rfl⟩, trivial⟩) rfl rfl))
          (apply drawG_yes rfl rfl rfl; (intro S1 hS; exact stp_not rfl (hS.op rfl)))
          (apply drawG_put rfl; (intro S1 hS; exact stp_pickF rfl (hS.op rfl) (hS.op rfl)))
          (apply drawG_put rfl; (intro S1 hS; exact stp_move rfl (hS.op rfl)))
          (apply drawG_yes rfl rfl rfl; (intro S1 hS; exact stp_fieldAddr (d := 0) rfl (hS.op rfl) (hS.ch _ _ rfl) (by as_aux_lemma => kernel_rfl)))
          (apply drawG_yes rfl rfl rfl; (intro S1 hS; exact stp_loadF rfl (by as_aux_lemma => kernel_rfl) (hS.op rfl) (hS.ch _ _ rfl) rfl rfl))
          (apply drawG_yes rfl rfl rfl; (intro S1 hS; exact stp_move rfl (hS.op rfl)))
          (apply drawG_yes rfl rfl rfl; (intro S1 hS; exact stp_ix (j := i) rfl (hS.op rfl) (hS.op rfl) (hS.ch _ _ rfl) rfl (by as_aux_lemma => kernel_rfl) rfl hiz (Nat.le_of_eq hlen.symm)))
          (apply drawG_yes rfl rfl rfl; (intro S1 hS; exact stp_loadR rfl (by as_aux_lemma => kernel_rfl) (hS.op rfl) (hS.ch _ _ rfl) rfl hrowi hilm))
          (apply drawG_yes rfl rfl rfl; (intro S1 hS; apply call_gate 176; exact stp_callR hF (by as_aux_lemma => kernel_rfl) rfl (opL_le hS rfl) ⟨rfl, trivial⟩ (allIn_le hS ⟨⟨_, rfl, .inl rfl⟩, trivial⟩) rfl rfl))
          (apply drawG_yes rfl rfl rfl; (intro S1 hS; exact stp_not rfl (hS.op rfl)))
          (apply drawG_put rfl; (intro S1 hS; exact stp_pickF rfl (hS.op rfl) (hS.op rfl)))
          exact DrawG.nil
        · rfl
        ((refine rest_done (by as_aux_lemma => kernel_rfl) ?_; skip))
        (refine fin_seq ?_)
        refine goes_cond rfl (fun hf => ?_) (fun hf => ?_)
        · have hf : isFreeL (lget zss i) = false := by simpa using hf
          rw [manB_no (fun h => by have := h.free i hiz; rw [hf] at this; cases this)]
          (refine goes_seq ?_; refine goes_region ?_; apply run_step rfl; (exact stp_assign rfl rfl); refine run_nil ?_; refine fin_seq ?_; refine goes_ret ?_; refine fin_ret_block ?_; refine fin_ret_then ?_; refine fin_ret_then ?_; refine fin_ret_block ?_; refine fin_ret_then ?_)
          exact fin_ret1 (.inl rfl) rfl (.tmp rfl) trivial trivial
        · have hf : isFreeL (lget zss i) = true := by simpa using hf
          (refine goes_skip ?_; refine fin_block ?_; refine fin_seq ?_; refine goes_region ?_; apply run_step rfl; (exact stp_move rfl rfl); apply run_step rfl; (exact stp_add rfl rfl rfl (by first | exact IntWalk.i64_in _ (by omega) | rfl)); apply run_step rfl; (exact stp_assign rfl rfl); refine run_nil ?_)
          exact fin_round (i + 1) ⟨hiz, fun j hj => by
            by_cases e : j = i
            · subst e; exact ⟨hm.trans e1', hp, hf⟩
            · exact hrows j (by omega)⟩ (by omega) (Wk.of ⟨rfl, rfl, rfl, trivial⟩ ⟨rfl, rfl, trivial⟩ trivial)
    · apply goes_drawG 30 [] [[], [0], [], [0, 1, 2], [0, 1, 2, 3], [0, 1, 2, 3, 4], [], [6], [6, 7], [6, 7, 8], [6, 7, 8, 9], [0, 1, 2, 3, 4, 5, 6, 7, 8, 9, 10], [0, 1, 2, 3, 4, 5, 6, 7, 8, 9, 10, 11], [0, 1, 2, 3, 4, 5, 6, 7, 8, 9, 10, 11, 12], [0, 1, 2, 3, 4, 5, 6, 7, 8, 9, 10, 11, 12, 13], [0, 1, 2, 3, 4, 5, 6, 7, 8, 9, 10, 11, 12], [0, 1, 2, 3, 4, 5, 6, 7, 8, 9, 10, 11, 12, 13, 14, 15], [0, 1, 2, 3, 4, 5, 6, 7, 8, 9, 10, 11, 12, 13, 14, 15, 16], [0, 1, 2, 3, 4, 5, 6, 7, 8, 9, 10, 11, 12, 13, 14, 15, 16, 17], [0, 1, 2, 3, 4, 5, 6, 7, 8, 9, 10, 11, 12, 13, 14, 15, 16, 17, 18], [0, 1, 2, 3, 4, 5, 6, 7, 8, 9, 10, 11, 12, 13, 14, 15, 16, 17, 18, 19], [0, 1, 2, 3, 4, 5, 6, 7, 8, 9, 10, 11, 12, 13, 14, 15, 16, 17, 18, 19, 20], [0, 1, 2, 3, 4, 5, 6, 7, 8, 9, 10, 11, 12, 13, 14, 15, 16, 17, 18, 19, 20, 21], [0, 1, 2, 3, 4, 5, 6, 7, 8, 9, 10, 11, 12, 13, 14, 15, 16, 17, 18, 19, 20, 21, 22], [0, 1, 2, 3, 4, 5, 6, 7, 8, 9, 10, 11, 12, 13, 14, 15, 16, 17, 18, 19, 20, 21], [0, 1, 2, 3, 4, 5, 6, 7, 8, 9, 10, 11, 12, 13, 14, 15, 16, 17, 18, 19, 20, 21, 22, 23, 24], [0, 1, 2, 3, 4, 5, 6, 7, 8, 9, 10, 11, 12, 13, 14, 15, 16, 17, 18, 19, 20, 21, 22, 23, 24, 25], [0, 1, 2, 3, 4, 5, 6, 7, 8, 9, 10, 11, 12, 13, 14, 15, 16, 17, 18, 19, 20, 21, 22, 23, 24, 25, 26], [0, 1, 2, 3, 4, 5, 6, 7, 8, 9, 10, 11, 12, 13, 14, 15, 16, 17, 18, 19, 20, 21, 22, 23, 24, 25, 26, 27], [0, 1, 2, 3, 4, 5, 6, 7, 8, 9, 10, 11, 12, 13, 14, 15, 16, 17, 18, 19, 20, 21, 22, 23, 24, 25, 26, 27, 28]] [38, 39, 40, 41, 42, 43, 44, 45, 46, 47, 48, 49, 50, 51, 52, 53, 54, 55, 56, 57, 58, 59, 60, 61, 62, 63, 64, 65, 66, 67] [] (by kernel_rfl) (by kernel_rfl)
      · (apply drawG_put rfl; (intro S1 hS; exact stp_fieldAddr (d := 0) rfl (hS.op rfl) (hS.ch _ _ rfl) (by as_aux_lemma => kernel_rfl)))
        (apply drawG_put rfl; (intro S1 hS; exact stp_loadF rfl (by as_aux_lemma => kernel_rfl) (hS.op rfl) (hS.ch _ _ rfl) rfl rfl))
        (apply drawG_put rfl; (intro S1 hS; exact stp_move rfl (hS.op rfl)))
        (apply drawG_put rfl; (intro S1 hS; exact stp_ix (j := i) rfl (hS.op rfl) (hS.op rfl) (hS.ch _ _ rfl) rfl (by as_aux_lemma => kernel_rfl) rfl hiz (Nat.le_of_eq hlen.symm)))
        (apply drawG_put rfl; (intro S1 hS; exact stp_loadR rfl (by as_aux_lemma => kernel_rfl) (hS.op rfl) (hS.ch _ _ rfl) rfl hrowi hilm))
        (apply drawG_put rfl; (intro S1 hS; exact stp_len rfl (hS.op rfl) rfl (by as_aux_lemma => kernel_rfl)))
        (apply drawG_put rfl; (intro S1 hS; exact stp_fieldAddr (d := 0) rfl (hS.op rfl) (hS.ch _ _ rfl) (by as_aux_lemma => kernel_rfl)))
        (apply drawG_put rfl; (intro S1 hS; exact stp_loadF rfl (by as_aux_lemma => kernel_rfl) (hS.op rfl) (hS.ch _ _ rfl) rfl rfl))
        (apply drawG_put rfl; (intro S1 hS; exact stp_ix (j := 0) rfl (hS.op rfl) (hS.op rfl) (hS.ch _ _ rfl) rfl (by as_aux_lemma => kernel_rfl) rfl hpos (Nat.le_of_eq hlen.symm)))
        (apply drawG_put rfl; (intro S1 hS; exact stp_loadR rfl (by as_aux_lemma => kernel_rfl) (hS.op rfl) (hS.ch _ _ rfl) rfl hrow0 hil))
        (apply drawG_put rfl; (intro S1 hS; exact stp_len rfl (hS.op rfl) rfl (by as_aux_lemma => kernel_rfl)))
        (apply drawG_put rfl; (intro S1 hS; exact stp_bin rfl (hS.op rfl) (hS.op rfl) (binNeq e1)))
        (apply drawG_put rfl; (intro S1 hS; exact stp_move rfl (hS.op rfl)))
        apply drawG_no rfl rfl rfl rfl rfl
        apply drawG_no rfl rfl rfl rfl rfl
        apply drawG_no rfl rfl rfl rfl rfl
        apply drawG_no rfl rfl rfl rfl rfl
        apply drawG_no rfl rfl rfl rfl rfl
        apply drawG_no rfl rfl rfl rfl rfl
        apply drawG_no rfl rfl rfl rfl rfl
        (apply drawG_put rfl; (intro S1 hS; exact stp_pickT rfl (hS.op rfl) (hS.op rfl)))
        (apply drawG_put rfl; (intro S1 hS; exact stp_move rfl (hS.op rfl)))
        apply drawG_no rfl rfl rfl rfl rfl
        apply drawG_no rfl rfl rfl rfl rfl
        apply drawG_no rfl rfl rfl rfl rfl
        apply drawG_no rfl rfl rfl rfl rfl
        apply drawG_no rfl rfl rfl rfl rfl
        apply drawG_no rfl rfl rfl rfl rfl
        apply drawG_no rfl rfl rfl rfl rfl
        (apply drawG_put rfl; (intro S1 hS; exact stp_pickT rfl (hS.op rfl) (hS.op rfl)))
        exact DrawG.nil
      · rfl
      ((refine rest_done (by as_aux_lemma => kernel_rfl) ?_; skip))
      (refine fin_seq ?_)
      refine goes_cond rfl (fun _ => ?_) (fun e => by cases e)
      rw [manB_no (fun h => by have := h.len i hiz; omega)]
      (refine goes_seq ?_; refine goes_region ?_; apply run_step rfl; (exact stp_assign rfl rfl); refine run_nil ?_; refine fin_seq ?_; refine goes_ret ?_; refine fin_ret_block ?_; refine fin_ret_then ?_; refine fin_ret_then ?_; refine fin_ret_block ?_; refine fin_ret_then ?_)
      exact fin_ret1 (.inl rfl) rfl (.tmp rfl) trivial trivial
  obtain rfl : i = zss.length := by omega
  have hrn : Rows zss n zss.length := hrows
  have hT := rows_leads hrn
  have hB := rows_back hrn
  (refine goes_exit ?_; refine fin_exit_then ?_; refine fin_exit_then ?_; refine fin_exit_eq ?_; refine fin_seq ?_; refine goes_seq ?_; refine goes_seq ?_; refine goes_region ?_; apply run_step rfl; (exact stp_assign rfl rfl); refine run_nil ?_; refine fin_seq ?_; refine goes_block ?_)
  refine goes_loop (fun i : Nat => St.of [(1, o1 (.ptr 1 0)), (3, vv (I6 zss.length)), (5, vv (I6 i))] [(1003, rowsRo zss), (1, mxB zss.length)]) (fun i => i ≤ zss.length ∧ ∀ i' k, i' < i → i' + 2 ≤ k → k < zss.length → ∀ f, f < n → commAt zss i' k f) (fun i => zss.length - i) 0 ⟨Nat.zero_le _, fun j k hj => absurd hj (by omega)⟩ (Wk.of ⟨rfl, rfl, rfl, trivial⟩ ⟨rfl, rfl, trivial⟩ trivial) ?_
  clear hi hrows hlt
  rintro i ⟨hi, hci⟩
  (refine goes_seq ?_; refine goes_seq ?_; refine goes_region ?_; apply run_step rfl; (exact stp_move rfl rfl); apply run_step rfl; (exact stp_move rfl rfl); apply run_step rfl; (exact stp_bin rfl rfl rfl rfl); refine run_nil ?_; refine fin_seq ?_)
  refine goes_if rfl (fun hlt => ?_) (fun hlt => ?_)
  · have hiz : i < zss.length := by omega
    have hrowi : (irows zss)[i]? = some (ivals (lget zss i)) := irows_get hiz
    have hilm : (ivals (lget zss i)).length = n := by rw [ivals_len]; exact (hrn i hiz).1
    have hi2 : ((i : Int) + 2) = ((i + 2 : Nat) : Int) := by omega
    (refine goes_skip ?_; refine fin_seq ?_; refine goes_seq ?_; refine goes_block ?_; refine goes_seq ?_; refine goes_region ?_; apply run_step rfl; (exact stp_move rfl rfl); apply run_step rfl; (exact stp_add rfl rfl rfl (by first | exact IntWalk.i64_in _ (by omega) | rfl)); apply run_step rfl; (exact stp_assign rfl rfl); refine run_nil ?_; refine fin_seq ?_; refine goes_block ?_)
    refine goes_loop (fun k : Nat => St.of [(1, o1 (.ptr 1 0)), (3, vv (I6 zss.length)), (5, vv (I6 i)), (6, vv (I6 k))] [(1003, rowsRo zss), (1, mxB zss.length)]) (fun k => i + 2 ≤ k ∧ ∀ k', i + 2 ≤ k' → k' < k → k' < zss.length → ∀ f, f < n → commAt zss i k' f) (fun k => zss.length + 2 - k) (i + 2) ⟨Nat.le_refl _, fun k' h1 h2 => absurd h1 (by omega)⟩ (Wk.of ⟨rfl, rfl, rfl, congrArg (fun z => some (vv (I6 z))) hi2, trivial⟩ ⟨rfl, rfl, trivial⟩ trivial) ?_
    rintro k ⟨hk, hck⟩
    (refine goes_seq ?_; refine goes_seq ?_; refine goes_region ?_; apply run_step rfl; (exact stp_move rfl rfl); apply run_step rfl; (exact stp_move rfl rfl); apply run_step rfl; (exact stp_bin rfl rfl rfl rfl); refine run_nil ?_; refine fin_seq ?_)
    refine goes_if rfl (fun hlk => ?_) (fun hlk => ?_)
    · have hkz : k < zss.length := by omega
      have hrowk : (irows zss)[k]? = some (ivals (lget zss k)) := irows_get hkz
      have hilk : (ivals (lget zss k)).length = n := by rw [ivals_len]; exact (hrn k hkz).1
      (refine goes_skip ?_; refine fin_seq ?_; refine goes_seq ?_; refine goes_block ?_; refine goes_seq ?_; refine goes_region ?_; apply run_step rfl; (exact stp_assign rfl rfl); refine run_nil ?_; refine fin_seq ?_; refine goes_block ?_)
      refine goes_loop (fun f : Nat => St.of [(1, o1 (.ptr 1 0)), (3, vv (I6 zss.length)), (5, vv (I6 i)), (6, vv (I6 k)), (7, vv (I6 f))] [(1003, rowsRo zss), (1, mxB zss.length)]) (fun f => f ≤ n ∧ ∀ f', f' < f → commAt zss i k f') (fun f => n - f) 0 ⟨Nat.zero_le _, fun f' h1 => absurd h1 (by omega)⟩ (Wk.of ⟨rfl, rfl, rfl, rfl, rfl, trivial⟩ ⟨rfl, rfl, trivial⟩ trivial) ?_
      rintro f ⟨hf, hcf⟩
      (refine goes_seq ?_; refine goes_seq ?_; refine goes_region ?_; apply run_step rfl; (exact stp_move rfl rfl); apply run_step rfl; (exact stp_fieldAddr (d := 0) rfl rfl rfl (by as_aux_lemma => kernel_rfl)); apply run_step rfl; (exact stp_loadF rfl (by as_aux_lemma => kernel_rfl) rfl rfl rfl rfl); apply run_step rfl; (first | exact stp_ix (j := 0) rfl rfl rfl rfl rfl (by as_aux_lemma => kernel_rfl) rfl hpos (Nat.le_of_eq hlen.symm) | exact stp_loadR rfl (by as_aux_lemma => kernel_rfl) rfl rfl rfl hrow0 hil); apply run_step rfl; (first | exact stp_ix (j := 0) rfl rfl rfl rfl rfl (by as_aux_lemma => kernel_rfl) rfl hpos (Nat.le_of_eq hlen.symm) | exact stp_loadR rfl (by as_aux_lemma => kernel_rfl) rfl rfl rfl hrow0 hil); apply run_step rfl; (exact stp_len rfl rfl rfl (by as_aux_lemma => kernel_rfl)); apply run_step rfl; (exact stp_bin rfl rfl rfl rfl); refine run_nil ?_; refine fin_seq ?_)
      refine goes_if rfl (fun hlf => ?_) (fun hlf => ?_)
      · have hfn : f < n := by omega
        have hd1 := bTo_lt hT hfn (g := i) hiz
        have hd2 := bTo_lt hT hfn (g := k) hkz
        have hx1 := bTo_lt hT hd1.1 (g := k) hkz
        have hx2 := bTo_lt hT hd2.1 (g := i) hiz
        have hcm : commAt zss i k f ↔ bTo zss (bTo zss f i) k = bTo zss (bTo zss f k) i ∧ bTo zss f i ≠ bTo zss f k := Iff.rfl
        generalize bTo zss (bTo zss f i) k = x1 at *
        generalize bTo zss (bTo zss f k) i = x2 at *
        generalize bTo zss f i = d1 at *
        generalize bTo zss f k = d2 at *
        have g1 : (ivals (lget zss i))[f]? = some (I6 (d1 : Int)) := by rw [ivals_get (by rw [(hrn i hiz).1]; exact hfn), hd1.2]
        have g2 : (ivals (lget zss k))[f]? = some (I6 (d2 : Int)) := by rw [ivals_get (by rw [(hrn k hkz).1]; exact hfn), hd2.2]
        have g3 : (ivals (lget zss k))[d1]? = some (I6 (x1 : Int)) := by rw [ivals_get (by rw [(hrn k hkz).1]; exact hd1.1), hx1.2]
        have g4 : (ivals (lget zss i))[d2]? = some (I6 (x2 : Int)) := by rw [ivals_get (by rw [(hrn i hiz).1]; exact hd2.1), hx2.2]
        have hni : n ≤ (ivals (lget zss i)).length := Nat.le_of_eq hilm.symm
        have hnk : n ≤ (ivals (lget zss k)).length := Nat.le_of_eq hilk.symm
        (refine goes_skip ?_; refine fin_seq ?_; refine goes_seq ?_; refine goes_block ?_; refine goes_seq ?_)
        by_cases e1 : (x1 : Int) = x2
        · apply goes_drawG 50 [] [[], [0], [], [0, 1, 2], [0, 1, 2, 3], [], [5], [], [5, 6, 7], [5, 6, 7, 8], [], [5, 6, 7, 8, 9, 10], [5, 6, 7, 8, 9, 10, 11], [0, 1, 2, 3, 4, 5, 6, 7, 8, 9, 10, 11, 12], [0, 1, 2, 3, 4, 5, 6, 7, 8, 9, 10, 11, 12, 13], [], [15], [], [15, 16, 17], [15, 16, 17, 18], [], [20], [], [20, 21, 22], [20, 21, 22, 23], [], [20, 21, 22, 23, 24, 25], [20, 21, 22, 23, 24, 25, 26], [15, 16, 17, 18, 19, 20, 21, 22, 23, 24, 25, 26, 27], [15, 16, 17, 18, 19, 20, 21, 22, 23, 24, 25, 26, 27, 28], [0, 1, 2, 3, 4, 5, 6, 7, 8, 9, 10, 11, 12, 13, 14, 15, 16, 17, 18, 19, 20, 21, 22, 23, 24, 25, 26, 27, 28, 29], [0, 1, 2, 3, 4, 5, 6, 7, 8, 9, 10, 11, 12, 13, 14, 15, 16, 17, 18, 19, 20, 21, 22, 23, 24, 25, 26, 27, 28, 29, 30], [0, 1, 2, 3, 4, 5, 6, 7, 8, 9, 10, 11, 12, 13, 14, 15, 16, 17, 18, 19, 20, 21, 22, 23, 24, 25, 26, 27, 28, 29, 30, 31], [0, 1, 2, 3, 4, 5, 6, 7, 8, 9, 10, 11, 12, 13, 14, 15, 16, 17, 18, 19, 20, 21, 22, 23, 24, 25, 26, 27, 28, 29, 30, 31, 32], [0, 1, 2, 3, 4, 5, 6, 7, 8, 9, 10, 11, 12, 13, 14, 15, 16, 17, 18, 19, 20, 21, 22, 23, 24, 25, 26, 27, 28, 29, 30, 31], [0, 1, 2, 3, 4, 5, 6, 7, 8, 9, 10, 11, 12, 13, 14, 15, 16, 17, 18, 19, 20, 21, 22, 23, 24, 25, 26, 27, 28, 29, 30, 31, 32, 33, 34], [0, 1, 2, 3, 4, 5, 6, 7, 8, 9, 10, 11, 12, 13, 14, 15, 16, 17, 18, 19, 20, 21, 22, 23, 24, 25, 26, 27, 28, 29, 30, 31, 32, 33, 34, 35], [0, 1, 2, 3, 4, 5, 6, 7, 8, 9, 10, 11, 12, 13, 14, 15, 16, 17, 18, 19, 20, 21, 22, 23, 24, 25, 26, 27, 28, 29, 30, 31], [0, 1, 2, 3, 4, 5, 6, 7, 8, 9, 10, 11, 12, 13, 14, 15, 16, 17, 18, 19, 20, 21, 22, 23, 24, 25, 26, 27, 28, 29, 30, 31, 32, 33, 34, 35, 36, 37], [0, 1, 2, 3, 4, 5, 6, 7, 8, 9, 10, 11, 12, 13, 14, 15, 16, 17, 18, 19, 20, 21, 22, 23, 24, 25, 26, 27, 28, 29, 30, 31, 32, 33, 34, 35, 36, 37, 38], [0, 1, 2, 3, 4, 5, 6, 7, 8, 9, 10, 11, 12, 13, 14, 15, 16, 17, 18, 19, 20, 21, 22, 23, 24, 25, 26, 27, 28, 29, 30, 31], [0, 1, 2, 3, 4, 5, 6, 7, 8, 9, 10, 11, 12, 13, 14, 15, 16, 17, 18, 19, 20, 21, 22, 23, 24, 25, 26, 27, 28, 29, 30, 31, 40], [0, 1, 2, 3, 4, 5, 6, 7, 8, 9, 10, 11, 12, 13, 14, 15, 16, 17, 18, 19, 20, 21, 22, 23, 24, 25, 26, 27, 28, 29, 30, 31], [0, 1, 2, 3, 4, 5, 6, 7, 8, 9, 10, 11, 12, 13, 14, 15, 16, 17, 18, 19, 20, 21, 22, 23, 24, 25, 26, 27, 28, 29, 30, 31, 40, 41, 42], [0, 1, 2, 3, 4, 5, 6, 7, 8, 9, 10, 11, 12, 13, 14, 15, 16, 17, 18, 19, 20, 21, 22, 23, 24, 25, 26, 27, 28, 29, 30, 31, 40, 41, 42, 43], [0, 1, 2, 3, 4, 5, 6, 7, 8, 9, 10, 11, 12, 13, 14, 15, 16, 17, 18, 19, 20, 21, 22, 23, 24, 25, 26, 27, 28, 29, 30, 31], [0, 1, 2, 3, 4, 5, 6, 7, 8, 9, 10, 11, 12, 13, 14, 15, 16, 17, 18, 19, 20, 21, 22, 23, 24, 25, 26, 27, 28, 29, 30, 31, 40, 41, 42, 43, 44, 45], [0, 1, 2, 3, 4, 5, 6, 7, 8, 9, 10, 11, 12, 13, 14, 15, 16, 17, 18, 19, 20, 21, 22, 23, 24, 25, 26, 27, 28, 29, 30, 31, 40, 41, 42, 43, 44, 45, 46], [0, 1, 2, 3, 4, 5, 6, 7, 8, 9, 10, 11, 12, 13, 14, 15, 16, 17, 18, 19, 20, 21, 22, 23, 24, 25, 26, 27, 28, 29, 30, 31, 32, 33, 34, 35, 36, 37, 38, 39, 40, 41, 42, 43, 44, 45, 46, 47], [0, 1, 2, 3, 4, 5, 6, 7, 8, 9, 10, 11, 12, 13, 14, 15, 16, 17, 18, 19, 20, 21, 22, 23, 24, 25, 26, 27, 28, 29, 30, 31, 32, 33, 34, 35, 36, 37, 38, 39, 40, 41, 42, 43, 44, 45, 46, 47, 48]] [89, 90, 91, 92, 93, 94, 95, 96, 97, 98, 99, 100, 101, 102, 103, 104, 105, 106, 107, 108, 109, 110, 111, 112, 113, 114, 115, 116, 117, 118, 119, 120, 121, 122, 123, 124, 125, 126, 127, 128, 129, 130, 131, 132, 133, 134, 135, 136, 137, 138] [] (by kernel_rfl) (by kernel_rfl)
          · (apply drawG_put rfl; (intro S1 hS; exact stp_fieldAddr (d := 0) rfl (hS.op rfl) (hS.ch _ _ rfl) (by as_aux_lemma => kernel_rfl)))
            (apply drawG_put rfl; (intro S1 hS; exact stp_loadF rfl (by as_aux_lemma => kernel_rfl) (hS.op rfl) (hS.ch _ _ rfl) rfl rfl))
            (apply drawG_put rfl; (intro S1 hS; exact stp_move rfl (hS.op rfl)))
            (apply drawG_put rfl; (intro S1 hS; exact stp_ix (j := k) rfl (hS.op rfl) (hS.op rfl) (hS.ch _ _ rfl) rfl (by as_aux_lemma => kernel_rfl) rfl hkz (Nat.le_of_eq hlen.symm)))
            (apply drawG_put rfl; (intro S1 hS; exact stp_loadR rfl (by as_aux_lemma => kernel_rfl) (hS.op rfl) (hS.ch _ _ rfl) rfl hrowk hilk))
            (apply drawG_put rfl; (intro S1 hS; exact stp_fieldAddr (d := 0) rfl (hS.op rfl) (hS.ch _ _ rfl) (by as_aux_lemma => kernel_rfl)))
            (apply drawG_put rfl; (intro S1 hS; exact stp_loadF rfl (by as_aux_lemma => kernel_rfl) (hS.op rfl) (hS.ch _ _ rfl) rfl rfl))
            (apply drawG_put rfl; (intro S1 hS; exact stp_move rfl (hS.op rfl)))
            (apply drawG_put rfl; (intro S1 hS; exact stp_ix (j := i) rfl (hS.op rfl) (hS.op rfl) (hS.ch _ _ rfl) rfl (by as_aux_lemma => kernel_rfl) rfl hiz (Nat.le_of_eq hlen.symm)))
            (apply drawG_put rfl; (intro S1 hS; exact stp_loadR rfl (by as_aux_lemma => kernel_rfl) (hS.op rfl) (hS.ch _ _ rfl) rfl hrowi hilm))
            (apply drawG_put rfl; (intro S1 hS; exact stp_move rfl (hS.op rfl)))
            (apply drawG_put rfl; (intro S1 hS; exact stp_ixE (j := f) rfl (hS.op rfl) (hS.op rfl) (hS.ch _ _ rfl) rfl (by as_aux_lemma => kernel_rfl) hrowi rfl hfn hni))
            (apply drawG_put rfl; (intro S1 hS; exact stp_loadE' rfl (by as_aux_lemma => kernel_rfl) (hS.op rfl) (hS.ch _ _ rfl) rfl hrowi g1))
            (apply drawG_put rfl; (intro S1 hS; exact stp_ixE (j := d1) rfl (hS.op rfl) (hS.op rfl) (hS.ch _ _ rfl) rfl (by as_aux_lemma => kernel_rfl) hrowk rfl hd1.1 hnk))
            (apply drawG_put rfl; (intro S1 hS; exact stp_loadE' rfl (by as_aux_lemma => kernel_rfl) (hS.op rfl) (hS.ch _ _ rfl) rfl hrowk g3))
            (apply drawG_put rfl; (intro S1 hS; exact stp_fieldAddr (d := 0) rfl (hS.op rfl) (hS.ch _ _ rfl) (by as_aux_lemma => kernel_rfl)))
            (apply drawG_put rfl; (intro S1 hS; exact stp_loadF rfl (by as_aux_lemma => kernel_rfl) (hS.op rfl) (hS.ch _ _ rfl) rfl rfl))
            (apply drawG_put rfl; (intro S1 hS; exact stp_move rfl (hS.op rfl)))
            (apply drawG_put rfl; (intro S1 hS; exact stp_ix (j := i) rfl (hS.op rfl) (hS.op rfl) (hS.ch _ _ rfl) rfl (by as_aux_lemma => kernel_rfl) rfl hiz (Nat.le_of_eq hlen.symm)))
            (apply drawG_put rfl; (intro S1 hS; exact stp_loadR rfl (by as_aux_lemma => kernel_rfl) (hS.op rfl) (hS.ch _ _ rfl) rfl hrowi hilm))
            (apply drawG_put rfl; (intro S1 hS; exact stp_fieldAddr (d := 0) rfl (hS.op rfl) (hS.ch _ _ rfl) (by as_aux_lemma => kernel_rfl)))
            (apply drawG_put rfl; (intro S1 hS; exact stp_loadF rfl (by as_aux_lemma => kernel_rfl) (hS.op rfl) (hS.ch _ _ rfl) rfl rfl))
            (apply drawG_put rfl; (intro S1 hS; exact stp_move rfl (hS.op rfl)))
            (apply drawG_put rfl; (intro S1 hS; exact stp_ix (j := k) rfl (hS.op rfl) (hS.op rfl) (hS.ch _ _ rfl) rfl (by as_aux_lemma => kernel_rfl) rfl hkz (Nat.le_of_eq hlen.symm)))
            (apply drawG_put rfl; (intro S1 hS; exact stp_loadR rfl (by as_aux_lemma => kernel_rfl) (hS.op rfl) (hS.ch _ _ rfl) rfl hrowk hilk))
            (apply drawG_put rfl; (intro S1 hS; exact stp_move rfl (hS.op rfl)))
            (apply drawG_put rfl; (intro S1 hS; exact stp_ixE (j := f) rfl (hS.op rfl) (hS.op rfl) (hS.ch _ _ rfl) rfl (by as_aux_lemma => kernel_rfl) hrowk rfl hfn hnk))
            (apply drawG_put rfl; (intro S1 hS; exact stp_loadE' rfl (by as_aux_lemma => kernel_rfl) (hS.op rfl) (hS.ch _ _ rfl) rfl hrowk g2))
            (apply drawG_put rfl; (intro S1 hS; exact stp_ixE (j := d2) rfl (hS.op rfl) (hS.op rfl) (hS.ch _ _ rfl) rfl (by as_aux_lemma => kernel_rfl) hrowi rfl hd2.1 hni))
            (apply drawG_put rfl; (intro S1 hS; exact stp_loadE' rfl (by as_aux_lemma => kernel_rfl) (hS.op rfl) (hS.ch _ _ rfl) rfl hrowi g4))
            (apply drawG_put rfl; (intro S1 hS; exact stp_bin rfl (hS.op rfl) (hS.op rfl) (binNeq' e1)))
            (apply drawG_put rfl; (intro S1 hS; exact stp_move rfl (hS.op rfl)))
            (apply drawG_yes rfl rfl rfl; (intro S1 hS; exact stp_fieldAddr (d := 0) rfl (hS.op rfl) (hS.ch _ _ rfl) (by as_aux_lemma => kernel_rfl)))
            (apply drawG_yes rfl rfl rfl; (intro S1 hS; exact stp_loadF rfl (by as_aux_lemma => kernel_rfl) (hS.op rfl) (hS.ch _ _ rfl) rfl rfl))
            (apply drawG_yes rfl rfl rfl; (intro S1 hS; exact stp_move rfl (hS.op rfl)))
            (apply drawG_yes rfl rfl rfl; (intro S1 hS; exact stp_ix (j := i) rfl (hS.op rfl) (hS.op rfl) (hS.ch _ _ rfl) rfl (by as_aux_lemma => kernel_rfl) rfl hiz (Nat.le_of_eq hlen.symm)))
            (apply drawG_yes rfl rfl rfl; (intro S1 hS; exact stp_loadR rfl (by as_aux_lemma => kernel_rfl) (hS.op rfl) (hS.ch _ _ rfl) rfl hrowi hilm))
            (apply drawG_yes rfl rfl rfl; (intro S1 hS; exact stp_move rfl (hS.op rfl)))
            (apply drawG_yes rfl rfl rfl; (intro S1 hS; exact stp_ixE (j := f) rfl (hS.op rfl) (hS.op rfl) (hS.ch _ _ rfl) rfl (by as_aux_lemma => kernel_rfl) hrowi rfl hfn hni))
            (apply drawG_yes rfl rfl rfl; (intro S1 hS; exact stp_loadE' rfl (by as_aux_lemma => kernel_rfl) (hS.op rfl) (hS.ch _ _ rfl) rfl hrowi g1))
            (apply drawG_yes rfl rfl rfl; (intro S1 hS; exact stp_fieldAddr (d := 0) rfl (hS.op rfl) (hS.ch _ _ rfl) (by as_aux_lemma => kernel_rfl)))
            (apply drawG_yes rfl rfl rfl; (intro S1 hS; exact stp_loadF rfl (by as_aux_lemma => kernel_rfl) (hS.op rfl) (hS.ch _ _ rfl) rfl rfl))
            (apply drawG_yes rfl rfl rfl; (intro S1 hS; exact stp_move rfl (hS.op rfl)))
            (apply drawG_yes rfl rfl rfl; (intro S1 hS; exact stp_ix (j := k) rfl (hS.op rfl) (hS.op rfl) (hS.ch _ _ rfl) rfl (by as_aux_lemma => kernel_rfl) rfl hkz (Nat.le_of_eq hlen.symm)))
            (apply drawG_yes rfl rfl rfl; (intro S1 hS; exact stp_loadR rfl (by as_aux_lemma => kernel_rfl) (hS.op rfl) (hS.ch _ _ rfl) rfl hrowk hilk))
            (apply drawG_yes rfl rfl rfl; (intro S1 hS; exact stp_move rfl (hS.op rfl)))
            (apply drawG_yes rfl rfl rfl; (intro S1 hS; exact stp_ixE (j := f) rfl (hS.op rfl) (hS.op rfl) (hS.ch _ _ rfl) rfl (by as_aux_lemma => kernel_rfl) hrowk rfl hfn hnk))
            (apply drawG_yes rfl rfl rfl; (intro S1 hS; exact stp_loadE' rfl (by as_aux_lemma => kernel_rfl) (hS.op rfl) (hS.ch _ _ rfl) rfl hrowk g2))
            (apply drawG_yes rfl rfl rfl; (intro S1 hS; exact stp_bin rfl (hS.op rfl) (hS.op rfl) rfl))
            (apply drawG_put rfl; (intro S1 hS; exact stp_pickF rfl (hS.op rfl) (hS.op rfl)))
            exact DrawG.nil
          · rfl
          ((refine rest_done (by as_aux_lemma => kernel_rfl) ?_; skip))
          (refine fin_seq ?_)
          refine goes_cond rfl (fun e2 => ?_) (fun e2 => ?_)
          · have e2 : (d1 : Int) = d2 := by simpa using e2
            rw [manB_no (fun h => by have := (hcm.1 (h.comm i k hk hkz f (by omega))).2; omega)]
            (refine goes_seq ?_; refine goes_region ?_; apply run_step rfl; (exact stp_assign rfl rfl); refine run_nil ?_; refine fin_seq ?_; refine goes_ret ?_; refine fin_ret_block ?_; refine fin_ret_then ?_; refine fin_ret_then ?_; refine fin_ret_block ?_; refine fin_ret_block ?_; refine fin_ret_then ?_; refine fin_ret_then ?_; refine fin_ret_block ?_; refine fin_ret_block ?_; refine fin_ret_then ?_; refine fin_ret_then ?_; refine fin_ret_block ?_; refine fin_ret_then ?_)
            exact fin_ret1 (.inl rfl) rfl (.tmp rfl) trivial trivial
          · have e2 : (d1 : Int) ≠ d2 := by simpa using e2
            (refine goes_skip ?_; refine fin_block ?_; refine fin_seq ?_; refine goes_region ?_; apply run_step rfl; (exact stp_move rfl rfl); apply run_step rfl; (exact stp_add rfl rfl rfl (by first | exact IntWalk.i64_in _ (by omega) | rfl)); apply run_step rfl; (exact stp_assign rfl rfl); refine run_nil ?_)
            exact fin_round (f + 1) ⟨hfn, fun f' hf' => by
              by_cases e : f' = f
              · subst e; exact hcm.2 ⟨by omega, by omega⟩
              · exact hcf f' (by omega)⟩ (by omega) (Wk.of ⟨rfl, rfl, rfl, rfl, rfl, trivial⟩ ⟨rfl, rfl, trivial⟩ trivial)
        · apply goes_drawG 50 [] [[], [0], [], [0, 1, 2], [0, 1, 2, 3], [], [5], [], [5, 6, 7], [5, 6, 7, 8], [], [5, 6, 7, 8, 9, 10], [5, 6, 7, 8, 9, 10, 11], [0, 1, 2, 3, 4, 5, 6, 7, 8, 9, 10, 11, 12], [0, 1, 2, 3, 4, 5, 6, 7, 8, 9, 10, 11, 12, 13], [], [15], [], [15, 16, 17], [15, 16, 17, 18], [], [20], [], [20, 21, 22], [20, 21, 22, 23], [], [20, 21, 22, 23, 24, 25], [20, 21, 22, 23, 24, 25, 26], [15, 16, 17, 18, 19, 20, 21, 22, 23, 24, 25, 26, 27], [15, 16, 17, 18, 19, 20, 21, 22, 23, 24, 25, 26, 27, 28], [0, 1, 2, 3, 4, 5, 6, 7, 8, 9, 10, 11, 12, 13, 14, 15, 16, 17, 18, 19, 20, 21, 22, 23, 24, 25, 26, 27, 28, 29], [0, 1, 2, 3, 4, 5, 6, 7, 8, 9, 10, 11, 12, 13, 14, 15, 16, 17, 18, 19, 20, 21, 22, 23, 24, 25, 26, 27, 28, 29, 30], [0, 1, 2, 3, 4, 5, 6, 7, 8, 9, 10, 11, 12, 13, 14, 15, 16, 17, 18, 19, 20, 21, 22, 23, 24, 25, 26, 27, 28, 29, 30, 31], [0, 1, 2, 3, 4, 5, 6, 7, 8, 9, 10, 11, 12, 13, 14, 15, 16, 17, 18, 19, 20, 21, 22, 23, 24, 25, 26, 27, 28, 29, 30, 31, 32], [0, 1, 2, 3, 4, 5, 6, 7, 8, 9, 10, 11, 12, 13, 14, 15, 16, 17, 18, 19, 20, 21, 22, 23, 24, 25, 26, 27, 28, 29, 30, 31], [0, 1, 2, 3, 4, 5, 6, 7, 8, 9, 10, 11, 12, 13, 14, 15, 16, 17, 18, 19, 20, 21, 22, 23, 24, 25, 26, 27, 28, 29, 30, 31, 32, 33, 34], [0, 1, 2, 3, 4, 5, 6, 7, 8, 9, 10, 11, 12, 13, 14, 15, 16, 17, 18, 19, 20, 21, 22, 23, 24, 25, 26, 27, 28, 29, 30, 31, 32, 33, 34, 35], [0, 1, 2, 3, 4, 5, 6, 7, 8, 9, 10, 11, 12, 13, 14, 15, 16, 17, 18, 19, 20, 21, 22, 23, 24, 25, 26, 27, 28, 29, 30, 31], [0, 1, 2, 3, 4, 5, 6, 7, 8, 9, 10, 11, 12, 13, 14, 15, 16, 17, 18, 19, 20, 21, 22, 23, 24, 25, 26, 27, 28, 29, 30, 31, 32, 33, 34, 35, 36, 37], [0, 1, 2, 3, 4, 5, 6, 7, 8, 9, 10, 11, 12, 13, 14, 15, 16, 17, 18, 19, 20, 21, 22, 23, 24, 25, 26, 27, 28, 29, 30, 31, 32, 33, 34, 35, 36, 37, 38], [0, 1, 2, 3, 4, 5, 6, 7, 8, 9, 10, 11, 12, 13, 14, 15, 16, 17, 18, 19, 20, 21, 22, 23, 24, 25, 26, 27, 28, 29, 30, 31], [0, 1, 2, 3, 4, 5, 6, 7, 8, 9, 10, 11, 12, 13, 14, 15, 16, 17, 18, 19, 20, 21, 22, 23, 24, 25, 26, 27, 28, 29, 30, 31, 40], [0, 1, 2, 3, 4, 5, 6, 7, 8, 9, 10, 11, 12, 13, 14, 15, 16, 17, 18, 19, 20, 21, 22, 23, 24, 25, 26, 27, 28, 29, 30, 31], [0, 1, 2, 3, 4, 5, 6, 7, 8, 9, 10, 11, 12, 13, 14, 15, 16, 17, 18, 19, 20, 21, 22, 23, 24, 25, 26, 27, 28, 29, 30, 31, 40, 41, 42], [0, 1, 2, 3, 4, 5, 6, 7, 8, 9, 10, 11, 12, 13, 14, 15, 16, 17, 18, 19, 20, 21, 22, 23, 24, 25, 26, 27, 28, 29, 30, 31, 40, 41, 42, 43], [0, 1, 2, 3, 4, 5, 6, 7, 8, 9, 10, 11, 12, 13, 14, 15, 16, 17, 18, 19, 20, 21, 22, 23, 24, 25, 26, 27, 28, 29, 30, 31], [0, 1, 2, 3, 4, 5, 6, 7, 8, 9, 10, 11, 12, 13, 14, 15, 16, 17, 18, 19, 20, 21, 22, 23, 24, 25, 26, 27, 28, 29, 30, 31, 40, 41, 42, 43, 44, 45], [0, 1, 2, 3, 4, 5, 6, 7, 8, 9, 10, 11, 12, 13, 14, 15, 16, 17, 18, 19, 20, 21, 22, 23, 24, 25, 26, 27, 28, 29, 30, 31, 40, 41, 42, 43, 44, 45, 46], [0, 1, 2, 3, 4, 5, 6, 7, 8, 9, 10, 11, 12, 13, 14, 15, 16, 17, 18, 19, 20, 21, 22, 23, 24, 25, 26, 27, 28, 29, 30, 31, 32, 33, 34, 35, 36, 37, 38, 39, 40, 41, 42, 43, 44, 45, 46, 47], [0, 1, 2, 3, 4, 5, 6, 7, 8, 9, 10, 11, 12, 13, 14, 15, 16, 17, 18, 19, 20, 21, 22, 23, 24, 25, 26, 27, 28, 29, 30, 31, 32, 33, 34, 35, 36, 37, 38, 39, 40, 41, 42, 43, 44, 45, 46, 47, 48]] [89, 90, 91, 92, 93, 94, 95, 96, 97, 98, 99, 100, 101, 102, 103, 104, 105, 106, 107, 108, 109, 110, 111, 112, 113, 114, 115, 116, 117, 118, 119, 120, 121, 122, 123, 124, 125, 126, 127, 128, 129, 130, 131, 132, 133, 134, 135, 136, 137, 138] [] (by kernel_rfl) (by kernel_rfl)
          · (apply drawG_put rfl; (intro S1 hS; exact stp_fieldAddr (d := 0) rfl (hS.op rfl) (hS.ch _ _ rfl) (by as_aux_lemma => kernel_rfl)))
            (apply drawG_put rfl; (intro S1 hS; exact stp_loadF rfl (by as_aux_lemma => kernel_rfl) (hS.op rfl) (hS.ch _ _ rfl) rfl rfl))
            (apply drawG_put rfl; (intro S1 hS; exact stp_move rfl (hS.op rfl)))
            (apply drawG_put rfl; (intro S1 hS; exact stp_ix (j := k) rfl (hS.op rfl) (hS.op rfl) (hS.ch _ _ rfl) rfl (by as_aux_lemma => kernel_rfl) rfl hkz (Nat.le_of_eq hlen.symm)))
            (apply drawG_put rfl; (intro S1 hS; exact stp_loadR rfl (by as_aux_lemma => kernel_rfl) (hS.op rfl) (hS.ch _ _ rfl) rfl hrowk hilk))
            (apply drawG_put rfl; (intro S1 hS; exact stp_fieldAddr (d := 0) rfl (hS.op rfl) (hS.ch _ _ rfl) (by as_aux_lemma => kernel_rfl)))
            (apply drawG_put rfl; (intro S1 hS; exact stp_loadF rfl (by as_aux_lemma => kernel_rfl) (hS.op rfl) (hS.ch _ _ rfl) rfl rfl))
            (apply drawG_put rfl; (intro S1 hS; exact stp_move rfl (hS.op rfl)))
            (apply drawG_put rfl; (intro S1 hS; exact stp_ix (j := i) rfl (hS.op rfl) (hS.op rfl) (hS.ch _ _ rfl) rfl (by as_aux_lemma => kernel_rfl) rfl hiz (Nat.le_of_eq hlen.symm)))
            (apply drawG_put rfl; (intro S1 hS; exact stp_loadR rfl (by as_aux_lemma => kernel_rfl) (hS.op rfl) (hS.ch _ _ rfl) rfl hrowi hilm))
            (apply drawG_put rfl; (intro S1 hS; exact stp_move rfl (hS.op rfl)))
            (apply drawG_put rfl; (intro S1 hS; exact stp_ixE (j := f) rfl (hS.op rfl) (hS.op rfl) (hS.ch _ _ rfl) rfl (by as_aux_lemma => kernel_rfl) hrowi rfl hfn hni))
            (apply drawG_put rfl; (intro S1 hS; exact stp_loadE' rfl (by as_aux_lemma => kernel_rfl) (hS.op rfl) (hS.ch _ _ rfl) rfl hrowi g1))
            (apply drawG_put rfl; (intro S1 hS; exact stp_ixE (j := d1) rfl (hS.op rfl) (hS.op rfl) (hS.ch _ _ rfl) rfl (by as_aux_lemma => kernel_rfl) hrowk rfl hd1.1 hnk))
            (apply drawG_put rfl; (intro S1 hS; exact stp_loadE' rfl (by as_aux_lemma => kernel_rfl) (hS.op rfl) (hS.ch _ _ rfl) rfl hrowk g3))
            (apply drawG_put rfl; (intro S1 hS; exact stp_fieldAddr (d := 0) rfl (hS.op rfl) (hS.ch _ _ rfl) (by as_aux_lemma => kernel_rfl)))
            (apply drawG_put rfl; (intro S1 hS; exact stp_loadF rfl (by as_aux_lemma => kernel_rfl) (hS.op rfl) (hS.ch _ _ rfl) rfl rfl))
            (apply drawG_put rfl; (intro S1 hS; exact stp_move rfl (hS.op rfl)))
            (apply drawG_put rfl; (intro S1 hS; exact stp_ix (j := i) rfl (hS.op rfl) (hS.op rfl) (hS.ch _ _ rfl) rfl (by as_aux_lemma => kernel_rfl) rfl hiz (Nat.le_of_eq hlen.symm)))
            (apply drawG_put rfl; (intro S1 hS; exact stp_loadR rfl (by as_aux_lemma => kernel_rfl) (hS.op rfl) (hS.ch _ _ rfl) rfl hrowi hilm))
            (apply drawG_put rfl; (intro S1 hS; exact stp_fieldAddr (d := 0) rfl (hS.op rfl) (hS.ch _ _ rfl) (by as_aux_lemma => kernel_rfl)))
            (apply drawG_put rfl; (intro S1 hS; exact stp_loadF rfl (by as_aux_lemma => kernel_rfl) (hS.op rfl) (hS.ch _ _ rfl) rfl rfl))
            (apply drawG_put rfl; (intro S1 hS; exact stp_move rfl (hS.op rfl)))
            (apply drawG_put rfl; (intro S1 hS; exact stp_ix (j := k) rfl (hS.op rfl) (hS.op rfl) (hS.ch _ _ rfl) rfl (by as_aux_lemma => kernel_rfl) rfl hkz (Nat.le_of_eq hlen.symm)))
            (apply drawG_put rfl; (intro S1 hS; exact stp_loadR rfl (by as_aux_lemma => kernel_rfl) (hS.op rfl) (hS.ch _ _ rfl) rfl hrowk hilk))
            (apply drawG_put rfl; (intro S1 hS; exact stp_move rfl (hS.op rfl)))
            (apply drawG_put rfl; (intro S1 hS; exact stp_ixE (j := f) rfl (hS.op rfl) (hS.op rfl) (hS.ch _ _ rfl) rfl (by as_aux_lemma => kernel_rfl) hrowk rfl hfn hnk))
            (apply drawG_put rfl; (intro S1 hS; exact stp_loadE' rfl (by as_aux_lemma => kernel_rfl) (hS.op rfl) (hS.ch _ _ rfl) rfl hrowk g2))
            (apply drawG_put rfl; (intro S1 hS; exact stp_ixE (j := d2) rfl (hS.op rfl) (hS.op rfl) (hS.ch _ _ rfl) rfl (by as_aux_lemma => kernel_rfl) hrowi rfl hd2.1 hni))
            (apply drawG_put rfl; (intro S1 hS; exact stp_loadE' rfl (by as_aux_lemma => kernel_rfl) (hS.op rfl) (hS.ch _ _ rfl) rfl hrowi g4))
            (apply drawG_put rfl; (intro S1 hS; exact stp_bin rfl (hS.op rfl) (hS.op rfl) (binNeq e1)))
            (apply drawG_put rfl; (intro S1 hS; exact stp_move rfl (hS.op rfl)))
            apply drawG_no rfl rfl rfl rfl rfl
            apply drawG_no rfl rfl rfl rfl rfl
            apply drawG_no rfl rfl rfl rfl rfl
            apply drawG_no rfl rfl rfl rfl rfl
            apply drawG_no rfl rfl rfl rfl rfl
            apply drawG_no rfl rfl rfl rfl rfl
            apply drawG_no rfl rfl rfl rfl rfl
            apply drawG_no rfl rfl rfl rfl rfl
            apply drawG_no rfl rfl rfl rfl rfl
            apply drawG_no rfl rfl rfl rfl rfl
            apply drawG_no rfl rfl rfl rfl rfl
            apply drawG_no rfl rfl rfl rfl rfl
            apply drawG_no rfl rfl rfl rfl rfl
            apply drawG_no rfl rfl rfl rfl rfl
            apply drawG_no rfl rfl rfl rfl rfl
            apply drawG_no rfl rfl rfl rfl rfl
            apply drawG_no rfl rfl rfl rfl rfl
            (apply drawG_put rfl; (intro S1 hS; exact stp_pickT rfl (hS.op rfl) (hS.op rfl)))
            exact DrawG.nil
          · rfl
          ((refine rest_done (by as_aux_lemma => kernel_rfl) ?_; skip))
          (refine fin_seq ?_)
          refine goes_cond rfl (fun _ => ?_) (fun e => by cases e)
          rw [manB_no (fun h => by have := (hcm.1 (h.comm i k hk hkz f (by omega))).1; omega)]
          (refine goes_seq ?_; refine goes_region ?_; apply run_step rfl; (exact stp_assign rfl rfl); refine run_nil ?_; refine fin_seq ?_; refine goes_ret ?_; refine fin_ret_block ?_; refine fin_ret_then ?_; refine fin_ret_then ?_; refine fin_ret_block ?_; refine fin_ret_block ?_; refine fin_ret_then ?_; refine fin_ret_then ?_; refine fin_ret_block ?_; refine fin_ret_block ?_; refine fin_ret_then ?_; refine fin_ret_then ?_; refine fin_ret_block ?_; refine fin_ret_then ?_)
          exact fin_ret1 (.inl rfl) rfl (.tmp rfl) trivial trivial
      · (refine goes_exit ?_; refine fin_exit_then ?_; refine fin_exit_then ?_; refine fin_exit_eq ?_; refine fin_block ?_; refine fin_seq ?_; refine goes_region ?_; apply run_step rfl; (exact stp_move rfl rfl); apply run_step rfl; (exact stp_add rfl rfl rfl (by first | exact IntWalk.i64_in _ (by omega) | rfl)); apply run_step rfl; (exact stp_assign rfl rfl); refine run_nil ?_)
        exact fin_round (k + 1) ⟨by omega, fun k' h1 h2 h3 f' hf' => by
          by_cases e : k' = k
          · subst e; exact hcf f' (by omega)
          · exact hck k' h1 (by omega) h3 f' hf'⟩ (by omega) (Wk.of ⟨rfl, rfl, rfl, rfl, trivial⟩ ⟨rfl, rfl, trivial⟩ trivial)
    · (refine goes_exit ?_; refine fin_exit_then ?_; refine fin_exit_then ?_; refine fin_exit_eq ?_; refine fin_block ?_; refine fin_seq ?_; refine goes_region ?_; apply run_step rfl; (exact stp_move rfl rfl); apply run_step rfl; (exact stp_add rfl rfl rfl (by first | exact IntWalk.i64_in _ (by omega) | rfl)); apply run_step rfl; (exact stp_assign rfl rfl); refine run_nil ?_)
      exact fin_round (i + 1) ⟨hiz, fun i' k' h1 h2 h3 => by
        by_cases e : i' = i
        · subst e; exact hck k' h2 (by omega) h3
        · exact hci i' k' (by omega) h2 h3⟩ (by omega) (Wk.of ⟨rfl, rfl, rfl, trivial⟩ ⟨rfl, rfl, trivial⟩ trivial)
  obtain rfl : i = zss.length := by omega
  have hM : Man0 zss := ⟨by omega, by omega, by omega, by omega, by rw [hn]; exact hrn, fun i k h1 h2 f hf => hci i k (by omega) h1 h2 f (by omega)⟩
  have hO := (orbS_fc zss n 0 hT hpos (by omega) (by omega) (by omega)).nm [(1003, 1003), (12, 141)] (by kernel_rfl)
  have hO : FC Try.prog 177 [(1003, rowsRo zss)] [o1 (.sl 1003 0 zss.length), vv (I6 0)] [(141, leOw (orb zss n 0).2)] (o1 (.sl 141 0 (orb zss n 0).2.length)) [] := hO
  rw [hM.man, hn]
  (refine goes_exit ?_; refine fin_exit_then ?_; refine fin_exit_then ?_; refine fin_exit_eq ?_; refine fin_seq ?_; refine goes_seq ?_)
  apply goes_draw 11 [] [[], [0], [0, 1], [0, 1, 2], [], [4], [4, 5], [4, 5, 6], [4, 5, 6, 7], [0, 1, 2, 3, 4, 5, 6, 7, 8], [0, 1, 2, 3, 4, 5, 6, 7, 8, 9]] [139, 140, 141, 142, 143, 144, 145, 146, 147, 148, 2] [141] (by kernel_rfl) (by kernel_rfl)
  · (apply draw_put rfl; (intro S1 hS; exact stp_fieldAddr (d := 0) rfl (hS.op rfl) (hS.ch _ _ rfl) (by as_aux_lemma => kernel_rfl)))
    (apply draw_put rfl; (intro S1 hS; exact stp_loadF rfl (by as_aux_lemma => kernel_rfl) (hS.op rfl) (hS.ch _ _ rfl) rfl rfl))
    (apply draw_new rfl; (intro S1 hS; apply call_gate 177; exact stp_callN hO (by as_aux_lemma => kernel_rfl) rfl (opL_le hS rfl) ⟨rfl, rfl, trivial⟩ (allIn_le hS ⟨⟨_, rfl, .inl rfl⟩, trivial⟩) rfl rfl rfl))
    (apply draw_put rfl; (intro S1 hS; exact stp_len rfl (hS.op rfl) rfl (by as_aux_lemma => kernel_rfl)))
    (apply draw_put rfl; (intro S1 hS; exact stp_fieldAddr (d := 0) rfl (hS.op rfl) (hS.ch _ _ rfl) (by as_aux_lemma => kernel_rfl)))
    (apply draw_put rfl; (intro S1 hS; exact stp_loadF rfl (by as_aux_lemma => kernel_rfl) (hS.op rfl) (hS.ch _ _ rfl) rfl rfl))
    (apply draw_put rfl; (intro S1 hS; exact stp_ix (j := 0) rfl (hS.op rfl) (hS.op rfl) (hS.ch _ _ rfl) rfl (by as_aux_lemma => kernel_rfl) rfl hpos (Nat.le_of_eq hlen.symm)))
    (apply draw_put rfl; (intro S1 hS; exact stp_loadR rfl (by as_aux_lemma => kernel_rfl) (hS.op rfl) (hS.ch _ _ rfl) rfl hrow0 hil))
    (apply draw_put rfl; (intro S1 hS; exact stp_len rfl (hS.op rfl) rfl (by as_aux_lemma => kernel_rfl)))
    (apply draw_put rfl; (intro S1 hS; exact stp_bin rfl (hS.op rfl) (hS.op rfl) rfl))
    (apply draw_put rfl; (intro S1 hS; exact stp_assign rfl (hS.op rfl)))
    exact Draw.nil
  · rfl
  ((refine rest_done (by as_aux_lemma => kernel_rfl) ?_; skip))
  (refine fin_seq ?_; refine goes_ret ?_)
  exact fin_ret1 (.inl rfl) rfl (.tmp rfl) trivial trivial
end Go.Proofs.Ytpognnifgcacnaa

/- A search in depth numbers an orbit, on lists. No program in sight. -/
namespace Go.Proofs.Ytpognnifgcacnaa

def negc (L : List Int) : Nat := (L.filter fun z => decide (z < 0)).length
theorem negc_set : ∀ (L : List Int) (d : Nat) (z : Int), d < L.length → iget L d < 0 → 0 ≤ z → negc (L.set d z) + 1 = negc L
  | [], d, _, h, _, _ => by simp at h
  | a :: r, 0, z, _, h, hz => by
    have h : a < 0 := by simpa [iget] using h
    simp [negc, h, show ¬ z < 0 by omega]
  | a :: r, d + 1, z, hd, h, hz => by
    have ih := negc_set r d z (by simpa using hd) (by simpa [iget] using h) hz
    unfold negc at ih ⊢
    simp only [List.set_cons_succ, List.filter_cons]
    split
    · simp only [List.length_cons]; omega
    · exact ih
theorem iget_setD {L : List Int} {d e : Nat} {z : Int} : iget (L.set d z) e = if d = e ∧ d < L.length then z else iget L e := by
  simp only [iget, List.getD_eq_getElem?_getD, List.getElem?_set]
  by_cases h : d = e
  · subst h
    by_cases h2 : d < L.length
    · simp [h2]
    · simp [h2]
  · simp [h]
structure DOK (T : List (List Int)) (n i k : Nat) (L0 : List Int) (ex : Nat → Prop) (L st : List Int) : Prop where
  len : L.length = n
  st_ : ∀ z ∈ st, ∃ d : Nat, z = (d : Int) ∧ d < n ∧ rch T n i d = true ∧ iget L d = (k : Int)
  eq : ∀ d, d < n → iget L d = iget L0 d ∨ (iget L d = (k : Int) ∧ rch T n i d = true)
  self : iget L i = (k : Int)
  cl : ∀ d, d < n → rch T n i d = true → iget L d = (k : Int) → (d : Int) ∉ st → ¬ ex d → ∀ g, g < T.length → iget L (bTo T d g) = (k : Int)
section
variable {T : List (List Int)} {n i k : Nat} {L0 L st : List Int} {ex : Nat → Prop}
theorem dok_start (hT : Leads T n) (hi : i < n) (hl : L0.length = n) (hnew : ∀ d, d < n → rch T n i d = true → iget L0 d = -1) : DOK T n i k L0 (fun _ => False) (L0.set i (k : Int)) [(i : Int)] := by
  refine ⟨by simpa using hl, fun z hz => ?_, fun d hd => ?_, by rw [iget_setD, if_pos ⟨rfl, by omega⟩], fun d hd hr he hn => ?_⟩
  · obtain rfl : z = (i : Int) := by simpa using hz
    exact ⟨i, rfl, hi, rch_refl hT hi, by rw [iget_setD, if_pos ⟨rfl, by omega⟩]⟩
  · rw [iget_setD]
    split
    · rename_i h; obtain ⟨rfl, _⟩ := h; exact .inr ⟨rfl, rch_refl hT hi⟩
    · exact .inl rfl
  · exfalso
    have hne : i ≠ d := fun e => hn (by simp [e])
    rw [iget_setD, if_neg (fun h => hne h.1), hnew d hd hr] at he
    omega
theorem dok_pop {m x : Nat} (h : DOK T n i k L0 (fun _ => False) L st) (hm : st.length = m + 1) (hx : iget st m = (x : Int)) : DOK T n i k L0 (fun d => d = x) L (st.take m) := by
  refine ⟨h.len, fun z hz => h.st_ z (List.mem_of_mem_take hz), h.eq, h.self, fun d hd hr he hn hne => ?_⟩
  refine h.cl d hd hr he (fun hs => ?_) (fun f => f)
  have hst : st = st.take m ++ [(x : Int)] := by
    have := take_iget (zs := st) (k := m) (by omega)
    rw [hx, ← hm, List.take_length] at this; exact this
  rw [hst] at hs
  rcases List.mem_append.1 hs with hs | hs
  · exact hn hs
  · have : (d : Int) = x := by simpa using hs
    exact hne (by omega)
theorem dok_step {y : Nat} (h : DOK T n i k L0 ex L st) (hy : y < n) (hr : rch T n i y = true) (hl : iget L y < 0) : DOK T n i k L0 ex (L.set y (k : Int)) (st ++ [(y : Int)]) := by
  have hyl : y < L.length := by rw [h.len]; exact hy
  have keep : ∀ d, iget L d = (k : Int) → iget (L.set y (k : Int)) d = (k : Int) := fun d hd => by
    rw [iget_setD]; split
    · rfl
    · exact hd
  refine ⟨by rw [List.length_set]; exact h.len, fun z hz => ?_, fun d hd => ?_, keep i h.self, fun d hd hrd he hn hne => ?_⟩
  · rcases List.mem_append.1 hz with hz | hz
    · obtain ⟨d, h1, h2, h3, h4⟩ := h.st_ z hz
      exact ⟨d, h1, h2, h3, keep d h4⟩
    · obtain rfl : z = (y : Int) := by simpa using hz
      exact ⟨y, rfl, hy, hr, by rw [iget_setD, if_pos ⟨rfl, hyl⟩]⟩
  · rw [iget_setD]
    split
    · rename_i e; obtain ⟨rfl, _⟩ := e; exact .inr ⟨rfl, hr⟩
    · exact h.eq d hd
  · have hyd : y ≠ d := fun e => hn (by subst e; simp)
    rw [iget_setD, if_neg (fun e => hyd e.1)] at he
    exact fun g hg => keep _ (h.cl d hd hrd he (fun hs => hn (List.mem_append_left _ hs)) hne g hg)
theorem dok_end {x : Nat} (h : DOK T n i k L0 (fun d => d = x) L st) (hx : ∀ g, g < T.length → iget L (bTo T x g) = (k : Int)) : DOK T n i k L0 (fun _ => False) L st :=
  ⟨h.len, h.st_, h.eq, h.self, fun d hd hr he hn _ => by
    by_cases e : d = x
    · subst e; exact hx
    · exact h.cl d hd hr he hn e⟩
theorem dok_done (hT : Leads T n) (hi : i < n) (h : DOK T n i k L0 (fun _ => False) L []) : L = (labSet T n i (L0, k)).1 := by
  refine iget_ext (by rw [h.len, labSet_len]) fun d hd => ?_
  rw [h.len] at hd
  rw [labSet_get hd]
  have hall : ∀ d, d < n → rch T n i d = true → iget L d = (k : Int) :=
    fun d hd hr => (rch_in (p := fun d => iget L d = (k : Int) ∧ rch T n i d = true) hT hi ⟨h.self, rch_refl hT hi⟩ (fun e he hp g hg => ⟨h.cl e he hp.2 hp.1 (by simp) (fun f => f) g hg, rch_on hT hi he hp.2 hg⟩) d hd hr).1
  split
  · rename_i hr; exact hall d hd hr
  · rename_i hr
    rcases h.eq d hd with h1 | h1
    · exact h1
    · exact absurd h1.2 hr
end
end Go.Proofs.Ytpognnifgcacnaa

/- The numbers of orbits, the program's: orbitLabels. -/
namespace Go.Proofs.Ytpognnifgcacnaa
open Go.RowKit

theorem ivals_take (zs : List Int) (m : Nat) : (ivals zs).take m = ivals (zs.take m) := by simp [ivals, List.map_take]
set_option maxRecDepth 100000 in
set_option maxHeartbeats 2000000 in
theorem orbI_fc (zss : List (List Int)) (n ng : Nat) (hng : zss.length = ng) (hT : Leads zss n) (hB : Back2 zss n) (hpos : 0 < n) (hn : n ≤ 1000000) (hg : ng ≤ 1000000) :
    FC Try.prog 187 [(1003, rowsRo zss)] [vv (I6 n), o1 (.sl 1003 0 ng)] [(16, leOw (labs zss n).1)] (.tup [.one (.sl 16 0 n), .one (.val (I6 (labs zss n).2))]) [] := by
  have hlen : (irows zss).length = ng := by rw [irows_len]; exact hng
  have hR : FC Try.prog 180 [(14, ⟨false, 2, 1, .vals (ivals [-1])⟩)] [o1 (.sl 14 0 1), vv (I6 n)] [(16, ⟨true, 2, 1, .vals (ivals (List.replicate n (-1)))⟩)] (o1 (.sl 16 0 n)) [] := repeat1_fc 14 16 n (-1) (by omega) hpos
  refine fc_enter (nt := 75) Try.func187 rfl rfl (by simp) fun w0 ω0 => ?_
  (refine goes_seq ?_; refine goes_region ?_; apply run_step rfl; (exact stp_assign rfl rfl); apply run_step rfl; (exact stp_assign rfl rfl); refine run_nil ?_; refine fin_seq ?_; refine goes_seq ?_; refine goes_region ?_; apply run_step rfl; (exact stp_lit1I (E := 2) rfl (by as_aux_lemma => kernel_rfl) rfl); apply run_step rfl; (exact stp_move rfl rfl); apply run_step rfl; (apply call_gate 180; exact stp_callN hR (by as_aux_lemma => kernel_rfl) rfl rfl ⟨rfl, rfl, trivial⟩ ⟨⟨_, rfl, .inr rfl⟩, trivial⟩ rfl rfl rfl); apply run_step rfl; (exact stp_assign rfl rfl); refine run_nil ?_; refine fin_seq ?_; refine goes_seq ?_; refine goes_region ?_; apply run_step rfl; (exact stp_assign rfl rfl); refine run_nil ?_; refine fin_seq ?_; refine goes_seq ?_; refine goes_seq ?_; refine goes_region ?_; apply run_step rfl; (exact stp_move rfl rfl); apply run_step rfl; (exact stp_move rfl rfl); refine run_nil ?_; refine fin_seq ?_; refine goes_block ?_)
  refine goes_loop (fun q : Nat × LSt => St.of [(1, o1 (.sl 1003 0 ng)), (6, o1 (.sl 16 0 n)), (7, vv (I6 q.2.2)), (17, vv (I6 n)), (18, vv (I6 q.1))] [(1003, rowsRo zss), (16, leOw q.2.1)]) (fun q => q.1 ≤ n ∧ labTo zss n q.1 = q.2) (fun q => n - q.1) (0, labStart n) ⟨Nat.zero_le _, rfl⟩ (Wk.of ⟨rfl, rfl, rfl, rfl, rfl, trivial⟩ ⟨rfl, rfl, trivial⟩ trivial) ?_
  rintro ⟨i, L, k⟩ ⟨hi, hl⟩
  dsimp only at hi hl ⊢
  have hOK := labTo_ok hT hB i hi
  rw [hl] at hOK
  have hLl : L.length = n := hOK.len
  have hil : n ≤ (ivals L).length := by rw [ivals_len, hLl]; exact Nat.le_refl _
  have hnext := labTo_succ (T := zss) (n := n) i
  rw [hl] at hnext
  unfold labStep at hnext
  (refine goes_seq ?_; refine goes_region ?_; apply run_step rfl; (exact stp_bin rfl rfl rfl rfl); refine run_nil ?_; refine fin_seq ?_; refine goes_seq ?_)
  refine goes_if rfl (fun h => ?_) (fun h => ?_)
  · have hin : i < n := by omega
    have gi : (ivals L)[i]? = some (I6 (iget L i)) := ivals_get (by omega)
    have hkb : k ≤ n := by
      have hk : ∀ m, m ≤ n → (labTo zss n m).2 ≤ m := by
        intro m
        induction m with
        | zero => intro _; exact Nat.le_refl _
        | succ m ih =>
          intro hm
          have := ih (by omega)
          rw [labTo_succ]; unfold labStep; split
          · omega
          · show (labTo zss n m).2 + 1 ≤ m + 1; omega
      have := hk i hi
      rw [hl] at this
      have : k ≤ i := this
      omega
    (refine goes_skip ?_; refine fin_seq ?_; refine goes_seq ?_; refine goes_block ?_; refine goes_seq ?_; refine goes_region ?_; apply run_step rfl; (exact stp_move rfl rfl); apply run_step rfl; (exact stp_assign rfl rfl); refine run_nil ?_; refine fin_seq ?_; refine goes_seq ?_; refine goes_seq ?_; refine goes_region ?_; apply run_step rfl; (exact stp_move rfl rfl); apply run_step rfl; (exact stp_move rfl rfl); apply run_step rfl; (exact stp_ix (j := i) rfl rfl rfl rfl rfl (by as_aux_lemma => kernel_rfl) rfl hin hil); apply run_step rfl; (exact stp_loadV rfl (by as_aux_lemma => kernel_rfl) rfl rfl rfl (by first | assumption | exact ivals_get (by assumption) | exact irows_get (by assumption) | exact ivals_get (by omega) | exact irows_get (by omega) | rfl)); apply run_step rfl; (exact stp_bin rfl rfl rfl rfl); refine run_nil ?_; refine fin_seq ?_)
    refine goes_if rfl (fun h1 => ?_) (fun h1 => ?_)
    · have h1' : 0 ≤ iget L i := h1
      rw [if_pos h1'] at hnext
      (refine goes_exit ?_; refine fin_exit_then ?_; refine fin_exit_eq ?_; refine fin_seq ?_; refine goes_region ?_; apply run_step rfl; (exact stp_add rfl rfl rfl (by first | exact IntWalk.i64_in _ (by omega) | rfl)); apply run_step rfl; (exact stp_move rfl rfl); refine run_nil ?_)
      exact fin_round (i + 1, L, k) ⟨hin, hnext⟩ (by show n - (i + 1) < n - i; omega) (Wk.of ⟨rfl, rfl, rfl, rfl, rfl, trivial⟩ ⟨rfl, rfl, trivial⟩ trivial)
    · have h1' : ¬ 0 ≤ iget L i := h1
      rw [if_neg h1'] at hnext
      have hnew : ∀ d, d < n → rch zss n i d = true → iget L d = -1 := fun d hd hr => lab_new hT hB hin hOK (by dsimp only; omega) hd hr
      (refine goes_skip ?_; refine fin_seq ?_; refine goes_seq ?_; refine goes_region ?_; apply run_step rfl; (exact stp_move rfl rfl); apply run_step rfl; (exact stp_move rfl rfl); apply run_step rfl; (exact stp_move rfl rfl); apply run_step rfl; (first | exact stp_ix (j := i) rfl rfl rfl rfl rfl (by as_aux_lemma => kernel_rfl) rfl hin hil | exact stp_stI rfl rfl rfl rfl rfl (by omega) (by as_aux_lemma => kernel_rfl)); apply run_step rfl; (first | exact stp_ix (j := i) rfl rfl rfl rfl rfl (by as_aux_lemma => kernel_rfl) rfl hin hil | exact stp_stI rfl rfl rfl rfl rfl (by omega) (by as_aux_lemma => kernel_rfl)); refine run_nil ?_; refine fin_seq ?_; refine goes_seq ?_; refine goes_seq ?_; refine goes_region ?_; apply run_step rfl; (exact stp_move rfl rfl); apply run_step rfl; (exact stp_lit1I (E := 2) rfl (by as_aux_lemma => kernel_rfl) rfl); apply run_step rfl; (exact stp_assign rfl rfl); refine run_nil ?_; refine fin_seq ?_; refine goes_block ?_)
      refine goes_loop (fun q : List Int × List Int => St.of [(1, o1 (.sl 1003 0 ng)), (6, o1 (.sl 16 0 n)), (7, vv (I6 k)), (9, o1 (.sl 31 0 q.2.length)), (17, vv (I6 n)), (18, vv (I6 i))] [(1003, rowsRo zss), (16, leOw q.1), (31, leOw q.2)])
        (fun q => DOK zss n i k L (fun _ => False) q.1 q.2 ∧ 2 * negc q.1 + q.2.length ≤ 2 * n + 1) (fun q => 2 * negc q.1 + q.2.length) (L.set i (k : Int), [(i : Int)]) ⟨dok_start hT hin hLl hnew, ?_⟩ (Wk.of ⟨rfl, rfl, rfl, rfl, rfl, rfl, trivial⟩ ⟨rfl, rfl, rfl, trivial⟩ trivial) ?_
      · have h2 : negc L ≤ L.length := List.length_filter_le _ _
        have h3 := negc_set L i (k : Int) (by omega) (by omega) (by omega)
        show 2 * negc (L.set i (k : Int)) + 1 ≤ 2 * n + 1
        omega
      rintro ⟨M, st⟩ ⟨hD, hmu⟩
      dsimp only at hD hmu ⊢
      have hMl : M.length = n := hD.len
      (refine goes_seq ?_; refine goes_seq ?_; refine goes_region ?_; apply run_step rfl; (exact stp_move rfl rfl); apply run_step rfl; (exact stp_len rfl rfl rfl (by as_aux_lemma => kernel_rfl)); apply run_step rfl; (exact stp_bin rfl rfl rfl rfl); refine run_nil ?_; refine fin_seq ?_)
      refine goes_if rfl (fun h2 => ?_) (fun h2 => ?_)
      · obtain ⟨m, hm⟩ : ∃ m, st.length = m + 1 := ⟨st.length - 1, by omega⟩
        obtain ⟨x, hx1, hx2, hx3, hx4⟩ := hD.st_ (iget st m) (iget_mem (by omega))
        have hP := dok_pop hD hm hx1
        have gm : (ivals st)[m]? = some (I6 (x : Int)) := by rw [ivals_get (by omega), hx1]
        have hm1 : ((st.length : Int) - 1) = ((m : Nat) : Int) := by omega
        have hsl : m + 1 ≤ (ivals st).length := by rw [ivals_len]; omega
        have htk : (st.take m).length = m := by rw [List.length_take]; omega
        rw [hm]
        rw [hm] at hm1
        (refine goes_skip ?_; refine fin_seq ?_; refine goes_block ?_; refine goes_seq ?_; refine goes_region ?_; apply run_step rfl; (exact stp_move rfl rfl); apply run_step rfl; (exact stp_move rfl rfl); apply run_step rfl; (exact stp_len rfl rfl rfl (by as_aux_lemma => kernel_rfl)); apply run_step rfl; (first | exact stp_sub rfl rfl rfl (IntWalk.i64_in _ (by omega)) | exact stp_ix (j := m) rfl rfl rfl rfl rfl (by as_aux_lemma => kernel_rfl) hm1 (by omega) hsl | exact stp_slice (k := 1) (l := 0) (h := m) rfl rfl rfl rfl (by as_aux_lemma => kernel_rfl) (by omega) bnd_none (bnd_some rfl hm1) (by omega) (by omega) (by rw [Nat.mul_one, Nat.zero_add]; exact hsl)); apply run_step rfl; (first | exact stp_sub rfl rfl rfl (IntWalk.i64_in _ (by omega)) | exact stp_ix (j := m) rfl rfl rfl rfl rfl (by as_aux_lemma => kernel_rfl) hm1 (by omega) hsl | exact stp_slice (k := 1) (l := 0) (h := m) rfl rfl rfl rfl (by as_aux_lemma => kernel_rfl) (by omega) bnd_none (bnd_some rfl hm1) (by omega) (by omega) (by rw [Nat.mul_one, Nat.zero_add]; exact hsl)); apply run_step rfl; (exact stp_loadV rfl (by as_aux_lemma => kernel_rfl) rfl rfl rfl (by first | assumption | exact ivals_get (by assumption) | exact irows_get (by assumption) | exact ivals_get (by omega) | exact irows_get (by omega) | rfl)); apply run_step rfl; (exact stp_assign rfl rfl); refine run_nil ?_; refine fin_seq ?_; refine goes_seq ?_; refine goes_region ?_; apply run_step rfl; (exact stp_move rfl rfl); apply run_step rfl; (exact stp_move rfl rfl); apply run_step rfl; (exact stp_len rfl rfl rfl (by as_aux_lemma => kernel_rfl)); apply run_step rfl; (first | exact stp_sub rfl rfl rfl (IntWalk.i64_in _ (by omega)) | exact stp_ix (j := m) rfl rfl rfl rfl rfl (by as_aux_lemma => kernel_rfl) hm1 (by omega) hsl | exact stp_slice (k := 1) (l := 0) (h := m) rfl rfl rfl rfl (by as_aux_lemma => kernel_rfl) (by omega) bnd_none (bnd_some rfl hm1) (by omega) (by omega) (by rw [Nat.mul_one, Nat.zero_add]; exact hsl)); apply run_step rfl; (first | exact stp_sub rfl rfl rfl (IntWalk.i64_in _ (by omega)) | exact stp_ix (j := m) rfl rfl rfl rfl rfl (by as_aux_lemma => kernel_rfl) hm1 (by omega) hsl | exact stp_slice (k := 1) (l := 0) (h := m) rfl rfl rfl rfl (by as_aux_lemma => kernel_rfl) (by omega) bnd_none (bnd_some rfl hm1) (by omega) (by omega) (by rw [Nat.mul_one, Nat.zero_add]; exact hsl)); apply run_step rfl; (exact stp_assign rfl rfl); refine run_nil ?_; refine fin_seq ?_; refine goes_seq ?_; refine goes_region ?_; apply run_step rfl; (exact stp_move rfl rfl); apply run_step rfl; (exact stp_len rfl rfl rfl (by as_aux_lemma => kernel_rfl)); apply run_step rfl; (exact stp_move rfl rfl); refine run_nil ?_; refine fin_seq ?_; refine goes_block ?_)
        have hsame : 2 * negc M + m + 1 = 2 * negc M + st.length := by omega
        refine goes_loop (fun q : Nat × List Int × List Int => St.of [(1, o1 (.sl 1003 0 ng)), (6, o1 (.sl 16 0 n)), (7, vv (I6 k)), (9, o1 (.sl 31 0 q.2.2.length)), (10, vv (I6 x)), (17, vv (I6 n)), (18, vv (I6 i)), (46, o1 (.sl 1003 0 ng)), (47, vv (I6 ng)), (48, vv (I6 q.1))] [(1003, rowsRo zss), (16, leOw q.2.1), (31, leOw q.2.2)])
          (fun q => q.1 ≤ ng ∧ DOK zss n i k L (fun d => d = x) q.2.1 q.2.2 ∧ (∀ g, g < q.1 → iget q.2.1 (bTo zss x g) = (k : Int)) ∧ 2 * negc q.2.1 + q.2.2.length ≤ 2 * negc M + m) (fun q => ng - q.1) (0, M, st.take m) ⟨Nat.zero_le _, hP, fun g hg => absurd hg (by omega), by dsimp only; omega⟩
          (Wk.trans (wk_cut (n := 31) (m := m) (vs := ivals st) rfl (by rw [ivals_len]; omega)) (Wk.of ⟨rfl, rfl, rfl, by rw [htk]; rfl, rfl, rfl, rfl, rfl, rfl, rfl, trivial⟩ ⟨rfl, rfl, congrArg (fun l => some (⟨true, 2, 1, .vals l⟩ : Ch)) (ivals_take st m), trivial⟩ trivial)) ?_
        rintro ⟨g, N, su⟩ ⟨hgl, hD2, hdone, hmu2⟩
        dsimp only at hgl hD2 hdone hmu2 ⊢
        have hNl : N.length = n := hD2.len
        have hsu : su.length ≤ 2 * n + 1 := by omega
        (refine goes_seq ?_; refine goes_region ?_; apply run_step rfl; (exact stp_bin rfl rfl rfl rfl); refine run_nil ?_; refine fin_seq ?_; refine goes_seq ?_)
        refine goes_if rfl (fun h3 => ?_) (fun h3 => ?_)
        · have hgn : g < ng := by omega
          have hgz : g < zss.length := by omega
          have hd := bTo_lt hT hx2 (g := g) hgz
          have hr := rch_on hT hin hx2 hx3 hgz
          obtain ⟨y, hy⟩ : ∃ y, bTo zss x g = y := ⟨_, rfl⟩
          rw [hy] at hd hr
          have hrowg : (irows zss)[g]? = some (ivals (lget zss g)) := irows_get hgz
          have hlg : (lget zss g).length = n := hT.len g hgz
          have gx : (ivals (lget zss g))[x]? = some (I6 (y : Int)) := by rw [ivals_get (by omega), hd.2]
          have gy : (ivals N)[y]? = some (I6 (iget N y)) := ivals_get (by omega)
          have hilg : (ivals (lget zss g)).length = n := by rw [ivals_len]; exact hlg
          have hNi : n ≤ (ivals N).length := by rw [ivals_len, hNl]; exact Nat.le_refl _
          have step : ∀ (N' : List Int), (∀ e, iget N e = (k : Int) → iget N' e = (k : Int)) → iget N' y = (k : Int) → ∀ g', g' < g + 1 → iget N' (bTo zss x g') = (k : Int) := fun N' hk hyk g' hg' => by
            by_cases e : g' = g
            · subst e; rw [hy]; exact hyk
            · exact hk _ (hdone g' (by omega))
          (refine goes_skip ?_; refine fin_seq ?_; refine goes_seq ?_; refine goes_block ?_; refine goes_seq ?_; refine goes_region ?_; apply run_step rfl; (first | exact stp_ix (j := g) rfl rfl rfl rfl rfl (by as_aux_lemma => kernel_rfl) rfl hgn (Nat.le_of_eq hlen.symm) | exact stp_loadR rfl (by as_aux_lemma => kernel_rfl) rfl rfl rfl hrowg hilg | exact stp_ixE (j := x) rfl rfl rfl rfl rfl (by as_aux_lemma => kernel_rfl) hrowg rfl hx2 (Nat.le_of_eq hilg.symm) | exact stp_loadE' rfl (by as_aux_lemma => kernel_rfl) rfl rfl rfl hrowg gx | exact stp_ix (j := y) rfl rfl rfl rfl rfl (by as_aux_lemma => kernel_rfl) rfl hd.1 hNi); apply run_step rfl; (first | exact stp_ix (j := g) rfl rfl rfl rfl rfl (by as_aux_lemma => kernel_rfl) rfl hgn (Nat.le_of_eq hlen.symm) | exact stp_loadR rfl (by as_aux_lemma => kernel_rfl) rfl rfl rfl hrowg hilg | exact stp_ixE (j := x) rfl rfl rfl rfl rfl (by as_aux_lemma => kernel_rfl) hrowg rfl hx2 (Nat.le_of_eq hilg.symm) | exact stp_loadE' rfl (by as_aux_lemma => kernel_rfl) rfl rfl rfl hrowg gx | exact stp_ix (j := y) rfl rfl rfl rfl rfl (by as_aux_lemma => kernel_rfl) rfl hd.1 hNi); apply run_step rfl; (exact stp_assign rfl rfl); refine run_nil ?_; refine fin_seq ?_; refine goes_seq ?_; refine goes_region ?_; apply run_step rfl; (exact stp_move rfl rfl); apply run_step rfl; (exact stp_move rfl rfl); apply run_step rfl; (first | exact stp_ix (j := g) rfl rfl rfl rfl rfl (by as_aux_lemma => kernel_rfl) rfl hgn (Nat.le_of_eq hlen.symm) | exact stp_loadR rfl (by as_aux_lemma => kernel_rfl) rfl rfl rfl hrowg hilg | exact stp_ixE (j := x) rfl rfl rfl rfl rfl (by as_aux_lemma => kernel_rfl) hrowg rfl hx2 (Nat.le_of_eq hilg.symm) | exact stp_loadE' rfl (by as_aux_lemma => kernel_rfl) rfl rfl rfl hrowg gx | exact stp_ix (j := y) rfl rfl rfl rfl rfl (by as_aux_lemma => kernel_rfl) rfl hd.1 hNi); apply run_step rfl; (first | exact stp_ix (j := g) rfl rfl rfl rfl rfl (by as_aux_lemma => kernel_rfl) rfl hgn (Nat.le_of_eq hlen.symm) | exact stp_loadR rfl (by as_aux_lemma => kernel_rfl) rfl rfl rfl hrowg hilg | exact stp_ixE (j := x) rfl rfl rfl rfl rfl (by as_aux_lemma => kernel_rfl) hrowg rfl hx2 (Nat.le_of_eq hilg.symm) | exact stp_loadE' rfl (by as_aux_lemma => kernel_rfl) rfl rfl rfl hrowg gx | exact stp_ix (j := y) rfl rfl rfl rfl rfl (by as_aux_lemma => kernel_rfl) rfl hd.1 hNi); apply run_step rfl; (exact stp_assign rfl rfl); refine run_nil ?_; refine fin_seq ?_; refine goes_seq ?_; refine goes_region ?_; apply run_step rfl; (exact stp_move rfl rfl); apply run_step rfl; (exact stp_move rfl rfl); apply run_step rfl; (first | exact stp_ix (j := g) rfl rfl rfl rfl rfl (by as_aux_lemma => kernel_rfl) rfl hgn (Nat.le_of_eq hlen.symm) | exact stp_loadR rfl (by as_aux_lemma => kernel_rfl) rfl rfl rfl hrowg hilg | exact stp_ixE (j := x) rfl rfl rfl rfl rfl (by as_aux_lemma => kernel_rfl) hrowg rfl hx2 (Nat.le_of_eq hilg.symm) | exact stp_loadE' rfl (by as_aux_lemma => kernel_rfl) rfl rfl rfl hrowg gx | exact stp_ix (j := y) rfl rfl rfl rfl rfl (by as_aux_lemma => kernel_rfl) rfl hd.1 hNi); apply run_step rfl; (exact stp_loadV rfl (by as_aux_lemma => kernel_rfl) rfl rfl rfl (by first | assumption | exact ivals_get (by assumption) | exact irows_get (by assumption) | exact ivals_get (by omega) | exact irows_get (by omega) | rfl)); apply run_step rfl; (exact stp_bin rfl rfl rfl rfl); refine run_nil ?_; refine fin_seq ?_)
          refine goes_if rfl (fun h4 => ?_) (fun h4 => ?_)
          · have h4' : iget N y < 0 := h4
            have hN' := negc_set N y (k : Int) (by omega) h4' (by omega)
            have hkeep : ∀ e, iget N e = (k : Int) → iget (N.set y (k : Int)) e = (k : Int) := fun e he => by
              rw [iget_setD]
              split
              · rfl
              · exact he
            have hyN : iget (N.set y (k : Int)) y = (k : Int) := by rw [iget_setD, if_pos ⟨rfl, by omega⟩]
            (refine goes_seq ?_; refine goes_region ?_; apply run_step rfl; (exact stp_move rfl rfl); apply run_step rfl; (exact stp_move rfl rfl); apply run_step rfl; (exact stp_move rfl rfl); apply run_step rfl; (first | exact stp_ix (j := y) rfl rfl rfl rfl rfl (by as_aux_lemma => kernel_rfl) rfl hd.1 hNi | exact stp_stI rfl rfl rfl rfl rfl (by omega) (by as_aux_lemma => kernel_rfl)); apply run_step rfl; (first | exact stp_ix (j := y) rfl rfl rfl rfl rfl (by as_aux_lemma => kernel_rfl) rfl hd.1 hNi | exact stp_stI rfl rfl rfl rfl rfl (by omega) (by as_aux_lemma => kernel_rfl)); refine run_nil ?_; refine fin_seq ?_; refine goes_region ?_; apply run_step rfl; (exact stp_move rfl rfl); apply run_step rfl; (exact stp_move rfl rfl); apply run_step rfl; (exact stp_lit1I (E := 2) rfl (by as_aux_lemma => kernel_rfl) rfl); apply run_step rfl; (exact stp_appI rfl (by as_aux_lemma => kernel_rfl) rfl rfl rfl (by first | rfl | assumption | (simp; done)) rfl rfl (by omega)); apply run_step rfl; (exact stp_assign rfl rfl); refine run_nil ?_; refine fin_block ?_; refine fin_seq ?_; refine goes_region ?_; apply run_step rfl; (exact stp_add rfl rfl rfl (by first | exact IntWalk.i64_in _ (by omega) | rfl)); apply run_step rfl; (exact stp_move rfl rfl); refine run_nil ?_)
            exact fin_round (g + 1, N.set y (k : Int), su ++ [(y : Int)]) ⟨hgn, dok_step hD2 hd.1 hr h4', step _ hkeep hyN, by simp only [List.length_append, List.length_singleton]; omega⟩ (by show ng - (g + 1) < ng - g; omega) (Wk.of ⟨rfl, rfl, rfl, congrArg (fun x => some (o1 (.sl 31 0 x))) (by simp), rfl, rfl, rfl, rfl, rfl, rfl, trivial⟩ ⟨rfl, rfl, rfl, trivial⟩ trivial)
          · have h4' : ¬ iget N y < 0 := h4
            have hyk : iget N y = (k : Int) := by
              rcases hD2.eq y hd.1 with h5 | h5
              · rw [hnew y hd.1 hr] at h5; omega
              · exact h5.1
            (refine goes_skip ?_; refine fin_block ?_; refine fin_seq ?_; refine goes_region ?_; apply run_step rfl; (exact stp_add rfl rfl rfl (by first | exact IntWalk.i64_in _ (by omega) | rfl)); apply run_step rfl; (exact stp_move rfl rfl); refine run_nil ?_)
            exact fin_round (g + 1, N, su) ⟨hgn, hD2, step N (fun _ h => h) hyk, hmu2⟩ (by show ng - (g + 1) < ng - g; omega) (Wk.of ⟨rfl, rfl, rfl, rfl, rfl, rfl, rfl, rfl, rfl, rfl, trivial⟩ ⟨rfl, rfl, rfl, trivial⟩ trivial)
        · obtain rfl : g = ng := by omega
          (refine goes_exit ?_; refine fin_exit_then ?_; refine fin_exit_then ?_; refine fin_exit_eq ?_; refine fin_block ?_)
          exact fin_round (N, su) ⟨dok_end hD2 (fun g' hg' => hdone g' (by omega)), by dsimp only; omega⟩ (by show 2 * negc N + su.length < 2 * negc M + st.length; omega) (Wk.of ⟨rfl, rfl, rfl, rfl, rfl, rfl, trivial⟩ ⟨rfl, rfl, rfl, trivial⟩ trivial)
      · obtain rfl : st = [] := List.length_eq_zero_iff.1 (by omega)
        have hM := dok_done hT hin hD
        have hk1 : (((labSet zss n i (L, k)).2 : Nat) : Int) = (k : Int) + 1 := by show ((k + 1 : Nat) : Int) = _; omega
        (refine goes_exit ?_; refine fin_exit_then ?_; refine fin_exit_then ?_; refine fin_exit_eq ?_; refine fin_seq ?_; refine goes_region ?_; apply run_step rfl; (exact stp_move rfl rfl); apply run_step rfl; (exact stp_add rfl rfl rfl (by first | exact IntWalk.i64_in _ (by omega) | rfl)); apply run_step rfl; (exact stp_assign rfl rfl); refine run_nil ?_; refine fin_block ?_; refine fin_seq ?_; refine goes_region ?_; apply run_step rfl; (exact stp_add rfl rfl rfl (by first | exact IntWalk.i64_in _ (by omega) | rfl)); apply run_step rfl; (exact stp_move rfl rfl); refine run_nil ?_)
        exact fin_round (i + 1, labSet zss n i (L, k)) ⟨hin, hnext⟩ (by show n - (i + 1) < n - i; omega) (Wk.of ⟨rfl, rfl, congrArg (fun z => some (vv (I6 z))) hk1.symm, rfl, rfl, trivial⟩ ⟨rfl, congrArg (fun l => some (leOw l)) hM, trivial⟩ trivial)
  · obtain rfl : i = n := by omega
    have hfin : labs zss i = (L, k) := hl
    rw [hfin]
    (refine goes_exit ?_; refine fin_exit_then ?_; refine fin_exit_then ?_; refine fin_exit_eq ?_; refine fin_seq ?_; refine goes_seq ?_; refine goes_region ?_; apply run_step rfl; (exact stp_move rfl rfl); apply run_step rfl; (exact stp_move rfl rfl); apply run_step rfl; (exact stp_assign rfl rfl); apply run_step rfl; (exact stp_assign rfl rfl); refine run_nil ?_; refine fin_seq ?_; refine goes_ret ?_)
    exact fin_ret2 (.inl rfl) rfl (.tmp rfl) (.tmp rfl) ⟨rfl, trivial⟩ trivial
end Go.Proofs.Ytpognnifgcacnaa

/- The program's within, in names. -/
namespace Go.Proofs.Ytpognnifgcacnaa
open Go.RowKit

theorem us_three {us : List Value} {u0 u1 u2 : Value} (hl : us.length = 3) (g0 : us[0]? = some u0) (g1 : us[1]? = some u1) (g2 : us[2]? = some u2) : us = [u0, u1, u2] := by
  match us, hl with
  | [p, q, r], _ => simp at g0 g1 g2; rw [g0, g1, g2]
theorem within_fc (a b c : Int) : FC Try.prog 97 [] [vv (I6 a), vv (I6 b), vv (I6 c)] [] (vv (.bool (inB a b c))) [] :=
  fc_of_calls fun w η ω us hm ⟨hl, ha⟩ => by
    obtain ⟨u0, g0, d0⟩ := ha 0 _ rfl
    obtain ⟨u1, g1, d1⟩ := ha 1 _ rfl
    obtain ⟨u2, g2, d2⟩ := ha 2 _ rfl
    have d0 : u0 = I6 a := d0
    have d1 : u1 = I6 b := d1
    have d2 : u2 = I6 c := d2
    subst d0 d1 d2
    rw [us_three hl g0 g1 g2]
    refine (within_any a b c w).mono ?_
    rintro e w' ⟨rfl, rfl⟩
    exact ⟨rfl, Below.refl _ _⟩
end Go.Proofs.Ytpognnifgcacnaa

/- What a maniplex is, the program's: isManiplex. guards: -/
namespace Go.Proofs.Ytpognnifgcacnaa
open Go.RowKit

abbrev mxV (R : Nat) : Ch := ⟨false, 41, 1, .flat [.sl 1003 0 R]⟩
theorem rank_fc (R : Nat) : FC Try.prog 185 [(1, mxV R)] [o1 (.ptr 1 0)] [] (vv (I6 R)) [] := by
  have hS := sizeR_fc 1003 R
  refine fc_enter (nt := 8) Try.func185 rfl rfl (by simp) fun w0 ω0 => ?_
  (refine goes_seq ?_; refine goes_region ?_; apply run_step rfl; (exact stp_assign rfl rfl); refine run_nil ?_; refine fin_seq ?_; refine goes_seq ?_; refine goes_region ?_; apply run_step rfl; (exact stp_move rfl rfl); apply run_step rfl; (exact stp_nilCheck rfl rfl rfl); apply run_step rfl; (exact stp_fieldAddr (d := 0) rfl rfl rfl (by as_aux_lemma => kernel_rfl)); apply run_step rfl; (exact stp_loadF rfl (by as_aux_lemma => kernel_rfl) rfl rfl rfl rfl); apply run_step rfl; (apply call_gate 145; exact stp_callR hS (by as_aux_lemma => kernel_rfl) rfl rfl ⟨rfl, trivial⟩ trivial rfl rfl); apply run_step rfl; (exact stp_assign rfl rfl); refine run_nil ?_; refine fin_seq ?_; refine goes_ret ?_)
  exact fin_ret1 (.inl rfl) rfl (.tmp rfl) trivial trivial
set_option maxRecDepth 100000 in
theorem flags_fc1 (zss : List (List Int)) (n : Nat) (hpos : 0 < zss.length) (hn : (lget zss 0).length = n) : FC Try.prog 172 [(1, mxV zss.length), (1003, rowsRo zss)] [o1 (.ptr 1 0)] [] (vv (I6 n)) [] := by
  have hlen : (irows zss).length = zss.length := irows_len _
  have hrow0 : (irows zss)[0]? = some (ivals (lget zss 0)) := irows_get hpos
  have hil : (ivals (lget zss 0)).length = n := by rw [ivals_len]; exact hn
  have hSz := sizeE_fc 1003 0 n
  refine fc_enter (nt := 10) Try.func172 rfl rfl (by simp) fun w0 ω0 => ?_
  (refine goes_seq ?_; refine goes_region ?_; apply run_step rfl; (exact stp_assign rfl rfl); refine run_nil ?_; refine fin_seq ?_; refine goes_seq ?_; refine goes_region ?_; apply run_step rfl; (exact stp_move rfl rfl); apply run_step rfl; (exact stp_nilCheck rfl rfl rfl); apply run_step rfl; (exact stp_fieldAddr (d := 0) rfl rfl rfl (by as_aux_lemma => kernel_rfl)); apply run_step rfl; (exact stp_loadF rfl (by as_aux_lemma => kernel_rfl) rfl rfl rfl rfl); apply run_step rfl; (first | exact stp_ix (j := 0) rfl rfl rfl rfl rfl (by as_aux_lemma => kernel_rfl) rfl hpos (Nat.le_of_eq hlen.symm) | exact stp_loadR rfl (by as_aux_lemma => kernel_rfl) rfl rfl rfl hrow0 hil | (apply call_gate 139; exact stp_callR hSz (by as_aux_lemma => kernel_rfl) rfl rfl ⟨rfl, trivial⟩ trivial rfl rfl)); apply run_step rfl; (first | exact stp_ix (j := 0) rfl rfl rfl rfl rfl (by as_aux_lemma => kernel_rfl) rfl hpos (Nat.le_of_eq hlen.symm) | exact stp_loadR rfl (by as_aux_lemma => kernel_rfl) rfl rfl rfl hrow0 hil | (apply call_gate 139; exact stp_callR hSz (by as_aux_lemma => kernel_rfl) rfl rfl ⟨rfl, trivial⟩ trivial rfl rfl)); apply run_step rfl; (first | exact stp_ix (j := 0) rfl rfl rfl rfl rfl (by as_aux_lemma => kernel_rfl) rfl hpos (Nat.le_of_eq hlen.symm) | exact stp_loadR rfl (by as_aux_lemma => kernel_rfl) rfl rfl rfl hrow0 hil | (apply call_gate 139; exact stp_callR hSz (by as_aux_lemma => kernel_rfl) rfl rfl ⟨rfl, trivial⟩ trivial rfl rfl)); apply run_step rfl; (exact stp_assign rfl rfl); refine run_nil ?_; refine fin_seq ?_; refine goes_ret ?_)
  exact fin_ret1 (.inl rfl) rfl (.tmp rfl) trivial trivial

set_option maxRecDepth 100000 in
set_option maxHeartbeats 4000000 in
theorem manI_fc (zss : List (List Int)) (hR : zss.length ≤ 1048576) (hl : ∀ i, i < zss.length → (lget zss i).length ≤ 1048576) :
    FC Try.prog 114 [(1003, rowsRo zss)] [mA zss.length] [] (vv (.bool (manB zss))) [] := by
  have hRk := rank_fc zss.length
  have hW1 := within_fc (zss.length : Int) 1 5
  refine fc_enter (nt := 101) Try.func114 rfl rfl (by simp) fun w0 ω0 => ?_
  have hlen : (irows zss).length = zss.length := irows_len _
  cases c1 : inB (zss.length : Int) 1 5 with
  | false =>
    rw [manB_no (fun h => by have h1 := h.n1; have h2 := h.n5; rw [inB_true.2 ⟨by omega, by omega⟩] at c1; cases c1)]
    rw [c1] at hW1
    (refine goes_seq ?_; refine goes_region ?_; apply run_step rfl; (exact stp_box rfl rfl rfl rfl); apply run_step rfl; (exact stp_assign rfl rfl); refine run_nil ?_; refine fin_seq ?_; refine goes_seq ?_; refine goes_seq ?_; refine goes_region ?_; apply run_step rfl; (first | (apply call_gate 185; exact stp_callR hRk (by as_aux_lemma => kernel_rfl) rfl rfl ⟨rfl, trivial⟩ ⟨⟨_, rfl, .inr rfl⟩, trivial⟩ rfl rfl) | (apply call_gate 97; exact stp_callR hW1 (by as_aux_lemma => kernel_rfl) rfl rfl ⟨rfl, rfl, rfl, trivial⟩ trivial rfl rfl)); apply run_step rfl; (first | (apply call_gate 185; exact stp_callR hRk (by as_aux_lemma => kernel_rfl) rfl rfl ⟨rfl, trivial⟩ ⟨⟨_, rfl, .inr rfl⟩, trivial⟩ rfl rfl) | (apply call_gate 97; exact stp_callR hW1 (by as_aux_lemma => kernel_rfl) rfl rfl ⟨rfl, rfl, rfl, trivial⟩ trivial rfl rfl)); apply run_step rfl; (exact stp_not rfl rfl); apply run_step rfl; (exact stp_move rfl rfl); apply run_gNo rfl rfl rfl rfl rfl; apply run_gNo rfl rfl rfl rfl rfl; apply run_gNo rfl rfl rfl rfl rfl; apply run_step rfl; (exact stp_pickT rfl rfl rfl); refine run_nil ?_; refine fin_seq ?_)
    refine goes_cond rfl (fun _ => ?_) (fun e => by cases e)
    (refine goes_seq ?_; refine goes_region ?_; apply run_step rfl; (exact stp_assign rfl rfl); refine run_nil ?_; refine fin_seq ?_; refine goes_ret ?_; refine fin_ret_then ?_)
    exact fin_ret1 (.inl rfl) rfl (.tmp rfl) trivial trivial
  | true =>
  rw [c1] at hW1
  have c1 := inB_true.1 c1
  have hpos : 0 < zss.length := by omega
  have hrow0 : (irows zss)[0]? = some (ivals (lget zss 0)) := irows_get hpos
  obtain ⟨n, hn⟩ : ∃ n, (lget zss 0).length = n := ⟨_, rfl⟩
  have hil : (ivals (lget zss 0)).length = n := by rw [ivals_len]; exact hn
  have hG := flags_fc1 zss n hpos hn
  have hW2 := within_fc (n : Int) 2 400
  cases c2 : inB (n : Int) 2 400 with
  | false =>
    rw [manB_no (fun h => by have h1 := h.f2; have h2 := h.f4; rw [inB_true.2 ⟨by omega, by omega⟩] at c2; cases c2)]
    rw [c2] at hW2
    (refine goes_seq ?_; refine goes_region ?_; apply run_step rfl; (exact stp_box rfl rfl rfl rfl); apply run_step rfl; (exact stp_assign rfl rfl); refine run_nil ?_; refine fin_seq ?_; refine goes_seq ?_; refine goes_seq ?_; refine goes_region ?_; apply run_step rfl; (first | (apply call_gate 185; exact stp_callR hRk (by as_aux_lemma => kernel_rfl) rfl rfl ⟨rfl, trivial⟩ ⟨⟨_, rfl, .inr rfl⟩, trivial⟩ rfl rfl) | (apply call_gate 97; exact stp_callR hW1 (by as_aux_lemma => kernel_rfl) rfl rfl ⟨rfl, rfl, rfl, trivial⟩ trivial rfl rfl) | (apply call_gate 97; exact stp_callR hW2 (by as_aux_lemma => kernel_rfl) rfl rfl ⟨rfl, rfl, rfl, trivial⟩ trivial rfl rfl) | (apply call_gate 172; exact stp_callR hG (by as_aux_lemma => kernel_rfl) rfl rfl ⟨rfl, trivial⟩ ⟨⟨_, rfl, .inr rfl⟩, ⟨_, rfl, .inl rfl⟩, trivial⟩ rfl rfl)); apply run_step rfl; (first | (apply call_gate 185; exact stp_callR hRk (by as_aux_lemma => kernel_rfl) rfl rfl ⟨rfl, trivial⟩ ⟨⟨_, rfl, .inr rfl⟩, trivial⟩ rfl rfl) | (apply call_gate 97; exact stp_callR hW1 (by as_aux_lemma => kernel_rfl) rfl rfl ⟨rfl, rfl, rfl, trivial⟩ trivial rfl rfl) | (apply call_gate 97; exact stp_callR hW2 (by as_aux_lemma => kernel_rfl) rfl rfl ⟨rfl, rfl, rfl, trivial⟩ trivial rfl rfl) | (apply call_gate 172; exact stp_callR hG (by as_aux_lemma => kernel_rfl) rfl rfl ⟨rfl, trivial⟩ ⟨⟨_, rfl, .inr rfl⟩, ⟨_, rfl, .inl rfl⟩, trivial⟩ rfl rfl)); apply run_step rfl; (exact stp_not rfl rfl); apply run_step rfl; (exact stp_move rfl rfl); apply run_gYes rfl rfl rfl; (first | (apply call_gate 185; exact stp_callR hRk (by as_aux_lemma => kernel_rfl) rfl rfl ⟨rfl, trivial⟩ ⟨⟨_, rfl, .inr rfl⟩, trivial⟩ rfl rfl) | (apply call_gate 97; exact stp_callR hW1 (by as_aux_lemma => kernel_rfl) rfl rfl ⟨rfl, rfl, rfl, trivial⟩ trivial rfl rfl) | (apply call_gate 97; exact stp_callR hW2 (by as_aux_lemma => kernel_rfl) rfl rfl ⟨rfl, rfl, rfl, trivial⟩ trivial rfl rfl) | (apply call_gate 172; exact stp_callR hG (by as_aux_lemma => kernel_rfl) rfl rfl ⟨rfl, trivial⟩ ⟨⟨_, rfl, .inr rfl⟩, ⟨_, rfl, .inl rfl⟩, trivial⟩ rfl rfl)); apply run_gYes rfl rfl rfl; (first | (apply call_gate 185; exact stp_callR hRk (by as_aux_lemma => kernel_rfl) rfl rfl ⟨rfl, trivial⟩ ⟨⟨_, rfl, .inr rfl⟩, trivial⟩ rfl rfl) | (apply call_gate 97; exact stp_callR hW1 (by as_aux_lemma => kernel_rfl) rfl rfl ⟨rfl, rfl, rfl, trivial⟩ trivial rfl rfl) | (apply call_gate 97; exact stp_callR hW2 (by as_aux_lemma => kernel_rfl) rfl rfl ⟨rfl, rfl, rfl, trivial⟩ trivial rfl rfl) | (apply call_gate 172; exact stp_callR hG (by as_aux_lemma => kernel_rfl) rfl rfl ⟨rfl, trivial⟩ ⟨⟨_, rfl, .inr rfl⟩, ⟨_, rfl, .inl rfl⟩, trivial⟩ rfl rfl)); apply run_gYes rfl rfl rfl; (exact stp_not rfl rfl); apply run_step rfl; (exact stp_pickF rfl rfl rfl); refine run_nil ?_; refine fin_seq ?_)
    refine goes_cond rfl (fun _ => ?_) (fun e => by cases e)
    (refine goes_seq ?_; refine goes_region ?_; apply run_step rfl; (exact stp_assign rfl rfl); refine run_nil ?_; refine fin_seq ?_; refine goes_ret ?_; refine fin_ret_then ?_)
    exact fin_ret1 (.inl rfl) rfl (.tmp rfl) trivial trivial
  | true =>
  rw [c2] at hW2
  have c2 := inB_true.1 c2
  (refine goes_seq ?_; refine goes_region ?_; apply run_step rfl; (exact stp_box rfl rfl rfl rfl); apply run_step rfl; (exact stp_assign rfl rfl); refine run_nil ?_; refine fin_seq ?_; refine goes_seq ?_; refine goes_seq ?_; refine goes_region ?_; apply run_step rfl; (first | (apply call_gate 185; exact stp_callR hRk (by as_aux_lemma => kernel_rfl) rfl rfl ⟨rfl, trivial⟩ ⟨⟨_, rfl, .inr rfl⟩, trivial⟩ rfl rfl) | (apply call_gate 97; exact stp_callR hW1 (by as_aux_lemma => kernel_rfl) rfl rfl ⟨rfl, rfl, rfl, trivial⟩ trivial rfl rfl) | (apply call_gate 97; exact stp_callR hW2 (by as_aux_lemma => kernel_rfl) rfl rfl ⟨rfl, rfl, rfl, trivial⟩ trivial rfl rfl) | (apply call_gate 172; exact stp_callR hG (by as_aux_lemma => kernel_rfl) rfl rfl ⟨rfl, trivial⟩ ⟨⟨_, rfl, .inr rfl⟩, ⟨_, rfl, .inl rfl⟩, trivial⟩ rfl rfl)); apply run_step rfl; (first | (apply call_gate 185; exact stp_callR hRk (by as_aux_lemma => kernel_rfl) rfl rfl ⟨rfl, trivial⟩ ⟨⟨_, rfl, .inr rfl⟩, trivial⟩ rfl rfl) | (apply call_gate 97; exact stp_callR hW1 (by as_aux_lemma => kernel_rfl) rfl rfl ⟨rfl, rfl, rfl, trivial⟩ trivial rfl rfl) | (apply call_gate 97; exact stp_callR hW2 (by as_aux_lemma => kernel_rfl) rfl rfl ⟨rfl, rfl, rfl, trivial⟩ trivial rfl rfl) | (apply call_gate 172; exact stp_callR hG (by as_aux_lemma => kernel_rfl) rfl rfl ⟨rfl, trivial⟩ ⟨⟨_, rfl, .inr rfl⟩, ⟨_, rfl, .inl rfl⟩, trivial⟩ rfl rfl)); apply run_step rfl; (exact stp_not rfl rfl); apply run_step rfl; (exact stp_move rfl rfl); apply run_gYes rfl rfl rfl; (first | (apply call_gate 185; exact stp_callR hRk (by as_aux_lemma => kernel_rfl) rfl rfl ⟨rfl, trivial⟩ ⟨⟨_, rfl, .inr rfl⟩, trivial⟩ rfl rfl) | (apply call_gate 97; exact stp_callR hW1 (by as_aux_lemma => kernel_rfl) rfl rfl ⟨rfl, rfl, rfl, trivial⟩ trivial rfl rfl) | (apply call_gate 97; exact stp_callR hW2 (by as_aux_lemma => kernel_rfl) rfl rfl ⟨rfl, rfl, rfl, trivial⟩ trivial rfl rfl) | (apply call_gate 172; exact stp_callR hG (by as_aux_lemma => kernel_rfl) rfl rfl ⟨rfl, trivial⟩ ⟨⟨_, rfl, .inr rfl⟩, ⟨_, rfl, .inl rfl⟩, trivial⟩ rfl rfl)); apply run_gYes rfl rfl rfl; (first | (apply call_gate 185; exact stp_callR hRk (by as_aux_lemma => kernel_rfl) rfl rfl ⟨rfl, trivial⟩ ⟨⟨_, rfl, .inr rfl⟩, trivial⟩ rfl rfl) | (apply call_gate 97; exact stp_callR hW1 (by as_aux_lemma => kernel_rfl) rfl rfl ⟨rfl, rfl, rfl, trivial⟩ trivial rfl rfl) | (apply call_gate 97; exact stp_callR hW2 (by as_aux_lemma => kernel_rfl) rfl rfl ⟨rfl, rfl, rfl, trivial⟩ trivial rfl rfl) | (apply call_gate 172; exact stp_callR hG (by as_aux_lemma => kernel_rfl) rfl rfl ⟨rfl, trivial⟩ ⟨⟨_, rfl, .inr rfl⟩, ⟨_, rfl, .inl rfl⟩, trivial⟩ rfl rfl)); apply run_gYes rfl rfl rfl; (exact stp_not rfl rfl); apply run_step rfl; (exact stp_pickF rfl rfl rfl); refine run_nil ?_; refine fin_seq ?_)
  refine goes_cond rfl (fun e => by cases e) (fun _ => ?_)
  (refine goes_skip ?_; refine fin_seq ?_; refine goes_seq ?_; refine goes_seq ?_; refine goes_region ?_; apply run_step rfl; (exact stp_fieldAddr (d := 0) rfl rfl rfl (by as_aux_lemma => kernel_rfl)); apply run_step rfl; (exact stp_loadF rfl (by as_aux_lemma => kernel_rfl) rfl rfl rfl rfl); apply run_step rfl; (exact stp_len rfl rfl rfl (by as_aux_lemma => kernel_rfl)); apply run_step rfl; (exact stp_move rfl rfl); refine run_nil ?_; refine fin_seq ?_; refine goes_block ?_)
  refine goes_loop (fun i : Nat => St.of [(1, o1 (.ptr 1 0)), (21, o1 (.sl 1003 0 zss.length)), (22, vv (I6 zss.length)), (23, vv (I6 i))] [(1003, rowsRo zss), (1, mxB zss.length)]) (fun i => i ≤ zss.length ∧ Rows zss n i) (fun i => zss.length - i) 0 ⟨Nat.zero_le _, fun j hj => absurd hj (by omega)⟩ (Wk.of ⟨rfl, rfl, rfl, rfl, trivial⟩ ⟨rfl, rfl, trivial⟩ trivial) ?_
  rintro i ⟨hi, hrows⟩
  (refine goes_seq ?_; refine goes_region ?_; apply run_step rfl; (exact stp_bin rfl rfl rfl rfl); refine run_nil ?_; refine fin_seq ?_; refine goes_seq ?_)
  refine goes_if rfl (fun hlt => ?_) (fun hlt => ?_)
  · have hiz : i < zss.length := by omega
    have hrowi : (irows zss)[i]? = some (ivals (lget zss i)) := irows_get hiz
    have hP := freeI_fc zss i hiz (hl i hiz)
    obtain ⟨m, hm⟩ : ∃ m, (lget zss i).length = m := ⟨_, rfl⟩
    have hilm : (ivals (lget zss i)).length = m := by rw [ivals_len]; exact hm
    rw [hm] at hP
    have hSz := sizeE_fc 1003 i m
    cases hf : freeInv (lget zss i) with
    | false =>
      rw [hf] at hP
      (refine goes_skip ?_; refine fin_seq ?_; refine goes_seq ?_; refine goes_block ?_; refine goes_seq ?_; refine goes_region ?_; apply run_step rfl; (first | exact stp_ix (j := i) rfl rfl rfl rfl rfl (by as_aux_lemma => kernel_rfl) rfl hiz (Nat.le_of_eq hlen.symm) | exact stp_loadR rfl (by as_aux_lemma => kernel_rfl) rfl rfl rfl hrowi hilm | (apply call_gate 186; exact stp_callR hP (by as_aux_lemma => kernel_rfl) rfl rfl ⟨rfl, trivial⟩ ⟨⟨_, rfl, .inl rfl⟩, trivial⟩ rfl rfl)); apply run_step rfl; (first | exact stp_ix (j := i) rfl rfl rfl rfl rfl (by as_aux_lemma => kernel_rfl) rfl hiz (Nat.le_of_eq hlen.symm) | exact stp_loadR rfl (by as_aux_lemma => kernel_rfl) rfl rfl rfl hrowi hilm | (apply call_gate 186; exact stp_callR hP (by as_aux_lemma => kernel_rfl) rfl rfl ⟨rfl, trivial⟩ ⟨⟨_, rfl, .inl rfl⟩, trivial⟩ rfl rfl)); apply run_step rfl; (exact stp_assign rfl rfl); refine run_nil ?_; refine fin_seq ?_; refine goes_seq ?_; refine goes_region ?_; apply run_step rfl; (exact stp_move rfl rfl); apply run_step rfl; (first | exact stp_ix (j := i) rfl rfl rfl rfl rfl (by as_aux_lemma => kernel_rfl) rfl hiz (Nat.le_of_eq hlen.symm) | exact stp_loadR rfl (by as_aux_lemma => kernel_rfl) rfl rfl rfl hrowi hilm | (apply call_gate 186; exact stp_callR hP (by as_aux_lemma => kernel_rfl) rfl rfl ⟨rfl, trivial⟩ ⟨⟨_, rfl, .inl rfl⟩, trivial⟩ rfl rfl)); apply run_step rfl; (exact stp_not rfl rfl); apply run_step rfl; (exact stp_move rfl rfl); apply run_gNo rfl rfl rfl rfl rfl; apply run_gNo rfl rfl rfl rfl rfl; apply run_gNo rfl rfl rfl rfl rfl; apply run_gNo rfl rfl rfl rfl rfl; apply run_step rfl; (exact stp_pickT rfl rfl rfl); refine run_nil ?_; refine fin_seq ?_)
      refine goes_cond rfl (fun _ => ?_) (fun e => by cases e)
      rw [manB_no (fun h => by have h1 := h.perm i hiz; have h2 := h.free i hiz; unfold freeInv at hf; rw [h1, h2] at hf; cases hf)]
      (refine goes_seq ?_; refine goes_region ?_; apply run_step rfl; (exact stp_assign rfl rfl); refine run_nil ?_; refine fin_seq ?_; refine goes_ret ?_; refine fin_ret_block ?_; refine fin_ret_then ?_; refine fin_ret_then ?_; refine fin_ret_block ?_; refine fin_ret_then ?_)
      exact fin_ret1 (.inl rfl) rfl (.tmp rfl) trivial trivial
    | true =>
      rw [hf] at hP
      unfold freeInv at hf
      rw [Bool.and_eq_true] at hf
      (refine goes_skip ?_; refine fin_seq ?_; refine goes_seq ?_; refine goes_block ?_; refine goes_seq ?_; refine goes_region ?_; apply run_step rfl; (first | exact stp_ix (j := i) rfl rfl rfl rfl rfl (by as_aux_lemma => kernel_rfl) rfl hiz (Nat.le_of_eq hlen.symm) | exact stp_loadR rfl (by as_aux_lemma => kernel_rfl) rfl rfl rfl hrowi hilm | (apply call_gate 186; exact stp_callR hP (by as_aux_lemma => kernel_rfl) rfl rfl ⟨rfl, trivial⟩ ⟨⟨_, rfl, .inl rfl⟩, trivial⟩ rfl rfl) | (apply call_gate 139; exact stp_callR hSz (by as_aux_lemma => kernel_rfl) rfl rfl ⟨rfl, trivial⟩ trivial rfl rfl) | (apply call_gate 172; exact stp_callR hG (by as_aux_lemma => kernel_rfl) rfl rfl ⟨rfl, trivial⟩ ⟨⟨_, rfl, .inr rfl⟩, ⟨_, rfl, .inl rfl⟩, trivial⟩ rfl rfl)); apply run_step rfl; (first | exact stp_ix (j := i) rfl rfl rfl rfl rfl (by as_aux_lemma => kernel_rfl) rfl hiz (Nat.le_of_eq hlen.symm) | exact stp_loadR rfl (by as_aux_lemma => kernel_rfl) rfl rfl rfl hrowi hilm | (apply call_gate 186; exact stp_callR hP (by as_aux_lemma => kernel_rfl) rfl rfl ⟨rfl, trivial⟩ ⟨⟨_, rfl, .inl rfl⟩, trivial⟩ rfl rfl) | (apply call_gate 139; exact stp_callR hSz (by as_aux_lemma => kernel_rfl) rfl rfl ⟨rfl, trivial⟩ trivial rfl rfl) | (apply call_gate 172; exact stp_callR hG (by as_aux_lemma => kernel_rfl) rfl rfl ⟨rfl, trivial⟩ ⟨⟨_, rfl, .inr rfl⟩, ⟨_, rfl, .inl rfl⟩, trivial⟩ rfl rfl)); apply run_step rfl; (exact stp_assign rfl rfl); refine run_nil ?_; refine fin_seq ?_; refine goes_seq ?_; refine goes_region ?_; apply run_step rfl; (exact stp_move rfl rfl); apply run_step rfl; (first | exact stp_ix (j := i) rfl rfl rfl rfl rfl (by as_aux_lemma => kernel_rfl) rfl hiz (Nat.le_of_eq hlen.symm) | exact stp_loadR rfl (by as_aux_lemma => kernel_rfl) rfl rfl rfl hrowi hilm | (apply call_gate 186; exact stp_callR hP (by as_aux_lemma => kernel_rfl) rfl rfl ⟨rfl, trivial⟩ ⟨⟨_, rfl, .inl rfl⟩, trivial⟩ rfl rfl) | (apply call_gate 139; exact stp_callR hSz (by as_aux_lemma => kernel_rfl) rfl rfl ⟨rfl, trivial⟩ trivial rfl rfl) | (apply call_gate 172; exact stp_callR hG (by as_aux_lemma => kernel_rfl) rfl rfl ⟨rfl, trivial⟩ ⟨⟨_, rfl, .inr rfl⟩, ⟨_, rfl, .inl rfl⟩, trivial⟩ rfl rfl)); apply run_step rfl; (exact stp_not rfl rfl); apply run_step rfl; (exact stp_move rfl rfl); apply run_gYes rfl rfl rfl; (exact stp_move rfl rfl); apply run_gYes rfl rfl rfl; (first | exact stp_ix (j := i) rfl rfl rfl rfl rfl (by as_aux_lemma => kernel_rfl) rfl hiz (Nat.le_of_eq hlen.symm) | exact stp_loadR rfl (by as_aux_lemma => kernel_rfl) rfl rfl rfl hrowi hilm | (apply call_gate 186; exact stp_callR hP (by as_aux_lemma => kernel_rfl) rfl rfl ⟨rfl, trivial⟩ ⟨⟨_, rfl, .inl rfl⟩, trivial⟩ rfl rfl) | (apply call_gate 139; exact stp_callR hSz (by as_aux_lemma => kernel_rfl) rfl rfl ⟨rfl, trivial⟩ trivial rfl rfl) | (apply call_gate 172; exact stp_callR hG (by as_aux_lemma => kernel_rfl) rfl rfl ⟨rfl, trivial⟩ ⟨⟨_, rfl, .inr rfl⟩, ⟨_, rfl, .inl rfl⟩, trivial⟩ rfl rfl)); apply run_gYes rfl rfl rfl; (first | exact stp_ix (j := i) rfl rfl rfl rfl rfl (by as_aux_lemma => kernel_rfl) rfl hiz (Nat.le_of_eq hlen.symm) | exact stp_loadR rfl (by as_aux_lemma => kernel_rfl) rfl rfl rfl hrowi hilm | (apply call_gate 186; exact stp_callR hP (by as_aux_lemma => kernel_rfl) rfl rfl ⟨rfl, trivial⟩ ⟨⟨_, rfl, .inl rfl⟩, trivial⟩ rfl rfl) | (apply call_gate 139; exact stp_callR hSz (by as_aux_lemma => kernel_rfl) rfl rfl ⟨rfl, trivial⟩ trivial rfl rfl) | (apply call_gate 172; exact stp_callR hG (by as_aux_lemma => kernel_rfl) rfl rfl ⟨rfl, trivial⟩ ⟨⟨_, rfl, .inr rfl⟩, ⟨_, rfl, .inl rfl⟩, trivial⟩ rfl rfl)); apply run_gYes rfl rfl rfl; (exact stp_bin rfl rfl rfl rfl); apply run_step rfl; (exact stp_pickF rfl rfl rfl); refine run_nil ?_; refine fin_seq ?_)
      refine goes_cond rfl (fun e1 => ?_) (fun e1 => ?_)
      · have e1 : (m : Int) ≠ n := by simpa using e1
        rw [manB_no (fun h => by have := h.len i hiz; omega)]
        (refine goes_seq ?_; refine goes_region ?_; apply run_step rfl; (exact stp_assign rfl rfl); refine run_nil ?_; refine fin_seq ?_; refine goes_ret ?_; refine fin_ret_block ?_; refine fin_ret_then ?_; refine fin_ret_then ?_; refine fin_ret_block ?_; refine fin_ret_then ?_)
        exact fin_ret1 (.inl rfl) rfl (.tmp rfl) trivial trivial
      · have e1 : (m : Int) = n := by simpa using e1
        (refine goes_skip ?_; refine fin_block ?_; refine fin_seq ?_; refine goes_region ?_; apply run_step rfl; (exact stp_add rfl rfl rfl (by first | exact IntWalk.i64_in _ (by omega) | rfl)); apply run_step rfl; (exact stp_move rfl rfl); refine run_nil ?_)
        exact fin_round (i + 1) ⟨hiz, fun j hj => by
          by_cases e : j = i
          · subst e; exact ⟨by omega, hf.1, hf.2⟩
          · exact hrows j (by omega)⟩ (by omega) (Wk.of ⟨rfl, rfl, rfl, rfl, trivial⟩ ⟨rfl, rfl, trivial⟩ trivial)
  obtain rfl : i = zss.length := by omega
  have hrn : Rows zss n zss.length := hrows
  have hT := rows_leads hrn
  have hB := rows_back hrn
  (refine goes_exit ?_; refine fin_exit_then ?_; refine fin_exit_then ?_; refine fin_exit_eq ?_; refine fin_seq ?_; refine goes_seq ?_; refine goes_seq ?_; refine goes_region ?_; apply run_step rfl; (exact stp_fieldAddr (d := 0) rfl rfl rfl (by as_aux_lemma => kernel_rfl)); apply run_step rfl; (exact stp_loadF rfl (by as_aux_lemma => kernel_rfl) rfl rfl rfl rfl); apply run_step rfl; (exact stp_len rfl rfl rfl (by as_aux_lemma => kernel_rfl)); apply run_step rfl; (exact stp_move rfl rfl); refine run_nil ?_; refine fin_seq ?_; refine goes_block ?_)
  refine goes_loop (fun i : Nat => St.of [(1, o1 (.ptr 1 0)), (38, o1 (.sl 1003 0 zss.length)), (39, vv (I6 zss.length)), (40, vv (I6 i))] [(1003, rowsRo zss), (1, mxB zss.length)]) (fun i => i ≤ zss.length ∧ ∀ i' k, i' < i → i' + 2 ≤ k → k < zss.length → ∀ f, f < n → commAt zss i' k f) (fun i => zss.length - i) 0 ⟨Nat.zero_le _, fun j k hj => absurd hj (by omega)⟩ (Wk.of ⟨rfl, rfl, rfl, rfl, trivial⟩ ⟨rfl, rfl, trivial⟩ trivial) ?_
  clear hi hrows hlt
  rintro i ⟨hi, hci⟩
  (refine goes_seq ?_; refine goes_region ?_; apply run_step rfl; (exact stp_bin rfl rfl rfl rfl); refine run_nil ?_; refine fin_seq ?_; refine goes_seq ?_)
  refine goes_if rfl (fun hlt => ?_) (fun hlt => ?_)
  · have hiz : i < zss.length := by omega
    have hrowi : (irows zss)[i]? = some (ivals (lget zss i)) := irows_get hiz
    have hilm : (ivals (lget zss i)).length = n := by rw [ivals_len]; exact (hrn i hiz).1
    obtain ⟨mm, hmm⟩ : ∃ mm, min (i + 2) zss.length = mm := ⟨_, rfl⟩
    have hmR : mm ≤ zss.length := by omega
    have hi2 : IntKind.i64.wrap ((i : Int) + 2) = ((i + 2 : Nat) : Int) := IntWalk.i64_in _ (by omega)
    (refine goes_skip ?_; refine fin_seq ?_; refine goes_seq ?_; refine goes_block ?_; refine goes_seq ?_; refine goes_region ?_; apply run_step rfl; (exact stp_move rfl rfl); apply run_step rfl; (first | exact stp_ix (j := i) rfl rfl rfl rfl rfl (by as_aux_lemma => kernel_rfl) rfl hiz (Nat.le_of_eq hlen.symm) | exact stp_loadR rfl (by as_aux_lemma => kernel_rfl) rfl rfl rfl hrowi hilm | exact stp_add rfl rfl rfl hi2 | exact stp_minN rfl rfl rfl | exact stp_slice (k := 1) (l := min (i + 2) zss.length) (h := zss.length) rfl rfl rfl rfl (by as_aux_lemma => kernel_rfl) (by omega) (bnd_some rfl rfl) bnd_none (by omega) (Nat.le_refl _) (by rw [Nat.mul_one, Nat.zero_add]; exact Nat.le_of_eq hlen.symm)); apply run_step rfl; (first | exact stp_ix (j := i) rfl rfl rfl rfl rfl (by as_aux_lemma => kernel_rfl) rfl hiz (Nat.le_of_eq hlen.symm) | exact stp_loadR rfl (by as_aux_lemma => kernel_rfl) rfl rfl rfl hrowi hilm | exact stp_add rfl rfl rfl hi2 | exact stp_minN rfl rfl rfl | exact stp_slice (k := 1) (l := min (i + 2) zss.length) (h := zss.length) rfl rfl rfl rfl (by as_aux_lemma => kernel_rfl) (by omega) (bnd_some rfl rfl) bnd_none (by omega) (Nat.le_refl _) (by rw [Nat.mul_one, Nat.zero_add]; exact Nat.le_of_eq hlen.symm)); apply run_step rfl; (exact stp_assign rfl rfl); apply run_step rfl; (exact stp_assign rfl rfl); refine run_nil ?_; refine fin_seq ?_; refine goes_seq ?_; refine goes_region ?_; apply run_step rfl; (exact stp_fieldAddr (d := 0) rfl rfl rfl (by as_aux_lemma => kernel_rfl)); apply run_step rfl; (exact stp_loadF rfl (by as_aux_lemma => kernel_rfl) rfl rfl rfl rfl); apply run_step rfl; (exact stp_move rfl rfl); apply run_step rfl; (first | exact stp_ix (j := i) rfl rfl rfl rfl rfl (by as_aux_lemma => kernel_rfl) rfl hiz (Nat.le_of_eq hlen.symm) | exact stp_loadR rfl (by as_aux_lemma => kernel_rfl) rfl rfl rfl hrowi hilm | exact stp_add rfl rfl rfl hi2 | exact stp_minN rfl rfl rfl | exact stp_slice (k := 1) (l := min (i + 2) zss.length) (h := zss.length) rfl rfl rfl rfl (by as_aux_lemma => kernel_rfl) (by omega) (bnd_some rfl rfl) bnd_none (by omega) (Nat.le_refl _) (by rw [Nat.mul_one, Nat.zero_add]; exact Nat.le_of_eq hlen.symm)); apply run_step rfl; (exact stp_fieldAddr (d := 0) rfl rfl rfl (by as_aux_lemma => kernel_rfl)); apply run_step rfl; (exact stp_loadF rfl (by as_aux_lemma => kernel_rfl) rfl rfl rfl rfl); apply run_step rfl; (exact stp_len rfl rfl rfl (by as_aux_lemma => kernel_rfl)); apply run_step rfl; (first | exact stp_ix (j := i) rfl rfl rfl rfl rfl (by as_aux_lemma => kernel_rfl) rfl hiz (Nat.le_of_eq hlen.symm) | exact stp_loadR rfl (by as_aux_lemma => kernel_rfl) rfl rfl rfl hrowi hilm | exact stp_add rfl rfl rfl hi2 | exact stp_minN rfl rfl rfl | exact stp_slice (k := 1) (l := min (i + 2) zss.length) (h := zss.length) rfl rfl rfl rfl (by as_aux_lemma => kernel_rfl) (by omega) (bnd_some rfl rfl) bnd_none (by omega) (Nat.le_refl _) (by rw [Nat.mul_one, Nat.zero_add]; exact Nat.le_of_eq hlen.symm)); apply run_step rfl; (first | exact stp_ix (j := i) rfl rfl rfl rfl rfl (by as_aux_lemma => kernel_rfl) rfl hiz (Nat.le_of_eq hlen.symm) | exact stp_loadR rfl (by as_aux_lemma => kernel_rfl) rfl rfl rfl hrowi hilm | exact stp_add rfl rfl rfl hi2 | exact stp_minN rfl rfl rfl | exact stp_slice (k := 1) (l := min (i + 2) zss.length) (h := zss.length) rfl rfl rfl rfl (by as_aux_lemma => kernel_rfl) (by omega) (bnd_some rfl rfl) bnd_none (by omega) (Nat.le_refl _) (by rw [Nat.mul_one, Nat.zero_add]; exact Nat.le_of_eq hlen.symm)); apply run_step rfl; (exact stp_len rfl rfl rfl (by as_aux_lemma => kernel_rfl)); apply run_step rfl; (exact stp_move rfl rfl); refine run_nil ?_; refine fin_seq ?_; refine goes_block ?_)
    rw [hmm]
    refine goes_loop (fun j : Nat => St.of [(1, o1 (.ptr 1 0)), (6, o1 (.esl 1003 i 0 n)), (38, o1 (.sl 1003 0 zss.length)), (39, vv (I6 zss.length)), (40, vv (I6 i)), (53, o1 (.sl 1003 mm (zss.length - mm))), (54, vv (I6 (zss.length - mm : Nat))), (55, vv (I6 j))] [(1003, rowsRo zss), (1, mxB zss.length)]) (fun j => j ≤ zss.length - mm ∧ ∀ k', i + 2 ≤ k' → k' < mm + j → ∀ f, f < n → commAt zss i k' f) (fun j => zss.length - mm - j) 0 ⟨Nat.zero_le _, fun k' h1 h2 => absurd h1 (by omega)⟩ (Wk.of ⟨rfl, rfl, rfl, rfl, rfl, congrArg (fun z => some (o1 (.sl 1003 z (zss.length - mm)))) (Nat.zero_add mm), rfl, rfl, trivial⟩ ⟨rfl, rfl, trivial⟩ trivial) ?_
    rintro j ⟨hj, hck⟩
    (refine goes_seq ?_; refine goes_region ?_; apply run_step rfl; (exact stp_bin rfl rfl rfl rfl); refine run_nil ?_; refine fin_seq ?_; refine goes_seq ?_)
    refine goes_if rfl (fun hlj => ?_) (fun hlj => ?_)
    · obtain ⟨k, hk⟩ : ∃ k, mm + j = k := ⟨_, rfl⟩
      have hkz : k < zss.length := by omega
      have hki : i + 2 ≤ k := by omega
      have hjl : j < zss.length - mm := by omega
      have hml : mm + (zss.length - mm) ≤ (irows zss).length := by rw [hlen]; omega
      have hrowk : (irows zss)[k]? = some (ivals (lget zss k)) := irows_get hkz
      have hilk : (ivals (lget zss k)).length = n := by rw [ivals_len]; exact (hrn k hkz).1
      (refine goes_skip ?_; refine fin_seq ?_; refine goes_seq ?_; refine goes_block ?_; refine goes_seq ?_; refine goes_region ?_; apply run_step rfl; (first | exact stp_ixK (j := j) rfl rfl rfl rfl rfl (by as_aux_lemma => kernel_rfl) rfl hjl hml hk | exact stp_loadR rfl (by as_aux_lemma => kernel_rfl) rfl rfl rfl hrowk hilk | (apply call_gate 172; exact stp_callR hG (by as_aux_lemma => kernel_rfl) rfl rfl ⟨rfl, trivial⟩ ⟨⟨_, rfl, .inr rfl⟩, ⟨_, rfl, .inl rfl⟩, trivial⟩ rfl rfl)); apply run_step rfl; (first | exact stp_ixK (j := j) rfl rfl rfl rfl rfl (by as_aux_lemma => kernel_rfl) rfl hjl hml hk | exact stp_loadR rfl (by as_aux_lemma => kernel_rfl) rfl rfl rfl hrowk hilk | (apply call_gate 172; exact stp_callR hG (by as_aux_lemma => kernel_rfl) rfl rfl ⟨rfl, trivial⟩ ⟨⟨_, rfl, .inr rfl⟩, ⟨_, rfl, .inl rfl⟩, trivial⟩ rfl rfl)); apply run_step rfl; (exact stp_assign rfl rfl); refine run_nil ?_; refine fin_seq ?_; refine goes_seq ?_; refine goes_region ?_; apply run_step rfl; (first | exact stp_ixK (j := j) rfl rfl rfl rfl rfl (by as_aux_lemma => kernel_rfl) rfl hjl hml hk | exact stp_loadR rfl (by as_aux_lemma => kernel_rfl) rfl rfl rfl hrowk hilk | (apply call_gate 172; exact stp_callR hG (by as_aux_lemma => kernel_rfl) rfl rfl ⟨rfl, trivial⟩ ⟨⟨_, rfl, .inr rfl⟩, ⟨_, rfl, .inl rfl⟩, trivial⟩ rfl rfl)); apply run_step rfl; (exact stp_move rfl rfl); refine run_nil ?_; refine fin_seq ?_; refine goes_block ?_)
      refine goes_loop (fun f : Nat => St.of [(1, o1 (.ptr 1 0)), (6, o1 (.esl 1003 i 0 n)), (8, o1 (.esl 1003 k 0 n)), (38, o1 (.sl 1003 0 zss.length)), (39, vv (I6 zss.length)), (40, vv (I6 i)), (53, o1 (.sl 1003 mm (zss.length - mm))), (54, vv (I6 (zss.length - mm : Nat))), (55, vv (I6 j)), (59, vv (I6 n)), (60, vv (I6 f))] [(1003, rowsRo zss), (1, mxB zss.length)]) (fun f => f ≤ n ∧ ∀ f', f' < f → commAt zss i k f') (fun f => n - f) 0 ⟨Nat.zero_le _, fun f' h1 => absurd h1 (by omega)⟩ (Wk.of ⟨rfl, rfl, rfl, rfl, rfl, rfl, rfl, rfl, rfl, rfl, rfl, trivial⟩ ⟨rfl, rfl, trivial⟩ trivial) ?_
      rintro f ⟨hf, hcf⟩
      (refine goes_seq ?_; refine goes_region ?_; apply run_step rfl; (exact stp_bin rfl rfl rfl rfl); refine run_nil ?_; refine fin_seq ?_; refine goes_seq ?_)
      refine goes_if rfl (fun hlf => ?_) (fun hlf => ?_)
      · have hfn : f < n := by omega
        have hd1 := bTo_lt hT hfn (g := i) hiz
        have hd2 := bTo_lt hT hfn (g := k) hkz
        have hx1 := bTo_lt hT hd1.1 (g := k) hkz
        have hx2 := bTo_lt hT hd2.1 (g := i) hiz
        have hcm : commAt zss i k f ↔ bTo zss (bTo zss f i) k = bTo zss (bTo zss f k) i ∧ bTo zss f i ≠ bTo zss f k := Iff.rfl
        generalize bTo zss (bTo zss f i) k = x1 at *
        generalize bTo zss (bTo zss f k) i = x2 at *
        generalize bTo zss f i = d1 at *
        generalize bTo zss f k = d2 at *
        have g1 : (ivals (lget zss i))[f]? = some (I6 (d1 : Int)) := by rw [ivals_get (by rw [(hrn i hiz).1]; exact hfn), hd1.2]
        have g2 : (ivals (lget zss k))[f]? = some (I6 (d2 : Int)) := by rw [ivals_get (by rw [(hrn k hkz).1]; exact hfn), hd2.2]
        have g3 : (ivals (lget zss k))[d1]? = some (I6 (x1 : Int)) := by rw [ivals_get (by rw [(hrn k hkz).1]; exact hd1.1), hx1.2]
        have g4 : (ivals (lget zss i))[d2]? = some (I6 (x2 : Int)) := by rw [ivals_get (by rw [(hrn i hiz).1]; exact hd2.1), hx2.2]
        have hni : n ≤ (ivals (lget zss i)).length := Nat.le_of_eq hilm.symm
        have hnk : n ≤ (ivals (lget zss k)).length := Nat.le_of_eq hilk.symm
        (refine goes_skip ?_; refine fin_seq ?_; refine goes_seq ?_; refine goes_block ?_; refine goes_seq ?_; refine goes_region ?_; apply run_step rfl; (exact stp_move rfl rfl); apply run_step rfl; (exact stp_assign rfl rfl); refine run_nil ?_; refine fin_seq ?_; refine goes_seq ?_)
        by_cases e1 : (d1 : Int) = d2
        · apply goes_drawG 26 [] [[], [], [0, 1], [0, 1, 2], [], [], [4, 5], [4, 5, 6], [0, 1, 2, 3, 4, 5, 6, 7], [0, 1, 2, 3, 4, 5, 6, 7, 8], [0, 1, 2, 3, 4, 5, 6, 7, 8, 9], [0, 1, 2, 3, 4, 5, 6, 7, 8, 9], [0, 1, 2, 3, 4, 5, 6, 7, 8, 9], [0, 1, 2, 3, 4, 5, 6, 7, 8, 9, 11, 12], [0, 1, 2, 3, 4, 5, 6, 7, 8, 9, 11, 12, 13], [0, 1, 2, 3, 4, 5, 6, 7, 8, 9, 10, 11, 12, 13, 14], [0, 1, 2, 3, 4, 5, 6, 7, 8, 9, 10, 11, 12, 13, 14, 15], [0, 1, 2, 3, 4, 5, 6, 7, 8, 9], [0, 1, 2, 3, 4, 5, 6, 7, 8, 9], [0, 1, 2, 3, 4, 5, 6, 7, 8, 9], [0, 1, 2, 3, 4, 5, 6, 7, 8, 9, 18, 19], [0, 1, 2, 3, 4, 5, 6, 7, 8, 9, 18, 19, 20], [0, 1, 2, 3, 4, 5, 6, 7, 8, 9, 17, 18, 19, 20, 21], [0, 1, 2, 3, 4, 5, 6, 7, 8, 9, 17, 18, 19, 20, 21, 22], [0, 1, 2, 3, 4, 5, 6, 7, 8, 9, 10, 11, 12, 13, 14, 15, 16, 17, 18, 19, 20, 21, 22, 23], [0, 1, 2, 3, 4, 5, 6, 7, 8, 9, 10, 11, 12, 13, 14, 15, 16, 17, 18, 19, 20, 21, 22, 23, 24]] [63, 64, 65, 66, 67, 68, 69, 70, 71, 72, 73, 74, 75, 76, 77, 78, 79, 80, 81, 82, 83, 84, 85, 86, 87, 88] [] (by kernel_rfl) (by kernel_rfl)
          · (apply drawG_put rfl; (intro S1 hS; exact stp_move rfl (hS.op rfl)))
            (apply drawG_put rfl; (intro S1 hS; exact stp_move rfl (hS.op rfl)))
            (apply drawG_put rfl; (intro S1 hS; exact stp_ixE (j := f) rfl (hS.op rfl) (hS.op rfl) (hS.ch _ _ rfl) rfl (by as_aux_lemma => kernel_rfl) hrowi rfl hfn hni))
            (apply drawG_put rfl; (intro S1 hS; exact stp_loadE' rfl (by as_aux_lemma => kernel_rfl) (hS.op rfl) (hS.ch _ _ rfl) rfl hrowi g1))
            (apply drawG_put rfl; (intro S1 hS; exact stp_move rfl (hS.op rfl)))
            (apply drawG_put rfl; (intro S1 hS; exact stp_move rfl (hS.op rfl)))
            (apply drawG_put rfl; (intro S1 hS; exact stp_ixE (j := f) rfl (hS.op rfl) (hS.op rfl) (hS.ch _ _ rfl) rfl (by as_aux_lemma => kernel_rfl) hrowk rfl hfn hnk))
            (apply drawG_put rfl; (intro S1 hS; exact stp_loadE' rfl (by as_aux_lemma => kernel_rfl) (hS.op rfl) (hS.ch _ _ rfl) rfl hrowk g2))
            (apply drawG_put rfl; (intro S1 hS; exact stp_bin rfl (hS.op rfl) (hS.op rfl) (binEql e1)))
            (apply drawG_put rfl; (intro S1 hS; exact stp_move rfl (hS.op rfl)))
            apply drawG_no rfl rfl rfl rfl rfl
            apply drawG_no rfl rfl rfl rfl rfl
            apply drawG_no rfl rfl rfl rfl rfl
            apply drawG_no rfl rfl rfl rfl rfl
            apply drawG_no rfl rfl rfl rfl rfl
            apply drawG_no rfl rfl rfl rfl rfl
            apply drawG_no rfl rfl rfl rfl rfl
            apply drawG_no rfl rfl rfl rfl rfl
            apply drawG_no rfl rfl rfl rfl rfl
            apply drawG_no rfl rfl rfl rfl rfl
            apply drawG_no rfl rfl rfl rfl rfl
            apply drawG_no rfl rfl rfl rfl rfl
            apply drawG_no rfl rfl rfl rfl rfl
            apply drawG_no rfl rfl rfl rfl rfl
            apply drawG_no rfl rfl rfl rfl rfl
            (apply drawG_put rfl; (intro S1 hS; exact stp_pickT rfl (hS.op rfl) (hS.op rfl)))
            exact DrawG.nil
          · rfl
          ((refine rest_done (by as_aux_lemma => kernel_rfl) ?_; skip))
          (refine fin_seq ?_)
          refine goes_cond rfl (fun _ => ?_) (fun e => by cases e)
          rw [manB_no (fun h => by have := (hcm.1 (h.comm i k hki hkz f (by omega))).2; omega)]
          (refine goes_seq ?_; refine goes_region ?_; apply run_step rfl; (exact stp_assign rfl rfl); refine run_nil ?_; refine fin_seq ?_; refine goes_ret ?_; refine fin_ret_block ?_; refine fin_ret_then ?_; refine fin_ret_then ?_; refine fin_ret_block ?_; refine fin_ret_block ?_; refine fin_ret_then ?_; refine fin_ret_then ?_; refine fin_ret_block ?_; refine fin_ret_block ?_; refine fin_ret_then ?_; refine fin_ret_then ?_; refine fin_ret_block ?_; refine fin_ret_then ?_)
          exact fin_ret1 (.inl rfl) rfl (.tmp rfl) trivial trivial
        · apply goes_drawG 26 [] [[], [], [0, 1], [0, 1, 2], [], [], [4, 5], [4, 5, 6], [0, 1, 2, 3, 4, 5, 6, 7], [0, 1, 2, 3, 4, 5, 6, 7, 8], [0, 1, 2, 3, 4, 5, 6, 7, 8, 9], [0, 1, 2, 3, 4, 5, 6, 7, 8, 9], [0, 1, 2, 3, 4, 5, 6, 7, 8, 9], [0, 1, 2, 3, 4, 5, 6, 7, 8, 9, 11, 12], [0, 1, 2, 3, 4, 5, 6, 7, 8, 9, 11, 12, 13], [0, 1, 2, 3, 4, 5, 6, 7, 8, 9, 10, 11, 12, 13, 14], [0, 1, 2, 3, 4, 5, 6, 7, 8, 9, 10, 11, 12, 13, 14, 15], [0, 1, 2, 3, 4, 5, 6, 7, 8, 9], [0, 1, 2, 3, 4, 5, 6, 7, 8, 9], [0, 1, 2, 3, 4, 5, 6, 7, 8, 9], [0, 1, 2, 3, 4, 5, 6, 7, 8, 9, 18, 19], [0, 1, 2, 3, 4, 5, 6, 7, 8, 9, 18, 19, 20], [0, 1, 2, 3, 4, 5, 6, 7, 8, 9, 17, 18, 19, 20, 21], [0, 1, 2, 3, 4, 5, 6, 7, 8, 9, 17, 18, 19, 20, 21, 22], [0, 1, 2, 3, 4, 5, 6, 7, 8, 9, 10, 11, 12, 13, 14, 15, 16, 17, 18, 19, 20, 21, 22, 23], [0, 1, 2, 3, 4, 5, 6, 7, 8, 9, 10, 11, 12, 13, 14, 15, 16, 17, 18, 19, 20, 21, 22, 23, 24]] [63, 64, 65, 66, 67, 68, 69, 70, 71, 72, 73, 74, 75, 76, 77, 78, 79, 80, 81, 82, 83, 84, 85, 86, 87, 88] [] (by kernel_rfl) (by kernel_rfl)
          · (apply drawG_put rfl; (intro S1 hS; exact stp_move rfl (hS.op rfl)))
            (apply drawG_put rfl; (intro S1 hS; exact stp_move rfl (hS.op rfl)))
            (apply drawG_put rfl; (intro S1 hS; exact stp_ixE (j := f) rfl (hS.op rfl) (hS.op rfl) (hS.ch _ _ rfl) rfl (by as_aux_lemma => kernel_rfl) hrowi rfl hfn hni))
            (apply drawG_put rfl; (intro S1 hS; exact stp_loadE' rfl (by as_aux_lemma => kernel_rfl) (hS.op rfl) (hS.ch _ _ rfl) rfl hrowi g1))
            (apply drawG_put rfl; (intro S1 hS; exact stp_move rfl (hS.op rfl)))
            (apply drawG_put rfl; (intro S1 hS; exact stp_move rfl (hS.op rfl)))
            (apply drawG_put rfl; (intro S1 hS; exact stp_ixE (j := f) rfl (hS.op rfl) (hS.op rfl) (hS.ch _ _ rfl) rfl (by as_aux_lemma => kernel_rfl) hrowk rfl hfn hnk))
            (apply drawG_put rfl; (intro S1 hS; exact stp_loadE' rfl (by as_aux_lemma => kernel_rfl) (hS.op rfl) (hS.ch _ _ rfl) rfl hrowk g2))
            (apply drawG_put rfl; (intro S1 hS; exact stp_bin rfl (hS.op rfl) (hS.op rfl) (binEql' e1)))
            (apply drawG_put rfl; (intro S1 hS; exact stp_move rfl (hS.op rfl)))
            (apply drawG_yes rfl rfl rfl; (intro S1 hS; exact stp_move rfl (hS.op rfl)))
            (apply drawG_yes rfl rfl rfl; (intro S1 hS; exact stp_move rfl (hS.op rfl)))
            (apply drawG_yes rfl rfl rfl; (intro S1 hS; exact stp_move rfl (hS.op rfl)))
            (apply drawG_yes rfl rfl rfl; (intro S1 hS; exact stp_ixE (j := f) rfl (hS.op rfl) (hS.op rfl) (hS.ch _ _ rfl) rfl (by as_aux_lemma => kernel_rfl) hrowi rfl hfn hni))
            (apply drawG_yes rfl rfl rfl; (intro S1 hS; exact stp_loadE' rfl (by as_aux_lemma => kernel_rfl) (hS.op rfl) (hS.ch _ _ rfl) rfl hrowi g1))
            (apply drawG_yes rfl rfl rfl; (intro S1 hS; exact stp_ixE (j := d1) rfl (hS.op rfl) (hS.op rfl) (hS.ch _ _ rfl) rfl (by as_aux_lemma => kernel_rfl) hrowk rfl hd1.1 hnk))
            (apply drawG_yes rfl rfl rfl; (intro S1 hS; exact stp_loadE' rfl (by as_aux_lemma => kernel_rfl) (hS.op rfl) (hS.ch _ _ rfl) rfl hrowk g3))
            (apply drawG_yes rfl rfl rfl; (intro S1 hS; exact stp_move rfl (hS.op rfl)))
            (apply drawG_yes rfl rfl rfl; (intro S1 hS; exact stp_move rfl (hS.op rfl)))
            (apply drawG_yes rfl rfl rfl; (intro S1 hS; exact stp_move rfl (hS.op rfl)))
            (apply drawG_yes rfl rfl rfl; (intro S1 hS; exact stp_ixE (j := f) rfl (hS.op rfl) (hS.op rfl) (hS.ch _ _ rfl) rfl (by as_aux_lemma => kernel_rfl) hrowk rfl hfn hnk))
            (apply drawG_yes rfl rfl rfl; (intro S1 hS; exact stp_loadE' rfl (by as_aux_lemma => kernel_rfl) (hS.op rfl) (hS.ch _ _ rfl) rfl hrowk g2))
            (apply drawG_yes rfl rfl rfl; (intro S1 hS; exact stp_ixE (j := d2) rfl (hS.op rfl) (hS.op rfl) (hS.ch _ _ rfl) rfl (by as_aux_lemma => kernel_rfl) hrowi rfl hd2.1 hni))
            (apply drawG_yes rfl rfl rfl; (intro S1 hS; exact stp_loadE' rfl (by as_aux_lemma => kernel_rfl) (hS.op rfl) (hS.ch _ _ rfl) rfl hrowi g4))
            (apply drawG_yes rfl rfl rfl; (intro S1 hS; exact stp_bin rfl (hS.op rfl) (hS.op rfl) rfl))
            (apply drawG_put rfl; (intro S1 hS; exact stp_pickF rfl (hS.op rfl) (hS.op rfl)))
            exact DrawG.nil
          · rfl
          ((refine rest_done (by as_aux_lemma => kernel_rfl) ?_; skip))
          (refine fin_seq ?_)
          refine goes_cond rfl (fun e2 => ?_) (fun e2 => ?_)
          · have e2 : (x1 : Int) ≠ x2 := by simpa using e2
            rw [manB_no (fun h => by have := (hcm.1 (h.comm i k hki hkz f (by omega))).1; omega)]
            (refine goes_seq ?_; refine goes_region ?_; apply run_step rfl; (exact stp_assign rfl rfl); refine run_nil ?_; refine fin_seq ?_; refine goes_ret ?_; refine fin_ret_block ?_; refine fin_ret_then ?_; refine fin_ret_then ?_; refine fin_ret_block ?_; refine fin_ret_block ?_; refine fin_ret_then ?_; refine fin_ret_then ?_; refine fin_ret_block ?_; refine fin_ret_block ?_; refine fin_ret_then ?_; refine fin_ret_then ?_; refine fin_ret_block ?_; refine fin_ret_then ?_)
            exact fin_ret1 (.inl rfl) rfl (.tmp rfl) trivial trivial
          · have e2 : (x1 : Int) = x2 := by simpa using e2
            (refine goes_skip ?_; refine fin_block ?_; refine fin_seq ?_; refine goes_region ?_; apply run_step rfl; (exact stp_add rfl rfl rfl (by first | exact IntWalk.i64_in _ (by omega) | rfl)); apply run_step rfl; (exact stp_move rfl rfl); refine run_nil ?_)
            exact fin_round (f + 1) ⟨hfn, fun f' hf' => by
              by_cases e : f' = f
              · subst e; exact hcm.2 ⟨by omega, by omega⟩
              · exact hcf f' (by omega)⟩ (by omega) (Wk.of ⟨rfl, rfl, rfl, rfl, rfl, rfl, rfl, rfl, rfl, rfl, rfl, trivial⟩ ⟨rfl, rfl, trivial⟩ trivial)
      · (refine goes_exit ?_; refine fin_exit_then ?_; refine fin_exit_then ?_; refine fin_exit_eq ?_; refine fin_block ?_; refine fin_seq ?_; refine goes_region ?_; apply run_step rfl; (exact stp_add rfl rfl rfl (by first | exact IntWalk.i64_in _ (by omega) | rfl)); apply run_step rfl; (exact stp_move rfl rfl); refine run_nil ?_)
        exact fin_round (j + 1) ⟨by omega, fun k' h1 h2 f' hf' => by
          by_cases e : k' = k
          · subst e; exact hcf f' (by omega)
          · exact hck k' h1 (by omega) f' hf'⟩ (by omega) (Wk.of ⟨rfl, rfl, rfl, rfl, rfl, rfl, rfl, rfl, trivial⟩ ⟨rfl, rfl, trivial⟩ trivial)
    · (refine goes_exit ?_; refine fin_exit_then ?_; refine fin_exit_then ?_; refine fin_exit_eq ?_; refine fin_block ?_; refine fin_seq ?_; refine goes_region ?_; apply run_step rfl; (exact stp_add rfl rfl rfl (by first | exact IntWalk.i64_in _ (by omega) | rfl)); apply run_step rfl; (exact stp_move rfl rfl); refine run_nil ?_)
      exact fin_round (i + 1) ⟨hiz, fun i' k' h1 h2 h3 => by
        by_cases e : i' = i
        · subst e; exact hck k' h2 (by omega)
        · exact hci i' k' (by omega) h2 h3⟩ (by omega) (Wk.of ⟨rfl, rfl, rfl, rfl, trivial⟩ ⟨rfl, rfl, trivial⟩ trivial)
  obtain rfl : i = zss.length := by omega
  have hM : Man0 zss := ⟨by omega, by omega, by omega, by omega, by rw [hn]; exact hrn, fun i k h1 h2 f hf => hci i k (by omega) h1 h2 f (by omega)⟩
  have hO := (orbI_fc zss n zss.length rfl hT hB (by omega) (by omega) (by omega)).nm [(1003, 1003), (16, 96)] (by kernel_rfl)
  have hO : FC Try.prog 187 [(1003, rowsRo zss)] [vv (I6 n), o1 (.sl 1003 0 zss.length)] [(96, leOw (labs zss n).1)] (.tup [.one (.sl 96 0 n), .one (.val (I6 (labs zss n).2))]) [] := hO
  have hv : manB zss = (((labs zss n).2 : Int) == 1) := by
    rw [hM.man, hn]
    have := labs_one hT hB (n := n) (by omega)
    by_cases hc : (orb zss n 0).2.length = n
    · rw [hc, this.2 hc]; simp
    · have h1 : (labs zss n).2 ≠ 1 := fun h => hc (this.1 h)
      have h2 : ((labs zss n).2 : Int) ≠ 1 := by omega
      have h3 : ((orb zss n 0).2.length : Int) ≠ n := by omega
      rw [beq_eq_false_iff_ne.2 h2, beq_eq_false_iff_ne.2 h3]
  rw [hv]
  (refine goes_exit ?_; refine fin_exit_then ?_; refine fin_exit_then ?_; refine fin_exit_eq ?_; refine fin_seq ?_; refine goes_seq ?_)
  apply goes_draw 5 [] [[], [], [1], [0, 1, 2], [0, 1, 2, 3], [0, 1, 2, 3, 4], [0, 1, 2, 3, 4], [0, 1, 2, 3, 4, 5], [0, 1, 2, 3, 4, 5, 6, 7]] [93, 94, 95, 96, 92] [96] (by kernel_rfl) (by kernel_rfl)
  · (apply draw_put rfl; (intro S1 hS; apply call_gate 172; exact stp_callR hG (by as_aux_lemma => kernel_rfl) rfl (opL_le hS rfl) ⟨rfl, trivial⟩ (allIn_le hS ⟨⟨_, rfl, .inr rfl⟩, ⟨_, rfl, .inl rfl⟩, trivial⟩) rfl rfl))
    (apply draw_put rfl; (intro S1 hS; exact stp_fieldAddr (d := 0) rfl (hS.op rfl) (hS.ch _ _ rfl) (by as_aux_lemma => kernel_rfl)))
    (apply draw_put rfl; (intro S1 hS; exact stp_loadF rfl (by as_aux_lemma => kernel_rfl) (hS.op rfl) (hS.ch _ _ rfl) rfl rfl))
    (apply draw_new rfl; (intro S1 hS; apply call_gate 187; exact stp_callN hO (by as_aux_lemma => kernel_rfl) rfl (opL_le hS rfl) ⟨rfl, rfl, trivial⟩ (allIn_le hS ⟨⟨_, rfl, .inl rfl⟩, trivial⟩) rfl rfl rfl))
    (apply draw_put rfl; (intro S1 hS; exact stp_move rfl (hS.op rfl)))
    exact Draw.nil
  · rfl
  refine rest_join (St.of [(11, vv (I6 (labs zss n).2))] []) ?_ ?_
  · ((apply rest_two 5 6 rfl (by as_aux_lemma => kernel_rfl) rfl rfl rfl rfl; (exact stp_extract rfl rfl rfl); (exact stp_extract rfl rfl rfl); (focus ((apply rest_two 6 7 rfl (by as_aux_lemma => kernel_rfl) rfl rfl rfl rfl; (exact stp_extract rfl rfl rfl); (exact stp_assign rfl rfl); (focus ((apply rest_one 7 rfl (by as_aux_lemma => kernel_rfl) rfl rfl; (exact stp_assign rfl rfl)); (apply rest_one 8 rfl (by as_aux_lemma => kernel_rfl) rfl rfl; (exact stp_assign rfl rfl)); (refine rest_done (by as_aux_lemma => kernel_rfl) ?_; exact fin_join (Wk.of ⟨rfl, trivial⟩ trivial trivial)))); (focus ((apply rest_one 6 rfl (by as_aux_lemma => kernel_rfl) rfl rfl; (exact stp_extract rfl rfl rfl)); (apply rest_one 8 rfl (by as_aux_lemma => kernel_rfl) rfl rfl; (exact stp_assign rfl rfl)); (refine rest_done (by as_aux_lemma => kernel_rfl) ?_; exact fin_join (Wk.of ⟨rfl, trivial⟩ trivial trivial))))))); (focus ((apply rest_one 5 rfl (by as_aux_lemma => kernel_rfl) rfl rfl; (exact stp_extract rfl rfl rfl)); (apply rest_one 7 rfl (by as_aux_lemma => kernel_rfl) rfl rfl; (exact stp_assign rfl rfl)); (apply rest_one 8 rfl (by as_aux_lemma => kernel_rfl) rfl rfl; (exact stp_assign rfl rfl)); (refine rest_done (by as_aux_lemma => kernel_rfl) ?_; exact fin_join (Wk.of ⟨rfl, trivial⟩ trivial trivial))))))
  (refine fin_seq ?_; refine goes_seq ?_; refine goes_region ?_; apply run_step rfl; (exact stp_move rfl rfl); apply run_step rfl; (exact stp_bin rfl rfl rfl rfl); apply run_step rfl; (exact stp_assign rfl rfl); refine run_nil ?_; refine fin_seq ?_; refine goes_ret ?_)
  exact fin_ret1 (.inl rfl) rfl (.tmp rfl) trivial trivial
end Go.Proofs.Ytpognnifgcacnaa

/- IsMap. guards: -/
namespace Go.Proofs.Ytpognnifgcacnaa
open Go.RowKit

end Go.Proofs.Ytpognnifgcacnaa

/- The universal polytope: what it is; the coset table without words, in words. -/
namespace Go.Proofs.Ytpognnifgcacnaa
open Go.RowKit

theorem isPres_wr {d : PresD} {ws : List (List Int)} (h : wrC d ws = 0) : isPres (wrR d ws) = true := by
  unfold wrC at h
  split at h
  · rename_i hok
    unfold wrR
    rw [if_pos hok]
    unfold wrK at h
    split at h
    · rename_i h24
      unfold wrV
      rw [if_pos h24]
      obtain ⟨hp, hw⟩ := withOk_pres hok
      unfold isPres at hp ⊢
      unfold wordsTo at hw
      simp only [Bool.and_eq_true, decide_eq_true_eq, List.all_eq_true] at hp hw ⊢
      refine ⟨⟨hp.1.1, h24⟩, fun z hz => ?_⟩
      have hz2 := List.mem_filter.1 hz
      refine ⟨?_, by have := hz2.2; simp at this; omega⟩
      rcases List.mem_append.1 hz2.1 with h1 | h1
      · exact (hp.2 z h1).1
      · exact (hw.2 z h1).1
    · cases h
  · cases h
/-- a diagram, words that may be relators, few cosets, a maniplex -/
def uniD (zs : List Int) (ws : List (List Int)) : PresD := wrR (coxPres zs) ws
noncomputable def uniC (zs : List Int) (ws : List (List Int)) : Int :=
  if isDiag zs = true then (if wrC (coxPres zs) ws = 0 then (if smallOk (uniD zs ws) [] = true then (if manB (cosTab (uniD zs ws) []) = true then 0 else 5) else 3) else wrC (coxPres zs) ws) else 1
noncomputable def uniR (zs : List Int) (ws : List (List Int)) : List (List Int) := if uniC zs ws = 0 then cosTab (uniD zs ws) [] else []
section
variable {zs : List Int} {ws : List (List Int)}
theorem uni_1 (h : isDiag zs = false) : uniC zs ws = 1 ∧ uniR zs ws = [] := by
  have e : uniC zs ws = 1 := by unfold uniC; rw [h]; rfl
  exact ⟨e, by unfold uniR; rw [e]; rfl⟩
theorem uni_2 (h : isDiag zs = true) (h2 : wrC (coxPres zs) ws ≠ 0) : uniC zs ws = wrC (coxPres zs) ws ∧ uniR zs ws = [] := by
  have e : uniC zs ws = wrC (coxPres zs) ws := by unfold uniC; rw [if_pos h, if_neg h2]
  exact ⟨e, by unfold uniR; rw [e, if_neg h2]⟩
theorem uni_3 (h : isDiag zs = true) (h2 : wrC (coxPres zs) ws = 0) (h3 : ¬ smallOk (uniD zs ws) [] = true) : uniC zs ws = 3 ∧ uniR zs ws = [] := by
  have e : uniC zs ws = 3 := by unfold uniC; rw [if_pos h, if_pos h2, if_neg h3]
  exact ⟨e, by unfold uniR; rw [e]; rfl⟩
theorem uni_4 (h : isDiag zs = true) (h2 : wrC (coxPres zs) ws = 0) (h3 : smallOk (uniD zs ws) [] = true) (h4 : manB (cosTab (uniD zs ws) []) = false) : uniC zs ws = 5 ∧ uniR zs ws = [] := by
  have e : uniC zs ws = 5 := by unfold uniC; rw [if_pos h, if_pos h2, if_pos h3, h4]; rfl
  exact ⟨e, by unfold uniR; rw [e]; rfl⟩
theorem uni_5 (h : isDiag zs = true) (h2 : wrC (coxPres zs) ws = 0) (h3 : smallOk (uniD zs ws) [] = true) (h4 : manB (cosTab (uniD zs ws) []) = true) : uniC zs ws = 0 ∧ uniR zs ws = cosTab (uniD zs ws) [] := by
  have e : uniC zs ws = 0 := by unfold uniC; rw [if_pos h, if_pos h2, if_pos h3, if_pos h4]
  exact ⟨e, by unfold uniR; rw [if_pos e]⟩
end
/-- a presentation and no words -/
theorem callPN {f : FuncId} {outs : List (Nm × Ch)} {res : AV} {d : PresD} (hf : Fit d.2 → FC Try.prog f [(1002, rowsRo []), (1003, rowsRo d.2)] [pA d.1 d.2.length, o1 (.sl 1002 0 0)] outs res []) {E1 E : Nat} {w : World} {lo hi : Nat} {v : Value} (h : OwP E1 E w lo hi v d) :
    Calls Try.prog f #[v, .slice none 0 0] w fun e w' => ∃ v η ω, e = .returned v ∧ Den η res v ∧ Mem η ω w' (fun x => lk x outs) ∧ Below w.heap.size w w' ∧ ∀ b, b < w.heap.size → ω b = none := by
  obtain ⟨u, rfl, hs⟩ := ofP h
  obtain ⟨hd, r, rfl, hv⟩ := ofSS 1003 49 2 hs
  exact (FC.nilW (hf (fit_of hs))).call (l := [(1003, (rowsRo d.2, hd, r))]) (us := [_, _]) (fun p hp => by simp at hp; subst hp; exact hv) rfl (denL2 (denP (den_sl (q := (rowsRo d.2, hd, r)) rfl)) rfl)
theorem cosTab_small {d : PresD} (hok : isPres d = true) (hs : smallOk d [] = true) : ((cosTab d []).length : Int) = d.1 ∧ 0 < (cosTab d []).length ∧ (cosTab d []).length ≤ 5 ∧ ∀ g, g < (cosTab d []).length → (lget (cosTab d []) g).length = cosN d [] := by
  obtain ⟨g, rels⟩ := d
  obtain ⟨ng, rfl, hG⟩ := good_of (rels := rels) (ws := []) (by rw [withOk_nil]; exact hok)
  have hl := cosTab_len ng rels []
  refine ⟨by rw [hl], by rw [hl]; exact hG.pos, by rw [hl]; exact hG.hi, fun k hk => cosTab_row (by rw [hl] at hk; exact hk)⟩
theorem specSmallW_yes {E1 E : Nat} {lo hi : Nat} {v : Value} {d : PresD} (w : World) (h : OwP E1 E w lo hi v d) (hok : isPres d = true) (hs : smallOk d [] = true) :
    Calls Try.prog 107 #[v, .slice none 0 0] w fun e w' => ∃ r, e = .returned (.tuple #[r, .int .i64 0]) ∧ OwSS 2 49 w' w.heap.size w'.heap.size r (cosTab d []) ∧ Below w.heap.size w w' := by
  obtain ⟨g, rels⟩ := d
  obtain ⟨ng, rfl, hG⟩ := good_of (rels := rels) (ws := []) (by rw [withOk_nil]; exact hok)
  have hl := cosTab_len ng rels []
  have hh := hG.hi
  have hc : cosN ((ng : Int), rels) [] ≤ 400 := by unfold smallOk at hs; simp at hs; exact hs.2
  refine (callPN (d := ((ng : Int), rels)) (fun _ => specSmall_yes hG hs) h).mono ?_
  rintro e w' ⟨v, η, ω, rfl, hd, hm, hb, hn⟩
  obtain ⟨u, u', rfl, h1, h2⟩ := den_tup2 hd
  have h2 : u' = I6 0 := h2
  subst h2
  refine ⟨u, rfl, toSS (x := 1005) hm hn rfl (by rw [hl]; exact h1) (by omega) (fun zs hz => ?_), hb⟩
  obtain ⟨j, hj, rfl⟩ := List.getElem_of_mem hz
  have := cosTab_row (rels := rels) (ws := []) (g := j) (ng := ng) (by omega)
  rw [lget_lt hj] at this
  omega
theorem specSmallW_no {E1 E : Nat} {lo hi : Nat} {v : Value} {d : PresD} (w : World) (h : OwP E1 E w lo hi v d) (hok : isPres d = true) (hs : ¬ smallOk d [] = true) :
    Calls Try.prog 107 #[v, .slice none 0 0] w fun e w' => e = .returned (.tuple #[.slice none 0 0, .int .i64 3]) ∧ Below w.heap.size w w' := by
  obtain ⟨g, rels⟩ := d
  obtain ⟨ng, rfl, hG⟩ := good_of (rels := rels) (ws := []) (by rw [withOk_nil]; exact hok)
  exact two_vals (callPN (d := ((ng : Int), rels)) (fun _ => specSmall_no hG hs) h)
theorem implSmallW_yes {E1 E : Nat} {lo hi : Nat} {v : Value} {d : PresD} (w : World) (h : OwP E1 E w lo hi v d) (hok : isPres d = true) (hs : smallOk d [] = true) :
    Calls Try.prog 113 #[v, .slice none 0 0] w fun e w' => ∃ r, e = .returned (.tuple #[r, .int .i64 0]) ∧ OwSS 2 49 w' w.heap.size w'.heap.size r (cosTab d []) ∧ Below w.heap.size w w' := by
  obtain ⟨g, rels⟩ := d
  obtain ⟨ng, rfl, hG⟩ := good_of (rels := rels) (ws := []) (by rw [withOk_nil]; exact hok)
  have hl := cosTab_len ng rels []
  have hh := hG.hi
  have hc : cosN ((ng : Int), rels) [] ≤ 400 := by unfold smallOk at hs; simp at hs; exact hs.2
  refine (callPN (d := ((ng : Int), rels)) (fun _ => implSmall_yes hG hs) h).mono ?_
  rintro e w' ⟨v, η, ω, rfl, hd, hm, hb, hn⟩
  obtain ⟨u, u', rfl, h1, h2⟩ := den_tup2 hd
  have h2 : u' = I6 0 := h2
  subst h2
  refine ⟨u, rfl, toSS (x := 1005) hm hn rfl (by rw [hl]; exact h1) (by omega) (fun zs hz => ?_), hb⟩
  obtain ⟨j, hj, rfl⟩ := List.getElem_of_mem hz
  have := cosTab_row (rels := rels) (ws := []) (g := j) (ng := ng) (by omega)
  rw [lget_lt hj] at this
  omega
theorem implSmallW_no {E1 E : Nat} {lo hi : Nat} {v : Value} {d : PresD} (w : World) (h : OwP E1 E w lo hi v d) (hok : isPres d = true) (hs : ¬ smallOk d [] = true) :
    Calls Try.prog 113 #[v, .slice none 0 0] w fun e w' => e = .returned (.tuple #[.slice none 0 0, .int .i64 3]) ∧ Below w.heap.size w w' := by
  obtain ⟨g, rels⟩ := d
  obtain ⟨ng, rfl, hG⟩ := good_of (rels := rels) (ws := []) (by rw [withOk_nil]; exact hok)
  exact two_vals (callPN (d := ((ng : Int), rels)) (fun _ => implSmall_no hG hs) h)
theorem specManW {E1 E : Nat} {lo hi : Nat} {v : Value} {d : List (List Int)} (w : World) (h : OwM E1 E w lo hi v d) (h1 : d.length ≤ 1048576) (h2 : ∀ i, i < d.length → (lget d i).length ≤ 1048576) :
    Calls Try.prog 108 #[v] w fun e w' => e = .returned (.bool (manB d)) ∧ Below w.heap.size w w' := one_val (callM (fun _ => manS_fc d h1 h2) h)
theorem implManW {E1 E : Nat} {lo hi : Nat} {v : Value} {d : List (List Int)} (w : World) (h : OwM E1 E w lo hi v d) (h1 : d.length ≤ 1048576) (h2 : ∀ i, i < d.length → (lget d i).length ≤ 1048576) :
    Calls Try.prog 114 #[v] w fun e w' => e = .returned (.bool (manB d)) ∧ Below w.heap.size w w' := one_val (callM (fun _ => manI_fc d h1 h2) h)
end Go.Proofs.Ytpognnifgcacnaa
