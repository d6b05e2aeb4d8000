/- What a maniplex is, the reference's: l02Is. guards: -/
import Derived.Test.YtmdhljleaijkbaaPart3
import Derived.Test.YtmdhljleaijkbaaPart1
import Derived.BigQuiet
import Derived.Deep.DeepCutAuto
import Derived.Shelf.RegionOpenPlain
import Derived.Deep.RegionLaw
import Derived.Lib.SliceRun
import Derived.Laws.IdiomCopy
import Derived.Lib.EndianMore
import Derived.Test.YtmdhljleaijkbaaPart2
namespace Go.Proofs.Ytmdhljleaijkbaa
open Go.RowKit

abbrev mxB (R : Nat) : Ch := ⟨true, 28, 1, .flat [.sl 1003 0 R]⟩
theorem binNeq {a b : Int} (h : a ≠ b) : binI .i64 .neq a b = some (.bool true) := by simp [binI, h]
theorem binNeq' {a b : Int} (h : a = b) : binI .i64 .neq a b = some (.bool false) := by simp [binI, h]
theorem binEql {a b : Int} (h : a = b) : binI .i64 .eql a b = some (.bool true) := by simp [binI, h]
theorem binEql' {a b : Int} (h : a ≠ b) : binI .i64 .eql a b = some (.bool false) := by simp [binI, h]
/-- what of a maniplex is asked before it is asked whether it hangs together -/
structure Man0 (zss : List (List Int)) : Prop where
  n1 : 1 ≤ zss.length
  n5 : zss.length ≤ 5
  f2 : 2 ≤ (lget zss 0).length
  f4 : (lget zss 0).length ≤ 400
  rows : Rows zss (lget zss 0).length zss.length
  comm : ∀ i k, i + 2 ≤ k → k < zss.length → ∀ f, f < (lget zss 0).length → commAt zss i k f
theorem Man0.man {zss : List (List Int)} (h : Man0 zss) : manB zss = ((((orb zss (lget zss 0).length 0).2.length : Nat) : Int) == (((lget zss 0).length : Nat) : Int)) := by
  by_cases hc : (orb zss (lget zss 0).length 0).2.length = (lget zss 0).length
  · rw [manB_yes ⟨h.n1, h.n5, h.f2, h.f4, fun i hi => (h.rows i hi).1, fun i hi => (h.rows i hi).2.1, fun i hi => (h.rows i hi).2.2, h.comm, hc⟩, hc]; simp
  · rw [manB_no (fun hm => hc hm.conn)]
    have hc' : ((orb zss (lget zss 0).length 0).2.length : Int) ≠ ((lget zss 0).length : Int) := by omega
    symm; simpa using hc'

set_option maxRecDepth 100000 in
set_option maxHeartbeats 4000000 in
theorem manS_fc (zss : List (List Int)) (hR : zss.length ≤ 1048576) (hl : ∀ i, i < zss.length → (lget zss i).length ≤ 1048576) :
    FC Try.prog 51 [(1003, rowsRo zss)] [mA zss.length] [] (vv (.bool (manB zss))) [] := by
  refine fc_enter (nt := 149) Try.func51 rfl rfl (by simp) fun w0 ω0 => ?_
  have hlen : (irows zss).length = zss.length := irows_len _
  by_cases c1 : zss.length < 1
  · rw [manB_no (fun h => by have := h.n1; omega)]
    have b1 : decide ((zss.length : Int) < 1) = true := by simp; omega
    (refine goes_seq ?_; refine goes_region ?_; apply run_step rfl; (exact stp_box rfl rfl rfl rfl); apply run_step rfl; (exact stp_assign rfl rfl); refine run_nil ?_; refine fin_seq ?_; refine goes_seq ?_; refine goes_region ?_; apply run_step rfl; (exact stp_fieldAddr (d := 0) rfl rfl rfl (by as_aux_lemma => kernel_rfl)); apply run_step rfl; (exact stp_loadF rfl (by as_aux_lemma => kernel_rfl) rfl rfl rfl rfl); apply run_step rfl; (exact stp_len rfl rfl rfl (by as_aux_lemma => kernel_rfl)); apply run_step rfl; (exact stp_assign rfl rfl); refine run_nil ?_; refine fin_seq ?_; refine goes_seq ?_; refine goes_seq ?_; refine goes_region ?_; apply run_step rfl; (exact stp_move rfl rfl); apply run_step rfl; (exact stp_bin rfl rfl rfl rfl); apply run_step rfl; (exact stp_move rfl rfl))
    refine run_bool 13 rfl (fun h1 => ?_) (fun h1 => by rw [b1] at h1; cases h1)
    (apply run_gNo rfl rfl rfl rfl rfl; apply run_gNo rfl rfl rfl rfl rfl; apply run_step rfl; (exact stp_pickT rfl rfl rfl); apply run_step rfl; (exact stp_move rfl rfl); apply run_gNo rfl rfl rfl rfl rfl; apply run_gNo rfl rfl rfl rfl rfl; apply run_gNo rfl rfl rfl rfl rfl; apply run_gNo rfl rfl rfl rfl rfl; apply run_gNo rfl rfl rfl rfl rfl; apply run_gNo rfl rfl rfl rfl rfl; apply run_step rfl; (exact stp_pickT rfl rfl rfl); apply run_step rfl; (exact stp_move rfl rfl); apply run_gNo rfl rfl rfl rfl rfl; apply run_gNo rfl rfl rfl rfl rfl; apply run_gNo rfl rfl rfl rfl rfl; apply run_gNo rfl rfl rfl rfl rfl; apply run_gNo rfl rfl rfl rfl rfl; apply run_gNo rfl rfl rfl rfl rfl; apply run_step rfl; (exact stp_pickT rfl rfl rfl); refine run_nil ?_; refine fin_seq ?_)
    refine goes_cond rfl (fun _ => ?_) (fun e => by cases e)
    (refine goes_seq ?_; refine goes_region ?_; apply run_step rfl; (exact stp_assign rfl rfl); refine run_nil ?_; refine fin_seq ?_; refine goes_ret ?_; refine fin_ret_then ?_)
    exact fin_ret1 (.inl rfl) rfl (.tmp rfl) trivial trivial
  have b1 : decide ((zss.length : Int) < 1) = false := by simp; omega
  have hpos : 0 < zss.length := by omega
  have hl0 := hl 0 hpos
  have hrow0 : (irows zss)[0]? = some (ivals (lget zss 0)) := irows_get hpos
  obtain ⟨n, hn⟩ : ∃ n, (lget zss 0).length = n := ⟨_, rfl⟩
  have hil : (ivals (lget zss 0)).length = n := by rw [ivals_len]; exact hn
  have hl0' : (lget zss 0).length ≤ 1048576 := hl0
  rw [hn] at hl0'
  by_cases c2 : 5 < zss.length
  · rw [manB_no (fun h => by have := h.n5; omega)]
    have b2 : decide ((zss.length : Int) > 5) = true := by simp; omega
    (refine goes_seq ?_; refine goes_region ?_; apply run_step rfl; (exact stp_box rfl rfl rfl rfl); apply run_step rfl; (exact stp_assign rfl rfl); refine run_nil ?_; refine fin_seq ?_; refine goes_seq ?_; refine goes_region ?_; apply run_step rfl; (exact stp_fieldAddr (d := 0) rfl rfl rfl (by as_aux_lemma => kernel_rfl)); apply run_step rfl; (exact stp_loadF rfl (by as_aux_lemma => kernel_rfl) rfl rfl rfl rfl); apply run_step rfl; (exact stp_len rfl rfl rfl (by as_aux_lemma => kernel_rfl)); apply run_step rfl; (exact stp_assign rfl rfl); refine run_nil ?_; refine fin_seq ?_; refine goes_seq ?_; refine goes_seq ?_; refine goes_region ?_; apply run_step rfl; (exact stp_move rfl rfl); apply run_step rfl; (exact stp_bin rfl rfl rfl rfl); apply run_step rfl; (exact stp_move rfl rfl))
    refine run_bool 13 rfl (fun h1 => by rw [b1] at h1; cases h1) (fun h1 => ?_)
    (apply run_gYes rfl rfl rfl; (exact stp_move rfl rfl); apply run_gYes rfl rfl rfl; (exact stp_bin rfl rfl rfl rfl); apply run_step rfl; (exact stp_pickF rfl rfl rfl); apply run_step rfl; (exact stp_move rfl rfl))
    refine run_bool 17 rfl (fun h1 => ?_) (fun h1 => by rw [b2] at h1; cases h1)
    (apply run_gNo rfl rfl rfl rfl rfl; apply run_gNo rfl rfl rfl rfl rfl; apply run_gNo rfl rfl rfl rfl rfl; apply run_gNo rfl rfl rfl rfl rfl; apply run_gNo rfl rfl rfl rfl rfl; apply run_gNo rfl rfl rfl rfl rfl; apply run_step rfl; (exact stp_pickT rfl rfl rfl); apply run_step rfl; (exact stp_move rfl rfl); apply run_gNo rfl rfl rfl rfl rfl; apply run_gNo rfl rfl rfl rfl rfl; apply run_gNo rfl rfl rfl rfl rfl; apply run_gNo rfl rfl rfl rfl rfl; apply run_gNo rfl rfl rfl rfl rfl; apply run_gNo rfl rfl rfl rfl rfl; apply run_step rfl; (exact stp_pickT rfl rfl rfl); refine run_nil ?_; refine fin_seq ?_)
    refine goes_cond rfl (fun _ => ?_) (fun e => by cases e)
    (refine goes_seq ?_; refine goes_region ?_; apply run_step rfl; (exact stp_assign rfl rfl); refine run_nil ?_; refine fin_seq ?_; refine goes_ret ?_; refine fin_ret_then ?_)
    exact fin_ret1 (.inl rfl) rfl (.tmp rfl) trivial trivial
  have b2 : decide ((zss.length : Int) > 5) = false := by simp; omega
  by_cases c3 : n < 2
  · rw [manB_no (fun h => by have := h.f2; omega)]
    have b3 : decide ((n : Int) < 2) = true := by simp; omega
    (refine goes_seq ?_; refine goes_region ?_; apply run_step rfl; (exact stp_box rfl rfl rfl rfl); apply run_step rfl; (exact stp_assign rfl rfl); refine run_nil ?_; refine fin_seq ?_; refine goes_seq ?_; refine goes_region ?_; apply run_step rfl; (exact stp_fieldAddr (d := 0) rfl rfl rfl (by as_aux_lemma => kernel_rfl)); apply run_step rfl; (exact stp_loadF rfl (by as_aux_lemma => kernel_rfl) rfl rfl rfl rfl); apply run_step rfl; (exact stp_len rfl rfl rfl (by as_aux_lemma => kernel_rfl)); apply run_step rfl; (exact stp_assign rfl rfl); refine run_nil ?_; refine fin_seq ?_; refine goes_seq ?_; refine goes_seq ?_; refine goes_region ?_; apply run_step rfl; (exact stp_move rfl rfl); apply run_step rfl; (exact stp_bin rfl rfl rfl rfl); apply run_step rfl; (exact stp_move rfl rfl))
    refine run_bool 13 rfl (fun h1 => by rw [b1] at h1; cases h1) (fun h1 => ?_)
    (apply run_gYes rfl rfl rfl; (exact stp_move rfl rfl); apply run_gYes rfl rfl rfl; (exact stp_bin rfl rfl rfl rfl); apply run_step rfl; (exact stp_pickF rfl rfl rfl); apply run_step rfl; (exact stp_move rfl rfl))
    refine run_bool 17 rfl (fun h1 => by rw [b2] at h1; cases h1) (fun h1 => ?_)
    (apply run_gYes rfl rfl rfl; (exact stp_fieldAddr (d := 0) rfl rfl rfl (by as_aux_lemma => kernel_rfl)); apply run_gYes rfl rfl rfl; (exact stp_loadF rfl (by as_aux_lemma => kernel_rfl) rfl rfl rfl rfl); apply run_gYes rfl rfl rfl; (first | exact stp_ix (j := 0) rfl rfl rfl rfl rfl (by as_aux_lemma => kernel_rfl) rfl hpos (Nat.le_of_eq hlen.symm) | exact stp_loadR rfl (by as_aux_lemma => kernel_rfl) rfl rfl rfl hrow0 hil); apply run_gYes rfl rfl rfl; (first | exact stp_ix (j := 0) rfl rfl rfl rfl rfl (by as_aux_lemma => kernel_rfl) rfl hpos (Nat.le_of_eq hlen.symm) | exact stp_loadR rfl (by as_aux_lemma => kernel_rfl) rfl rfl rfl hrow0 hil); apply run_gYes rfl rfl rfl; (exact stp_len rfl rfl rfl (by as_aux_lemma => kernel_rfl)); apply run_gYes rfl rfl rfl; (exact stp_bin rfl rfl rfl rfl); apply run_step rfl; (exact stp_pickF rfl rfl rfl); apply run_step rfl; (exact stp_move rfl rfl))
    refine run_bool 25 rfl (fun h1 => ?_) (fun h1 => by rw [b3] at h1; cases h1)
    (apply run_gNo rfl rfl rfl rfl rfl; apply run_gNo rfl rfl rfl rfl rfl; apply run_gNo rfl rfl rfl rfl rfl; apply run_gNo rfl rfl rfl rfl rfl; apply run_gNo rfl rfl rfl rfl rfl; apply run_gNo rfl rfl rfl rfl rfl; apply run_step rfl; (exact stp_pickT rfl rfl rfl); refine run_nil ?_; refine fin_seq ?_)
    refine goes_cond rfl (fun _ => ?_) (fun e => by cases e)
    (refine goes_seq ?_; refine goes_region ?_; apply run_step rfl; (exact stp_assign rfl rfl); refine run_nil ?_; refine fin_seq ?_; refine goes_ret ?_; refine fin_ret_then ?_)
    exact fin_ret1 (.inl rfl) rfl (.tmp rfl) trivial trivial
  have b3 : decide ((n : Int) < 2) = false := by simp; omega
  (refine goes_seq ?_; refine goes_region ?_; apply run_step rfl; (exact stp_box rfl rfl rfl rfl); apply run_step rfl; (exact stp_assign rfl rfl); refine run_nil ?_; refine fin_seq ?_; refine goes_seq ?_; refine goes_region ?_; apply run_step rfl; (exact stp_fieldAddr (d := 0) rfl rfl rfl (by as_aux_lemma => kernel_rfl)); apply run_step rfl; (exact stp_loadF rfl (by as_aux_lemma => kernel_rfl) rfl rfl rfl rfl); apply run_step rfl; (exact stp_len rfl rfl rfl (by as_aux_lemma => kernel_rfl)); apply run_step rfl; (exact stp_assign rfl rfl); refine run_nil ?_; refine fin_seq ?_; refine goes_seq ?_; refine goes_seq ?_; refine goes_region ?_; apply run_step rfl; (exact stp_move rfl rfl); apply run_step rfl; (exact stp_bin rfl rfl rfl rfl); apply run_step rfl; (exact stp_move rfl rfl))
  refine run_bool 13 rfl (fun h1 => by rw [b1] at h1; cases h1) (fun h1 => ?_)
  (apply run_gYes rfl rfl rfl; (exact stp_move rfl rfl); apply run_gYes rfl rfl rfl; (exact stp_bin rfl rfl rfl rfl); apply run_step rfl; (exact stp_pickF rfl rfl rfl); apply run_step rfl; (exact stp_move rfl rfl))
  refine run_bool 17 rfl (fun h1 => by rw [b2] at h1; cases h1) (fun h1 => ?_)
  (apply run_gYes rfl rfl rfl; (exact stp_fieldAddr (d := 0) rfl rfl rfl (by as_aux_lemma => kernel_rfl)); apply run_gYes rfl rfl rfl; (exact stp_loadF rfl (by as_aux_lemma => kernel_rfl) rfl rfl rfl rfl); apply run_gYes rfl rfl rfl; (first | exact stp_ix (j := 0) rfl rfl rfl rfl rfl (by as_aux_lemma => kernel_rfl) rfl hpos (Nat.le_of_eq hlen.symm) | exact stp_loadR rfl (by as_aux_lemma => kernel_rfl) rfl rfl rfl hrow0 hil); apply run_gYes rfl rfl rfl; (first | exact stp_ix (j := 0) rfl rfl rfl rfl rfl (by as_aux_lemma => kernel_rfl) rfl hpos (Nat.le_of_eq hlen.symm) | exact stp_loadR rfl (by as_aux_lemma => kernel_rfl) rfl rfl rfl hrow0 hil); apply run_gYes rfl rfl rfl; (exact stp_len rfl rfl rfl (by as_aux_lemma => kernel_rfl)); apply run_gYes rfl rfl rfl; (exact stp_bin rfl rfl rfl rfl); apply run_step rfl; (exact stp_pickF rfl rfl rfl); apply run_step rfl; (exact stp_move rfl rfl))
  refine run_bool 25 rfl (fun h1 => by rw [b3] at h1; cases h1) (fun h1 => ?_)
  (apply run_gYes rfl rfl rfl; (exact stp_fieldAddr (d := 0) rfl rfl rfl (by as_aux_lemma => kernel_rfl)); apply run_gYes rfl rfl rfl; (exact stp_loadF rfl (by as_aux_lemma => kernel_rfl) rfl rfl rfl rfl); apply run_gYes rfl rfl rfl; (first | exact stp_ix (j := 0) rfl rfl rfl rfl rfl (by as_aux_lemma => kernel_rfl) rfl hpos (Nat.le_of_eq hlen.symm) | exact stp_loadR rfl (by as_aux_lemma => kernel_rfl) rfl rfl rfl hrow0 hil); apply run_gYes rfl rfl rfl; (first | exact stp_ix (j := 0) rfl rfl rfl rfl rfl (by as_aux_lemma => kernel_rfl) rfl hpos (Nat.le_of_eq hlen.symm) | exact stp_loadR rfl (by as_aux_lemma => kernel_rfl) rfl rfl rfl hrow0 hil); apply run_gYes rfl rfl rfl; (exact stp_len rfl rfl rfl (by as_aux_lemma => kernel_rfl)); apply run_gYes rfl rfl rfl; (exact stp_bin rfl rfl rfl rfl); apply run_step rfl; (exact stp_pickF rfl rfl rfl); refine run_nil ?_; refine fin_seq ?_)
  refine goes_if rfl (fun c4 => ?_) (fun c4 => ?_)
  · rw [manB_no (fun h => by have := h.f4; omega)]
    (refine goes_seq ?_; refine goes_region ?_; apply run_step rfl; (exact stp_assign rfl rfl); refine run_nil ?_; refine fin_seq ?_; refine goes_ret ?_; refine fin_ret_then ?_)
    exact fin_ret1 (.inl rfl) rfl (.tmp rfl) trivial trivial
  (refine goes_skip ?_; refine fin_seq ?_; refine goes_seq ?_; refine goes_seq ?_; refine goes_region ?_; apply run_step rfl; (exact stp_assign rfl rfl); refine run_nil ?_; refine fin_seq ?_; refine goes_block ?_)
  refine goes_loop (fun i : Nat => St.of [(1, o1 (.ptr 1 0)), (3, vv (I6 zss.length)), (4, vv (I6 i))] [(1003, rowsRo zss), (1, mxB zss.length)]) (fun i => i ≤ zss.length ∧ Rows zss n i) (fun i => zss.length - i) 0 ⟨Nat.zero_le _, fun j hj => absurd hj (by omega)⟩ (Wk.of ⟨rfl, rfl, rfl, trivial⟩ ⟨rfl, rfl, trivial⟩ trivial) ?_
  rintro i ⟨hi, hrows⟩
  (refine goes_seq ?_; refine goes_seq ?_; refine goes_region ?_; apply run_step rfl; (exact stp_move rfl rfl); apply run_step rfl; (exact stp_move rfl rfl); apply run_step rfl; (exact stp_bin rfl rfl rfl rfl); refine run_nil ?_; refine fin_seq ?_)
  refine goes_if rfl (fun hlt => ?_) (fun hlt => ?_)
  · have hiz : i < zss.length := by omega
    have hrowi : (irows zss)[i]? = some (ivals (lget zss i)) := irows_get hiz
    have hli := hl i hiz
    have hP := permS_fc zss i hiz hli
    obtain ⟨m, hm⟩ : ∃ m, (lget zss i).length = m := ⟨_, rfl⟩
    have hilm : (ivals (lget zss i)).length = m := by rw [ivals_len]; exact hm
    rw [hm] at hP
    (refine goes_skip ?_; refine fin_seq ?_; refine goes_seq ?_; refine goes_block ?_; refine goes_seq ?_)
    by_cases e1 : (m : Int) = n
    · have e1' : m = n := by omega
      cases hp : isPerm (lget zss i) with
      | false =>
        rw [hp] at hP
        apply goes_drawG 30 [] [[], [0], [], [0, 1, 2], [0, 1, 2, 3], [0, 1, 2, 3, 4], [], [6], [6, 7], [6, 7, 8], [6, 7, 8, 9], [0, 1, 2, 3, 4, 5, 6, 7, 8, 9, 10], [0, 1, 2, 3, 4, 5, 6, 7, 8, 9, 10, 11], [0, 1, 2, 3, 4, 5, 6, 7, 8, 9, 10, 11, 12], [0, 1, 2, 3, 4, 5, 6, 7, 8, 9, 10, 11, 12, 13], [0, 1, 2, 3, 4, 5, 6, 7, 8, 9, 10, 11, 12], [0, 1, 2, 3, 4, 5, 6, 7, 8, 9, 10, 11, 12, 13, 14, 15], [0, 1, 2, 3, 4, 5, 6, 7, 8, 9, 10, 11, 12, 13, 14, 15, 16], [0, 1, 2, 3, 4, 5, 6, 7, 8, 9, 10, 11, 12, 13, 14, 15, 16, 17], [0, 1, 2, 3, 4, 5, 6, 7, 8, 9, 10, 11, 12, 13, 14, 15, 16, 17, 18], [0, 1, 2, 3, 4, 5, 6, 7, 8, 9, 10, 11, 12, 13, 14, 15, 16, 17, 18, 19], [0, 1, 2, 3, 4, 5, 6, 7, 8, 9, 10, 11, 12, 13, 14, 15, 16, 17, 18, 19, 20], [0, 1, 2, 3, 4, 5, 6, 7, 8, 9, 10, 11, 12, 13, 14, 15, 16, 17, 18, 19, 20, 21], [0, 1, 2, 3, 4, 5, 6, 7, 8, 9, 10, 11, 12, 13, 14, 15, 16, 17, 18, 19, 20, 21, 22], [0, 1, 2, 3, 4, 5, 6, 7, 8, 9, 10, 11, 12, 13, 14, 15, 16, 17, 18, 19, 20, 21], [0, 1, 2, 3, 4, 5, 6, 7, 8, 9, 10, 11, 12, 13, 14, 15, 16, 17, 18, 19, 20, 21, 22, 23, 24], [0, 1, 2, 3, 4, 5, 6, 7, 8, 9, 10, 11, 12, 13, 14, 15, 16, 17, 18, 19, 20, 21, 22, 23, 24, 25], [0, 1, 2, 3, 4, 5, 6, 7, 8, 9, 10, 11, 12, 13, 14, 15, 16, 17, 18, 19, 20, 21, 22, 23, 24, 25, 26], [0, 1, 2, 3, 4, 5, 6, 7, 8, 9, 10, 11, 12, 13, 14, 15, 16, 17, 18, 19, 20, 21, 22, 23, 24, 25, 26, 27], [0, 1, 2, 3, 4, 5, 6, 7, 8, 9, 10, 11, 12, 13, 14, 15, 16, 17, 18, 19, 20, 21, 22, 23, 24, 25, 26, 27, 28]] [38, 39, 40, 41, 42, 43, 44, 45, 46, 47, 48, 49, 50, 51, 52, 53, 54, 55, 56, 57, 58, 59, 60, 61, 62, 63, 64, 65, 66, 67] [] (by kernel_rfl) (by kernel_rfl)
        · (apply drawG_put rfl; (intro S1 hS; exact stp_fieldAddr (d := 0) rfl (hS.op rfl) (hS.ch _ _ rfl) (by as_aux_lemma => kernel_rfl)))
          (apply drawG_put rfl; (intro S1 hS; exact stp_loadF rfl (by as_aux_lemma => kernel_rfl) (hS.op rfl) (hS.ch _ _ rfl) rfl rfl))
          (apply drawG_put rfl; (intro S1 hS; exact stp_move rfl (hS.op rfl)))
          (apply drawG_put rfl; (intro S1 hS; exact stp_ix (j := i) rfl (hS.op rfl) (hS.op rfl) (hS.ch _ _ rfl) rfl (by as_aux_lemma => kernel_rfl) rfl hiz (Nat.le_of_eq hlen.symm)))
          (apply drawG_put rfl; (intro S1 hS; exact stp_loadR rfl (by as_aux_lemma => kernel_rfl) (hS.op rfl) (hS.ch _ _ rfl) rfl hrowi hilm))
          (apply drawG_put rfl; (intro S1 hS; exact stp_len rfl (hS.op rfl) rfl (by as_aux_lemma => kernel_rfl)))
          (apply drawG_put rfl; (intro S1 hS; exact stp_fieldAddr (d := 0) rfl (hS.op rfl) (hS.ch _ _ rfl) (by as_aux_lemma => kernel_rfl)))
          (apply drawG_put rfl; (intro S1 hS; exact stp_loadF rfl (by as_aux_lemma => kernel_rfl) (hS.op rfl) (hS.ch _ _ rfl) rfl rfl))
          (apply drawG_put rfl; (intro S1 hS; exact stp_ix (j := 0) rfl (hS.op rfl) (hS.op rfl) (hS.ch _ _ rfl) rfl (by as_aux_lemma => kernel_rfl) rfl hpos (Nat.le_of_eq hlen.symm)))
          (apply drawG_put rfl; (intro S1 hS; exact stp_loadR rfl (by as_aux_lemma => kernel_rfl) (hS.op rfl) (hS.ch _ _ rfl) rfl hrow0 hil))
          (apply drawG_put rfl; (intro S1 hS; exact stp_len rfl (hS.op rfl) rfl (by as_aux_lemma => kernel_rfl)))
          (apply drawG_put rfl; (intro S1 hS; exact stp_bin rfl (hS.op rfl) (hS.op rfl) (binNeq' e1)))
          (apply drawG_put rfl; (intro S1 hS; exact stp_move rfl (hS.op rfl)))
          (apply drawG_yes rfl rfl rfl; (intro S1 hS; exact stp_fieldAddr (d := 0) rfl (hS.op rfl) (hS.ch _ _ rfl) (by as_aux_lemma => kernel_rfl)))
          (apply drawG_yes rfl rfl rfl; (intro S1 hS; exact stp_loadF rfl (by as_aux_lemma => kernel_rfl) (hS.op rfl) (hS.ch _ _ rfl) rfl rfl))
          (apply drawG_yes rfl rfl rfl; (intro S1 hS; exact stp_move rfl (hS.op rfl)))
          (apply drawG_yes rfl rfl rfl; (intro S1 hS; exact stp_ix (j := i) rfl (hS.op rfl) (hS.op rfl) (hS.ch _ _ rfl) rfl (by as_aux_lemma => kernel_rfl) rfl hiz (Nat.le_of_eq hlen.symm)))
          (apply drawG_yes rfl rfl rfl; (intro S1 hS; exact stp_loadR rfl (by as_aux_lemma => kernel_rfl) (hS.op rfl) (hS.ch _ _ rfl) rfl hrowi hilm))
          (apply drawG_yes rfl rfl rfl; (intro S1 hS; apply call_gate 97; exact stp_callR hP (by as_aux_lemma => kernel_rfl) rfl (opL_le hS rfl) ⟨rfl, trivial⟩ (allIn_le hS ⟨⟨_, rfl, .inl rfl⟩, trivial⟩) rfl rfl))
          (apply drawG_yes rfl rfl rfl; (intro S1 hS; exact stp_not rfl (hS.op rfl)))
          (apply drawG_put rfl; (intro S1 hS; exact stp_pickF rfl (hS.op rfl) (hS.op rfl)))
          (apply drawG_put rfl; (intro S1 hS; exact stp_move rfl (hS.op rfl)))
          apply drawG_no rfl rfl rfl rfl rfl
          apply drawG_no rfl rfl rfl rfl rfl
          apply drawG_no rfl rfl rfl rfl rfl
          apply drawG_no rfl rfl rfl rfl rfl
          apply drawG_no rfl rfl rfl rfl rfl
          apply drawG_no rfl rfl rfl rfl rfl
          apply drawG_no rfl rfl rfl rfl rfl
          (apply drawG_put rfl; (intro S1 hS; exact stp_pickT rfl (hS.op rfl) (hS.op rfl)))
          exact DrawG.nil
        · rfl
        ((refine rest_done (by as_aux_lemma => kernel_rfl) ?_; skip))
        (refine fin_seq ?_)
        refine goes_cond rfl (fun _ => ?_) (fun e => by cases e)
        rw [manB_no (fun h => by have := h.perm i hiz; rw [hp] at this; cases this)]
        (refine goes_seq ?_; refine goes_region ?_; apply run_step rfl; (exact stp_assign rfl rfl); refine run_nil ?_; refine fin_seq ?_; refine goes_ret ?_; refine fin_ret_block ?_; refine fin_ret_then ?_; refine fin_ret_then ?_; refine fin_ret_block ?_; refine fin_ret_then ?_)
        exact fin_ret1 (.inl rfl) rfl (.tmp rfl) trivial trivial
      | true =>
        rw [hp] at hP
        have hF := freeS_fc zss i hiz hli hp
        rw [hm] at hF
        apply goes_drawG 30 [] [[], [0], [], [0, 1, 2], [0, 1, 2, 3], [0, 1, 2, 3, 4], [], [6], [6, 7], [6, 7, 8], [6, 7, 8, 9], [0, 1, 2, 3, 4, 5, 6, 7, 8, 9, 10], [0, 1, 2, 3, 4, 5, 6, 7, 8, 9, 10, 11], [0, 1, 2, 3, 4, 5, 6, 7, 8, 9, 10, 11, 12], [0, 1, 2, 3, 4, 5, 6, 7, 8, 9, 10, 11, 12, 13], [0, 1, 2, 3, 4, 5, 6, 7, 8, 9, 10, 11, 12], [0, 1, 2, 3, 4, 5, 6, 7, 8, 9, 10, 11, 12, 13, 14, 15], [0, 1, 2, 3, 4, 5, 6, 7, 8, 9, 10, 11, 12, 13, 14, 15, 16], [0, 1, 2, 3, 4, 5, 6, 7, 8, 9, 10, 11, 12, 13, 14, 15, 16, 17], [0, 1, 2, 3, 4, 5, 6, 7, 8, 9, 10, 11, 12, 13, 14, 15, 16, 17, 18], [0, 1, 2, 3, 4, 5, 6, 7, 8, 9, 10, 11, 12, 13, 14, 15, 16, 17, 18, 19], [0, 1, 2, 3, 4, 5, 6, 7, 8, 9, 10, 11, 12, 13, 14, 15, 16, 17, 18, 19, 20], [0, 1, 2, 3, 4, 5, 6, 7, 8, 9, 10, 11, 12, 13, 14, 15, 16, 17, 18, 19, 20, 21], [0, 1, 2, 3, 4, 5, 6, 7, 8, 9, 10, 11, 12, 13, 14, 15, 16, 17, 18, 19, 20, 21, 22], [0, 1, 2, 3, 4, 5, 6, 7, 8, 9, 10, 11, 12, 13, 14, 15, 16, 17, 18, 19, 20, 21], [0, 1, 2, 3, 4, 5, 6, 7, 8, 9, 10, 11, 12, 13, 14, 15, 16, 17, 18, 19, 20, 21, 22, 23, 24], [0, 1, 2, 3, 4, 5, 6, 7, 8, 9, 10, 11, 12, 13, 14, 15, 16, 17, 18, 19, 20, 21, 22, 23, 24, 25], [0, 1, 2, 3, 4, 5, 6, 7, 8, 9, 10, 11, 12, 13, 14, 15, 16, 17, 18, 19, 20, 21, 22, 23, 24, 25, 26], [0, 1, 2, 3, 4, 5, 6, 7, 8, 9, 10, 11, 12, 13, 14, 15, 16, 17, 18, 19, 20, 21, 22, 23, 24, 25, 26, 27], [0, 1, 2, 3, 4, 5, 6, 7, 8, 9, 10, 11, 12, 13, 14, 15, 16, 17, 18, 19, 20, 21, 22, 23, 24, 25, 26, 27, 28]] [38, 39, 40, 41, 42, 43, 44, 45, 46, 47, 48, 49, 50, 51, 52, 53, 54, 55, 56, 57, 58, 59, 60, 61, 62, 63, 64, 65, 66, 67] [] (by kernel_rfl) (by kernel_rfl)
        · (apply drawG_put rfl; (intro S1 hS; exact stp_fieldAddr (d := 0) rfl (hS.op rfl) (hS.ch _ _ rfl) (by as_aux_lemma => kernel_rfl)))
          (apply drawG_put rfl; (intro S1 hS; exact stp_loadF rfl (by as_aux_lemma => kernel_rfl) (hS.op rfl) (hS.ch _ _ rfl) rfl rfl))
          (apply drawG_put rfl; (intro S1 hS; exact stp_move rfl (hS.op rfl)))
          (apply drawG_put rfl; (intro S1 hS; exact stp_ix (j := i) rfl (hS.op rfl) (hS.op rfl) (hS.ch _ _ rfl) rfl (by as_aux_lemma => kernel_rfl) rfl hiz (Nat.le_of_eq hlen.symm)))
          (apply drawG_put rfl; (intro S1 hS; exact stp_loadR rfl (by as_aux_lemma => kernel_rfl) (hS.op rfl) (hS.ch _ _ rfl) rfl hrowi hilm))
          (apply drawG_put rfl; (intro S1 hS; exact stp_len rfl (hS.op rfl) rfl (by as_aux_lemma => kernel_rfl)))
          (apply drawG_put rfl; (intro S1 hS; exact stp_fieldAddr (d := 0) rfl (hS.op rfl) (hS.ch _ _ rfl) (by as_aux_lemma => kernel_rfl)))
          (apply drawG_put rfl; (intro S1 hS; exact stp_loadF rfl (by as_aux_lemma => kernel_rfl) (hS.op rfl) (hS.ch _ _ rfl) rfl rfl))
          (apply drawG_put rfl; (intro S1 hS; exact stp_ix (j := 0) rfl (hS.op rfl) (hS.op rfl) (hS.ch _ _ rfl) rfl (by as_aux_lemma => kernel_rfl) rfl hpos (Nat.le_of_eq hlen.symm)))
          (apply drawG_put rfl; (intro S1 hS; exact stp_loadR rfl (by as_aux_lemma => kernel_rfl) (hS.op rfl) (hS.ch _ _ rfl) rfl hrow0 hil))
          (apply drawG_put rfl; (intro S1 hS; exact stp_len rfl (hS.op rfl) rfl (by as_aux_lemma => kernel_rfl)))
          (apply drawG_put rfl; (intro S1 hS; exact stp_bin rfl (hS.op rfl) (hS.op rfl) (binNeq' e1)))
          (apply drawG_put rfl; (intro S1 hS; exact stp_move rfl (hS.op rfl)))
          (apply drawG_yes rfl rfl rfl; (intro S1 hS; exact stp_fieldAddr (d := 0) rfl (hS.op rfl) (hS.ch _ _ rfl) (by as_aux_lemma => kernel_rfl)))
          (apply drawG_yes rfl rfl rfl; (intro S1 hS; exact stp_loadF rfl (by as_aux_lemma => kernel_rfl) (hS.op rfl) (hS.ch _ _ rfl) rfl rfl))
          (apply drawG_yes rfl rfl rfl; (intro S1 hS; exact stp_move rfl (hS.op rfl)))
          (apply drawG_yes rfl rfl rfl; (intro S1 hS; exact stp_ix (j := i) rfl (hS.op rfl) (hS.op rfl) (hS.ch _ _ rfl) rfl (by as_aux_lemma => kernel_rfl) rfl hiz (Nat.le_of_eq hlen.symm)))
          (apply drawG_yes rfl rfl rfl; (intro S1 hS; exact stp_loadR rfl (by as_aux_lemma => kernel_rfl) (hS.op rfl) (hS.ch _ _ rfl) rfl hrowi hilm))
          (apply drawG_yes rfl rfl rfl; (intro S1 hS; apply call_gate 97; exact stp_callR hP (by as_aux_lemma => kernel_rfl) rfl (opL_le hS rfl) ⟨rfl, trivial⟩ (allIn_le hS ⟨⟨_, rfl, .inl rfl⟩, trivial⟩) rfl rfl))
          (apply drawG_yes rfl rfl rfl; (intro S1 hS; exact stp_not rfl (hS.op rfl)))
          (apply drawG_put rfl; (intro S1 hS; exact stp_pickF rfl (hS.op rfl) (hS.op rfl)))
          (apply drawG_put rfl; (intro S1 hS; exact stp_move rfl (hS.op rfl)))
          (apply drawG_yes rfl rfl rfl; (intro S1 hS; exact stp_fieldAddr (d := 0) rfl (hS.op rfl) (hS.ch _ _ rfl) (by as_aux_lemma => kernel_rfl)))
          (apply drawG_yes rfl rfl rfl; (intro S1 hS; exact stp_loadF rfl (by as_aux_lemma => kernel_rfl) (hS.op rfl) (hS.ch _ _ rfl) rfl rfl))
          (apply drawG_yes rfl rfl rfl; (intro S1 hS; exact stp_move rfl (hS.op rfl)))
          (apply drawG_yes rfl rfl rfl; (intro S1 hS; exact stp_ix (j := i) rfl (hS.op rfl) (hS.op rfl) (hS.ch _ _ rfl) rfl (by as_aux_lemma => kernel_rfl) rfl hiz (Nat.le_of_eq hlen.symm)))
          (apply drawG_yes rfl rfl rfl; (intro S1 hS; exact stp_loadR rfl (by as_aux_lemma => kernel_rfl) (hS.op rfl) (hS.ch _ _ rfl) rfl hrowi hilm))
          (apply drawG_yes rfl rfl rfl; (intro S1 hS; apply call_gate 98; exact stp_callR hF (by as_aux_lemma => kernel_rfl) rfl (opL_le hS rfl) ⟨rfl, trivial⟩ (allIn_le hS ⟨⟨_, rfl, .inl rfl⟩, trivial⟩) rfl rfl))
          (apply drawG_yes rfl rfl rfl; (intro S1 hS; exact stp_not rfl (hS.op rfl)))
          (apply drawG_put rfl; (intro S1 hS; exact stp_pickF rfl (hS.op rfl) (hS.op rfl)))
          exact DrawG.nil
        · rfl
        ((refine rest_done (by as_aux_lemma => kernel_rfl) ?_; skip))
        (refine fin_seq ?_)
        refine goes_cond rfl (fun hf => ?_) (fun hf => ?_)
        · have hf : isFreeL (lget zss i) = false := by simpa using hf
          rw [manB_no (fun h => by have := h.free i hiz; rw [hf] at this; cases this)]
          (refine goes_seq ?_; refine goes_region ?_; apply run_step rfl; (exact stp_assign rfl rfl); refine run_nil ?_; refine fin_seq ?_; refine goes_ret ?_; refine fin_ret_block ?_; refine fin_ret_then ?_; refine fin_ret_then ?_; refine fin_ret_block ?_; refine fin_ret_then ?_)
          exact fin_ret1 (.inl rfl) rfl (.tmp rfl) trivial trivial
        · have hf : isFreeL (lget zss i) = true := by simpa using hf
          (refine goes_skip ?_; refine fin_block ?_; refine fin_seq ?_; refine goes_region ?_; apply run_step rfl; (exact stp_move rfl rfl); apply run_step rfl; (exact stp_add rfl rfl rfl (by first | exact IntWalk.i64_in _ (by omega) | rfl)); apply run_step rfl; (exact stp_assign rfl rfl); refine run_nil ?_)
          exact fin_round (i + 1) ⟨hiz, fun j hj => by
            by_cases e : j = i
            · subst e; exact ⟨hm.trans e1', hp, hf⟩
            · exact hrows j (by omega)⟩ (by omega) (Wk.of ⟨rfl, rfl, rfl, trivial⟩ ⟨rfl, rfl, trivial⟩ trivial)
    · apply goes_drawG 30 [] [[], [0], [], [0, 1, 2], [0, 1, 2, 3], [0, 1, 2, 3, 4], [], [6], [6, 7], [6, 7, 8], [6, 7, 8, 9], [0, 1, 2, 3, 4, 5, 6, 7, 8, 9, 10], [0, 1, 2, 3, 4, 5, 6, 7, 8, 9, 10, 11], [0, 1, 2, 3, 4, 5, 6, 7, 8, 9, 10, 11, 12], [0, 1, 2, 3, 4, 5, 6, 7, 8, 9, 10, 11, 12, 13], [0, 1, 2, 3, 4, 5, 6, 7, 8, 9, 10, 11, 12], [0, 1, 2, 3, 4, 5, 6, 7, 8, 9, 10, 11, 12, 13, 14, 15], [0, 1, 2, 3, 4, 5, 6, 7, 8, 9, 10, 11, 12, 13, 14, 15, 16], [0, 1, 2, 3, 4, 5, 6, 7, 8, 9, 10, 11, 12, 13, 14, 15, 16, 17], [0, 1, 2, 3, 4, 5, 6, 7, 8, 9, 10, 11, 12, 13, 14, 15, 16, 17, 18], [0, 1, 2, 3, 4, 5, 6, 7, 8, 9, 10, 11, 12, 13, 14, 15, 16, 17, 18, 19], [0, 1, 2, 3, 4, 5, 6, 7, 8, 9, 10, 11, 12, 13, 14, 15, 16, 17, 18, 19, 20], [0, 1, 2, 3, 4, 5, 6, 7, 8, 9, 10, 11, 12, 13, 14, 15, 16, 17, 18, 19, 20, 21], [0, 1, 2, 3, 4, 5, 6, 7, 8, 9, 10, 11, 12, 13, 14, 15, 16, 17, 18, 19, 20, 21, 22], [0, 1, 2, 3, 4, 5, 6, 7, 8, 9, 10, 11, 12, 13, 14, 15, 16, 17, 18, 19, 20, 21], [0, 1, 2, 3, 4, 5, 6, 7, 8, 9, 10, 11, 12, 13, 14, 15, 16, 17, 18, 19, 20, 21, 22, 23, 24], [0, 1, 2, 3, 4, 5, 6, 7, 8, 9, 10, 11, 12, 13, 14, 15, 16, 17, 18, 19, 20, 21, 22, 23, 24, 25], [0, 1, 2, 3, 4, 5, 6, 7, 8, 9, 10, 11, 12, 13, 14, 15, 16, 17, 18, 19, 20, 21, 22, 23, 24, 25, 26], [0, 1, 2, 3, 4, 5, 6, 7, 8, 9, 10, 11, 12, 13, 14, 15, 16, 17, 18, 19, 20, 21, 22, 23, 24, 25, 26, 27], [0, 1, 2, 3, 4, 5, 6, 7, 8, 9, 10, 11, 12, 13, 14, 15, 16, 17, 18, 19, 20, 21, 22, 23, 24, 25, 26, 27, 28]] [38, 39, 40, 41, 42, 43, 44, 45, 46, 47, 48, 49, 50, 51, 52, 53, 54, 55, 56, 57, 58, 59, 60, 61, 62, 63, 64, 65, 66, 67] [] (by kernel_rfl) (by kernel_rfl)
      · (apply drawG_put rfl; (intro S1 hS; exact stp_fieldAddr (d := 0) rfl (hS.op rfl) (hS.ch _ _ rfl) (by as_aux_lemma => kernel_rfl)))
        (apply drawG_put rfl; (intro S1 hS; exact stp_loadF rfl (by as_aux_lemma => kernel_rfl) (hS.op rfl) (hS.ch _ _ rfl) rfl rfl))
        (apply drawG_put rfl; (intro S1 hS; exact stp_move rfl (hS.op rfl)))
        (apply drawG_put rfl; (intro S1 hS; exact stp_ix (j := i) rfl (hS.op rfl) (hS.op rfl) (hS.ch _ _ rfl) rfl (by as_aux_lemma => kernel_rfl) rfl hiz (Nat.le_of_eq hlen.symm)))
        (apply drawG_put rfl; (intro S1 hS; exact stp_loadR rfl (by as_aux_lemma => kernel_rfl) (hS.op rfl) (hS.ch _ _ rfl) rfl hrowi hilm))
        (apply drawG_put rfl; (intro S1 hS; exact stp_len rfl (hS.op rfl) rfl (by as_aux_lemma => kernel_rfl)))
        (apply drawG_put rfl; (intro S1 hS; exact stp_fieldAddr (d := 0) rfl (hS.op rfl) (hS.ch _ _ rfl) (by as_aux_lemma => kernel_rfl)))
        (apply drawG_put rfl; (intro S1 hS; exact stp_loadF rfl (by as_aux_lemma => kernel_rfl) (hS.op rfl) (hS.ch _ _ rfl) rfl rfl))
        (apply drawG_put rfl; (intro S1 hS; exact stp_ix (j := 0) rfl (hS.op rfl) (hS.op rfl) (hS.ch _ _ rfl) rfl (by as_aux_lemma => kernel_rfl) rfl hpos (Nat.le_of_eq hlen.symm)))
        (apply drawG_put rfl; (intro S1 hS; exact stp_loadR rfl (by as_aux_lemma => kernel_rfl) (hS.op rfl) (hS.ch _ _ rfl) rfl hrow0 hil))
        (apply drawG_put rfl; (intro S1 hS; exact stp_len rfl (hS.op rfl) rfl (by as_aux_lemma => kernel_rfl)))
        (apply drawG_put rfl; (intro S1 hS; exact stp_bin rfl (hS.op rfl) (hS.op rfl) (binNeq e1)))
        (apply drawG_put rfl; (intro S1 hS; exact stp_move rfl (hS.op rfl)))
        apply drawG_no rfl rfl rfl rfl rfl
        apply drawG_no rfl rfl rfl rfl rfl
        apply drawG_no rfl rfl rfl rfl rfl
        apply drawG_no rfl rfl rfl rfl rfl
        apply drawG_no rfl rfl rfl rfl rfl
        apply drawG_no rfl rfl rfl rfl rfl
        apply drawG_no rfl rfl rfl rfl rfl
        (apply drawG_put rfl; (intro S1 hS; exact stp_pickT rfl (hS.op rfl) (hS.op rfl)))
        (apply drawG_put rfl; (intro S1 hS; exact stp_move rfl (hS.op rfl)))
        apply drawG_no rfl rfl rfl rfl rfl
        apply drawG_no rfl rfl rfl rfl rfl
        apply drawG_no rfl rfl rfl rfl rfl
        apply drawG_no rfl rfl rfl rfl rfl
        apply drawG_no rfl rfl rfl rfl rfl
        apply drawG_no rfl rfl rfl rfl rfl
        apply drawG_no rfl rfl rfl rfl rfl
        (apply drawG_put rfl; (intro S1 hS; exact stp_pickT rfl (hS.op rfl) (hS.op rfl)))
        exact DrawG.nil
      · rfl
      ((refine rest_done (by as_aux_lemma => kernel_rfl) ?_; skip))
      (refine fin_seq ?_)
      refine goes_cond rfl (fun _ => ?_) (fun e => by cases e)
      rw [manB_no (fun h => by have := h.len i hiz; omega)]
      (refine goes_seq ?_; refine goes_region ?_; apply run_step rfl; (exact stp_assign rfl rfl); refine run_nil ?_; refine fin_seq ?_; refine goes_ret ?_; refine fin_ret_block ?_; refine fin_ret_then ?_; refine fin_ret_then ?_; refine fin_ret_block ?_; refine fin_ret_then ?_)
      exact fin_ret1 (.inl rfl) rfl (.tmp rfl) trivial trivial
  obtain rfl : i = zss.length := by omega
  have hrn : Rows zss n zss.length := hrows
  have hT := rows_leads hrn
  have hB := rows_back hrn
  (refine goes_exit ?_; refine fin_exit_then ?_; refine fin_exit_then ?_; refine fin_exit_eq ?_; refine fin_seq ?_; refine goes_seq ?_; refine goes_seq ?_; refine goes_region ?_; apply run_step rfl; (exact stp_assign rfl rfl); refine run_nil ?_; refine fin_seq ?_; refine goes_block ?_)
  refine goes_loop (fun i : Nat => St.of [(1, o1 (.ptr 1 0)), (3, vv (I6 zss.length)), (5, vv (I6 i))] [(1003, rowsRo zss), (1, mxB zss.length)]) (fun i => i ≤ zss.length ∧ ∀ i' k, i' < i → i' + 2 ≤ k → k < zss.length → ∀ f, f < n → commAt zss i' k f) (fun i => zss.length - i) 0 ⟨Nat.zero_le _, fun j k hj => absurd hj (by omega)⟩ (Wk.of ⟨rfl, rfl, rfl, trivial⟩ ⟨rfl, rfl, trivial⟩ trivial) ?_
  clear hi hrows hlt
  rintro i ⟨hi, hci⟩
  (refine goes_seq ?_; refine goes_seq ?_; refine goes_region ?_; apply run_step rfl; (exact stp_move rfl rfl); apply run_step rfl; (exact stp_move rfl rfl); apply run_step rfl; (exact stp_bin rfl rfl rfl rfl); refine run_nil ?_; refine fin_seq ?_)
  refine goes_if rfl (fun hlt => ?_) (fun hlt => ?_)
  · have hiz : i < zss.length := by omega
    have hrowi : (irows zss)[i]? = some (ivals (lget zss i)) := irows_get hiz
    have hilm : (ivals (lget zss i)).length = n := by rw [ivals_len]; exact (hrn i hiz).1
    have hi2 : ((i : Int) + 2) = ((i + 2 : Nat) : Int) := by omega
    (refine goes_skip ?_; refine fin_seq ?_; refine goes_seq ?_; refine goes_block ?_; refine goes_seq ?_; refine goes_region ?_; apply run_step rfl; (exact stp_move rfl rfl); apply run_step rfl; (exact stp_add rfl rfl rfl (by first | exact IntWalk.i64_in _ (by omega) | rfl)); apply run_step rfl; (exact stp_assign rfl rfl); refine run_nil ?_; refine fin_seq ?_; refine goes_block ?_)
    refine goes_loop (fun k : Nat => St.of [(1, o1 (.ptr 1 0)), (3, vv (I6 zss.length)), (5, vv (I6 i)), (6, vv (I6 k))] [(1003, rowsRo zss), (1, mxB zss.length)]) (fun k => i + 2 ≤ k ∧ ∀ k', i + 2 ≤ k' → k' < k → k' < zss.length → ∀ f, f < n → commAt zss i k' f) (fun k => zss.length + 2 - k) (i + 2) ⟨Nat.le_refl _, fun k' h1 h2 => absurd h1 (by omega)⟩ (Wk.of ⟨rfl, rfl, rfl, congrArg (fun z => some (vv (I6 z))) hi2, trivial⟩ ⟨rfl, rfl, trivial⟩ trivial) ?_
    rintro k ⟨hk, hck⟩
    (refine goes_seq ?_; refine goes_seq ?_; refine goes_region ?_; apply run_step rfl; (exact stp_move rfl rfl); apply run_step rfl; (exact stp_move rfl rfl); apply run_step rfl; (exact stp_bin rfl rfl rfl rfl); refine run_nil ?_; refine fin_seq ?_)
    refine goes_if rfl (fun hlk => ?_) (fun hlk => ?_)
    · have hkz : k < zss.length := by omega
      have hrowk : (irows zss)[k]? = some (ivals (lget zss k)) := irows_get hkz
      have hilk : (ivals (lget zss k)).length = n := by rw [ivals_len]; exact (hrn k hkz).1
      (refine goes_skip ?_; refine fin_seq ?_; refine goes_seq ?_; refine goes_block ?_; refine goes_seq ?_; refine goes_region ?_; apply run_step rfl; (exact stp_assign rfl rfl); refine run_nil ?_; refine fin_seq ?_; refine goes_block ?_)
      refine goes_loop (fun f : Nat => St.of [(1, o1 (.ptr 1 0)), (3, vv (I6 zss.length)), (5, vv (I6 i)), (6, vv (I6 k)), (7, vv (I6 f))] [(1003, rowsRo zss), (1, mxB zss.length)]) (fun f => f ≤ n ∧ ∀ f', f' < f → commAt zss i k f') (fun f => n - f) 0 ⟨Nat.zero_le _, fun f' h1 => absurd h1 (by omega)⟩ (Wk.of ⟨rfl, rfl, rfl, rfl, rfl, trivial⟩ ⟨rfl, rfl, trivial⟩ trivial) ?_
      rintro f ⟨hf, hcf⟩
      (refine goes_seq ?_; refine goes_seq ?_; refine goes_region ?_; apply run_step rfl; (exact stp_move rfl rfl); apply run_step rfl; (exact stp_fieldAddr (d := 0) rfl rfl rfl (by as_aux_lemma => kernel_rfl)); apply run_step rfl; (exact stp_loadF rfl (by as_aux_lemma => kernel_rfl) rfl rfl rfl rfl); apply run_step rfl; (first | exact stp_ix (j := 0) rfl rfl rfl rfl rfl (by as_aux_lemma => kernel_rfl) rfl hpos (Nat.le_of_eq hlen.symm) | exact stp_loadR rfl (by as_aux_lemma => kernel_rfl) rfl rfl rfl hrow0 hil); apply run_step rfl; (first | exact stp_ix (j := 0) rfl rfl rfl rfl rfl (by as_aux_lemma => kernel_rfl) rfl hpos (Nat.le_of_eq hlen.symm) | exact stp_loadR rfl (by as_aux_lemma => kernel_rfl) rfl rfl rfl hrow0 hil); apply run_step rfl; (exact stp_len rfl rfl rfl (by as_aux_lemma => kernel_rfl)); apply run_step rfl; (exact stp_bin rfl rfl rfl rfl); refine run_nil ?_; refine fin_seq ?_)
      refine goes_if rfl (fun hlf => ?_) (fun hlf => ?_)
      · have hfn : f < n := by omega
        have hd1 := bTo_lt hT hfn (g := i) hiz
        have hd2 := bTo_lt hT hfn (g := k) hkz
        have hx1 := bTo_lt hT hd1.1 (g := k) hkz
        have hx2 := bTo_lt hT hd2.1 (g := i) hiz
        have hcm : commAt zss i k f ↔ bTo zss (bTo zss f i) k = bTo zss (bTo zss f k) i ∧ bTo zss f i ≠ bTo zss f k := Iff.rfl
        generalize bTo zss (bTo zss f i) k = x1 at *
        generalize bTo zss (bTo zss f k) i = x2 at *
        generalize bTo zss f i = d1 at *
        generalize bTo zss f k = d2 at *
        have g1 : (ivals (lget zss i))[f]? = some (I6 (d1 : Int)) := by rw [ivals_get (by rw [(hrn i hiz).1]; exact hfn), hd1.2]
        have g2 : (ivals (lget zss k))[f]? = some (I6 (d2 : Int)) := by rw [ivals_get (by rw [(hrn k hkz).1]; exact hfn), hd2.2]
        have g3 : (ivals (lget zss k))[d1]? = some (I6 (x1 : Int)) := by rw [ivals_get (by rw [(hrn k hkz).1]; exact hd1.1), hx1.2]
        have g4 : (ivals (lget zss i))[d2]? = some (I6 (x2 : Int)) := by rw [ivals_get (by rw [(hrn i hiz).1]; exact hd2.1), hx2.2]
        have hni : n ≤ (ivals (lget zss i)).length := Nat.le_of_eq hilm.symm
        have hnk : n ≤ (ivals (lget zss k)).length := Nat.le_of_eq hilk.symm
        (refine goes_skip ?_; refine fin_seq ?_; refine goes_seq ?_; refine goes_block ?_; refine goes_seq ?_)
        by_cases e1 : (x1 : Int) = x2
        · apply goes_drawG 50 [] [[], [0], [], [0, 1, 2], [0, 1, 2, 3], [], [5], [], [5, 6, 7], [5, 6, 7, 8], [], [5, 6, 7, 8, 9, 10], [5, 6, 7, 8, 9, 10, 11], [0, 1, 2, 3, 4, 5, 6, 7, 8, 9, 10, 11, 12], [0, 1, 2, 3, 4, 5, 6, 7, 8, 9, 10, 11, 12, 13], [], [15], [], [15, 16, 17], [15, 16, 17, 18], [], [20], [], [20, 21, 22], [20, 21, 22, 23], [], [20, 21, 22, 23, 24, 25], [20, 21, 22, 23, 24, 25, 26], [15, 16, 17, 18, 19, 20, 21, 22, 23, 24, 25, 26, 27], [15, 16, 17, 18, 19, 20, 21, 22, 23, 24, 25, 26, 27, 28], [0, 1, 2, 3, 4, 5, 6, 7, 8, 9, 10, 11, 12, 13, 14, 15, 16, 17, 18, 19, 20, 21, 22, 23, 24, 25, 26, 27, 28, 29], [0, 1, 2, 3, 4, 5, 6, 7, 8, 9, 10, 11, 12, 13, 14, 15, 16, 17, 18, 19, 20, 21, 22, 23, 24, 25, 26, 27, 28, 29, 30], [0, 1, 2, 3, 4, 5, 6, 7, 8, 9, 10, 11, 12, 13, 14, 15, 16, 17, 18, 19, 20, 21, 22, 23, 24, 25, 26, 27, 28, 29, 30, 31], [0, 1, 2, 3, 4, 5, 6, 7, 8, 9, 10, 11, 12, 13, 14, 15, 16, 17, 18, 19, 20, 21, 22, 23, 24, 25, 26, 27, 28, 29, 30, 31, 32], [0, 1, 2, 3, 4, 5, 6, 7, 8, 9, 10, 11, 12, 13, 14, 15, 16, 17, 18, 19, 20, 21, 22, 23, 24, 25, 26, 27, 28, 29, 30, 31], [0, 1, 2, 3, 4, 5, 6, 7, 8, 9, 10, 11, 12, 13, 14, 15, 16, 17, 18, 19, 20, 21, 22, 23, 24, 25, 26, 27, 28, 29, 30, 31, 32, 33, 34], [0, 1, 2, 3, 4, 5, 6, 7, 8, 9, 10, 11, 12, 13, 14, 15, 16, 17, 18, 19, 20, 21, 22, 23, 24, 25, 26, 27, 28, 29, 30, 31, 32, 33, 34, 35], [0, 1, 2, 3, 4, 5, 6, 7, 8, 9, 10, 11, 12, 13, 14, 15, 16, 17, 18, 19, 20, 21, 22, 23, 24, 25, 26, 27, 28, 29, 30, 31], [0, 1, 2, 3, 4, 5, 6, 7, 8, 9, 10, 11, 12, 13, 14, 15, 16, 17, 18, 19, 20, 21, 22, 23, 24, 25, 26, 27, 28, 29, 30, 31, 32, 33, 34, 35, 36, 37], [0, 1, 2, 3, 4, 5, 6, 7, 8, 9, 10, 11, 12, 13, 14, 15, 16, 17, 18, 19, 20, 21, 22, 23, 24, 25, 26, 27, 28, 29, 30, 31, 32, 33, 34, 35, 36, 37, 38], [0, 1, 2, 3, 4, 5, 6, 7, 8, 9, 10, 11, 12, 13, 14, 15, 16, 17, 18, 19, 20, 21, 22, 23, 24, 25, 26, 27, 28, 29, 30, 31], [0, 1, 2, 3, 4, 5, 6, 7, 8, 9, 10, 11, 12, 13, 14, 15, 16, 17, 18, 19, 20, 21, 22, 23, 24, 25, 26, 27, 28, 29, 30, 31, 40], [0, 1, 2, 3, 4, 5, 6, 7, 8, 9, 10, 11, 12, 13, 14, 15, 16, 17, 18, 19, 20, 21, 22, 23, 24, 25, 26, 27, 28, 29, 30, 31], [0, 1, 2, 3, 4, 5, 6, 7, 8, 9, 10, 11, 12, 13, 14, 15, 16, 17, 18, 19, 20, 21, 22, 23, 24, 25, 26, 27, 28, 29, 30, 31, 40, 41, 42], [0, 1, 2, 3, 4, 5, 6, 7, 8, 9, 10, 11, 12, 13, 14, 15, 16, 17, 18, 19, 20, 21, 22, 23, 24, 25, 26, 27, 28, 29, 30, 31, 40, 41, 42, 43], [0, 1, 2, 3, 4, 5, 6, 7, 8, 9, 10, 11, 12, 13, 14, 15, 16, 17, 18, 19, 20, 21, 22, 23, 24, 25, 26, 27, 28, 29, 30, 31], [0, 1, 2, 3, 4, 5, 6, 7, 8, 9, 10, 11, 12, 13, 14, 15, 16, 17, 18, 19, 20, 21, 22, 23, 24, 25, 26, 27, 28, 29, 30, 31, 40, 41, 42, 43, 44, 45], [0, 1, 2, 3, 4, 5, 6, 7, 8, 9, 10, 11, 12, 13, 14, 15, 16, 17, 18, 19, 20, 21, 22, 23, 24, 25, 26, 27, 28, 29, 30, 31, 40, 41, 42, 43, 44, 45, 46], [0, 1, 2, 3, 4, 5, 6, 7, 8, 9, 10, 11, 12, 13, 14, 15, 16, 17, 18, 19, 20, 21, 22, 23, 24, 25, 26, 27, 28, 29, 30, 31, 32, 33, 34, 35, 36, 37, 38, 39, 40, 41, 42, 43, 44, 45, 46, 47], [0, 1, 2, 3, 4, 5, 6, 7, 8, 9, 10, 11, 12, 13, 14, 15, 16, 17, 18, 19, 20, 21, 22, 23, 24, 25, 26, 27, 28, 29, 30, 31, 32, 33, 34, 35, 36, 37, 38, 39, 40, 41, 42, 43, 44, 45, 46, 47, 48]] [89, 90, 91, 92, 93, 94, 95, 96, 97, 98, 99, 100, 101, 102, 103, 104, 105, 106, 107, 108, 109, 110, 111, 112, 113, 114, 115, 116, 117, 118, 119, 120, 121, 122, 123, 124, 125, 126, 127, 128, 129, 130, 131, 132, 133, 134, 135, 136, 137, 138] [] (by kernel_rfl) (by kernel_rfl)
          · (apply drawG_put rfl; (intro S1 hS; exact stp_fieldAddr (d := 0) rfl (hS.op rfl) (hS.ch _ _ rfl) (by as_aux_lemma => kernel_rfl)))
            (apply drawG_put rfl; (intro S1 hS; exact stp_loadF rfl (by as_aux_lemma => kernel_rfl) (hS.op rfl) (hS.ch _ _ rfl) rfl rfl))
            (apply drawG_put rfl; (intro S1 hS; exact stp_move rfl (hS.op rfl)))
            (apply drawG_put rfl; (intro S1 hS; exact stp_ix (j := k) rfl (hS.op rfl) (hS.op rfl) (hS.ch _ _ rfl) rfl (by as_aux_lemma => kernel_rfl) rfl hkz (Nat.le_of_eq hlen.symm)))
            (apply drawG_put rfl; (intro S1 hS; exact stp_loadR rfl (by as_aux_lemma => kernel_rfl) (hS.op rfl) (hS.ch _ _ rfl) rfl hrowk hilk))
            (apply drawG_put rfl; (intro S1 hS; exact stp_fieldAddr (d := 0) rfl (hS.op rfl) (hS.ch _ _ rfl) (by as_aux_lemma => kernel_rfl)))
            (apply drawG_put rfl; (intro S1 hS; exact stp_loadF rfl (by as_aux_lemma => kernel_rfl) (hS.op rfl) (hS.ch _ _ rfl) rfl rfl))
            (apply drawG_put rfl; (intro S1 hS; exact stp_move rfl (hS.op rfl)))
            (apply drawG_put rfl; (intro S1 hS; exact stp_ix (j := i) rfl (hS.op rfl) (hS.op rfl) (hS.ch _ _ rfl) rfl (by as_aux_lemma => kernel_rfl) rfl hiz (Nat.le_of_eq hlen.symm)))
            (apply drawG_put rfl; (intro S1 hS; exact stp_loadR rfl (by as_aux_lemma => kernel_rfl) (hS.op rfl) (hS.ch _ _ rfl) rfl hrowi hilm))
            (apply drawG_put rfl; (intro S1 hS; exact stp_move rfl (hS.op rfl)))
            (apply drawG_put rfl; (intro S1 hS; exact stp_ixE (j := f) rfl (hS.op rfl) (hS.op rfl) (hS.ch _ _ rfl) rfl (by as_aux_lemma => kernel_rfl) hrowi rfl hfn hni))
            (apply drawG_put rfl; (intro S1 hS; exact stp_loadE' rfl (by as_aux_lemma => kernel_rfl) (hS.op rfl) (hS.ch _ _ rfl) rfl hrowi g1))
            (apply drawG_put rfl; (intro S1 hS; exact stp_ixE (j := d1) rfl (hS.op rfl) (hS.op rfl) (hS.ch _ _ rfl) rfl (by as_aux_lemma => kernel_rfl) hrowk rfl hd1.1 hnk))
            (apply drawG_put rfl; (intro S1 hS; exact stp_loadE' rfl (by as_aux_lemma => kernel_rfl) (hS.op rfl) (hS.ch _ _ rfl) rfl hrowk g3))
            (apply drawG_put rfl; (intro S1 hS; exact stp_fieldAddr (d := 0) rfl (hS.op rfl) (hS.ch _ _ rfl) (by as_aux_lemma => kernel_rfl)))
            (apply drawG_put rfl; (intro S1 hS; exact stp_loadF rfl (by as_aux_lemma => kernel_rfl) (hS.op rfl) (hS.ch _ _ rfl) rfl rfl))
            (apply drawG_put rfl; (intro S1 hS; exact stp_move rfl (hS.op rfl)))
            (apply drawG_put rfl; (intro S1 hS; exact stp_ix (j := i) rfl (hS.op rfl) (hS.op rfl) (hS.ch _ _ rfl) rfl (by as_aux_lemma => kernel_rfl) rfl hiz (Nat.le_of_eq hlen.symm)))
            (apply drawG_put rfl; (intro S1 hS; exact stp_loadR rfl (by as_aux_lemma => kernel_rfl) (hS.op rfl) (hS.ch _ _ rfl) rfl hrowi hilm))
            (apply drawG_put rfl; (intro S1 hS; exact stp_fieldAddr (d := 0) rfl (hS.op rfl) (hS.ch _ _ rfl) (by as_aux_lemma => kernel_rfl)))
            (apply drawG_put rfl; (intro S1 hS; exact stp_loadF rfl (by as_aux_lemma => kernel_rfl) (hS.op rfl) (hS.ch _ _ rfl) rfl rfl))
            (apply drawG_put rfl; (intro S1 hS; exact stp_move rfl (hS.op rfl)))
            (apply drawG_put rfl; (intro S1 hS; exact stp_ix (j := k) rfl (hS.op rfl) (hS.op rfl) (hS.ch _ _ rfl) rfl (by as_aux_lemma => kernel_rfl) rfl hkz (Nat.le_of_eq hlen.symm)))
            (apply drawG_put rfl; (intro S1 hS; exact stp_loadR rfl (by as_aux_lemma => kernel_rfl) (hS.op rfl) (hS.ch _ _ rfl) rfl hrowk hilk))
            (apply drawG_put rfl; (intro S1 hS; exact stp_move rfl (hS.op rfl)))
            (apply drawG_put rfl; (intro S1 hS; exact stp_ixE (j := f) rfl (hS.op rfl) (hS.op rfl) (hS.ch _ _ rfl) rfl (by as_aux_lemma => kernel_rfl) hrowk rfl hfn hnk))
            (apply drawG_put rfl; (intro S1 hS; exact stp_loadE' rfl (by as_aux_lemma => kernel_rfl) (hS.op rfl) (hS.ch _ _ rfl) rfl hrowk g2))
            (apply drawG_put rfl; (intro S1 hS; exact stp_ixE (j := d2) rfl (hS.op rfl) (hS.op rfl) (hS.ch _ _ rfl) rfl (by as_aux_lemma => kernel_rfl) hrowi rfl hd2.1 hni))
            (apply drawG_put rfl; (intro S1 hS; exact stp_loadE' rfl (by as_aux_lemma => kernel_rfl) (hS.op rfl) (hS.ch _ _ rfl) rfl hrowi g4))
            (apply drawG_put rfl; (intro S1 hS; exact stp_bin rfl (hS.op rfl) (hS.op rfl) (binNeq' e1)))
            (apply drawG_put rfl; (intro S1 hS; exact stp_move rfl (hS.op rfl)))
            (apply drawG_yes rfl rfl rfl; (intro S1 hS; exact stp_fieldAddr (d := 0) rfl (hS.op rfl) (hS.ch _ _ rfl) (by as_aux_lemma => kernel_rfl)))
            (apply drawG_yes rfl rfl rfl; (intro S1 hS; exact stp_loadF rfl (by as_aux_lemma => kernel_rfl) (hS.op rfl) (hS.ch _ _ rfl) rfl rfl))
            (apply drawG_yes rfl rfl rfl; (intro S1 hS; exact stp_move rfl (hS.op rfl)))
            (apply drawG_yes rfl rfl rfl; (intro S1 hS; exact stp_ix (j := i) rfl (hS.op rfl) (hS.op rfl) (hS.ch _ _ rfl) rfl (by as_aux_lemma => kernel_rfl) rfl hiz (Nat.le_of_eq hlen.symm)))
            (apply drawG_yes rfl rfl rfl; (intro S1 hS; exact stp_loadR rfl (by as_aux_lemma => kernel_rfl) (hS.op rfl) (hS.ch _ _ rfl) rfl hrowi hilm))
            (apply drawG_yes rfl rfl rfl; (intro S1 hS; exact stp_move rfl (hS.op rfl)))
            (apply drawG_yes rfl rfl rfl; (intro S1 hS; exact stp_ixE (j := f) rfl (hS.op rfl) (hS.op rfl) (hS.ch _ _ rfl) rfl (by as_aux_lemma => kernel_rfl) hrowi rfl hfn hni))
            (apply drawG_yes rfl rfl rfl; (intro S1 hS; exact stp_loadE' rfl (by as_aux_lemma => kernel_rfl) (hS.op rfl) (hS.ch _ _ rfl) rfl hrowi g1))
            (apply drawG_yes rfl rfl rfl; (intro S1 hS; exact stp_fieldAddr (d := 0) rfl (hS.op rfl) (hS.ch _ _ rfl) (by as_aux_lemma => kernel_rfl)))
            (apply drawG_yes rfl rfl rfl; (intro S1 hS; exact stp_loadF rfl (by as_aux_lemma => kernel_rfl) (hS.op rfl) (hS.ch _ _ rfl) rfl rfl))
            (apply drawG_yes rfl rfl rfl; (intro S1 hS; exact stp_move rfl (hS.op rfl)))
            (apply drawG_yes rfl rfl rfl; (intro S1 hS; exact stp_ix (j := k) rfl (hS.op rfl) (hS.op rfl) (hS.ch _ _ rfl) rfl (by as_aux_lemma => kernel_rfl) rfl hkz (Nat.le_of_eq hlen.symm)))
            (apply drawG_yes rfl rfl rfl; (intro S1 hS; exact stp_loadR rfl (by as_aux_lemma => kernel_rfl) (hS.op rfl) (hS.ch _ _ rfl) rfl hrowk hilk))
            (apply drawG_yes rfl rfl rfl; (intro S1 hS; exact stp_move rfl (hS.op rfl)))
            (apply drawG_yes rfl rfl rfl; (intro S1 hS; exact stp_ixE (j := f) rfl (hS.op rfl) (hS.op rfl) (hS.ch _ _ rfl) rfl (by as_aux_lemma => kernel_rfl) hrowk rfl hfn hnk))
            (apply drawG_yes rfl rfl rfl; (intro S1 hS; exact stp_loadE' rfl (by as_aux_lemma => kernel_rfl) (hS.op rfl) (hS.ch _ _ rfl) rfl hrowk g2))
            (apply drawG_yes rfl rfl rfl; (intro S1 hS; exact stp_bin rfl (hS.op rfl) (hS.op rfl) rfl))
            (apply drawG_put rfl; (intro S1 hS; exact stp_pickF rfl (hS.op rfl) (hS.op rfl)))
            exact DrawG.nil
          · rfl
          ((refine rest_done (by as_aux_lemma => kernel_rfl) ?_; skip))
          (refine fin_seq ?_)
          refine goes_cond rfl (fun e2 => ?_) (fun e2 => ?_)
          · have e2 : (d1 : Int) = d2 := by simpa using e2
            rw [manB_no (fun h => by have := (hcm.1 (h.comm i k hk hkz f (by omega))).2; omega)]
            (refine goes_seq ?_; refine goes_region ?_; apply run_step rfl; (exact stp_assign rfl rfl); refine run_nil ?_; refine fin_seq ?_; refine goes_ret ?_; refine fin_ret_block ?_; refine fin_ret_then ?_; refine fin_ret_then ?_; refine fin_ret_block ?_; refine fin_ret_block ?_; refine fin_ret_then ?_; refine fin_ret_then ?_; refine fin_ret_block ?_; refine fin_ret_block ?_; refine fin_ret_then ?_; refine fin_ret_then ?_; refine fin_ret_block ?_; refine fin_ret_then ?_)
            exact fin_ret1 (.inl rfl) rfl (.tmp rfl) trivial trivial
          · have e2 : (d1 : Int) ≠ d2 := by simpa using e2
            (refine goes_skip ?_; refine fin_block ?_; refine fin_seq ?_; refine goes_region ?_; apply run_step rfl; (exact stp_move rfl rfl); apply run_step rfl; (exact stp_add rfl rfl rfl (by first | exact IntWalk.i64_in _ (by omega) | rfl)); apply run_step rfl; (exact stp_assign rfl rfl); refine run_nil ?_)
            exact fin_round (f + 1) ⟨hfn, fun f' hf' => by
              by_cases e : f' = f
              · subst e; exact hcm.2 ⟨by omega, by omega⟩
              · exact hcf f' (by omega)⟩ (by omega) (Wk.of ⟨rfl, rfl, rfl, rfl, rfl, trivial⟩ ⟨rfl, rfl, trivial⟩ trivial)
        · apply goes_drawG 50 [] [[], [0], [], [0, 1, 2], [0, 1, 2, 3], [], [5], [], [5, 6, 7], [5, 6, 7, 8], [], [5, 6, 7, 8, 9, 10], [5, 6, 7, 8, 9, 10, 11], [0, 1, 2, 3, 4, 5, 6, 7, 8, 9, 10, 11, 12], [0, 1, 2, 3, 4, 5, 6, 7, 8, 9, 10, 11, 12, 13], [], [15], [], [15, 16, 17], [15, 16, 17, 18], [], [20], [], [20, 21, 22], [20, 21, 22, 23], [], [20, 21, 22, 23, 24, 25], [20, 21, 22, 23, 24, 25, 26], [15, 16, 17, 18, 19, 20, 21, 22, 23, 24, 25, 26, 27], [15, 16, 17, 18, 19, 20, 21, 22, 23, 24, 25, 26, 27, 28], [0, 1, 2, 3, 4, 5, 6, 7, 8, 9, 10, 11, 12, 13, 14, 15, 16, 17, 18, 19, 20, 21, 22, 23, 24, 25, 26, 27, 28, 29], [0, 1, 2, 3, 4, 5, 6, 7, 8, 9, 10, 11, 12, 13, 14, 15, 16, 17, 18, 19, 20, 21, 22, 23, 24, 25, 26, 27, 28, 29, 30], [0, 1, 2, 3, 4, 5, 6, 7, 8, 9, 10, 11, 12, 13, 14, 15, 16, 17, 18, 19, 20, 21, 22, 23, 24, 25, 26, 27, 28, 29, 30, 31], [0, 1, 2, 3, 4, 5, 6, 7, 8, 9, 10, 11, 12, 13, 14, 15, 16, 17, 18, 19, 20, 21, 22, 23, 24, 25, 26, 27, 28, 29, 30, 31, 32], [0, 1, 2, 3, 4, 5, 6, 7, 8, 9, 10, 11, 12, 13, 14, 15, 16, 17, 18, 19, 20, 21, 22, 23, 24, 25, 26, 27, 28, 29, 30, 31], [0, 1, 2, 3, 4, 5, 6, 7, 8, 9, 10, 11, 12, 13, 14, 15, 16, 17, 18, 19, 20, 21, 22, 23, 24, 25, 26, 27, 28, 29, 30, 31, 32, 33, 34], [0, 1, 2, 3, 4, 5, 6, 7, 8, 9, 10, 11, 12, 13, 14, 15, 16, 17, 18, 19, 20, 21, 22, 23, 24, 25, 26, 27, 28, 29, 30, 31, 32, 33, 34, 35], [0, 1, 2, 3, 4, 5, 6, 7, 8, 9, 10, 11, 12, 13, 14, 15, 16, 17, 18, 19, 20, 21, 22, 23, 24, 25, 26, 27, 28, 29, 30, 31], [0, 1, 2, 3, 4, 5, 6, 7, 8, 9, 10, 11, 12, 13, 14, 15, 16, 17, 18, 19, 20, 21, 22, 23, 24, 25, 26, 27, 28, 29, 30, 31, 32, 33, 34, 35, 36, 37], [0, 1, 2, 3, 4, 5, 6, 7, 8, 9, 10, 11, 12, 13, 14, 15, 16, 17, 18, 19, 20, 21, 22, 23, 24, 25, 26, 27, 28, 29, 30, 31, 32, 33, 34, 35, 36, 37, 38], [0, 1, 2, 3, 4, 5, 6, 7, 8, 9, 10, 11, 12, 13, 14, 15, 16, 17, 18, 19, 20, 21, 22, 23, 24, 25, 26, 27, 28, 29, 30, 31], [0, 1, 2, 3, 4, 5, 6, 7, 8, 9, 10, 11, 12, 13, 14, 15, 16, 17, 18, 19, 20, 21, 22, 23, 24, 25, 26, 27, 28, 29, 30, 31, 40], [0, 1, 2, 3, 4, 5, 6, 7, 8, 9, 10, 11, 12, 13, 14, 15, 16, 17, 18, 19, 20, 21, 22, 23, 24, 25, 26, 27, 28, 29, 30, 31], [0, 1, 2, 3, 4, 5, 6, 7, 8, 9, 10, 11, 12, 13, 14, 15, 16, 17, 18, 19, 20, 21, 22, 23, 24, 25, 26, 27, 28, 29, 30, 31, 40, 41, 42], [0, 1, 2, 3, 4, 5, 6, 7, 8, 9, 10, 11, 12, 13, 14, 15, 16, 17, 18, 19, 20, 21, 22, 23, 24, 25, 26, 27, 28, 29, 30, 31, 40, 41, 42, 43], [0, 1, 2, 3, 4, 5, 6, 7, 8, 9, 10, 11, 12, 13, 14, 15, 16, 17, 18, 19, 20, 21, 22, 23, 24, 25, 26, 27, 28, 29, 30, 31], [0, 1, 2, 3, 4, 5, 6, 7, 8, 9, 10, 11, 12, 13, 14, 15, 16, 17, 18, 19, 20, 21, 22, 23, 24, 25, 26, 27, 28, 29, 30, 31, 40, 41, 42, 43, 44, 45], [0, 1, 2, 3, 4, 5, 6, 7, 8, 9, 10, 11, 12, 13, 14, 15, 16, 17, 18, 19, 20, 21, 22, 23, 24, 25, 26, 27, 28, 29, 30, 31, 40, 41, 42, 43, 44, 45, 46], [0, 1, 2, 3, 4, 5, 6, 7, 8, 9, 10, 11, 12, 13, 14, 15, 16, 17, 18, 19, 20, 21, 22, 23, 24, 25, 26, 27, 28, 29, 30, 31, 32, 33, 34, 35, 36, 37, 38, 39, 40, 41, 42, 43, 44, 45, 46, 47], [0, 1, 2, 3, 4, 5, 6, 7, 8, 9, 10, 11, 12, 13, 14, 15, 16, 17, 18, 19, 20, 21, 22, 23, 24, 25, 26, 27, 28, 29, 30, 31, 32, 33, 34, 35, 36, 37, 38, 39, 40, 41, 42, 43, 44, 45, 46, 47, 48]] [89, 90, 91, 92, 93, 94, 95, 96, 97, 98, 99, 100, 101, 102, 103, 104, 105, 106, 107, 108, 109, 110, 111, 112, 113, 114, 115, 116, 117, 118, 119, 120, 121, 122, 123, 124, 125, 126, 127, 128, 129, 130, 131, 132, 133, 134, 135, 136, 137, 138] [] (by kernel_rfl) (by kernel_rfl)
          · (apply drawG_put rfl; (intro S1 hS; exact stp_fieldAddr (d := 0) rfl (hS.op rfl) (hS.ch _ _ rfl) (by as_aux_lemma => kernel_rfl)))
            (apply drawG_put rfl; (intro S1 hS; exact stp_loadF rfl (by as_aux_lemma => kernel_rfl) (hS.op rfl) (hS.ch _ _ rfl) rfl rfl))
            (apply drawG_put rfl; (intro S1 hS; exact stp_move rfl (hS.op rfl)))
            (apply drawG_put rfl; (intro S1 hS; exact stp_ix (j := k) rfl (hS.op rfl) (hS.op rfl) (hS.ch _ _ rfl) rfl (by as_aux_lemma => kernel_rfl) rfl hkz (Nat.le_of_eq hlen.symm)))
            (apply drawG_put rfl; (intro S1 hS; exact stp_loadR rfl (by as_aux_lemma => kernel_rfl) (hS.op rfl) (hS.ch _ _ rfl) rfl hrowk hilk))
            (apply drawG_put rfl; (intro S1 hS; exact stp_fieldAddr (d := 0) rfl (hS.op rfl) (hS.ch _ _ rfl) (by as_aux_lemma => kernel_rfl)))
            (apply drawG_put rfl; (intro S1 hS; exact stp_loadF rfl (by as_aux_lemma => kernel_rfl) (hS.op rfl) (hS.ch _ _ rfl) rfl rfl))
            (apply drawG_put rfl; (intro S1 hS; exact stp_move rfl (hS.op rfl)))
            (apply drawG_put rfl; (intro S1 hS; exact stp_ix (j := i) rfl (hS.op rfl) (hS.op rfl) (hS.ch _ _ rfl) rfl (by as_aux_lemma => kernel_rfl) rfl hiz (Nat.le_of_eq hlen.symm)))
            (apply drawG_put rfl; (intro S1 hS; exact stp_loadR rfl (by as_aux_lemma => kernel_rfl) (hS.op rfl) (hS.ch _ _ rfl) rfl hrowi hilm))
            (apply drawG_put rfl; (intro S1 hS; exact stp_move rfl (hS.op rfl)))
            (apply drawG_put rfl; (intro S1 hS; exact stp_ixE (j := f) rfl (hS.op rfl) (hS.op rfl) (hS.ch _ _ rfl) rfl (by as_aux_lemma => kernel_rfl) hrowi rfl hfn hni))
            (apply drawG_put rfl; (intro S1 hS; exact stp_loadE' rfl (by as_aux_lemma => kernel_rfl) (hS.op rfl) (hS.ch _ _ rfl) rfl hrowi g1))
            (apply drawG_put rfl; (intro S1 hS; exact stp_ixE (j := d1) rfl (hS.op rfl) (hS.op rfl) (hS.ch _ _ rfl) rfl (by as_aux_lemma => kernel_rfl) hrowk rfl hd1.1 hnk))
            (apply drawG_put rfl; (intro S1 hS; exact stp_loadE' rfl (by as_aux_lemma => kernel_rfl) (hS.op rfl) (hS.ch _ _ rfl) rfl hrowk g3))
            (apply drawG_put rfl; (intro S1 hS; exact stp_fieldAddr (d := 0) rfl (hS.op rfl) (hS.ch _ _ rfl) (by as_aux_lemma => kernel_rfl)))
            (apply drawG_put rfl; (intro S1 hS; exact stp_loadF rfl (by as_aux_lemma => kernel_rfl) (hS.op rfl) (hS.ch _ _ rfl) rfl rfl))
            (apply drawG_put rfl; (intro S1 hS; exact stp_move rfl (hS.op rfl)))
            (apply drawG_put rfl; (intro S1 hS; exact stp_ix (j := i) rfl (hS.op rfl) (hS.op rfl) (hS.ch _ _ rfl) rfl (by as_aux_lemma => kernel_rfl) rfl hiz (Nat.le_of_eq hlen.symm)))
            (apply drawG_put rfl; (intro S1 hS; exact stp_loadR rfl (by as_aux_lemma => kernel_rfl) (hS.op rfl) (hS.ch _ _ rfl) rfl hrowi hilm))
            (apply drawG_put rfl; (intro S1 hS; exact stp_fieldAddr (d := 0) rfl (hS.op rfl) (hS.ch _ _ rfl) (by as_aux_lemma => kernel_rfl)))
            (apply drawG_put rfl; (intro S1 hS; exact stp_loadF rfl (by as_aux_lemma => kernel_rfl) (hS.op rfl) (hS.ch _ _ rfl) rfl rfl))
            (apply drawG_put rfl; (intro S1 hS; exact stp_move rfl (hS.op rfl)))
            (apply drawG_put rfl; (intro S1 hS; exact stp_ix (j := k) rfl (hS.op rfl) (hS.op rfl) (hS.ch _ _ rfl) rfl (by as_aux_lemma => kernel_rfl) rfl hkz (Nat.le_of_eq hlen.symm)))
            (apply drawG_put rfl; (intro S1 hS; exact stp_loadR rfl (by as_aux_lemma => kernel_rfl) (hS.op rfl) (hS.ch _ _ rfl) rfl hrowk hilk))
            (apply drawG_put rfl; (intro S1 hS; exact stp_move rfl (hS.op rfl)))
            (apply drawG_put rfl; (intro S1 hS; exact stp_ixE (j := f) rfl (hS.op rfl) (hS.op rfl) (hS.ch _ _ rfl) rfl (by as_aux_lemma => kernel_rfl) hrowk rfl hfn hnk))
            (apply drawG_put rfl; (intro S1 hS; exact stp_loadE' rfl (by as_aux_lemma => kernel_rfl) (hS.op rfl) (hS.ch _ _ rfl) rfl hrowk g2))
            (apply drawG_put rfl; (intro S1 hS; exact stp_ixE (j := d2) rfl (hS.op rfl) (hS.op rfl) (hS.ch _ _ rfl) rfl (by as_aux_lemma => kernel_rfl) hrowi rfl hd2.1 hni))
            (apply drawG_put rfl; (intro S1 hS; exact stp_loadE' rfl (by as_aux_lemma => kernel_rfl) (hS.op rfl) (hS.ch _ _ rfl) rfl hrowi g4))
            (apply drawG_put rfl; (intro S1 hS; exact stp_bin rfl (hS.op rfl) (hS.op rfl) (binNeq e1)))
            (apply drawG_put rfl; (intro S1 hS; exact stp_move rfl (hS.op rfl)))
            apply drawG_no rfl rfl rfl rfl rfl
            apply drawG_no rfl rfl rfl rfl rfl
            apply drawG_no rfl rfl rfl rfl rfl
            apply drawG_no rfl rfl rfl rfl rfl
            apply drawG_no rfl rfl rfl rfl rfl
            apply drawG_no rfl rfl rfl rfl rfl
            apply drawG_no rfl rfl rfl rfl rfl
            apply drawG_no rfl rfl rfl rfl rfl
            apply drawG_no rfl rfl rfl rfl rfl
            apply drawG_no rfl rfl rfl rfl rfl
            apply drawG_no rfl rfl rfl rfl rfl
            apply drawG_no rfl rfl rfl rfl rfl
            apply drawG_no rfl rfl rfl rfl rfl
            apply drawG_no rfl rfl rfl rfl rfl
            apply drawG_no rfl rfl rfl rfl rfl
            apply drawG_no rfl rfl rfl rfl rfl
            apply drawG_no rfl rfl rfl rfl rfl
            (apply drawG_put rfl; (intro S1 hS; exact stp_pickT rfl (hS.op rfl) (hS.op rfl)))
            exact DrawG.nil
          · rfl
          ((refine rest_done (by as_aux_lemma => kernel_rfl) ?_; skip))
          (refine fin_seq ?_)
          refine goes_cond rfl (fun _ => ?_) (fun e => by cases e)
          rw [manB_no (fun h => by have := (hcm.1 (h.comm i k hk hkz f (by omega))).1; omega)]
          (refine goes_seq ?_; refine goes_region ?_; apply run_step rfl; (exact stp_assign rfl rfl); refine run_nil ?_; refine fin_seq ?_; refine goes_ret ?_; refine fin_ret_block ?_; refine fin_ret_then ?_; refine fin_ret_then ?_; refine fin_ret_block ?_; refine fin_ret_block ?_; refine fin_ret_then ?_; refine fin_ret_then ?_; refine fin_ret_block ?_; refine fin_ret_block ?_; refine fin_ret_then ?_; refine fin_ret_then ?_; refine fin_ret_block ?_; refine fin_ret_then ?_)
          exact fin_ret1 (.inl rfl) rfl (.tmp rfl) trivial trivial
      · (refine goes_exit ?_; refine fin_exit_then ?_; refine fin_exit_then ?_; refine fin_exit_eq ?_; refine fin_block ?_; refine fin_seq ?_; refine goes_region ?_; apply run_step rfl; (exact stp_move rfl rfl); apply run_step rfl; (exact stp_add rfl rfl rfl (by first | exact IntWalk.i64_in _ (by omega) | rfl)); apply run_step rfl; (exact stp_assign rfl rfl); refine run_nil ?_)
        exact fin_round (k + 1) ⟨by omega, fun k' h1 h2 h3 f' hf' => by
          by_cases e : k' = k
          · subst e; exact hcf f' (by omega)
          · exact hck k' h1 (by omega) h3 f' hf'⟩ (by omega) (Wk.of ⟨rfl, rfl, rfl, rfl, trivial⟩ ⟨rfl, rfl, trivial⟩ trivial)
    · (refine goes_exit ?_; refine fin_exit_then ?_; refine fin_exit_then ?_; refine fin_exit_eq ?_; refine fin_block ?_; refine fin_seq ?_; refine goes_region ?_; apply run_step rfl; (exact stp_move rfl rfl); apply run_step rfl; (exact stp_add rfl rfl rfl (by first | exact IntWalk.i64_in _ (by omega) | rfl)); apply run_step rfl; (exact stp_assign rfl rfl); refine run_nil ?_)
      exact fin_round (i + 1) ⟨hiz, fun i' k' h1 h2 h3 => by
        by_cases e : i' = i
        · subst e; exact hck k' h2 (by omega) h3
        · exact hci i' k' (by omega) h2 h3⟩ (by omega) (Wk.of ⟨rfl, rfl, rfl, trivial⟩ ⟨rfl, rfl, trivial⟩ trivial)
  obtain rfl : i = zss.length := by omega
  have hM : Man0 zss := ⟨by omega, by omega, by omega, by omega, by rw [hn]; exact hrn, fun i k h1 h2 f hf => hci i k (by omega) h1 h2 f (by omega)⟩
  have hO := (orbS_fc zss n 0 hT hpos (by omega) (by omega) (by omega)).nm [(1003, 1003), (12, 141)] (by kernel_rfl)
  have hO : FC Try.prog 99 [(1003, rowsRo zss)] [o1 (.sl 1003 0 zss.length), vv (I6 0)] [(141, leOw (orb zss n 0).2)] (o1 (.sl 141 0 (orb zss n 0).2.length)) [] := hO
  rw [hM.man, hn]
  (refine goes_exit ?_; refine fin_exit_then ?_; refine fin_exit_then ?_; refine fin_exit_eq ?_; refine fin_seq ?_; refine goes_seq ?_)
  apply goes_draw 11 [] [[], [0], [0, 1], [0, 1, 2], [], [4], [4, 5], [4, 5, 6], [4, 5, 6, 7], [0, 1, 2, 3, 4, 5, 6, 7, 8], [0, 1, 2, 3, 4, 5, 6, 7, 8, 9]] [139, 140, 141, 142, 143, 144, 145, 146, 147, 148, 2] [141] (by kernel_rfl) (by kernel_rfl)
  · (apply draw_put rfl; (intro S1 hS; exact stp_fieldAddr (d := 0) rfl (hS.op rfl) (hS.ch _ _ rfl) (by as_aux_lemma => kernel_rfl)))
    (apply draw_put rfl; (intro S1 hS; exact stp_loadF rfl (by as_aux_lemma => kernel_rfl) (hS.op rfl) (hS.ch _ _ rfl) rfl rfl))
    (apply draw_new rfl; (intro S1 hS; apply call_gate 99; exact stp_callN hO (by as_aux_lemma => kernel_rfl) rfl (opL_le hS rfl) ⟨rfl, rfl, trivial⟩ (allIn_le hS ⟨⟨_, rfl, .inl rfl⟩, trivial⟩) rfl rfl rfl))
    (apply draw_put rfl; (intro S1 hS; exact stp_len rfl (hS.op rfl) rfl (by as_aux_lemma => kernel_rfl)))
    (apply draw_put rfl; (intro S1 hS; exact stp_fieldAddr (d := 0) rfl (hS.op rfl) (hS.ch _ _ rfl) (by as_aux_lemma => kernel_rfl)))
    (apply draw_put rfl; (intro S1 hS; exact stp_loadF rfl (by as_aux_lemma => kernel_rfl) (hS.op rfl) (hS.ch _ _ rfl) rfl rfl))
    (apply draw_put rfl; (intro S1 hS; exact stp_ix (j := 0) rfl (hS.op rfl) (hS.op rfl) (hS.ch _ _ rfl) rfl (by as_aux_lemma => kernel_rfl) rfl hpos (Nat.le_of_eq hlen.symm)))
    (apply draw_put rfl; (intro S1 hS; exact stp_loadR rfl (by as_aux_lemma => kernel_rfl) (hS.op rfl) (hS.ch _ _ rfl) rfl hrow0 hil))
    (apply draw_put rfl; (intro S1 hS; exact stp_len rfl (hS.op rfl) rfl (by as_aux_lemma => kernel_rfl)))
    (apply draw_put rfl; (intro S1 hS; exact stp_bin rfl (hS.op rfl) (hS.op rfl) rfl))
    (apply draw_put rfl; (intro S1 hS; exact stp_assign rfl (hS.op rfl)))
    exact Draw.nil
  · rfl
  ((refine rest_done (by as_aux_lemma => kernel_rfl) ?_; skip))
  (refine fin_seq ?_; refine goes_ret ?_)
  exact fin_ret1 (.inl rfl) rfl (.tmp rfl) trivial trivial
end Go.Proofs.Ytmdhljleaijkbaa

/- A search in depth numbers an orbit, on lists. No program in sight. -/
namespace Go.Proofs.Ytmdhljleaijkbaa

def negc (L : List Int) : Nat := (L.filter fun z => decide (z < 0)).length
theorem negc_set : ∀ (L : List Int) (d : Nat) (z : Int), d < L.length → iget L d < 0 → 0 ≤ z → negc (L.set d z) + 1 = negc L
  | [], d, _, h, _, _ => by simp at h
  | a :: r, 0, z, _, h, hz => by
    have h : a < 0 := by simpa [iget] using h
    simp [negc, h, show ¬ z < 0 by omega]
  | a :: r, d + 1, z, hd, h, hz => by
    have ih := negc_set r d z (by simpa using hd) (by simpa [iget] using h) hz
    unfold negc at ih ⊢
    simp only [List.set_cons_succ, List.filter_cons]
    split
    · simp only [List.length_cons]; omega
    · exact ih
theorem iget_setD {L : List Int} {d e : Nat} {z : Int} : iget (L.set d z) e = if d = e ∧ d < L.length then z else iget L e := by
  simp only [iget, List.getD_eq_getElem?_getD, List.getElem?_set]
  by_cases h : d = e
  · subst h
    by_cases h2 : d < L.length
    · simp [h2]
    · simp [h2]
  · simp [h]
structure DOK (T : List (List Int)) (n i k : Nat) (L0 : List Int) (ex : Nat → Prop) (L st : List Int) : Prop where
  len : L.length = n
  st_ : ∀ z ∈ st, ∃ d : Nat, z = (d : Int) ∧ d < n ∧ rch T n i d = true ∧ iget L d = (k : Int)
  eq : ∀ d, d < n → iget L d = iget L0 d ∨ (iget L d = (k : Int) ∧ rch T n i d = true)
  self : iget L i = (k : Int)
  cl : ∀ d, d < n → rch T n i d = true → iget L d = (k : Int) → (d : Int) ∉ st → ¬ ex d → ∀ g, g < T.length → iget L (bTo T d g) = (k : Int)
section
variable {T : List (List Int)} {n i k : Nat} {L0 L st : List Int} {ex : Nat → Prop}
theorem dok_start (hT : Leads T n) (hi : i < n) (hl : L0.length = n) (hnew : ∀ d, d < n → rch T n i d = true → iget L0 d = -1) : DOK T n i k L0 (fun _ => False) (L0.set i (k : Int)) [(i : Int)] := by
  refine ⟨by simpa using hl, fun z hz => ?_, fun d hd => ?_, by rw [iget_setD, if_pos ⟨rfl, by omega⟩], fun d hd hr he hn => ?_⟩
  · obtain rfl : z = (i : Int) := by simpa using hz
    exact ⟨i, rfl, hi, rch_refl hT hi, by rw [iget_setD, if_pos ⟨rfl, by omega⟩]⟩
  · rw [iget_setD]
    split
    · rename_i h; obtain ⟨rfl, _⟩ := h; exact .inr ⟨rfl, rch_refl hT hi⟩
    · exact .inl rfl
  · exfalso
    have hne : i ≠ d := fun e => hn (by simp [e])
    rw [iget_setD, if_neg (fun h => hne h.1), hnew d hd hr] at he
    omega
theorem dok_pop {m x : Nat} (h : DOK T n i k L0 (fun _ => False) L st) (hm : st.length = m + 1) (hx : iget st m = (x : Int)) : DOK T n i k L0 (fun d => d = x) L (st.take m) := by
  refine ⟨h.len, fun z hz => h.st_ z (List.mem_of_mem_take hz), h.eq, h.self, fun d hd hr he hn hne => ?_⟩
  refine h.cl d hd hr he (fun hs => ?_) (fun f => f)
  have hst : st = st.take m ++ [(x : Int)] := by
    have := take_iget (zs := st) (k := m) (by omega)
    rw [hx, ← hm, List.take_length] at this; exact this
  rw [hst] at hs
  rcases List.mem_append.1 hs with hs | hs
  · exact hn hs
  · have : (d : Int) = x := by simpa using hs
    exact hne (by omega)
theorem dok_step {y : Nat} (h : DOK T n i k L0 ex L st) (hy : y < n) (hr : rch T n i y = true) (hl : iget L y < 0) : DOK T n i k L0 ex (L.set y (k : Int)) (st ++ [(y : Int)]) := by
  have hyl : y < L.length := by rw [h.len]; exact hy
  have keep : ∀ d, iget L d = (k : Int) → iget (L.set y (k : Int)) d = (k : Int) := fun d hd => by
    rw [iget_setD]; split
    · rfl
    · exact hd
  refine ⟨by rw [List.length_set]; exact h.len, fun z hz => ?_, fun d hd => ?_, keep i h.self, fun d hd hrd he hn hne => ?_⟩
  · rcases List.mem_append.1 hz with hz | hz
    · obtain ⟨d, h1, h2, h3, h4⟩ := h.st_ z hz
      exact ⟨d, h1, h2, h3, keep d h4⟩
    · obtain rfl : z = (y : Int) := by simpa using hz
      exact ⟨y, rfl, hy, hr, by rw [iget_setD, if_pos ⟨rfl, hyl⟩]⟩
  · rw [iget_setD]
    split
    · rename_i e; obtain ⟨rfl, _⟩ := e; exact .inr ⟨rfl, hr⟩
    · exact h.eq d hd
  · have hyd : y ≠ d := fun e => hn (by subst e; simp)
    rw [iget_setD, if_neg (fun e => hyd e.1)] at he
    exact fun g hg => keep _ (h.cl d hd hrd he (fun hs => hn (List.mem_append_left _ hs)) hne g hg)
theorem dok_end {x : Nat} (h : DOK T n i k L0 (fun d => d = x) L st) (hx : ∀ g, g < T.length → iget L (bTo T x g) = (k : Int)) : DOK T n i k L0 (fun _ => False) L st :=
  ⟨h.len, h.st_, h.eq, h.self, fun d hd hr he hn _ => by
    by_cases e : d = x
    · subst e; exact hx
    · exact h.cl d hd hr he hn e⟩
theorem dok_done (hT : Leads T n) (hi : i < n) (h : DOK T n i k L0 (fun _ => False) L []) : L = (labSet T n i (L0, k)).1 := by
  refine iget_ext (by rw [h.len, labSet_len]) fun d hd => ?_
  rw [h.len] at hd
  rw [labSet_get hd]
  have hall : ∀ d, d < n → rch T n i d = true → iget L d = (k : Int) :=
    fun d hd hr => (rch_in (p := fun d => iget L d = (k : Int) ∧ rch T n i d = true) hT hi ⟨h.self, rch_refl hT hi⟩ (fun e he hp g hg => ⟨h.cl e he hp.2 hp.1 (by simp) (fun f => f) g hg, rch_on hT hi he hp.2 hg⟩) d hd hr).1
  split
  · rename_i hr; exact hall d hd hr
  · rename_i hr
    rcases h.eq d hd with h1 | h1
    · exact h1
    · exact absurd h1.2 hr
end
end Go.Proofs.Ytmdhljleaijkbaa

/- Contracts in names of small functions: size, slices.Repeat. -/
namespace Go.Proofs.Ytmdhljleaijkbaa
open Go.RowKit

theorem sizeR_fc (x n : Nat) : FC Try.prog 53 [] [o1 (.sl x 0 n)] [] (vv (I6 n)) [] := by
  refine fc_enter (nt := 5) Try.func53 rfl rfl (by simp) fun w0 ω0 => ?_
  (refine goes_seq ?_; refine goes_region ?_; apply run_step rfl; (exact stp_assign rfl rfl); refine run_nil ?_; refine fin_seq ?_; refine goes_seq ?_; refine goes_region ?_; apply run_step rfl; (exact stp_move rfl rfl); apply run_step rfl; (exact stp_len rfl rfl rfl (by as_aux_lemma => kernel_rfl)); apply run_step rfl; (exact stp_assign rfl rfl); refine run_nil ?_; refine fin_seq ?_; refine goes_ret ?_)
  exact fin_ret1 (.inl rfl) rfl (.tmp rfl) trivial trivial
theorem sizeE_fc (x i n : Nat) : FC Try.prog 71 [] [o1 (.esl x i 0 n)] [] (vv (I6 n)) [] := by
  refine fc_enter (nt := 5) Try.func71 rfl rfl (by simp) fun w0 ω0 => ?_
  (refine goes_seq ?_; refine goes_region ?_; apply run_step rfl; (exact stp_assign rfl rfl); refine run_nil ?_; refine fin_seq ?_; refine goes_seq ?_; refine goes_region ?_; apply run_step rfl; (exact stp_move rfl rfl); apply run_step rfl; (exact stp_len rfl rfl rfl (by as_aux_lemma => kernel_rfl)); apply run_step rfl; (exact stp_assign rfl rfl); refine run_nil ?_; refine fin_seq ?_; refine goes_ret ?_)
  exact fin_ret1 (.inl rfl) rfl (.tmp rfl) trivial trivial

theorem repL_single (z : Int) : ∀ n, repL [z] n = List.replicate n z := fun n => by
  unfold repL
  induction n with
  | zero => rfl
  | succ n ih => simp [List.replicate_succ] at ih ⊢
theorem lk_self {α : Type} (x : Nat) (c : α) : lk x [(x, c)] = some c := by simp [lk]
/-- slices.Repeat of a list of one number -/
theorem repeat1_fc (x y n : Nat) (z : Int) (hn : n ≤ 1048576) (hn0 : 0 < n) :
    FC Try.prog 108 [(x, ⟨false, 2, 1, .vals (ivals [z])⟩)] [o1 (.sl x 0 1), vv (I6 n)] [(y, ⟨true, 2, 1, .vals (ivals (List.replicate n z))⟩)] (o1 (.sl y 0 n)) [] := by
  have h := fc_of_own (P := Try.prog) (f := 108) (ins := [(x, ⟨false, 2, 1, .vals (ivals [z])⟩)]) (args := [o1 (.sl x 0 1), vv (I6 n)]) (x := y) (E := 2) (zs := List.replicate n z) fun w η ω us hm hd => by
    obtain ⟨hl, ha⟩ := hd
    obtain ⟨u0, h0, d0⟩ := ha 0 _ rfl
    obtain ⟨u1, h1, d1⟩ := ha 1 _ rfl
    obtain ⟨ao, c, e0, hi⟩ := rdS (zs := [z]) (E := 2) (own := false) hm (lk_self _ _) d0 (by simp)
    have d1 : u1 = I6 n := d1
    subst e0 d1
    obtain rfl : us = [.slice ao 1 c, I6 n] := by
      match us, hl, h0, h1 with
      | [p, q], _, h0, h1 => simp at h0 h1; rw [h0, h1]
    refine (repeat_any ao 1 c n [z] w hi (by omega) hn (by omega) (by omega)).mono ?_
    rintro e w' ⟨ao', c', rfl, ho, hb⟩
    rw [Nat.one_mul, repL_single] at ho
    rw [List.length_replicate]
    exact ⟨ao', c', by rw [Nat.one_mul], ho, hb⟩
  rw [List.length_replicate] at h
  exact h
end Go.Proofs.Ytmdhljleaijkbaa

/- The numbers of orbits, the program's: orbitLabels. -/
namespace Go.Proofs.Ytmdhljleaijkbaa
open Go.RowKit

theorem ivals_take (zs : List Int) (m : Nat) : (ivals zs).take m = ivals (zs.take m) := by simp [ivals, List.map_take]
set_option maxRecDepth 100000 in
set_option maxHeartbeats 2000000 in
theorem orbI_fcS (zss : List (List Int)) (n ng : Nat) (hng : zss.length = ng) (hT : Leads zss n) (hB : SymR zss n) (hpos : 0 < n) (hn : n ≤ 1000000) (hg : ng ≤ 1000000) :
    FC Try.prog 72 [(1003, rowsRo zss)] [vv (I6 n), o1 (.sl 1003 0 ng)] [(16, leOw (labs zss n).1)] (.tup [.one (.sl 16 0 n), .one (.val (I6 (labs zss n).2))]) [] := by
  have hlen : (irows zss).length = ng := by rw [irows_len]; exact hng
  have hR : FC Try.prog 108 [(14, ⟨false, 2, 1, .vals (ivals [-1])⟩)] [o1 (.sl 14 0 1), vv (I6 n)] [(16, ⟨true, 2, 1, .vals (ivals (List.replicate n (-1)))⟩)] (o1 (.sl 16 0 n)) [] := repeat1_fc 14 16 n (-1) (by omega) hpos
  refine fc_enter (nt := 75) Try.func72 rfl rfl (by simp) fun w0 ω0 => ?_
  (refine goes_seq ?_; refine goes_region ?_; apply run_step rfl; (exact stp_assign rfl rfl); apply run_step rfl; (exact stp_assign rfl rfl); refine run_nil ?_; refine fin_seq ?_; refine goes_seq ?_; refine goes_region ?_; apply run_step rfl; (exact stp_lit1I (E := 2) rfl (by as_aux_lemma => kernel_rfl) rfl); apply run_step rfl; (exact stp_move rfl rfl); apply run_step rfl; (apply call_gate 108; exact stp_callN hR (by as_aux_lemma => kernel_rfl) rfl rfl ⟨rfl, rfl, trivial⟩ ⟨⟨_, rfl, .inr rfl⟩, trivial⟩ rfl rfl rfl); apply run_step rfl; (exact stp_assign rfl rfl); refine run_nil ?_; refine fin_seq ?_; refine goes_seq ?_; refine goes_region ?_; apply run_step rfl; (exact stp_assign rfl rfl); refine run_nil ?_; refine fin_seq ?_; refine goes_seq ?_; refine goes_seq ?_; refine goes_region ?_; apply run_step rfl; (exact stp_move rfl rfl); apply run_step rfl; (exact stp_move rfl rfl); refine run_nil ?_; refine fin_seq ?_; refine goes_block ?_)
  refine goes_loop (fun q : Nat × LSt => St.of [(1, o1 (.sl 1003 0 ng)), (6, o1 (.sl 16 0 n)), (7, vv (I6 q.2.2)), (17, vv (I6 n)), (18, vv (I6 q.1))] [(1003, rowsRo zss), (16, leOw q.2.1)]) (fun q => q.1 ≤ n ∧ labTo zss n q.1 = q.2) (fun q => n - q.1) (0, labStart n) ⟨Nat.zero_le _, rfl⟩ (Wk.of ⟨rfl, rfl, rfl, rfl, rfl, trivial⟩ ⟨rfl, rfl, trivial⟩ trivial) ?_
  rintro ⟨i, L, k⟩ ⟨hi, hl⟩
  dsimp only at hi hl ⊢
  have hOK := labTo_okS hT hB i hi
  rw [hl] at hOK
  have hLl : L.length = n := hOK.len
  have hil : n ≤ (ivals L).length := by rw [ivals_len, hLl]; exact Nat.le_refl _
  have hnext := labTo_succ (T := zss) (n := n) i
  rw [hl] at hnext
  unfold labStep at hnext
  (refine goes_seq ?_; refine goes_region ?_; apply run_step rfl; (exact stp_bin rfl rfl rfl rfl); refine run_nil ?_; refine fin_seq ?_; refine goes_seq ?_)
  refine goes_if rfl (fun h => ?_) (fun h => ?_)
  · have hin : i < n := by omega
    have gi : (ivals L)[i]? = some (I6 (iget L i)) := ivals_get (by omega)
    have hkb : k ≤ n := by
      have hk : ∀ m, m ≤ n → (labTo zss n m).2 ≤ m := by
        intro m
        induction m with
        | zero => intro _; exact Nat.le_refl _
        | succ m ih =>
          intro hm
          have := ih (by omega)
          rw [labTo_succ]; unfold labStep; split
          · omega
          · show (labTo zss n m).2 + 1 ≤ m + 1; omega
      have := hk i hi
      rw [hl] at this
      have : k ≤ i := this
      omega
    (refine goes_skip ?_; refine fin_seq ?_; refine goes_seq ?_; refine goes_block ?_; refine goes_seq ?_; refine goes_region ?_; apply run_step rfl; (exact stp_move rfl rfl); apply run_step rfl; (exact stp_assign rfl rfl); refine run_nil ?_; refine fin_seq ?_; refine goes_seq ?_; refine goes_seq ?_; refine goes_region ?_; apply run_step rfl; (exact stp_move rfl rfl); apply run_step rfl; (exact stp_move rfl rfl); apply run_step rfl; (exact stp_ix (j := i) rfl rfl rfl rfl rfl (by as_aux_lemma => kernel_rfl) rfl hin hil); apply run_step rfl; (exact stp_loadV rfl (by as_aux_lemma => kernel_rfl) rfl rfl rfl (by first | assumption | exact ivals_get (by assumption) | exact irows_get (by assumption) | exact ivals_get (by omega) | exact irows_get (by omega) | rfl)); apply run_step rfl; (exact stp_bin rfl rfl rfl rfl); refine run_nil ?_; refine fin_seq ?_)
    refine goes_if rfl (fun h1 => ?_) (fun h1 => ?_)
    · have h1' : 0 ≤ iget L i := h1
      rw [if_pos h1'] at hnext
      (refine goes_exit ?_; refine fin_exit_then ?_; refine fin_exit_eq ?_; refine fin_seq ?_; refine goes_region ?_; apply run_step rfl; (exact stp_add rfl rfl rfl (by first | exact IntWalk.i64_in _ (by omega) | rfl)); apply run_step rfl; (exact stp_move rfl rfl); refine run_nil ?_)
      exact fin_round (i + 1, L, k) ⟨hin, hnext⟩ (by show n - (i + 1) < n - i; omega) (Wk.of ⟨rfl, rfl, rfl, rfl, rfl, trivial⟩ ⟨rfl, rfl, trivial⟩ trivial)
    · have h1' : ¬ 0 ≤ iget L i := h1
      rw [if_neg h1'] at hnext
      have hnew : ∀ d, d < n → rch zss n i d = true → iget L d = -1 := fun d hd hr => lab_newS hT hB hin hOK (by dsimp only; omega) hd hr
      (refine goes_skip ?_; refine fin_seq ?_; refine goes_seq ?_; refine goes_region ?_; apply run_step rfl; (exact stp_move rfl rfl); apply run_step rfl; (exact stp_move rfl rfl); apply run_step rfl; (exact stp_move rfl rfl); apply run_step rfl; (first | exact stp_ix (j := i) rfl rfl rfl rfl rfl (by as_aux_lemma => kernel_rfl) rfl hin hil | exact stp_stI rfl rfl rfl rfl rfl (by omega) (by as_aux_lemma => kernel_rfl)); apply run_step rfl; (first | exact stp_ix (j := i) rfl rfl rfl rfl rfl (by as_aux_lemma => kernel_rfl) rfl hin hil | exact stp_stI rfl rfl rfl rfl rfl (by omega) (by as_aux_lemma => kernel_rfl)); refine run_nil ?_; refine fin_seq ?_; refine goes_seq ?_; refine goes_seq ?_; refine goes_region ?_; apply run_step rfl; (exact stp_move rfl rfl); apply run_step rfl; (exact stp_lit1I (E := 2) rfl (by as_aux_lemma => kernel_rfl) rfl); apply run_step rfl; (exact stp_assign rfl rfl); refine run_nil ?_; refine fin_seq ?_; refine goes_block ?_)
      refine goes_loop (fun q : List Int × List Int => St.of [(1, o1 (.sl 1003 0 ng)), (6, o1 (.sl 16 0 n)), (7, vv (I6 k)), (9, o1 (.sl 31 0 q.2.length)), (17, vv (I6 n)), (18, vv (I6 i))] [(1003, rowsRo zss), (16, leOw q.1), (31, leOw q.2)])
        (fun q => DOK zss n i k L (fun _ => False) q.1 q.2 ∧ 2 * negc q.1 + q.2.length ≤ 2 * n + 1) (fun q => 2 * negc q.1 + q.2.length) (L.set i (k : Int), [(i : Int)]) ⟨dok_start hT hin hLl hnew, ?_⟩ (Wk.of ⟨rfl, rfl, rfl, rfl, rfl, rfl, trivial⟩ ⟨rfl, rfl, rfl, trivial⟩ trivial) ?_
      · have h2 : negc L ≤ L.length := List.length_filter_le _ _
        have h3 := negc_set L i (k : Int) (by omega) (by omega) (by omega)
        show 2 * negc (L.set i (k : Int)) + 1 ≤ 2 * n + 1
        omega
      rintro ⟨M, st⟩ ⟨hD, hmu⟩
      dsimp only at hD hmu ⊢
      have hMl : M.length = n := hD.len
      (refine goes_seq ?_; refine goes_seq ?_; refine goes_region ?_; apply run_step rfl; (exact stp_move rfl rfl); apply run_step rfl; (exact stp_len rfl rfl rfl (by as_aux_lemma => kernel_rfl)); apply run_step rfl; (exact stp_bin rfl rfl rfl rfl); refine run_nil ?_; refine fin_seq ?_)
      refine goes_if rfl (fun h2 => ?_) (fun h2 => ?_)
      · obtain ⟨m, hm⟩ : ∃ m, st.length = m + 1 := ⟨st.length - 1, by omega⟩
        obtain ⟨x, hx1, hx2, hx3, hx4⟩ := hD.st_ (iget st m) (iget_mem (by omega))
        have hP := dok_pop hD hm hx1
        have gm : (ivals st)[m]? = some (I6 (x : Int)) := by rw [ivals_get (by omega), hx1]
        have hm1 : ((st.length : Int) - 1) = ((m : Nat) : Int) := by omega
        have hsl : m + 1 ≤ (ivals st).length := by rw [ivals_len]; omega
        have htk : (st.take m).length = m := by rw [List.length_take]; omega
        rw [hm]
        rw [hm] at hm1
        (refine goes_skip ?_; refine fin_seq ?_; refine goes_block ?_; refine goes_seq ?_; refine goes_region ?_; apply run_step rfl; (exact stp_move rfl rfl); apply run_step rfl; (exact stp_move rfl rfl); apply run_step rfl; (exact stp_len rfl rfl rfl (by as_aux_lemma => kernel_rfl)); apply run_step rfl; (first | exact stp_sub rfl rfl rfl (IntWalk.i64_in _ (by omega)) | exact stp_ix (j := m) rfl rfl rfl rfl rfl (by as_aux_lemma => kernel_rfl) hm1 (by omega) hsl | exact stp_slice (k := 1) (l := 0) (h := m) rfl rfl rfl rfl (by as_aux_lemma => kernel_rfl) (by omega) bnd_none (bnd_some rfl hm1) (by omega) (by omega) (by rw [Nat.mul_one, Nat.zero_add]; exact hsl)); apply run_step rfl; (first | exact stp_sub rfl rfl rfl (IntWalk.i64_in _ (by omega)) | exact stp_ix (j := m) rfl rfl rfl rfl rfl (by as_aux_lemma => kernel_rfl) hm1 (by omega) hsl | exact stp_slice (k := 1) (l := 0) (h := m) rfl rfl rfl rfl (by as_aux_lemma => kernel_rfl) (by omega) bnd_none (bnd_some rfl hm1) (by omega) (by omega) (by rw [Nat.mul_one, Nat.zero_add]; exact hsl)); apply run_step rfl; (exact stp_loadV rfl (by as_aux_lemma => kernel_rfl) rfl rfl rfl (by first | assumption | exact ivals_get (by assumption) | exact irows_get (by assumption) | exact ivals_get (by omega) | exact irows_get (by omega) | rfl)); apply run_step rfl; (exact stp_assign rfl rfl); refine run_nil ?_; refine fin_seq ?_; refine goes_seq ?_; refine goes_region ?_; apply run_step rfl; (exact stp_move rfl rfl); apply run_step rfl; (exact stp_move rfl rfl); apply run_step rfl; (exact stp_len rfl rfl rfl (by as_aux_lemma => kernel_rfl)); apply run_step rfl; (first | exact stp_sub rfl rfl rfl (IntWalk.i64_in _ (by omega)) | exact stp_ix (j := m) rfl rfl rfl rfl rfl (by as_aux_lemma => kernel_rfl) hm1 (by omega) hsl | exact stp_slice (k := 1) (l := 0) (h := m) rfl rfl rfl rfl (by as_aux_lemma => kernel_rfl) (by omega) bnd_none (bnd_some rfl hm1) (by omega) (by omega) (by rw [Nat.mul_one, Nat.zero_add]; exact hsl)); apply run_step rfl; (first | exact stp_sub rfl rfl rfl (IntWalk.i64_in _ (by omega)) | exact stp_ix (j := m) rfl rfl rfl rfl rfl (by as_aux_lemma => kernel_rfl) hm1 (by omega) hsl | exact stp_slice (k := 1) (l := 0) (h := m) rfl rfl rfl rfl (by as_aux_lemma => kernel_rfl) (by omega) bnd_none (bnd_some rfl hm1) (by omega) (by omega) (by rw [Nat.mul_one, Nat.zero_add]; exact hsl)); apply run_step rfl; (exact stp_assign rfl rfl); refine run_nil ?_; refine fin_seq ?_; refine goes_seq ?_; refine goes_region ?_; apply run_step rfl; (exact stp_move rfl rfl); apply run_step rfl; (exact stp_len rfl rfl rfl (by as_aux_lemma => kernel_rfl)); apply run_step rfl; (exact stp_move rfl rfl); refine run_nil ?_; refine fin_seq ?_; refine goes_block ?_)
        have hsame : 2 * negc M + m + 1 = 2 * negc M + st.length := by omega
        refine goes_loop (fun q : Nat × List Int × List Int => St.of [(1, o1 (.sl 1003 0 ng)), (6, o1 (.sl 16 0 n)), (7, vv (I6 k)), (9, o1 (.sl 31 0 q.2.2.length)), (10, vv (I6 x)), (17, vv (I6 n)), (18, vv (I6 i)), (46, o1 (.sl 1003 0 ng)), (47, vv (I6 ng)), (48, vv (I6 q.1))] [(1003, rowsRo zss), (16, leOw q.2.1), (31, leOw q.2.2)])
          (fun q => q.1 ≤ ng ∧ DOK zss n i k L (fun d => d = x) q.2.1 q.2.2 ∧ (∀ g, g < q.1 → iget q.2.1 (bTo zss x g) = (k : Int)) ∧ 2 * negc q.2.1 + q.2.2.length ≤ 2 * negc M + m) (fun q => ng - q.1) (0, M, st.take m) ⟨Nat.zero_le _, hP, fun g hg => absurd hg (by omega), by dsimp only; omega⟩
          (Wk.trans (wk_cut (n := 31) (m := m) (vs := ivals st) rfl (by rw [ivals_len]; omega)) (Wk.of ⟨rfl, rfl, rfl, by rw [htk]; rfl, rfl, rfl, rfl, rfl, rfl, rfl, trivial⟩ ⟨rfl, rfl, congrArg (fun l => some (⟨true, 2, 1, .vals l⟩ : Ch)) (ivals_take st m), trivial⟩ trivial)) ?_
        rintro ⟨g, N, su⟩ ⟨hgl, hD2, hdone, hmu2⟩
        dsimp only at hgl hD2 hdone hmu2 ⊢
        have hNl : N.length = n := hD2.len
        have hsu : su.length ≤ 2 * n + 1 := by omega
        (refine goes_seq ?_; refine goes_region ?_; apply run_step rfl; (exact stp_bin rfl rfl rfl rfl); refine run_nil ?_; refine fin_seq ?_; refine goes_seq ?_)
        refine goes_if rfl (fun h3 => ?_) (fun h3 => ?_)
        · have hgn : g < ng := by omega
          have hgz : g < zss.length := by omega
          have hd := bTo_lt hT hx2 (g := g) hgz
          have hr := rch_on hT hin hx2 hx3 hgz
          obtain ⟨y, hy⟩ : ∃ y, bTo zss x g = y := ⟨_, rfl⟩
          rw [hy] at hd hr
          have hrowg : (irows zss)[g]? = some (ivals (lget zss g)) := irows_get hgz
          have hlg : (lget zss g).length = n := hT.len g hgz
          have gx : (ivals (lget zss g))[x]? = some (I6 (y : Int)) := by rw [ivals_get (by omega), hd.2]
          have gy : (ivals N)[y]? = some (I6 (iget N y)) := ivals_get (by omega)
          have hilg : (ivals (lget zss g)).length = n := by rw [ivals_len]; exact hlg
          have hNi : n ≤ (ivals N).length := by rw [ivals_len, hNl]; exact Nat.le_refl _
          have step : ∀ (N' : List Int), (∀ e, iget N e = (k : Int) → iget N' e = (k : Int)) → iget N' y = (k : Int) → ∀ g', g' < g + 1 → iget N' (bTo zss x g') = (k : Int) := fun N' hk hyk g' hg' => by
            by_cases e : g' = g
            · subst e; rw [hy]; exact hyk
            · exact hk _ (hdone g' (by omega))
          (refine goes_skip ?_; refine fin_seq ?_; refine goes_seq ?_; refine goes_block ?_; refine goes_seq ?_; refine goes_region ?_; apply run_step rfl; (first | exact stp_ix (j := g) rfl rfl rfl rfl rfl (by as_aux_lemma => kernel_rfl) rfl hgn (Nat.le_of_eq hlen.symm) | exact stp_loadR rfl (by as_aux_lemma => kernel_rfl) rfl rfl rfl hrowg hilg | exact stp_ixE (j := x) rfl rfl rfl rfl rfl (by as_aux_lemma => kernel_rfl) hrowg rfl hx2 (Nat.le_of_eq hilg.symm) | exact stp_loadE' rfl (by as_aux_lemma => kernel_rfl) rfl rfl rfl hrowg gx | exact stp_ix (j := y) rfl rfl rfl rfl rfl (by as_aux_lemma => kernel_rfl) rfl hd.1 hNi); apply run_step rfl; (first | exact stp_ix (j := g) rfl rfl rfl rfl rfl (by as_aux_lemma => kernel_rfl) rfl hgn (Nat.le_of_eq hlen.symm) | exact stp_loadR rfl (by as_aux_lemma => kernel_rfl) rfl rfl rfl hrowg hilg | exact stp_ixE (j := x) rfl rfl rfl rfl rfl (by as_aux_lemma => kernel_rfl) hrowg rfl hx2 (Nat.le_of_eq hilg.symm) | exact stp_loadE' rfl (by as_aux_lemma => kernel_rfl) rfl rfl rfl hrowg gx | exact stp_ix (j := y) rfl rfl rfl rfl rfl (by as_aux_lemma => kernel_rfl) rfl hd.1 hNi); apply run_step rfl; (exact stp_assign rfl rfl); refine run_nil ?_; refine fin_seq ?_; refine goes_seq ?_; refine goes_region ?_; apply run_step rfl; (exact stp_move rfl rfl); apply run_step rfl; (exact stp_move rfl rfl); apply run_step rfl; (first | exact stp_ix (j := g) rfl rfl rfl rfl rfl (by as_aux_lemma => kernel_rfl) rfl hgn (Nat.le_of_eq hlen.symm) | exact stp_loadR rfl (by as_aux_lemma => kernel_rfl) rfl rfl rfl hrowg hilg | exact stp_ixE (j := x) rfl rfl rfl rfl rfl (by as_aux_lemma => kernel_rfl) hrowg rfl hx2 (Nat.le_of_eq hilg.symm) | exact stp_loadE' rfl (by as_aux_lemma => kernel_rfl) rfl rfl rfl hrowg gx | exact stp_ix (j := y) rfl rfl rfl rfl rfl (by as_aux_lemma => kernel_rfl) rfl hd.1 hNi); apply run_step rfl; (first | exact stp_ix (j := g) rfl rfl rfl rfl rfl (by as_aux_lemma => kernel_rfl) rfl hgn (Nat.le_of_eq hlen.symm) | exact stp_loadR rfl (by as_aux_lemma => kernel_rfl) rfl rfl rfl hrowg hilg | exact stp_ixE (j := x) rfl rfl rfl rfl rfl (by as_aux_lemma => kernel_rfl) hrowg rfl hx2 (Nat.le_of_eq hilg.symm) | exact stp_loadE' rfl (by as_aux_lemma => kernel_rfl) rfl rfl rfl hrowg gx | exact stp_ix (j := y) rfl rfl rfl rfl rfl (by as_aux_lemma => kernel_rfl) rfl hd.1 hNi); apply run_step rfl; (exact stp_assign rfl rfl); refine run_nil ?_; refine fin_seq ?_; refine goes_seq ?_; refine goes_region ?_; apply run_step rfl; (exact stp_move rfl rfl); apply run_step rfl; (exact stp_move rfl rfl); apply run_step rfl; (first | exact stp_ix (j := g) rfl rfl rfl rfl rfl (by as_aux_lemma => kernel_rfl) rfl hgn (Nat.le_of_eq hlen.symm) | exact stp_loadR rfl (by as_aux_lemma => kernel_rfl) rfl rfl rfl hrowg hilg | exact stp_ixE (j := x) rfl rfl rfl rfl rfl (by as_aux_lemma => kernel_rfl) hrowg rfl hx2 (Nat.le_of_eq hilg.symm) | exact stp_loadE' rfl (by as_aux_lemma => kernel_rfl) rfl rfl rfl hrowg gx | exact stp_ix (j := y) rfl rfl rfl rfl rfl (by as_aux_lemma => kernel_rfl) rfl hd.1 hNi); apply run_step rfl; (exact stp_loadV rfl (by as_aux_lemma => kernel_rfl) rfl rfl rfl (by first | assumption | exact ivals_get (by assumption) | exact irows_get (by assumption) | exact ivals_get (by omega) | exact irows_get (by omega) | rfl)); apply run_step rfl; (exact stp_bin rfl rfl rfl rfl); refine run_nil ?_; refine fin_seq ?_)
          refine goes_if rfl (fun h4 => ?_) (fun h4 => ?_)
          · have h4' : iget N y < 0 := h4
            have hN' := negc_set N y (k : Int) (by omega) h4' (by omega)
            have hkeep : ∀ e, iget N e = (k : Int) → iget (N.set y (k : Int)) e = (k : Int) := fun e he => by
              rw [iget_setD]
              split
              · rfl
              · exact he
            have hyN : iget (N.set y (k : Int)) y = (k : Int) := by rw [iget_setD, if_pos ⟨rfl, by omega⟩]
            (refine goes_seq ?_; refine goes_region ?_; apply run_step rfl; (exact stp_move rfl rfl); apply run_step rfl; (exact stp_move rfl rfl); apply run_step rfl; (exact stp_move rfl rfl); apply run_step rfl; (first | exact stp_ix (j := y) rfl rfl rfl rfl rfl (by as_aux_lemma => kernel_rfl) rfl hd.1 hNi | exact stp_stI rfl rfl rfl rfl rfl (by omega) (by as_aux_lemma => kernel_rfl)); apply run_step rfl; (first | exact stp_ix (j := y) rfl rfl rfl rfl rfl (by as_aux_lemma => kernel_rfl) rfl hd.1 hNi | exact stp_stI rfl rfl rfl rfl rfl (by omega) (by as_aux_lemma => kernel_rfl)); refine run_nil ?_; refine fin_seq ?_; refine goes_region ?_; apply run_step rfl; (exact stp_move rfl rfl); apply run_step rfl; (exact stp_move rfl rfl); apply run_step rfl; (exact stp_lit1I (E := 2) rfl (by as_aux_lemma => kernel_rfl) rfl); apply run_step rfl; (exact stp_appI rfl (by as_aux_lemma => kernel_rfl) rfl rfl rfl (by first | rfl | assumption | (simp; done)) rfl rfl (by omega)); apply run_step rfl; (exact stp_assign rfl rfl); refine run_nil ?_; refine fin_block ?_; refine fin_seq ?_; refine goes_region ?_; apply run_step rfl; (exact stp_add rfl rfl rfl (by first | exact IntWalk.i64_in _ (by omega) | rfl)); apply run_step rfl; (exact stp_move rfl rfl); refine run_nil ?_)
            exact fin_round (g + 1, N.set y (k : Int), su ++ [(y : Int)]) ⟨hgn, dok_step hD2 hd.1 hr h4', step _ hkeep hyN, by simp only [List.length_append, List.length_singleton]; omega⟩ (by show ng - (g + 1) < ng - g; omega) (Wk.of ⟨rfl, rfl, rfl, congrArg (fun x => some (o1 (.sl 31 0 x))) (by simp), rfl, rfl, rfl, rfl, rfl, rfl, trivial⟩ ⟨rfl, rfl, rfl, trivial⟩ trivial)
          · have h4' : ¬ iget N y < 0 := h4
            have hyk : iget N y = (k : Int) := by
              rcases hD2.eq y hd.1 with h5 | h5
              · rw [hnew y hd.1 hr] at h5; omega
              · exact h5.1
            (refine goes_skip ?_; refine fin_block ?_; refine fin_seq ?_; refine goes_region ?_; apply run_step rfl; (exact stp_add rfl rfl rfl (by first | exact IntWalk.i64_in _ (by omega) | rfl)); apply run_step rfl; (exact stp_move rfl rfl); refine run_nil ?_)
            exact fin_round (g + 1, N, su) ⟨hgn, hD2, step N (fun _ h => h) hyk, hmu2⟩ (by show ng - (g + 1) < ng - g; omega) (Wk.of ⟨rfl, rfl, rfl, rfl, rfl, rfl, rfl, rfl, rfl, rfl, trivial⟩ ⟨rfl, rfl, rfl, trivial⟩ trivial)
        · obtain rfl : g = ng := by omega
          (refine goes_exit ?_; refine fin_exit_then ?_; refine fin_exit_then ?_; refine fin_exit_eq ?_; refine fin_block ?_)
          exact fin_round (N, su) ⟨dok_end hD2 (fun g' hg' => hdone g' (by omega)), by dsimp only; omega⟩ (by show 2 * negc N + su.length < 2 * negc M + st.length; omega) (Wk.of ⟨rfl, rfl, rfl, rfl, rfl, rfl, trivial⟩ ⟨rfl, rfl, rfl, trivial⟩ trivial)
      · obtain rfl : st = [] := List.length_eq_zero_iff.1 (by omega)
        have hM := dok_done hT hin hD
        have hk1 : (((labSet zss n i (L, k)).2 : Nat) : Int) = (k : Int) + 1 := by show ((k + 1 : Nat) : Int) = _; omega
        (refine goes_exit ?_; refine fin_exit_then ?_; refine fin_exit_then ?_; refine fin_exit_eq ?_; refine fin_seq ?_; refine goes_region ?_; apply run_step rfl; (exact stp_move rfl rfl); apply run_step rfl; (exact stp_add rfl rfl rfl (by first | exact IntWalk.i64_in _ (by omega) | rfl)); apply run_step rfl; (exact stp_assign rfl rfl); refine run_nil ?_; refine fin_block ?_; refine fin_seq ?_; refine goes_region ?_; apply run_step rfl; (exact stp_add rfl rfl rfl (by first | exact IntWalk.i64_in _ (by omega) | rfl)); apply run_step rfl; (exact stp_move rfl rfl); refine run_nil ?_)
        exact fin_round (i + 1, labSet zss n i (L, k)) ⟨hin, hnext⟩ (by show n - (i + 1) < n - i; omega) (Wk.of ⟨rfl, rfl, congrArg (fun z => some (vv (I6 z))) hk1.symm, rfl, rfl, trivial⟩ ⟨rfl, congrArg (fun l => some (leOw l)) hM, trivial⟩ trivial)
  · obtain rfl : i = n := by omega
    have hfin : labs zss i = (L, k) := hl
    rw [hfin]
    (refine goes_exit ?_; refine fin_exit_then ?_; refine fin_exit_then ?_; refine fin_exit_eq ?_; refine fin_seq ?_; refine goes_seq ?_; refine goes_region ?_; apply run_step rfl; (exact stp_move rfl rfl); apply run_step rfl; (exact stp_move rfl rfl); apply run_step rfl; (exact stp_assign rfl rfl); apply run_step rfl; (exact stp_assign rfl rfl); refine run_nil ?_; refine fin_seq ?_; refine goes_ret ?_)
    exact fin_ret2 (.inl rfl) rfl (.tmp rfl) (.tmp rfl) ⟨rfl, trivial⟩ trivial
theorem orbI_fc (zss : List (List Int)) (n ng : Nat) (hng : zss.length = ng) (hT : Leads zss n) (hB : Back2 zss n) (hpos : 0 < n) (hn : n ≤ 1000000) (hg : ng ≤ 1000000) :
    FC Try.prog 72 [(1003, rowsRo zss)] [vv (I6 n), o1 (.sl 1003 0 ng)] [(16, leOw (labs zss n).1)] (.tup [.one (.sl 16 0 n), .one (.val (I6 (labs zss n).2))]) [] := orbI_fcS zss n ng hng hT (hB.sym hT) hpos hn hg
end Go.Proofs.Ytmdhljleaijkbaa

/- The program's within, in names. -/
namespace Go.Proofs.Ytmdhljleaijkbaa
open Go.RowKit

theorem us_three {us : List Value} {u0 u1 u2 : Value} (hl : us.length = 3) (g0 : us[0]? = some u0) (g1 : us[1]? = some u1) (g2 : us[2]? = some u2) : us = [u0, u1, u2] := by
  match us, hl with
  | [p, q, r], _ => simp at g0 g1 g2; rw [g0, g1, g2]
theorem within_fc (a b c : Int) : FC Try.prog 35 [] [vv (I6 a), vv (I6 b), vv (I6 c)] [] (vv (.bool (inB a b c))) [] :=
  fc_of_calls fun w η ω us hm ⟨hl, ha⟩ => by
    obtain ⟨u0, g0, d0⟩ := ha 0 _ rfl
    obtain ⟨u1, g1, d1⟩ := ha 1 _ rfl
    obtain ⟨u2, g2, d2⟩ := ha 2 _ rfl
    have d0 : u0 = I6 a := d0
    have d1 : u1 = I6 b := d1
    have d2 : u2 = I6 c := d2
    subst d0 d1 d2
    rw [us_three hl g0 g1 g2]
    refine (within_any a b c w).mono ?_
    rintro e w' ⟨rfl, rfl⟩
    exact ⟨rfl, Below.refl _ _⟩
end Go.Proofs.Ytmdhljleaijkbaa

/- What a maniplex is, the program's: isManiplex. guards: -/
namespace Go.Proofs.Ytmdhljleaijkbaa
open Go.RowKit

abbrev mxV (R : Nat) : Ch := ⟨false, 28, 1, .flat [.sl 1003 0 R]⟩
theorem rank_fc (R : Nat) : FC Try.prog 69 [(1, mxV R)] [o1 (.ptr 1 0)] [] (vv (I6 R)) [] := by
  have hS := sizeR_fc 1003 R
  refine fc_enter (nt := 8) Try.func69 rfl rfl (by simp) fun w0 ω0 => ?_
  (refine goes_seq ?_; refine goes_region ?_; apply run_step rfl; (exact stp_assign rfl rfl); refine run_nil ?_; refine fin_seq ?_; refine goes_seq ?_; refine goes_region ?_; apply run_step rfl; (exact stp_move rfl rfl); apply run_step rfl; (exact stp_nilCheck rfl rfl rfl); apply run_step rfl; (exact stp_fieldAddr (d := 0) rfl rfl rfl (by as_aux_lemma => kernel_rfl)); apply run_step rfl; (exact stp_loadF rfl (by as_aux_lemma => kernel_rfl) rfl rfl rfl rfl); apply run_step rfl; (apply call_gate 53; exact stp_callR hS (by as_aux_lemma => kernel_rfl) rfl rfl ⟨rfl, trivial⟩ trivial rfl rfl); apply run_step rfl; (exact stp_assign rfl rfl); refine run_nil ?_; refine fin_seq ?_; refine goes_ret ?_)
  exact fin_ret1 (.inl rfl) rfl (.tmp rfl) trivial trivial
set_option maxRecDepth 100000 in
theorem flags_fc1 (zss : List (List Int)) (n : Nat) (hpos : 0 < zss.length) (hn : (lget zss 0).length = n) : FC Try.prog 58 [(1, mxV zss.length), (1003, rowsRo zss)] [o1 (.ptr 1 0)] [] (vv (I6 n)) [] := by
  have hlen : (irows zss).length = zss.length := irows_len _
  have hrow0 : (irows zss)[0]? = some (ivals (lget zss 0)) := irows_get hpos
  have hil : (ivals (lget zss 0)).length = n := by rw [ivals_len]; exact hn
  have hSz := sizeE_fc 1003 0 n
  refine fc_enter (nt := 10) Try.func58 rfl rfl (by simp) fun w0 ω0 => ?_
  (refine goes_seq ?_; refine goes_region ?_; apply run_step rfl; (exact stp_assign rfl rfl); refine run_nil ?_; refine fin_seq ?_; refine goes_seq ?_; refine goes_region ?_; apply run_step rfl; (exact stp_move rfl rfl); apply run_step rfl; (exact stp_nilCheck rfl rfl rfl); apply run_step rfl; (exact stp_fieldAddr (d := 0) rfl rfl rfl (by as_aux_lemma => kernel_rfl)); apply run_step rfl; (exact stp_loadF rfl (by as_aux_lemma => kernel_rfl) rfl rfl rfl rfl); apply run_step rfl; (first | exact stp_ix (j := 0) rfl rfl rfl rfl rfl (by as_aux_lemma => kernel_rfl) rfl hpos (Nat.le_of_eq hlen.symm) | exact stp_loadR rfl (by as_aux_lemma => kernel_rfl) rfl rfl rfl hrow0 hil | (apply call_gate 71; exact stp_callR hSz (by as_aux_lemma => kernel_rfl) rfl rfl ⟨rfl, trivial⟩ trivial rfl rfl)); apply run_step rfl; (first | exact stp_ix (j := 0) rfl rfl rfl rfl rfl (by as_aux_lemma => kernel_rfl) rfl hpos (Nat.le_of_eq hlen.symm) | exact stp_loadR rfl (by as_aux_lemma => kernel_rfl) rfl rfl rfl hrow0 hil | (apply call_gate 71; exact stp_callR hSz (by as_aux_lemma => kernel_rfl) rfl rfl ⟨rfl, trivial⟩ trivial rfl rfl)); apply run_step rfl; (first | exact stp_ix (j := 0) rfl rfl rfl rfl rfl (by as_aux_lemma => kernel_rfl) rfl hpos (Nat.le_of_eq hlen.symm) | exact stp_loadR rfl (by as_aux_lemma => kernel_rfl) rfl rfl rfl hrow0 hil | (apply call_gate 71; exact stp_callR hSz (by as_aux_lemma => kernel_rfl) rfl rfl ⟨rfl, trivial⟩ trivial rfl rfl)); apply run_step rfl; (exact stp_assign rfl rfl); refine run_nil ?_; refine fin_seq ?_; refine goes_ret ?_)
  exact fin_ret1 (.inl rfl) rfl (.tmp rfl) trivial trivial

set_option maxRecDepth 100000 in
set_option maxHeartbeats 4000000 in
theorem manI_fc (zss : List (List Int)) (hR : zss.length ≤ 1048576) (hl : ∀ i, i < zss.length → (lget zss i).length ≤ 1048576) :
    FC Try.prog 39 [(1003, rowsRo zss)] [mA zss.length] [] (vv (.bool (manB zss))) [] := by
  have hRk := rank_fc zss.length
  have hW1 := within_fc (zss.length : Int) 1 5
  refine fc_enter (nt := 101) Try.func39 rfl rfl (by simp) fun w0 ω0 => ?_
  have hlen : (irows zss).length = zss.length := irows_len _
  cases c1 : inB (zss.length : Int) 1 5 with
  | false =>
    rw [manB_no (fun h => by have h1 := h.n1; have h2 := h.n5; rw [inB_true.2 ⟨by omega, by omega⟩] at c1; cases c1)]
    rw [c1] at hW1
    (refine goes_seq ?_; refine goes_region ?_; apply run_step rfl; (exact stp_box rfl rfl rfl rfl); apply run_step rfl; (exact stp_assign rfl rfl); refine run_nil ?_; refine fin_seq ?_; refine goes_seq ?_; refine goes_seq ?_; refine goes_region ?_; apply run_step rfl; (first | (apply call_gate 69; exact stp_callR hRk (by as_aux_lemma => kernel_rfl) rfl rfl ⟨rfl, trivial⟩ ⟨⟨_, rfl, .inr rfl⟩, trivial⟩ rfl rfl) | (apply call_gate 35; exact stp_callR hW1 (by as_aux_lemma => kernel_rfl) rfl rfl ⟨rfl, rfl, rfl, trivial⟩ trivial rfl rfl)); apply run_step rfl; (first | (apply call_gate 69; exact stp_callR hRk (by as_aux_lemma => kernel_rfl) rfl rfl ⟨rfl, trivial⟩ ⟨⟨_, rfl, .inr rfl⟩, trivial⟩ rfl rfl) | (apply call_gate 35; exact stp_callR hW1 (by as_aux_lemma => kernel_rfl) rfl rfl ⟨rfl, rfl, rfl, trivial⟩ trivial rfl rfl)); apply run_step rfl; (exact stp_not rfl rfl); apply run_step rfl; (exact stp_move rfl rfl); apply run_gNo rfl rfl rfl rfl rfl; apply run_gNo rfl rfl rfl rfl rfl; apply run_gNo rfl rfl rfl rfl rfl; apply run_step rfl; (exact stp_pickT rfl rfl rfl); refine run_nil ?_; refine fin_seq ?_)
    refine goes_cond rfl (fun _ => ?_) (fun e => by cases e)
    (refine goes_seq ?_; refine goes_region ?_; apply run_step rfl; (exact stp_assign rfl rfl); refine run_nil ?_; refine fin_seq ?_; refine goes_ret ?_; refine fin_ret_then ?_)
    exact fin_ret1 (.inl rfl) rfl (.tmp rfl) trivial trivial
  | true =>
  rw [c1] at hW1
  have c1 := inB_true.1 c1
  have hpos : 0 < zss.length := by omega
  have hrow0 : (irows zss)[0]? = some (ivals (lget zss 0)) := irows_get hpos
  obtain ⟨n, hn⟩ : ∃ n, (lget zss 0).length = n := ⟨_, rfl⟩
  have hil : (ivals (lget zss 0)).length = n := by rw [ivals_len]; exact hn
  have hG := flags_fc1 zss n hpos hn
  have hW2 := within_fc (n : Int) 2 400
  cases c2 : inB (n : Int) 2 400 with
  | false =>
    rw [manB_no (fun h => by have h1 := h.f2; have h2 := h.f4; rw [inB_true.2 ⟨by omega, by omega⟩] at c2; cases c2)]
    rw [c2] at hW2
    (refine goes_seq ?_; refine goes_region ?_; apply run_step rfl; (exact stp_box rfl rfl rfl rfl); apply run_step rfl; (exact stp_assign rfl rfl); refine run_nil ?_; refine fin_seq ?_; refine goes_seq ?_; refine goes_seq ?_; refine goes_region ?_; apply run_step rfl; (first | (apply call_gate 69; exact stp_callR hRk (by as_aux_lemma => kernel_rfl) rfl rfl ⟨rfl, trivial⟩ ⟨⟨_, rfl, .inr rfl⟩, trivial⟩ rfl rfl) | (apply call_gate 35; exact stp_callR hW1 (by as_aux_lemma => kernel_rfl) rfl rfl ⟨rfl, rfl, rfl, trivial⟩ trivial rfl rfl) | (apply call_gate 35; exact stp_callR hW2 (by as_aux_lemma => kernel_rfl) rfl rfl ⟨rfl, rfl, rfl, trivial⟩ trivial rfl rfl) | (apply call_gate 58; exact stp_callR hG (by as_aux_lemma => kernel_rfl) rfl rfl ⟨rfl, trivial⟩ ⟨⟨_, rfl, .inr rfl⟩, ⟨_, rfl, .inl rfl⟩, trivial⟩ rfl rfl)); apply run_step rfl; (first | (apply call_gate 69; exact stp_callR hRk (by as_aux_lemma => kernel_rfl) rfl rfl ⟨rfl, trivial⟩ ⟨⟨_, rfl, .inr rfl⟩, trivial⟩ rfl rfl) | (apply call_gate 35; exact stp_callR hW1 (by as_aux_lemma => kernel_rfl) rfl rfl ⟨rfl, rfl, rfl, trivial⟩ trivial rfl rfl) | (apply call_gate 35; exact stp_callR hW2 (by as_aux_lemma => kernel_rfl) rfl rfl ⟨rfl, rfl, rfl, trivial⟩ trivial rfl rfl) | (apply call_gate 58; exact stp_callR hG (by as_aux_lemma => kernel_rfl) rfl rfl ⟨rfl, trivial⟩ ⟨⟨_, rfl, .inr rfl⟩, ⟨_, rfl, .inl rfl⟩, trivial⟩ rfl rfl)); apply run_step rfl; (exact stp_not rfl rfl); apply run_step rfl; (exact stp_move rfl rfl); apply run_gYes rfl rfl rfl; (first | (apply call_gate 69; exact stp_callR hRk (by as_aux_lemma => kernel_rfl) rfl rfl ⟨rfl, trivial⟩ ⟨⟨_, rfl, .inr rfl⟩, trivial⟩ rfl rfl) | (apply call_gate 35; exact stp_callR hW1 (by as_aux_lemma => kernel_rfl) rfl rfl ⟨rfl, rfl, rfl, trivial⟩ trivial rfl rfl) | (apply call_gate 35; exact stp_callR hW2 (by as_aux_lemma => kernel_rfl) rfl rfl ⟨rfl, rfl, rfl, trivial⟩ trivial rfl rfl) | (apply call_gate 58; exact stp_callR hG (by as_aux_lemma => kernel_rfl) rfl rfl ⟨rfl, trivial⟩ ⟨⟨_, rfl, .inr rfl⟩, ⟨_, rfl, .inl rfl⟩, trivial⟩ rfl rfl)); apply run_gYes rfl rfl rfl; (first | (apply call_gate 69; exact stp_callR hRk (by as_aux_lemma => kernel_rfl) rfl rfl ⟨rfl, trivial⟩ ⟨⟨_, rfl, .inr rfl⟩, trivial⟩ rfl rfl) | (apply call_gate 35; exact stp_callR hW1 (by as_aux_lemma => kernel_rfl) rfl rfl ⟨rfl, rfl, rfl, trivial⟩ trivial rfl rfl) | (apply call_gate 35; exact stp_callR hW2 (by as_aux_lemma => kernel_rfl) rfl rfl ⟨rfl, rfl, rfl, trivial⟩ trivial rfl rfl) | (apply call_gate 58; exact stp_callR hG (by as_aux_lemma => kernel_rfl) rfl rfl ⟨rfl, trivial⟩ ⟨⟨_, rfl, .inr rfl⟩, ⟨_, rfl, .inl rfl⟩, trivial⟩ rfl rfl)); apply run_gYes rfl rfl rfl; (exact stp_not rfl rfl); apply run_step rfl; (exact stp_pickF rfl rfl rfl); refine run_nil ?_; refine fin_seq ?_)
    refine goes_cond rfl (fun _ => ?_) (fun e => by cases e)
    (refine goes_seq ?_; refine goes_region ?_; apply run_step rfl; (exact stp_assign rfl rfl); refine run_nil ?_; refine fin_seq ?_; refine goes_ret ?_; refine fin_ret_then ?_)
    exact fin_ret1 (.inl rfl) rfl (.tmp rfl) trivial trivial
  | true =>
  rw [c2] at hW2
  have c2 := inB_true.1 c2
  (refine goes_seq ?_; refine goes_region ?_; apply run_step rfl; (exact stp_box rfl rfl rfl rfl); apply run_step rfl; (exact stp_assign rfl rfl); refine run_nil ?_; refine fin_seq ?_; refine goes_seq ?_; refine goes_seq ?_; refine goes_region ?_; apply run_step rfl; (first | (apply call_gate 69; exact stp_callR hRk (by as_aux_lemma => kernel_rfl) rfl rfl ⟨rfl, trivial⟩ ⟨⟨_, rfl, .inr rfl⟩, trivial⟩ rfl rfl) | (apply call_gate 35; exact stp_callR hW1 (by as_aux_lemma => kernel_rfl) rfl rfl ⟨rfl, rfl, rfl, trivial⟩ trivial rfl rfl) | (apply call_gate 35; exact stp_callR hW2 (by as_aux_lemma => kernel_rfl) rfl rfl ⟨rfl, rfl, rfl, trivial⟩ trivial rfl rfl) | (apply call_gate 58; exact stp_callR hG (by as_aux_lemma => kernel_rfl) rfl rfl ⟨rfl, trivial⟩ ⟨⟨_, rfl, .inr rfl⟩, ⟨_, rfl, .inl rfl⟩, trivial⟩ rfl rfl)); apply run_step rfl; (first | (apply call_gate 69; exact stp_callR hRk (by as_aux_lemma => kernel_rfl) rfl rfl ⟨rfl, trivial⟩ ⟨⟨_, rfl, .inr rfl⟩, trivial⟩ rfl rfl) | (apply call_gate 35; exact stp_callR hW1 (by as_aux_lemma => kernel_rfl) rfl rfl ⟨rfl, rfl, rfl, trivial⟩ trivial rfl rfl) | (apply call_gate 35; exact stp_callR hW2 (by as_aux_lemma => kernel_rfl) rfl rfl ⟨rfl, rfl, rfl, trivial⟩ trivial rfl rfl) | (apply call_gate 58; exact stp_callR hG (by as_aux_lemma => kernel_rfl) rfl rfl ⟨rfl, trivial⟩ ⟨⟨_, rfl, .inr rfl⟩, ⟨_, rfl, .inl rfl⟩, trivial⟩ rfl rfl)); apply run_step rfl; (exact stp_not rfl rfl); apply run_step rfl; (exact stp_move rfl rfl); apply run_gYes rfl rfl rfl; (first | (apply call_gate 69; exact stp_callR hRk (by as_aux_lemma => kernel_rfl) rfl rfl ⟨rfl, trivial⟩ ⟨⟨_, rfl, .inr rfl⟩, trivial⟩ rfl rfl) | (apply call_gate 35; exact stp_callR hW1 (by as_aux_lemma => kernel_rfl) rfl rfl ⟨rfl, rfl, rfl, trivial⟩ trivial rfl rfl) | (apply call_gate 35; exact stp_callR hW2 (by as_aux_lemma => kernel_rfl) rfl rfl ⟨rfl, rfl, rfl, trivial⟩ trivial rfl rfl) | (apply call_gate 58; exact stp_callR hG (by as_aux_lemma => kernel_rfl) rfl rfl ⟨rfl, trivial⟩ ⟨⟨_, rfl, .inr rfl⟩, ⟨_, rfl, .inl rfl⟩, trivial⟩ rfl rfl)); apply run_gYes rfl rfl rfl; (first | (apply call_gate 69; exact stp_callR hRk (by as_aux_lemma => kernel_rfl) rfl rfl ⟨rfl, trivial⟩ ⟨⟨_, rfl, .inr rfl⟩, trivial⟩ rfl rfl) | (apply call_gate 35; exact stp_callR hW1 (by as_aux_lemma => kernel_rfl) rfl rfl ⟨rfl, rfl, rfl, trivial⟩ trivial rfl rfl) | (apply call_gate 35; exact stp_callR hW2 (by as_aux_lemma => kernel_rfl) rfl rfl ⟨rfl, rfl, rfl, trivial⟩ trivial rfl rfl) | (apply call_gate 58; exact stp_callR hG (by as_aux_lemma => kernel_rfl) rfl rfl ⟨rfl, trivial⟩ ⟨⟨_, rfl, .inr rfl⟩, ⟨_, rfl, .inl rfl⟩, trivial⟩ rfl rfl)); apply run_gYes rfl rfl rfl; (exact stp_not rfl rfl); apply run_step rfl; (exact stp_pickF rfl rfl rfl); refine run_nil ?_; refine fin_seq ?_)
  refine goes_cond rfl (fun e => by cases e) (fun _ => ?_)
  (refine goes_skip ?_; refine fin_seq ?_; refine goes_seq ?_; refine goes_seq ?_; refine goes_region ?_; apply run_step rfl; (exact stp_fieldAddr (d := 0) rfl rfl rfl (by as_aux_lemma => kernel_rfl)); apply run_step rfl; (exact stp_loadF rfl (by as_aux_lemma => kernel_rfl) rfl rfl rfl rfl); apply run_step rfl; (exact stp_len rfl rfl rfl (by as_aux_lemma => kernel_rfl)); apply run_step rfl; (exact stp_move rfl rfl); refine run_nil ?_; refine fin_seq ?_; refine goes_block ?_)
  refine goes_loop (fun i : Nat => St.of [(1, o1 (.ptr 1 0)), (21, o1 (.sl 1003 0 zss.length)), (22, vv (I6 zss.length)), (23, vv (I6 i))] [(1003, rowsRo zss), (1, mxB zss.length)]) (fun i => i ≤ zss.length ∧ Rows zss n i) (fun i => zss.length - i) 0 ⟨Nat.zero_le _, fun j hj => absurd hj (by omega)⟩ (Wk.of ⟨rfl, rfl, rfl, rfl, trivial⟩ ⟨rfl, rfl, trivial⟩ trivial) ?_
  rintro i ⟨hi, hrows⟩
  (refine goes_seq ?_; refine goes_region ?_; apply run_step rfl; (exact stp_bin rfl rfl rfl rfl); refine run_nil ?_; refine fin_seq ?_; refine goes_seq ?_)
  refine goes_if rfl (fun hlt => ?_) (fun hlt => ?_)
  · have hiz : i < zss.length := by omega
    have hrowi : (irows zss)[i]? = some (ivals (lget zss i)) := irows_get hiz
    have hP := freeI_fc zss i hiz (hl i hiz)
    obtain ⟨m, hm⟩ : ∃ m, (lget zss i).length = m := ⟨_, rfl⟩
    have hilm : (ivals (lget zss i)).length = m := by rw [ivals_len]; exact hm
    rw [hm] at hP
    have hSz := sizeE_fc 1003 i m
    cases hf : freeInv (lget zss i) with
    | false =>
      rw [hf] at hP
      (refine goes_skip ?_; refine fin_seq ?_; refine goes_seq ?_; refine goes_block ?_; refine goes_seq ?_; refine goes_region ?_; apply run_step rfl; (first | exact stp_ix (j := i) rfl rfl rfl rfl rfl (by as_aux_lemma => kernel_rfl) rfl hiz (Nat.le_of_eq hlen.symm) | exact stp_loadR rfl (by as_aux_lemma => kernel_rfl) rfl rfl rfl hrowi hilm | (apply call_gate 70; exact stp_callR hP (by as_aux_lemma => kernel_rfl) rfl rfl ⟨rfl, trivial⟩ ⟨⟨_, rfl, .inl rfl⟩, trivial⟩ rfl rfl)); apply run_step rfl; (first | exact stp_ix (j := i) rfl rfl rfl rfl rfl (by as_aux_lemma => kernel_rfl) rfl hiz (Nat.le_of_eq hlen.symm) | exact stp_loadR rfl (by as_aux_lemma => kernel_rfl) rfl rfl rfl hrowi hilm | (apply call_gate 70; exact stp_callR hP (by as_aux_lemma => kernel_rfl) rfl rfl ⟨rfl, trivial⟩ ⟨⟨_, rfl, .inl rfl⟩, trivial⟩ rfl rfl)); apply run_step rfl; (exact stp_assign rfl rfl); refine run_nil ?_; refine fin_seq ?_; refine goes_seq ?_; refine goes_region ?_; apply run_step rfl; (exact stp_move rfl rfl); apply run_step rfl; (first | exact stp_ix (j := i) rfl rfl rfl rfl rfl (by as_aux_lemma => kernel_rfl) rfl hiz (Nat.le_of_eq hlen.symm) | exact stp_loadR rfl (by as_aux_lemma => kernel_rfl) rfl rfl rfl hrowi hilm | (apply call_gate 70; exact stp_callR hP (by as_aux_lemma => kernel_rfl) rfl rfl ⟨rfl, trivial⟩ ⟨⟨_, rfl, .inl rfl⟩, trivial⟩ rfl rfl)); apply run_step rfl; (exact stp_not rfl rfl); apply run_step rfl; (exact stp_move rfl rfl); apply run_gNo rfl rfl rfl rfl rfl; apply run_gNo rfl rfl rfl rfl rfl; apply run_gNo rfl rfl rfl rfl rfl; apply run_gNo rfl rfl rfl rfl rfl; apply run_step rfl; (exact stp_pickT rfl rfl rfl); refine run_nil ?_; refine fin_seq ?_)
      refine goes_cond rfl (fun _ => ?_) (fun e => by cases e)
      rw [manB_no (fun h => by have h1 := h.perm i hiz; have h2 := h.free i hiz; unfold freeInv at hf; rw [h1, h2] at hf; cases hf)]
      (refine goes_seq ?_; refine goes_region ?_; apply run_step rfl; (exact stp_assign rfl rfl); refine run_nil ?_; refine fin_seq ?_; refine goes_ret ?_; refine fin_ret_block ?_; refine fin_ret_then ?_; refine fin_ret_then ?_; refine fin_ret_block ?_; refine fin_ret_then ?_)
      exact fin_ret1 (.inl rfl) rfl (.tmp rfl) trivial trivial
    | true =>
      rw [hf] at hP
      unfold freeInv at hf
      rw [Bool.and_eq_true] at hf
      (refine goes_skip ?_; refine fin_seq ?_; refine goes_seq ?_; refine goes_block ?_; refine goes_seq ?_; refine goes_region ?_; apply run_step rfl; (first | exact stp_ix (j := i) rfl rfl rfl rfl rfl (by as_aux_lemma => kernel_rfl) rfl hiz (Nat.le_of_eq hlen.symm) | exact stp_loadR rfl (by as_aux_lemma => kernel_rfl) rfl rfl rfl hrowi hilm | (apply call_gate 70; exact stp_callR hP (by as_aux_lemma => kernel_rfl) rfl rfl ⟨rfl, trivial⟩ ⟨⟨_, rfl, .inl rfl⟩, trivial⟩ rfl rfl) | (apply call_gate 71; exact stp_callR hSz (by as_aux_lemma => kernel_rfl) rfl rfl ⟨rfl, trivial⟩ trivial rfl rfl) | (apply call_gate 58; exact stp_callR hG (by as_aux_lemma => kernel_rfl) rfl rfl ⟨rfl, trivial⟩ ⟨⟨_, rfl, .inr rfl⟩, ⟨_, rfl, .inl rfl⟩, trivial⟩ rfl rfl)); apply run_step rfl; (first | exact stp_ix (j := i) rfl rfl rfl rfl rfl (by as_aux_lemma => kernel_rfl) rfl hiz (Nat.le_of_eq hlen.symm) | exact stp_loadR rfl (by as_aux_lemma => kernel_rfl) rfl rfl rfl hrowi hilm | (apply call_gate 70; exact stp_callR hP (by as_aux_lemma => kernel_rfl) rfl rfl ⟨rfl, trivial⟩ ⟨⟨_, rfl, .inl rfl⟩, trivial⟩ rfl rfl) | (apply call_gate 71; exact stp_callR hSz (by as_aux_lemma => kernel_rfl) rfl rfl ⟨rfl, trivial⟩ trivial rfl rfl) | (apply call_gate 58; exact stp_callR hG (by as_aux_lemma => kernel_rfl) rfl rfl ⟨rfl, trivial⟩ ⟨⟨_, rfl, .inr rfl⟩, ⟨_, rfl, .inl rfl⟩, trivial⟩ rfl rfl)); apply run_step rfl; (exact stp_assign rfl rfl); refine run_nil ?_; refine fin_seq ?_; refine goes_seq ?_; refine goes_region ?_; apply run_step rfl; (exact stp_move rfl rfl); apply run_step rfl; (first | exact stp_ix (j := i) rfl rfl rfl rfl rfl (by as_aux_lemma => kernel_rfl) rfl hiz (Nat.le_of_eq hlen.symm) | exact stp_loadR rfl (by as_aux_lemma => kernel_rfl) rfl rfl rfl hrowi hilm | (apply call_gate 70; exact stp_callR hP (by as_aux_lemma => kernel_rfl) rfl rfl ⟨rfl, trivial⟩ ⟨⟨_, rfl, .inl rfl⟩, trivial⟩ rfl rfl) | (apply call_gate 71; exact stp_callR hSz (by as_aux_lemma => kernel_rfl) rfl rfl ⟨rfl, trivial⟩ trivial rfl rfl) | (apply call_gate 58; exact stp_callR hG (by as_aux_lemma => kernel_rfl) rfl rfl ⟨rfl, trivial⟩ ⟨⟨_, rfl, .inr rfl⟩, ⟨_, rfl, .inl rfl⟩, trivial⟩ rfl rfl)); apply run_step rfl; (exact stp_not rfl rfl); apply run_step rfl; (exact stp_move rfl rfl); apply run_gYes rfl rfl rfl; (exact stp_move rfl rfl); apply run_gYes rfl rfl rfl; (first | exact stp_ix (j := i) rfl rfl rfl rfl rfl (by as_aux_lemma => kernel_rfl) rfl hiz (Nat.le_of_eq hlen.symm) | exact stp_loadR rfl (by as_aux_lemma => kernel_rfl) rfl rfl rfl hrowi hilm | (apply call_gate 70; exact stp_callR hP (by as_aux_lemma => kernel_rfl) rfl rfl ⟨rfl, trivial⟩ ⟨⟨_, rfl, .inl rfl⟩, trivial⟩ rfl rfl) | (apply call_gate 71; exact stp_callR hSz (by as_aux_lemma => kernel_rfl) rfl rfl ⟨rfl, trivial⟩ trivial rfl rfl) | (apply call_gate 58; exact stp_callR hG (by as_aux_lemma => kernel_rfl) rfl rfl ⟨rfl, trivial⟩ ⟨⟨_, rfl, .inr rfl⟩, ⟨_, rfl, .inl rfl⟩, trivial⟩ rfl rfl)); apply run_gYes rfl rfl rfl; (first | exact stp_ix (j := i) rfl rfl rfl rfl rfl (by as_aux_lemma => kernel_rfl) rfl hiz (Nat.le_of_eq hlen.symm) | exact stp_loadR rfl (by as_aux_lemma => kernel_rfl) rfl rfl rfl hrowi hilm | (apply call_gate 70; exact stp_callR hP (by as_aux_lemma => kernel_rfl) rfl rfl ⟨rfl, trivial⟩ ⟨⟨_, rfl, .inl rfl⟩, trivial⟩ rfl rfl) | (apply call_gate 71; exact stp_callR hSz (by as_aux_lemma => kernel_rfl) rfl rfl ⟨rfl, trivial⟩ trivial rfl rfl) | (apply call_gate 58; exact stp_callR hG (by as_aux_lemma => kernel_rfl) rfl rfl ⟨rfl, trivial⟩ ⟨⟨_, rfl, .inr rfl⟩, ⟨_, rfl, .inl rfl⟩, trivial⟩ rfl rfl)); apply run_gYes rfl rfl rfl; (exact stp_bin rfl rfl rfl rfl); apply run_step rfl; (exact stp_pickF rfl rfl rfl); refine run_nil ?_; refine fin_seq ?_)
      refine goes_cond rfl (fun e1 => ?_) (fun e1 => ?_)
      · have e1 : (m : Int) ≠ n := by simpa using e1
        rw [manB_no (fun h => by have := h.len i hiz; omega)]
        (refine goes_seq ?_; refine goes_region ?_; apply run_step rfl; (exact stp_assign rfl rfl); refine run_nil ?_; refine fin_seq ?_; refine goes_ret ?_; refine fin_ret_block ?_; refine fin_ret_then ?_; refine fin_ret_then ?_; refine fin_ret_block ?_; refine fin_ret_then ?_)
        exact fin_ret1 (.inl rfl) rfl (.tmp rfl) trivial trivial
      · have e1 : (m : Int) = n := by simpa using e1
        (refine goes_skip ?_; refine fin_block ?_; refine fin_seq ?_; refine goes_region ?_; apply run_step rfl; (exact stp_add rfl rfl rfl (by first | exact IntWalk.i64_in _ (by omega) | rfl)); apply run_step rfl; (exact stp_move rfl rfl); refine run_nil ?_)
        exact fin_round (i + 1) ⟨hiz, fun j hj => by
          by_cases e : j = i
          · subst e; exact ⟨by omega, hf.1, hf.2⟩
          · exact hrows j (by omega)⟩ (by omega) (Wk.of ⟨rfl, rfl, rfl, rfl, trivial⟩ ⟨rfl, rfl, trivial⟩ trivial)
  obtain rfl : i = zss.length := by omega
  have hrn : Rows zss n zss.length := hrows
  have hT := rows_leads hrn
  have hB := rows_back hrn
  (refine goes_exit ?_; refine fin_exit_then ?_; refine fin_exit_then ?_; refine fin_exit_eq ?_; refine fin_seq ?_; refine goes_seq ?_; refine goes_seq ?_; refine goes_region ?_; apply run_step rfl; (exact stp_fieldAddr (d := 0) rfl rfl rfl (by as_aux_lemma => kernel_rfl)); apply run_step rfl; (exact stp_loadF rfl (by as_aux_lemma => kernel_rfl) rfl rfl rfl rfl); apply run_step rfl; (exact stp_len rfl rfl rfl (by as_aux_lemma => kernel_rfl)); apply run_step rfl; (exact stp_move rfl rfl); refine run_nil ?_; refine fin_seq ?_; refine goes_block ?_)
  refine goes_loop (fun i : Nat => St.of [(1, o1 (.ptr 1 0)), (38, o1 (.sl 1003 0 zss.length)), (39, vv (I6 zss.length)), (40, vv (I6 i))] [(1003, rowsRo zss), (1, mxB zss.length)]) (fun i => i ≤ zss.length ∧ ∀ i' k, i' < i → i' + 2 ≤ k → k < zss.length → ∀ f, f < n → commAt zss i' k f) (fun i => zss.length - i) 0 ⟨Nat.zero_le _, fun j k hj => absurd hj (by omega)⟩ (Wk.of ⟨rfl, rfl, rfl, rfl, trivial⟩ ⟨rfl, rfl, trivial⟩ trivial) ?_
  clear hi hrows hlt
  rintro i ⟨hi, hci⟩
  (refine goes_seq ?_; refine goes_region ?_; apply run_step rfl; (exact stp_bin rfl rfl rfl rfl); refine run_nil ?_; refine fin_seq ?_; refine goes_seq ?_)
  refine goes_if rfl (fun hlt => ?_) (fun hlt => ?_)
  · have hiz : i < zss.length := by omega
    have hrowi : (irows zss)[i]? = some (ivals (lget zss i)) := irows_get hiz
    have hilm : (ivals (lget zss i)).length = n := by rw [ivals_len]; exact (hrn i hiz).1
    obtain ⟨mm, hmm⟩ : ∃ mm, min (i + 2) zss.length = mm := ⟨_, rfl⟩
    have hmR : mm ≤ zss.length := by omega
    have hi2 : IntKind.i64.wrap ((i : Int) + 2) = ((i + 2 : Nat) : Int) := IntWalk.i64_in _ (by omega)
    (refine goes_skip ?_; refine fin_seq ?_; refine goes_seq ?_; refine goes_block ?_; refine goes_seq ?_; refine goes_region ?_; apply run_step rfl; (exact stp_move rfl rfl); apply run_step rfl; (first | exact stp_ix (j := i) rfl rfl rfl rfl rfl (by as_aux_lemma => kernel_rfl) rfl hiz (Nat.le_of_eq hlen.symm) | exact stp_loadR rfl (by as_aux_lemma => kernel_rfl) rfl rfl rfl hrowi hilm | exact stp_add rfl rfl rfl hi2 | exact stp_minN rfl rfl rfl | exact stp_slice (k := 1) (l := min (i + 2) zss.length) (h := zss.length) rfl rfl rfl rfl (by as_aux_lemma => kernel_rfl) (by omega) (bnd_some rfl rfl) bnd_none (by omega) (Nat.le_refl _) (by rw [Nat.mul_one, Nat.zero_add]; exact Nat.le_of_eq hlen.symm)); apply run_step rfl; (first | exact stp_ix (j := i) rfl rfl rfl rfl rfl (by as_aux_lemma => kernel_rfl) rfl hiz (Nat.le_of_eq hlen.symm) | exact stp_loadR rfl (by as_aux_lemma => kernel_rfl) rfl rfl rfl hrowi hilm | exact stp_add rfl rfl rfl hi2 | exact stp_minN rfl rfl rfl | exact stp_slice (k := 1) (l := min (i + 2) zss.length) (h := zss.length) rfl rfl rfl rfl (by as_aux_lemma => kernel_rfl) (by omega) (bnd_some rfl rfl) bnd_none (by omega) (Nat.le_refl _) (by rw [Nat.mul_one, Nat.zero_add]; exact Nat.le_of_eq hlen.symm)); apply run_step rfl; (exact stp_assign rfl rfl); apply run_step rfl; (exact stp_assign rfl rfl); refine run_nil ?_; refine fin_seq ?_; refine goes_seq ?_; refine goes_region ?_; apply run_step rfl; (exact stp_fieldAddr (d := 0) rfl rfl rfl (by as_aux_lemma => kernel_rfl)); apply run_step rfl; (exact stp_loadF rfl (by as_aux_lemma => kernel_rfl) rfl rfl rfl rfl); apply run_step rfl; (exact stp_move rfl rfl); apply run_step rfl; (first | exact stp_ix (j := i) rfl rfl rfl rfl rfl (by as_aux_lemma => kernel_rfl) rfl hiz (Nat.le_of_eq hlen.symm) | exact stp_loadR rfl (by as_aux_lemma => kernel_rfl) rfl rfl rfl hrowi hilm | exact stp_add rfl rfl rfl hi2 | exact stp_minN rfl rfl rfl | exact stp_slice (k := 1) (l := min (i + 2) zss.length) (h := zss.length) rfl rfl rfl rfl (by as_aux_lemma => kernel_rfl) (by omega) (bnd_some rfl rfl) bnd_none (by omega) (Nat.le_refl _) (by rw [Nat.mul_one, Nat.zero_add]; exact Nat.le_of_eq hlen.symm)); apply run_step rfl; (exact stp_fieldAddr (d := 0) rfl rfl rfl (by as_aux_lemma => kernel_rfl)); apply run_step rfl; (exact stp_loadF rfl (by as_aux_lemma => kernel_rfl) rfl rfl rfl rfl); apply run_step rfl; (exact stp_len rfl rfl rfl (by as_aux_lemma => kernel_rfl)); apply run_step rfl; (first | exact stp_ix (j := i) rfl rfl rfl rfl rfl (by as_aux_lemma => kernel_rfl) rfl hiz (Nat.le_of_eq hlen.symm) | exact stp_loadR rfl (by as_aux_lemma => kernel_rfl) rfl rfl rfl hrowi hilm | exact stp_add rfl rfl rfl hi2 | exact stp_minN rfl rfl rfl | exact stp_slice (k := 1) (l := min (i + 2) zss.length) (h := zss.length) rfl rfl rfl rfl (by as_aux_lemma => kernel_rfl) (by omega) (bnd_some rfl rfl) bnd_none (by omega) (Nat.le_refl _) (by rw [Nat.mul_one, Nat.zero_add]; exact Nat.le_of_eq hlen.symm)); apply run_step rfl; (first | exact stp_ix (j := i) rfl rfl rfl rfl rfl (by as_aux_lemma => kernel_rfl) rfl hiz (Nat.le_of_eq hlen.symm) | exact stp_loadR rfl (by as_aux_lemma => kernel_rfl) rfl rfl rfl hrowi hilm | exact stp_add rfl rfl rfl hi2 | exact stp_minN rfl rfl rfl | exact stp_slice (k := 1) (l := min (i + 2) zss.length) (h := zss.length) rfl rfl rfl rfl (by as_aux_lemma => kernel_rfl) (by omega) (bnd_some rfl rfl) bnd_none (by omega) (Nat.le_refl _) (by rw [Nat.mul_one, Nat.zero_add]; exact Nat.le_of_eq hlen.symm)); apply run_step rfl; (exact stp_len rfl rfl rfl (by as_aux_lemma => kernel_rfl)); apply run_step rfl; (exact stp_move rfl rfl); refine run_nil ?_; refine fin_seq ?_; refine goes_block ?_)
    rw [hmm]
    refine goes_loop (fun j : Nat => St.of [(1, o1 (.ptr 1 0)), (6, o1 (.esl 1003 i 0 n)), (38, o1 (.sl 1003 0 zss.length)), (39, vv (I6 zss.length)), (40, vv (I6 i)), (53, o1 (.sl 1003 mm (zss.length - mm))), (54, vv (I6 (zss.length - mm : Nat))), (55, vv (I6 j))] [(1003, rowsRo zss), (1, mxB zss.length)]) (fun j => j ≤ zss.length - mm ∧ ∀ k', i + 2 ≤ k' → k' < mm + j → ∀ f, f < n → commAt zss i k' f) (fun j => zss.length - mm - j) 0 ⟨Nat.zero_le _, fun k' h1 h2 => absurd h1 (by omega)⟩ (Wk.of ⟨rfl, rfl, rfl, rfl, rfl, congrArg (fun z => some (o1 (.sl 1003 z (zss.length - mm)))) (Nat.zero_add mm), rfl, rfl, trivial⟩ ⟨rfl, rfl, trivial⟩ trivial) ?_
    rintro j ⟨hj, hck⟩
    (refine goes_seq ?_; refine goes_region ?_; apply run_step rfl; (exact stp_bin rfl rfl rfl rfl); refine run_nil ?_; refine fin_seq ?_; refine goes_seq ?_)
    refine goes_if rfl (fun hlj => ?_) (fun hlj => ?_)
    · obtain ⟨k, hk⟩ : ∃ k, mm + j = k := ⟨_, rfl⟩
      have hkz : k < zss.length := by omega
      have hki : i + 2 ≤ k := by omega
      have hjl : j < zss.length - mm := by omega
      have hml : mm + (zss.length - mm) ≤ (irows zss).length := by rw [hlen]; omega
      have hrowk : (irows zss)[k]? = some (ivals (lget zss k)) := irows_get hkz
      have hilk : (ivals (lget zss k)).length = n := by rw [ivals_len]; exact (hrn k hkz).1
      (refine goes_skip ?_; refine fin_seq ?_; refine goes_seq ?_; refine goes_block ?_; refine goes_seq ?_; refine goes_region ?_; apply run_step rfl; (first | exact stp_ixK (j := j) rfl rfl rfl rfl rfl (by as_aux_lemma => kernel_rfl) rfl hjl hml hk | exact stp_loadR rfl (by as_aux_lemma => kernel_rfl) rfl rfl rfl hrowk hilk | (apply call_gate 58; exact stp_callR hG (by as_aux_lemma => kernel_rfl) rfl rfl ⟨rfl, trivial⟩ ⟨⟨_, rfl, .inr rfl⟩, ⟨_, rfl, .inl rfl⟩, trivial⟩ rfl rfl)); apply run_step rfl; (first | exact stp_ixK (j := j) rfl rfl rfl rfl rfl (by as_aux_lemma => kernel_rfl) rfl hjl hml hk | exact stp_loadR rfl (by as_aux_lemma => kernel_rfl) rfl rfl rfl hrowk hilk | (apply call_gate 58; exact stp_callR hG (by as_aux_lemma => kernel_rfl) rfl rfl ⟨rfl, trivial⟩ ⟨⟨_, rfl, .inr rfl⟩, ⟨_, rfl, .inl rfl⟩, trivial⟩ rfl rfl)); apply run_step rfl; (exact stp_assign rfl rfl); refine run_nil ?_; refine fin_seq ?_; refine goes_seq ?_; refine goes_region ?_; apply run_step rfl; (first | exact stp_ixK (j := j) rfl rfl rfl rfl rfl (by as_aux_lemma => kernel_rfl) rfl hjl hml hk | exact stp_loadR rfl (by as_aux_lemma => kernel_rfl) rfl rfl rfl hrowk hilk | (apply call_gate 58; exact stp_callR hG (by as_aux_lemma => kernel_rfl) rfl rfl ⟨rfl, trivial⟩ ⟨⟨_, rfl, .inr rfl⟩, ⟨_, rfl, .inl rfl⟩, trivial⟩ rfl rfl)); apply run_step rfl; (exact stp_move rfl rfl); refine run_nil ?_; refine fin_seq ?_; refine goes_block ?_)
      refine goes_loop (fun f : Nat => St.of [(1, o1 (.ptr 1 0)), (6, o1 (.esl 1003 i 0 n)), (8, o1 (.esl 1003 k 0 n)), (38, o1 (.sl 1003 0 zss.length)), (39, vv (I6 zss.length)), (40, vv (I6 i)), (53, o1 (.sl 1003 mm (zss.length - mm))), (54, vv (I6 (zss.length - mm : Nat))), (55, vv (I6 j)), (59, vv (I6 n)), (60, vv (I6 f))] [(1003, rowsRo zss), (1, mxB zss.length)]) (fun f => f ≤ n ∧ ∀ f', f' < f → commAt zss i k f') (fun f => n - f) 0 ⟨Nat.zero_le _, fun f' h1 => absurd h1 (by omega)⟩ (Wk.of ⟨rfl, rfl, rfl, rfl, rfl, rfl, rfl, rfl, rfl, rfl, rfl, trivial⟩ ⟨rfl, rfl, trivial⟩ trivial) ?_
      rintro f ⟨hf, hcf⟩
      (refine goes_seq ?_; refine goes_region ?_; apply run_step rfl; (exact stp_bin rfl rfl rfl rfl); refine run_nil ?_; refine fin_seq ?_; refine goes_seq ?_)
      refine goes_if rfl (fun hlf => ?_) (fun hlf => ?_)
      · have hfn : f < n := by omega
        have hd1 := bTo_lt hT hfn (g := i) hiz
        have hd2 := bTo_lt hT hfn (g := k) hkz
        have hx1 := bTo_lt hT hd1.1 (g := k) hkz
        have hx2 := bTo_lt hT hd2.1 (g := i) hiz
        have hcm : commAt zss i k f ↔ bTo zss (bTo zss f i) k = bTo zss (bTo zss f k) i ∧ bTo zss f i ≠ bTo zss f k := Iff.rfl
        generalize bTo zss (bTo zss f i) k = x1 at *
        generalize bTo zss (bTo zss f k) i = x2 at *
        generalize bTo zss f i = d1 at *
        generalize bTo zss f k = d2 at *
        have g1 : (ivals (lget zss i))[f]? = some (I6 (d1 : Int)) := by rw [ivals_get (by rw [(hrn i hiz).1]; exact hfn), hd1.2]
        have g2 : (ivals (lget zss k))[f]? = some (I6 (d2 : Int)) := by rw [ivals_get (by rw [(hrn k hkz).1]; exact hfn), hd2.2]
        have g3 : (ivals (lget zss k))[d1]? = some (I6 (x1 : Int)) := by rw [ivals_get (by rw [(hrn k hkz).1]; exact hd1.1), hx1.2]
        have g4 : (ivals (lget zss i))[d2]? = some (I6 (x2 : Int)) := by rw [ivals_get (by rw [(hrn i hiz).1]; exact hd2.1), hx2.2]
        have hni : n ≤ (ivals (lget zss i)).length := Nat.le_of_eq hilm.symm
        have hnk : n ≤ (ivals (lget zss k)).length := Nat.le_of_eq hilk.symm
        (refine goes_skip ?_; refine fin_seq ?_; refine goes_seq ?_; refine goes_block ?_; refine goes_seq ?_; refine goes_region ?_; apply run_step rfl; (exact stp_move rfl rfl); apply run_step rfl; (exact stp_assign rfl rfl); refine run_nil ?_; refine fin_seq ?_; refine goes_seq ?_)
        by_cases e1 : (d1 : Int) = d2
        · apply goes_drawG 26 [] [[], [], [0, 1], [0, 1, 2], [], [], [4, 5], [4, 5, 6], [0, 1, 2, 3, 4, 5, 6, 7], [0, 1, 2, 3, 4, 5, 6, 7, 8], [0, 1, 2, 3, 4, 5, 6, 7, 8, 9], [0, 1, 2, 3, 4, 5, 6, 7, 8, 9], [0, 1, 2, 3, 4, 5, 6, 7, 8, 9], [0, 1, 2, 3, 4, 5, 6, 7, 8, 9, 11, 12], [0, 1, 2, 3, 4, 5, 6, 7, 8, 9, 11, 12, 13], [0, 1, 2, 3, 4, 5, 6, 7, 8, 9, 10, 11, 12, 13, 14], [0, 1, 2, 3, 4, 5, 6, 7, 8, 9, 10, 11, 12, 13, 14, 15], [0, 1, 2, 3, 4, 5, 6, 7, 8, 9], [0, 1, 2, 3, 4, 5, 6, 7, 8, 9], [0, 1, 2, 3, 4, 5, 6, 7, 8, 9], [0, 1, 2, 3, 4, 5, 6, 7, 8, 9, 18, 19], [0, 1, 2, 3, 4, 5, 6, 7, 8, 9, 18, 19, 20], [0, 1, 2, 3, 4, 5, 6, 7, 8, 9, 17, 18, 19, 20, 21], [0, 1, 2, 3, 4, 5, 6, 7, 8, 9, 17, 18, 19, 20, 21, 22], [0, 1, 2, 3, 4, 5, 6, 7, 8, 9, 10, 11, 12, 13, 14, 15, 16, 17, 18, 19, 20, 21, 22, 23], [0, 1, 2, 3, 4, 5, 6, 7, 8, 9, 10, 11, 12, 13, 14, 15, 16, 17, 18, 19, 20, 21, 22, 23, 24]] [63, 64, 65, 66, 67, 68, 69, 70, 71, 72, 73, 74, 75, 76, 77, 78, 79, 80, 81, 82, 83, 84, 85, 86, 87, 88] [] (by kernel_rfl) (by kernel_rfl)
          · (apply drawG_put rfl; (intro S1 hS; exact stp_move rfl (hS.op rfl)))
            (apply drawG_put rfl; (intro S1 hS; exact stp_move rfl (hS.op rfl)))
            (apply drawG_put rfl; (intro S1 hS; exact stp_ixE (j := f) rfl (hS.op rfl) (hS.op rfl) (hS.ch _ _ rfl) rfl (by as_aux_lemma => kernel_rfl) hrowi rfl hfn hni))
            (apply drawG_put rfl; (intro S1 hS; exact stp_loadE' rfl (by as_aux_lemma => kernel_rfl) (hS.op rfl) (hS.ch _ _ rfl) rfl hrowi g1))
            (apply drawG_put rfl; (intro S1 hS; exact stp_move rfl (hS.op rfl)))
            (apply drawG_put rfl; (intro S1 hS; exact stp_move rfl (hS.op rfl)))
            (apply drawG_put rfl; (intro S1 hS; exact stp_ixE (j := f) rfl (hS.op rfl) (hS.op rfl) (hS.ch _ _ rfl) rfl (by as_aux_lemma => kernel_rfl) hrowk rfl hfn hnk))
            (apply drawG_put rfl; (intro S1 hS; exact stp_loadE' rfl (by as_aux_lemma => kernel_rfl) (hS.op rfl) (hS.ch _ _ rfl) rfl hrowk g2))
            (apply drawG_put rfl; (intro S1 hS; exact stp_bin rfl (hS.op rfl) (hS.op rfl) (binEql e1)))
            (apply drawG_put rfl; (intro S1 hS; exact stp_move rfl (hS.op rfl)))
            apply drawG_no rfl rfl rfl rfl rfl
            apply drawG_no rfl rfl rfl rfl rfl
            apply drawG_no rfl rfl rfl rfl rfl
            apply drawG_no rfl rfl rfl rfl rfl
            apply drawG_no rfl rfl rfl rfl rfl
            apply drawG_no rfl rfl rfl rfl rfl
            apply drawG_no rfl rfl rfl rfl rfl
            apply drawG_no rfl rfl rfl rfl rfl
            apply drawG_no rfl rfl rfl rfl rfl
            apply drawG_no rfl rfl rfl rfl rfl
            apply drawG_no rfl rfl rfl rfl rfl
            apply drawG_no rfl rfl rfl rfl rfl
            apply drawG_no rfl rfl rfl rfl rfl
            apply drawG_no rfl rfl rfl rfl rfl
            apply drawG_no rfl rfl rfl rfl rfl
            (apply drawG_put rfl; (intro S1 hS; exact stp_pickT rfl (hS.op rfl) (hS.op rfl)))
            exact DrawG.nil
          · rfl
          ((refine rest_done (by as_aux_lemma => kernel_rfl) ?_; skip))
          (refine fin_seq ?_)
          refine goes_cond rfl (fun _ => ?_) (fun e => by cases e)
          rw [manB_no (fun h => by have := (hcm.1 (h.comm i k hki hkz f (by omega))).2; omega)]
          (refine goes_seq ?_; refine goes_region ?_; apply run_step rfl; (exact stp_assign rfl rfl); refine run_nil ?_; refine fin_seq ?_; refine goes_ret ?_; refine fin_ret_block ?_; refine fin_ret_then ?_; refine fin_ret_then ?_; refine fin_ret_block ?_; refine fin_ret_block ?_; refine fin_ret_then ?_; refine fin_ret_then ?_; refine fin_ret_block ?_; refine fin_ret_block ?_; refine fin_ret_then ?_; refine fin_ret_then ?_; refine fin_ret_block ?_; refine fin_ret_then ?_)
          exact fin_ret1 (.inl rfl) rfl (.tmp rfl) trivial trivial
        · apply goes_drawG 26 [] [[], [], [0, 1], [0, 1, 2], [], [], [4, 5], [4, 5, 6], [0, 1, 2, 3, 4, 5, 6, 7], [0, 1, 2, 3, 4, 5, 6, 7, 8], [0, 1, 2, 3, 4, 5, 6, 7, 8, 9], [0, 1, 2, 3, 4, 5, 6, 7, 8, 9], [0, 1, 2, 3, 4, 5, 6, 7, 8, 9], [0, 1, 2, 3, 4, 5, 6, 7, 8, 9, 11, 12], [0, 1, 2, 3, 4, 5, 6, 7, 8, 9, 11, 12, 13], [0, 1, 2, 3, 4, 5, 6, 7, 8, 9, 10, 11, 12, 13, 14], [0, 1, 2, 3, 4, 5, 6, 7, 8, 9, 10, 11, 12, 13, 14, 15], [0, 1, 2, 3, 4, 5, 6, 7, 8, 9], [0, 1, 2, 3, 4, 5, 6, 7, 8, 9], [0, 1, 2, 3, 4, 5, 6, 7, 8, 9], [0, 1, 2, 3, 4, 5, 6, 7, 8, 9, 18, 19], [0, 1, 2, 3, 4, 5, 6, 7, 8, 9, 18, 19, 20], [0, 1, 2, 3, 4, 5, 6, 7, 8, 9, 17, 18, 19, 20, 21], [0, 1, 2, 3, 4, 5, 6, 7, 8, 9, 17, 18, 19, 20, 21, 22], [0, 1, 2, 3, 4, 5, 6, 7, 8, 9, 10, 11, 12, 13, 14, 15, 16, 17, 18, 19, 20, 21, 22, 23], [0, 1, 2, 3, 4, 5, 6, 7, 8, 9, 10, 11, 12, 13, 14, 15, 16, 17, 18, 19, 20, 21, 22, 23, 24]] [63, 64, 65, 66, 67, 68, 69, 70, 71, 72, 73, 74, 75, 76, 77, 78, 79, 80, 81, 82, 83, 84, 85, 86, 87, 88] [] (by kernel_rfl) (by kernel_rfl)
          · (apply drawG_put rfl; (intro S1 hS; exact stp_move rfl (hS.op rfl)))
            (apply drawG_put rfl; (intro S1 hS; exact stp_move rfl (hS.op rfl)))
            (apply drawG_put rfl; (intro S1 hS; exact stp_ixE (j := f) rfl (hS.op rfl) (hS.op rfl) (hS.ch _ _ rfl) rfl (by as_aux_lemma => kernel_rfl) hrowi rfl hfn hni))
            (apply drawG_put rfl; (intro S1 hS; exact stp_loadE' rfl (by as_aux_lemma => kernel_rfl) (hS.op rfl) (hS.ch _ _ rfl) rfl hrowi g1))
            (apply drawG_put rfl; (intro S1 hS; exact stp_move rfl (hS.op rfl)))
            (apply drawG_put rfl; (intro S1 hS; exact stp_move rfl (hS.op rfl)))
            (apply drawG_put rfl; (intro S1 hS; exact stp_ixE (j := f) rfl (hS.op rfl) (hS.op rfl) (hS.ch _ _ rfl) rfl (by as_aux_lemma => kernel_rfl) hrowk rfl hfn hnk))
            (apply drawG_put rfl; (intro S1 hS; exact stp_loadE' rfl (by as_aux_lemma => kernel_rfl) (hS.op rfl) (hS.ch _ _ rfl) rfl hrowk g2))
            (apply drawG_put rfl; (intro S1 hS; exact stp_bin rfl (hS.op rfl) (hS.op rfl) (binEql' e1)))
            (apply drawG_put rfl; (intro S1 hS; exact stp_move rfl (hS.op rfl)))
            (apply drawG_yes rfl rfl rfl; (intro S1 hS; exact stp_move rfl (hS.op rfl)))
            (apply drawG_yes rfl rfl rfl; (intro S1 hS; exact stp_move rfl (hS.op rfl)))
            (apply drawG_yes rfl rfl rfl; (intro S1 hS; exact stp_move rfl (hS.op rfl)))
            (apply drawG_yes rfl rfl rfl; (intro S1 hS; exact stp_ixE (j := f) rfl (hS.op rfl) (hS.op rfl) (hS.ch _ _ rfl) rfl (by as_aux_lemma => kernel_rfl) hrowi rfl hfn hni))
            (apply drawG_yes rfl rfl rfl; (intro S1 hS; exact stp_loadE' rfl (by as_aux_lemma => kernel_rfl) (hS.op rfl) (hS.ch _ _ rfl) rfl hrowi g1))
            (apply drawG_yes rfl rfl rfl; (intro S1 hS; exact stp_ixE (j := d1) rfl (hS.op rfl) (hS.op rfl) (hS.ch _ _ rfl) rfl (by as_aux_lemma => kernel_rfl) hrowk rfl hd1.1 hnk))
            (apply drawG_yes rfl rfl rfl; (intro S1 hS; exact stp_loadE' rfl (by as_aux_lemma => kernel_rfl) (hS.op rfl) (hS.ch _ _ rfl) rfl hrowk g3))
            (apply drawG_yes rfl rfl rfl; (intro S1 hS; exact stp_move rfl (hS.op rfl)))
            (apply drawG_yes rfl rfl rfl; (intro S1 hS; exact stp_move rfl (hS.op rfl)))
            (apply drawG_yes rfl rfl rfl; (intro S1 hS; exact stp_move rfl (hS.op rfl)))
            (apply drawG_yes rfl rfl rfl; (intro S1 hS; exact stp_ixE (j := f) rfl (hS.op rfl) (hS.op rfl) (hS.ch _ _ rfl) rfl (by as_aux_lemma => kernel_rfl) hrowk rfl hfn hnk))
            (apply drawG_yes rfl rfl rfl; (intro S1 hS; exact stp_loadE' rfl (by as_aux_lemma => kernel_rfl) (hS.op rfl) (hS.ch _ _ rfl) rfl hrowk g2))
            (apply drawG_yes rfl rfl rfl; (intro S1 hS; exact stp_ixE (j := d2) rfl (hS.op rfl) (hS.op rfl) (hS.ch _ _ rfl) rfl (by as_aux_lemma => kernel_rfl) hrowi rfl hd2.1 hni))
            (apply drawG_yes rfl rfl rfl; (intro S1 hS; exact stp_loadE' rfl (by as_aux_lemma => kernel_rfl) (hS.op rfl) (hS.ch _ _ rfl) rfl hrowi g4))
            (apply drawG_yes rfl rfl rfl; (intro S1 hS; exact stp_bin rfl (hS.op rfl) (hS.op rfl) rfl))
            (apply drawG_put rfl; (intro S1 hS; exact stp_pickF rfl (hS.op rfl) (hS.op rfl)))
            exact DrawG.nil
          · rfl
          ((refine rest_done (by as_aux_lemma => kernel_rfl) ?_; skip))
          (refine fin_seq ?_)
          refine goes_cond rfl (fun e2 => ?_) (fun e2 => ?_)
          · have e2 : (x1 : Int) ≠ x2 := by simpa using e2
            rw [manB_no (fun h => by have := (hcm.1 (h.comm i k hki hkz f (by omega))).1; omega)]
            (refine goes_seq ?_; refine goes_region ?_; apply run_step rfl; (exact stp_assign rfl rfl); refine run_nil ?_; refine fin_seq ?_; refine goes_ret ?_; refine fin_ret_block ?_; refine fin_ret_then ?_; refine fin_ret_then ?_; refine fin_ret_block ?_; refine fin_ret_block ?_; refine fin_ret_then ?_; refine fin_ret_then ?_; refine fin_ret_block ?_; refine fin_ret_block ?_; refine fin_ret_then ?_; refine fin_ret_then ?_; refine fin_ret_block ?_; refine fin_ret_then ?_)
            exact fin_ret1 (.inl rfl) rfl (.tmp rfl) trivial trivial
          · have e2 : (x1 : Int) = x2 := by simpa using e2
            (refine goes_skip ?_; refine fin_block ?_; refine fin_seq ?_; refine goes_region ?_; apply run_step rfl; (exact stp_add rfl rfl rfl (by first | exact IntWalk.i64_in _ (by omega) | rfl)); apply run_step rfl; (exact stp_move rfl rfl); refine run_nil ?_)
            exact fin_round (f + 1) ⟨hfn, fun f' hf' => by
              by_cases e : f' = f
              · subst e; exact hcm.2 ⟨by omega, by omega⟩
              · exact hcf f' (by omega)⟩ (by omega) (Wk.of ⟨rfl, rfl, rfl, rfl, rfl, rfl, rfl, rfl, rfl, rfl, rfl, trivial⟩ ⟨rfl, rfl, trivial⟩ trivial)
      · (refine goes_exit ?_; refine fin_exit_then ?_; refine fin_exit_then ?_; refine fin_exit_eq ?_; refine fin_block ?_; refine fin_seq ?_; refine goes_region ?_; apply run_step rfl; (exact stp_add rfl rfl rfl (by first | exact IntWalk.i64_in _ (by omega) | rfl)); apply run_step rfl; (exact stp_move rfl rfl); refine run_nil ?_)
        exact fin_round (j + 1) ⟨by omega, fun k' h1 h2 f' hf' => by
          by_cases e : k' = k
          · subst e; exact hcf f' (by omega)
          · exact hck k' h1 (by omega) f' hf'⟩ (by omega) (Wk.of ⟨rfl, rfl, rfl, rfl, rfl, rfl, rfl, rfl, trivial⟩ ⟨rfl, rfl, trivial⟩ trivial)
    · (refine goes_exit ?_; refine fin_exit_then ?_; refine fin_exit_then ?_; refine fin_exit_eq ?_; refine fin_block ?_; refine fin_seq ?_; refine goes_region ?_; apply run_step rfl; (exact stp_add rfl rfl rfl (by first | exact IntWalk.i64_in _ (by omega) | rfl)); apply run_step rfl; (exact stp_move rfl rfl); refine run_nil ?_)
      exact fin_round (i + 1) ⟨hiz, fun i' k' h1 h2 h3 => by
        by_cases e : i' = i
        · subst e; exact hck k' h2 (by omega)
        · exact hci i' k' (by omega) h2 h3⟩ (by omega) (Wk.of ⟨rfl, rfl, rfl, rfl, trivial⟩ ⟨rfl, rfl, trivial⟩ trivial)
  obtain rfl : i = zss.length := by omega
  have hM : Man0 zss := ⟨by omega, by omega, by omega, by omega, by rw [hn]; exact hrn, fun i k h1 h2 f hf => hci i k (by omega) h1 h2 f (by omega)⟩
  have hO := (orbI_fc zss n zss.length rfl hT hB (by omega) (by omega) (by omega)).nm [(1003, 1003), (16, 96)] (by kernel_rfl)
  have hO : FC Try.prog 72 [(1003, rowsRo zss)] [vv (I6 n), o1 (.sl 1003 0 zss.length)] [(96, leOw (labs zss n).1)] (.tup [.one (.sl 96 0 n), .one (.val (I6 (labs zss n).2))]) [] := hO
  have hv : manB zss = (((labs zss n).2 : Int) == 1) := by
    rw [hM.man, hn]
    have := labs_one hT hB (n := n) (by omega)
    by_cases hc : (orb zss n 0).2.length = n
    · rw [hc, this.2 hc]; simp
    · have h1 : (labs zss n).2 ≠ 1 := fun h => hc (this.1 h)
      have h2 : ((labs zss n).2 : Int) ≠ 1 := by omega
      have h3 : ((orb zss n 0).2.length : Int) ≠ n := by omega
      rw [beq_eq_false_iff_ne.2 h2, beq_eq_false_iff_ne.2 h3]
  rw [hv]
  (refine goes_exit ?_; refine fin_exit_then ?_; refine fin_exit_then ?_; refine fin_exit_eq ?_; refine fin_seq ?_; refine goes_seq ?_)
  apply goes_draw 5 [] [[], [], [1], [0, 1, 2], [0, 1, 2, 3], [0, 1, 2, 3, 4], [0, 1, 2, 3, 4], [0, 1, 2, 3, 4, 5], [0, 1, 2, 3, 4, 5, 6, 7]] [93, 94, 95, 96, 92] [96] (by kernel_rfl) (by kernel_rfl)
  · (apply draw_put rfl; (intro S1 hS; apply call_gate 58; exact stp_callR hG (by as_aux_lemma => kernel_rfl) rfl (opL_le hS rfl) ⟨rfl, trivial⟩ (allIn_le hS ⟨⟨_, rfl, .inr rfl⟩, ⟨_, rfl, .inl rfl⟩, trivial⟩) rfl rfl))
    (apply draw_put rfl; (intro S1 hS; exact stp_fieldAddr (d := 0) rfl (hS.op rfl) (hS.ch _ _ rfl) (by as_aux_lemma => kernel_rfl)))
    (apply draw_put rfl; (intro S1 hS; exact stp_loadF rfl (by as_aux_lemma => kernel_rfl) (hS.op rfl) (hS.ch _ _ rfl) rfl rfl))
    (apply draw_new rfl; (intro S1 hS; apply call_gate 72; exact stp_callN hO (by as_aux_lemma => kernel_rfl) rfl (opL_le hS rfl) ⟨rfl, rfl, trivial⟩ (allIn_le hS ⟨⟨_, rfl, .inl rfl⟩, trivial⟩) rfl rfl rfl))
    (apply draw_put rfl; (intro S1 hS; exact stp_move rfl (hS.op rfl)))
    exact Draw.nil
  · rfl
  refine rest_join (St.of [(11, vv (I6 (labs zss n).2))] []) ?_ ?_
  · ((apply rest_two 5 6 rfl (by as_aux_lemma => kernel_rfl) rfl rfl rfl rfl; (exact stp_extract rfl rfl rfl); (exact stp_extract rfl rfl rfl); (focus ((apply rest_two 6 7 rfl (by as_aux_lemma => kernel_rfl) rfl rfl rfl rfl; (exact stp_extract rfl rfl rfl); (exact stp_assign rfl rfl); (focus ((apply rest_one 7 rfl (by as_aux_lemma => kernel_rfl) rfl rfl; (exact stp_assign rfl rfl)); (apply rest_one 8 rfl (by as_aux_lemma => kernel_rfl) rfl rfl; (exact stp_assign rfl rfl)); (refine rest_done (by as_aux_lemma => kernel_rfl) ?_; exact fin_join (Wk.of ⟨rfl, trivial⟩ trivial trivial)))); (focus ((apply rest_one 6 rfl (by as_aux_lemma => kernel_rfl) rfl rfl; (exact stp_extract rfl rfl rfl)); (apply rest_one 8 rfl (by as_aux_lemma => kernel_rfl) rfl rfl; (exact stp_assign rfl rfl)); (refine rest_done (by as_aux_lemma => kernel_rfl) ?_; exact fin_join (Wk.of ⟨rfl, trivial⟩ trivial trivial))))))); (focus ((apply rest_one 5 rfl (by as_aux_lemma => kernel_rfl) rfl rfl; (exact stp_extract rfl rfl rfl)); (apply rest_one 7 rfl (by as_aux_lemma => kernel_rfl) rfl rfl; (exact stp_assign rfl rfl)); (apply rest_one 8 rfl (by as_aux_lemma => kernel_rfl) rfl rfl; (exact stp_assign rfl rfl)); (refine rest_done (by as_aux_lemma => kernel_rfl) ?_; exact fin_join (Wk.of ⟨rfl, trivial⟩ trivial trivial))))))
  (refine fin_seq ?_; refine goes_seq ?_; refine goes_region ?_; apply run_step rfl; (exact stp_move rfl rfl); apply run_step rfl; (exact stp_bin rfl rfl rfl rfl); apply run_step rfl; (exact stp_assign rfl rfl); refine run_nil ?_; refine fin_seq ?_; refine goes_ret ?_)
  exact fin_ret1 (.inl rfl) rfl (.tmp rfl) trivial trivial
end Go.Proofs.Ytmdhljleaijkbaa

/- Maniplexes: the test and the number of flags, in words. -/
namespace Go.Proofs.Ytmdhljleaijkbaa
open Go.RowKit

theorem size1_any (ao : Option Addr) (n c : Nat) (w : World) : Calls Try.prog 71 #[.slice ao n c] w fun e w' => e = .returned (.int .i64 n) ∧ w = w' := by
  go_enter Try.func71, Try.ntmps71
  go_wp2
  go_ret
  exact ⟨rfl, rfl⟩
theorem flagsI_any (mb : Nat) (ao : Option Addr) (n c m : Nat) (d : List (List Int)) (w : World) (hm : Blk w mb 28 #[.slice ao n c]) (h : RdSS w (.slice ao n c) d) (hn : 0 < n) (hl : (lget d 0).length = m) (hm4 : m ≤ 1000000) :
    Calls Try.prog 58 #[.pointer (some ⟨mb, 0, none⟩)] w fun e w' => e = .returned (.int .i64 m) ∧ w = w' := by
  obtain ⟨a1, n1, c1, e, hi⟩ := h
  injection e with e1 e2 e3
  subst e1 e2 e3
  obtain ⟨b, off, a', n', c', rfl, hc, hi'⟩ := hi.at_ hn
  have hnm : n' = m := by rw [← hi'.1]; exact hl
  subst hnm
  have x0 := hm.cell 0
  simp at x0 hc
  clear hi hi' hl hm
  go_enter Try.func58, Try.ntmps58
  go_wp2_with (go_at_call 71; refine (size1_any _ _ _ _).mono ?_; rintro e w' ⟨rfl, hw⟩; subst hw)
  go_ret
  exact ⟨rfl, rfl⟩
theorem flagsS_any (ao : Option Addr) (n c m : Nat) (d : List (List Int)) (w : World) (h : RdSS w (.slice ao n c) d) (hn : 0 < n) (hl : (lget d 0).length = m) (hm4 : m ≤ 1000000) :
    Calls Try.prog 95 #[.agg #[.slice ao n c]] w fun e w' => e = .returned (.int .i64 m) ∧ Below w.heap.size w w' := by
  obtain ⟨a1, n1, c1, e, hi⟩ := h
  injection e with e1 e2 e3
  subst e1 e2 e3
  obtain ⟨b, off, a', n', c', rfl, hc, hi'⟩ := hi.at_ hn
  have hnm : n' = m := by rw [← hi'.1]; exact hl
  subst hnm
  have hb := below_alloc1 w (.cells #[.slice (some ⟨b, off, none⟩) n c] 28)
  have hc2 := (hb.cell (p := ⟨b, off + 0, none⟩) (World.block_lt_of_cell? w _ hc)).trans hc
  have hc3 : (w.alloc (.cells #[.slice (some ⟨b, off, none⟩) n c] 28)).cell? ⟨b, off, none⟩ = some (.slice a' n' c') := hc2
  have kb : Blk (w.alloc (.cells #[.slice (some ⟨b, off, none⟩) n c] 28)) w.heap.size 28 #[.slice (some ⟨b, off, none⟩) n c] := blk_at rfl
  have x0 := kb.cell 0
  clear hi hi' hl hc hc2
  go_enter Try.func95, Try.ntmps95
  go_wp2
  go_ret
  exact ⟨rfl, hb⟩
theorem sizeRM_any (ao : Option Addr) (n c : Nat) (w : World) : Calls Try.prog 53 #[.slice ao n c] w fun e w' => e = .returned (.int .i64 n) ∧ w = w' := by
  go_enter Try.func53, Try.ntmps53
  go_wp2
  go_ret
  exact ⟨rfl, rfl⟩
theorem rankM_any (mb n c : Nat) (ao : Option Addr) (w : World) (hm : Blk w mb 28 #[.slice ao n c]) :
    Calls Try.prog 69 #[.pointer (some ⟨mb, 0, none⟩)] w fun e w' => e = .returned (.int .i64 n) ∧ w = w' := by
  have x0 := hm.cell 0
  simp at x0
  go_enter Try.func69, Try.ntmps69
  go_wp2_with (go_at_call 53; refine (sizeRM_any _ _ _ _).mono ?_; rintro e w' ⟨rfl, hw⟩; subst hw)
  go_ret
  exact ⟨rfl, rfl⟩
end Go.Proofs.Ytmdhljleaijkbaa

/- Maniplexes that are read, whatever shares their rows: the test. -/
namespace Go.Proofs.Ytmdhljleaijkbaa
open Go.RowKit

theorem RdSSc.intss {w : World} {ao : Option Addr} {n c : Nat} {d : List (List Int)} (h : RdSSc w (.slice ao n c) d) : Intss w ao n d := by
  obtain ⟨a1, n1, c1, e, hi⟩ := h.rd
  injection e with e1 e2 e3
  subst e1 e2 e3
  exact hi
theorem callMc {f : FuncId} {outs : List (Nm × Ch)} {res : AV} {d : List (List Int)} (hf : FC Try.prog f [(1003, rowsRo d)] [mA d.length] outs res []) {w : World} {v : Value} (h : RdSSc w v d) :
    Calls Try.prog f #[.agg #[v]] w fun e w' => ∃ v η ω, e = .returned v ∧ Den η res v ∧ Mem η ω w' (fun x => lk x outs) ∧ Below w.heap.size w w' ∧ ∀ b, b < w.heap.size → ω b = none := by
  obtain ⟨hd, r, rfl, hv⟩ := ofSSc 1003 32 2 h
  exact hf.call (l := [(1003, (rowsRo d, hd, r))]) (us := [_]) (fun p hp => by simp at hp; subst hp; exact hv) rfl (denL1 (denM (den_sl (q := (rowsRo d, hd, r)) rfl)))
/-- lists of a size that laws let pass -/
def FewSS (d : List (List Int)) : Prop := d.length ≤ 1048576 ∧ ∀ i, i < d.length → (lget d i).length ≤ 1048576
theorem specManC {w : World} {v : Value} {d : List (List Int)} (h : RdSSc w v d) (hf : FewSS d) :
    Calls Try.prog 51 #[.agg #[v]] w fun e w' => e = .returned (.bool (manB d)) ∧ Below w.heap.size w w' := one_val (callMc (manS_fc d hf.1 hf.2) h)
theorem implManC {w : World} {v : Value} {d : List (List Int)} (h : RdSSc w v d) (hf : FewSS d) :
    Calls Try.prog 39 #[.agg #[v]] w fun e w' => e = .returned (.bool (manB d)) ∧ Below w.heap.size w w' := one_val (callMc (manI_fc d hf.1 hf.2) h)
theorem man_few {d : List (List Int)} (h : Man d) : FewSS d := ⟨by have := h.n5; omega, fun i hi => by have := h.len i hi; have := h.f4; omega⟩
end Go.Proofs.Ytmdhljleaijkbaa

/- A region that draws its order, whose operations only read and whose callees make new memory alone: one walk, in the order of the text. (The steps are printed by fill.py out of the mark CALM.) -/
namespace Go.Proofs.Ytmdhljleaijkbaa
open Go.RowKit

section
variable {P : Program} {ops : Array Oper} {C : World → Prop} {o : Oper} {a : Act} {K : Act → Prop}
theorem quiet_val {u : Value} (h : ∀ w, C w → (execOp a.eval o).run P w = .ok (.value u) w) (hk : K (a.put o.dst u)) : o.quiet P a C K :=
  ⟨u, fun w hw => by unfold Oper.quietAt; rw [h w hw]; exact ⟨rfl, rfl⟩, hk⟩
theorem quiet_call {f : FuncId} {args : Array Value} {v : Value} (h : ∀ w, C w → (execOp a.eval o).run P w = .ok (.enter f args) w) (hc : ∀ w, C w → Calls P f args w (fun e w'' => e = .returned v ∧ C w'')) (hk : K (a.put o.dst v)) : o.quiet P a C K :=
  ⟨v, fun w hw => by unfold Oper.quietAt; rw [h w hw]; exact ⟨rfl, hc w hw⟩, hk⟩
theorem wp_region_calm {id : Nat} {Q : Exit → Act → World → Prop} {w : World} {l : List Oper} (hm : P.follows .mixedOrders = true) (hB : Region.lexB .any l.toArray = true)
    (h : wpQuiet P l.toArray (fun w' => Below w.heap.size w w') (fun a' => ∀ w', Below w.heap.size w w' → Q .normal a' w') l a) : (Code.region id l.toArray true).wp P Q a w :=
  wp_region_quiet (C := fun w' => Below w.heap.size w w') hm hB (below_drew1 w) (by simpa using h)
end

end Go.Proofs.Ytmdhljleaijkbaa

/- Draws of maniplexes: l02Beside. guards: -/
namespace Go.Proofs.Ytmdhljleaijkbaa
open Go.RowKit

theorem beside_lt {N K a b x : Nat} (hx : x < N) (hb : b < K) (_ : a = x) : x * K + b < N * K := by
  have : x * K + K ≤ N * K := by rw [← Nat.succ_mul]; exact Nat.mul_le_mul_right _ hx
  omega
set_option maxRecDepth 100000 in
set_option maxHeartbeats 6400000 in
theorem beside_any (ao bo : Option Addr) (n c m c' N K : Nat) (d e : List (List Int)) (w : World) (hd : RdSSc w (.slice ao n c) d) (he : RdSSc w (.slice bo m c') e) (hT : Leads d N) (hE : Leads e K) (hn : 1 ≤ n) (hm : 1 ≤ m) (hn9 : n ≤ 100) (hm9 : m ≤ 100) (hN : 1 ≤ N) (hK : 1 ≤ K) (hN9 : N ≤ 1000) (hK9 : K ≤ 1000) :
    Calls Try.prog 118 #[.agg #[.slice ao n c], .agg #[.slice bo m c']] w fun e w' => ∃ v r, e = .returned v ∧ OwM 2 32 w' w.heap.size w'.heap.size v r ∧ r.length = n + m ∧ Sq r (N * K) ∧ Below w.heap.size w w' := by
  have hdl := hd.intss.1
  have hel := he.intss.1
  have hl0 : (lget d 0).length = N := hT.len 0 (by omega)
  have hk0 : (lget e 0).length = K := hE.len 0 (by omega)
  have hNK : N * K ≤ 1000000 := Nat.mul_le_mul hN9 hK9
  have hw0 : IntKind.i64.wrap ((N : Int) * (K : Int)) = ((N * K : Nat) : Int) := by rw [← Int.natCast_mul]; exact IntWalk.i64_in _ (by omega)
  obtain ⟨M, hM⟩ : ∃ M, N * K = M := ⟨_, rfl⟩
  rw [hM] at hw0 hNK ⊢
  have HM := Lib.hid hM
  have b1 := below_alloc3 w (.cells #[.slice ao n c] 28) (.cells #[.slice bo m c'] 28) (.cells #[.slice none 0 0] 28)
  have k1 : Blk (((w.alloc (.cells #[.slice ao n c] 28)).alloc (.cells #[.slice bo m c'] 28)).alloc (.cells #[.slice none 0 0] 28)) w.heap.size 28 #[.slice ao n c] := ((blk_at rfl).alloc _).alloc _
  have k2 : Blk (((w.alloc (.cells #[.slice ao n c] 28)).alloc (.cells #[.slice bo m c'] 28)).alloc (.cells #[.slice none 0 0] 28)) (w.heap.size + 1) 28 #[.slice bo m c'] := (blk_at (by simp)).alloc _
  have k3 : Blk (((w.alloc (.cells #[.slice ao n c] 28)).alloc (.cells #[.slice bo m c'] 28)).alloc (.cells #[.slice none 0 0] 28)) (w.heap.size + 2) 28 #[.slice none 0 0] := blk_at (by simp)
  have HD := Lib.hid hd
  have HE := Lib.hid he
  have HT := Lib.hid hT
  have HTE := Lib.hid hE
  have hz1 : w.heap.size + 3 = (((w.alloc (.cells #[.slice ao n c] 28)).alloc (.cells #[.slice bo m c'] 28)).alloc (.cells #[.slice none 0 0] 28)).heap.size := by simp
  clear hd he hT hE hM
  go_enter Try.func118, Try.ntmps118
  go_upto_region 1 with fail
  generalize ((w.alloc (.cells #[.slice ao n c] 28)).alloc (.cells #[.slice bo m c'] 28)).alloc (.cells #[.slice none 0 0] 28) = w1 at *
  have HD1 := Lib.hid (HD.out.below b1)
  have HE1 := Lib.hid (HE.out.below b1)
  have K1 := Lib.hid k1
  have K2 := Lib.hid k2
  have K3 := Lib.hid k3
  have B1 := Lib.hid b1
  clear k1 k2 k3 b1 HD HE
  (refine wp_region_calm (by kernel_rfl) (by kernel_rfl) ?_; (repeat (first | go_big_quiet_skip | (go_big_quiet_want; first | (go_big_quiet_op; go_big_quiet_on) | (apply quiet_val; (· (intro _ hw; have y0 := (K1.out.belowS hw).cell 0; have y1 := (K2.out.belowS hw).cell 0; simp at y0 y1; go_simp; exact rfl)); go_simp; go_big_quiet_on) | (apply quiet_call; (· (intro _ _; go_simp; exact ⟨rfl, rfl⟩)); (· (intro _ hw; go_at_call 95; first | (refine (flagsS_any ao n c N d _ (HD1.out.below hw).rd (by omega) hl0 (by omega)).mono ?_; rintro e w' ⟨rfl, b⟩; exact ⟨rfl, below_tr b hw⟩) | (refine (flagsS_any bo m c' K e _ (HE1.out.below hw).rd (by omega) hk0 (by omega)).mono ?_; rintro e w' ⟨rfl, b⟩; exact ⟨rfl, below_tr b hw⟩))); go_simp; go_big_quiet_on)))); refine wpQuiet_nil ?_; intro wq bq)
  have HDq := Lib.hid (HD1.out.below bq)
  have HEq := Lib.hid (HE1.out.below bq)
  have K1q := Lib.hid (K1.out.belowS bq)
  have K2q := Lib.hid (K2.out.belowS bq)
  have K3q := Lib.hid (K3.out.belowS bq)
  have hz1' : w.heap.size ≤ w1.heap.size := by omega
  have Bq := Lib.hid (B1.out.trans (bq.mono hz1'))
  have hzq : w.heap.size + 3 ≤ wq.heap.size := by have := bq.size; omega
  have b7 := (Below.refl wq.heap.size wq).alloc (Nat.le_refl _) (.cells #[.slice none 0 0] 28)
  have ST := Lib.hid (MBx.start (w := wq) b7 (Blk.new wq 28 #[.slice none 0 0]) (Nat.le_refl _))
  have hz7 : wq.heap.size < (wq.alloc (.cells #[.slice none 0 0] 28)).heap.size := by simp
  clear b7 HD1 HE1 K1 K2 K3 B1 bq hz1 hz1' hl0 hk0
  go_upto_region 3 with fail
  generalize wq.alloc (.cells #[.slice none 0 0] 28) = w7 at *
  obtain ⟨bx, hbx⟩ : ∃ bx, wq.heap.size = bx := ⟨_, rfl⟩
  have HBX := Lib.hid hbx
  rw [hbx] at ST hz7 ⊢
  clear hbx
  go_wp2_with fail
  go_loopw [8] (fun kv wr => ∃ (q : Nat) (am : Option Addr) (cm : Nat) (us : List Value) (ds : List (List Int)), kv = .int .i64 q ∧ q ≤ n + m ∧ Sq ds M ∧ MBx wq wr bx (bx + 1) am q cm us ds) (fun kv _ => n + m - (intOf kv).toNat)
  case atStart => exact ⟨0, none, 0, [], [], rfl, Nat.zero_le _, sq_nil _, ST.out⟩
  case round =>
    clear ST hz7
    obtain ⟨q, am, cm, um, ds, rfl, hq, hds, st⟩ := hrel
    obtain ⟨wA, rfl⟩ : ∃ x, x = wr := ⟨_, rfl⟩
    have ST := Lib.hid st
    have hbw := Lib.hid st.bel
    have hzr := hbw.out.size
    have x1 := (K1q.out.belowS hbw.out).cell 0
    have x2 := (K2q.out.belowS hbw.out).cell 0
    simp at x1 x2
    have hwn : IntKind.i64.wrap ((n : Int) + (m : Int)) = (n : Int) + (m : Int) := IntWalk.i64_in _ (by omega)
    by_cases hlt : q < n + m
    · have hqi : (q : Int) < (n : Int) + (m : Int) := by omega
      have HDS := Lib.hid hds
      have E0 := Gl.empty_ wA wA.heap.size M (Nat.le_refl _) rfl
      have E0 := Lib.hid E0
      have hbA := below_alloc1 wA (.cells #[] 2)
      have HBA := Lib.hid hbA
      clear st hds hbA
      go_wp2_with fail
      go_loopw [9, 10] (fun sv iv w8 => ∃ (f : Nat) (a : Option Addr) (cc : Nat), f ≤ M ∧ sv = .slice a f cc ∧ iv = .int .i64 f ∧ Gl w8 wA.heap.size a f cc M ∧ Below wA.heap.size wA w8) (fun _ iv _ => M - (intOf iv).toNat)
      case atStart => exact ⟨0, _, _, Nat.zero_le _, rfl, rfl, E0.out, HBA.out⟩
      case round =>
        clear E0 HBA x1 x2
        obtain ⟨f, a, cc, hf, rfl, rfl, hg, hb8⟩ := hrel
        obtain ⟨w8, rfl⟩ : ∃ x, x = wr := ⟨_, rfl⟩
        have hz8 := hb8.size
        have HBW := Lib.hid (hbw.out.trans (hb8.mono hzr))
        have HB8 := Lib.hid hb8
        have HG := Lib.hid hg
        have x1 := (K1q.out.belowS HBW.out).cell 0
        have x2 := (K2q.out.belowS HBW.out).cell 0
        simp at x1 x2
        clear hb8 hg
        by_cases hltf : f < M
        · obtain ⟨x, hx⟩ : ∃ x, f / K = x := ⟨_, rfl⟩
          obtain ⟨y, hy⟩ : ∃ y, f % K = y := ⟨_, rfl⟩
          have hyK : y < K := by rw [← hy]; exact Nat.mod_lt _ (by omega)
          have hxN : x < N := by rw [← hx]; exact Nat.div_lt_of_lt_mul (by rw [Nat.mul_comm, HM.out]; exact hltf)
          have t1 : (f : Int).tdiv (K : Int) = (x : Int) := by rw [← hx]; rfl
          have t2 : (f : Int).tmod (K : Int) = (y : Int) := by rw [← hy]; rfl
          have hK0 : ((K : Int) == 0) = false := by simp; omega
          have hK0' : (K : Int) ≠ 0 := by omega
          have hKn : ¬ K = 0 := by omega
          have hxw : IntKind.i64.wrap (x : Int) = (x : Int) := IntWalk.i64_in _ (by omega)
          clear hx hy
          by_cases hqn : q < n
          · obtain ⟨b2, off2, a2, n2, c2, rfl, hc2, hi2⟩ := (HDq.out.intss.below HBW.out).at_ hqn
            have hn2 : n2 = N := by rw [← hi2.1]; exact HT.out.len q (by omega)
            subst hn2
            obtain ⟨b4, off4, rfl, hc4⟩ := hi2.at_ hxN
            have hz := bTo_lt HT.out hxN (g := q) (by omega)
            obtain ⟨z, hze⟩ : ∃ z, bTo d x q = z := ⟨_, rfl⟩
            rw [hz.2, hze] at hc4
            rw [hze] at hz
            obtain ⟨P, hP⟩ : ∃ P, z * K = P := ⟨_, rfl⟩
            have hPM : P + y < M := by rw [← hP, ← HM.out]; exact beside_lt hz.1 hyK rfl
            have t3 : IntKind.i64.wrap ((z : Int) * (K : Int)) = (P : Int) := by rw [← Int.natCast_mul, hP]; exact IntWalk.i64_in _ (by omega)
            have t4 : IntKind.i64.wrap ((P : Int) + (y : Int)) = (P : Int) + (y : Int) := IntWalk.i64_in _ (by omega)
            have hx0 : (x : Int) < (n2 : Int) := by omega
            have hq0 : (q : Int) < (n : Int) := by omega
            clear hi2 hz hze hP
            go_upto_region 11 with fail
            go_region_law (refine gl_step (o := ⟨some 58, _, _, _, _, _⟩) etI rfl (.tmp 40) (.tmp 57) rfl wA.heap.size a f cc M rfl HG.out ((P : Int) + (y : Int)) rfl (by omega) (by omega) hz8 ?_; intro a9 c9 w9 g9 B9 gr9 hat9)
            all_goals
              have HG9 := Lib.hid g9
              have HB9 := Lib.hid (HB8.out.trans B9)
              clear g9 B9 gr9 hat9
              go_wp2_with fail
              go_roundw
            all_goals first | exact ⟨f + 1, a9, c9, by omega, rfl, by go_num, HG9.out, HB9.out⟩ | (simp [intOf]; omega)
          · obtain ⟨j, hqj⟩ : ∃ j, q = n + j := ⟨q - n, by omega⟩
            have hjm : j < m := by omega
            obtain ⟨b2, off2, a2, n2, c2, rfl, hc2, hi2⟩ := (HEq.out.intss.below HBW.out).at_ hjm
            have hn2 : n2 = K := by rw [← hi2.1]; exact HTE.out.len j (by omega)
            subst hn2
            obtain ⟨b4, off4, rfl, hc4⟩ := hi2.at_ hyK
            have hz := bTo_lt HTE.out hyK (g := j) (by omega)
            obtain ⟨z, hze⟩ : ∃ z, bTo e y j = z := ⟨_, rfl⟩
            rw [hz.2, hze] at hc4
            rw [hze] at hz
            obtain ⟨P, hP⟩ : ∃ P, x * n2 = P := ⟨_, rfl⟩
            have hPM : P + z < M := by rw [← hP, ← HM.out]; exact beside_lt hxN hz.1 rfl
            have t3 : IntKind.i64.wrap ((x : Int) * (n2 : Int)) = (P : Int) := by rw [← Int.natCast_mul, hP]; exact IntWalk.i64_in _ (by omega)
            have t4 : IntKind.i64.wrap ((P : Int) + (z : Int)) = (P : Int) + (z : Int) := IntWalk.i64_in _ (by omega)
            have t5 : IntKind.i64.wrap ((q : Int) - (n : Int)) = (j : Int) := by rw [IntWalk.i64_in _ (by omega)]; omega
            have t6 : (q : Int) - (n : Int) = (j : Int) := by omega
            have hqn' : (n : Int) ≤ (q : Int) := by omega
            have hjw : IntKind.i64.wrap (j : Int) = (j : Int) := IntWalk.i64_in _ (by omega)
            have hy0 : (y : Int) < (n2 : Int) := by omega
            have hj0 : (j : Int) < (m : Int) := by omega
            clear hi2 hze hP hqj
            go_upto_region 12 with fail
            go_region_law (refine gl_step (o := ⟨some 81, _, _, _, _, _⟩) etI rfl (.tmp 59) (.tmp 80) rfl wA.heap.size a f cc M rfl HG.out ((P : Int) + (z : Int)) rfl (by omega) (by omega) hz8 ?_; intro a9 c9 w9 g9 B9 gr9 hat9)
            all_goals
              have HG9 := Lib.hid g9
              have HB9 := Lib.hid (HB8.out.trans B9)
              clear g9 B9 gr9 hat9
              go_wp2_with fail
              go_roundw
            all_goals first | exact ⟨f + 1, a9, c9, by omega, rfl, by go_num, HG9.out, HB9.out⟩ | (simp [intOf]; omega)
        · obtain rfl : f = M := by omega
          have STB := Lib.hid (ST.out.below HB8.out)
          obtain ⟨zs, n8, m8, o8⟩ := HG.out
          have HO8 := Lib.hid o8
          have xb := STB.out.cell
          have hlo8 := STB.out.at_.2.2
          clear o8
          go_wp2_with (at_builtin; refine wpList_ap1 etSS _ rfl _ _ rfl (bx + 1) am q cm _ rfl STB.out.row.own (.slice a f cc) rfl rfl (by omega) hlo8 ?_; intro ao2 c2' w4 ho2 hg2 hat; have x4 := (STB.out.boxG hg2).cell 0; have f4 := (STB.out.boxG hg2).frozen 0)
          have SP := Lib.hid (ST.out.push (by omega) HB8.out HO8.out (Below.refl _ _) ho2 hg2 (hat.imp id fun e => ⟨_, e, Nat.le_succ _⟩))
          clear ho2 hg2 hat STB ST
          go_roundw
          case rel => exact ⟨q + 1, ao2, c2', _, _, by go_num, by omega, HDS.out.app n8 m8, SP.out⟩
          case measure => simp [intOf]; omega
    · obtain rfl : q = n + m := by omega
      have xb := st.cell
      have KRr := K3q.out.belowS hbw.out
      have xr := KRr.cell 0
      have fr := KRr.frozen 0
      have BF := Lib.hid (Bq.out.trans (hbw.out.mono (by omega)))
      have hwb : w.heap.size ≤ wq.heap.size := by omega
      simp at xr
      have hrl : ds.length = n + m := st.row.len
      clear st
      go_wp2
      have hfl : w.heap.size + 2 < bx := by rw [← HBX.out]; omega
      exact bodyPost_ret (v := .agg #[.slice am (n + m) cm]) (by simp [results, Try.f118, go_sem, xr]) rfl ⟨_, ds, rfl, ST.out.done hfl _ hwb, hrl, hds, BF.out.setCell (by simp; omega) _⟩
end Go.Proofs.Ytmdhljleaijkbaa

/- slices.Delete of one element, slices.Clone, at [][]int64; what the program and the reference leave out of a maniplex. -/
namespace Go.Proofs.Ytmdhljleaijkbaa
open Go.RowKit

end Go.Proofs.Ytmdhljleaijkbaa

/- What the program and the reference leave out of a maniplex: without, l02Others; flags. -/
namespace Go.Proofs.Ytmdhljleaijkbaa
open Go.RowKit

/-- values that read as lists, each within its capacity -/
def RwV (w : World) (us : List Value) (zss : List (List Int)) : Prop := us.length = zss.length ∧ ∀ j, j < zss.length → ∃ a' c', us[j]? = some (.slice a' (lget zss j).length c') ∧ (lget zss j).length ≤ c' ∧ Ints w a' (lget zss j).length (lget zss j)
theorem RwV.below {w w' : World} {us : List Value} {zss : List (List Int)} (h : RwV w us zss) (hb : Below w.heap.size w w') : RwV w' us zss :=
  ⟨h.1, fun j hj => by obtain ⟨a, c, h1, h2, h3⟩ := h.2 j hj; exact ⟨a, c, h1, h2, h3.below hb⟩⟩
theorem RwV.one {w : World} {us : List Value} {zss : List (List Int)} (h : RwV w us zss) : ∀ u ∈ us, u.oneCell' = true := fun u hu => by
  obtain ⟨j, hj, rfl⟩ := List.getElem_of_mem hu
  obtain ⟨a, c, h1, _, _⟩ := h.2 j (by rw [← h.1]; exact hj)
  rw [List.getElem?_eq_getElem hj] at h1
  rw [Option.some.inj h1]; rfl
theorem RdSSc.rows {w : World} {v : Value} {zss : List (List Int)} (h : RdSSc w v zss) : ∃ ao c us, v = .slice ao zss.length c ∧ Vals w ao zss.length us ∧ RwV w us zss ∧ (0 < zss.length → zss.length ≤ c) := by
  obtain ⟨ao, c, rfl, hn, hc⟩ := h
  rcases Nat.eq_zero_or_pos zss.length with h0 | h0
  · refine ⟨ao, c, [], rfl, ⟨by rw [h0]; rfl, hn, fun h => by omega⟩, ⟨by rw [h0]; rfl, fun j hj => by omega⟩, fun h => by omega⟩
  · obtain ⟨h1, b, off, e, hlt, h2⟩ := hc h0
    have hget : ∀ j, j < zss.length → ((List.range zss.length).map fun j => (w.cell? ⟨b, off + j, none⟩).getD (.slice none 0 0))[j]? = some ((w.cell? ⟨b, off + j, none⟩).getD (.slice none 0 0)) := fun j hj => by simp [hj]
    refine ⟨ao, c, (List.range zss.length).map fun j => (w.cell? ⟨b, off + j, none⟩).getD (.slice none 0 0), rfl, ⟨by simp, hn, fun _ => ⟨b, off, e, fun j u hu => ?_⟩⟩, ⟨by simp, fun j hj => ?_⟩, fun _ => h1⟩
    · have hj : j < zss.length := by have := (List.getElem?_eq_some_iff.1 hu).1; simpa using this
      obtain ⟨a', c', h3, _, _⟩ := h2 j hj
      rw [hget j hj, h3] at hu
      rw [h3]; exact hu
    · obtain ⟨a', c', h3, h4, h5⟩ := h2 j hj
      exact ⟨a', c', by rw [hget j hj, h3]; rfl, h4, h5⟩
end Go.Proofs.Ytmdhljleaijkbaa

/- IsPresentation: words, presentations, the program's and the reference's. -/
namespace Go.Proofs.Ytmdhljleaijkbaa
open Go.RowKit

theorem any_take_lget {zss : List (List Int)} {p : List Int → Bool} {k : Nat} (h : k < zss.length) : (zss.take (k + 1)).any p = ((zss.take k).any p || p (lget zss k)) := by
  rw [take_lget h, List.any_append]; simp
end Go.Proofs.Ytmdhljleaijkbaa

/- isPresentation, the program's: areWithin, isLetters, slices.ContainsFunc at [][]int64. -/
namespace Go.Proofs.Ytmdhljleaijkbaa
open Go.RowKit

/-- the first index at which p holds, or -1 -/
def findL (p : List Int → Bool) (zss : List (List Int)) : Int := match zss.findIdx? p with | some i => i | none => -1
theorem findL_none {p : List Int → Bool} {zss : List (List Int)} (h : zss.any p = false) : findL p zss = -1 := by
  have : zss.findIdx? p = none := by rw [List.findIdx?_eq_none_iff]; intro x hx; have := (List.any_eq_false.1 h) x hx; simpa using this
  simp [findL, this]
theorem findL_some {p : List Int → Bool} {zss : List (List Int)} {k : Nat} (hk : k < zss.length) (hn : (zss.take k).any p = false) (hp : p (lget zss k) = true) : findL p zss = k := by
  have : zss.findIdx? p = some k := by
    rw [List.findIdx?_eq_some_iff_getElem]
    refine ⟨hk, by rw [← lget_lt hk]; exact hp, fun j hj => ?_⟩
    have hx : zss[j]'(by omega) ∈ zss.take k := by rw [List.mem_take_iff_getElem]; exact ⟨j, by omega, rfl⟩
    have := (List.any_eq_false.1 hn) _ hx
    simpa using this
  simp [findL, this]
theorem findL_any (p : List Int → Bool) (zss : List (List Int)) : decide (0 ≤ findL p zss) = zss.any p := by
  cases h : zss.any p with
  | false => rw [findL_none h]; rfl
  | true =>
    rw [decide_eq_true_iff]
    unfold findL
    cases h2 : zss.findIdx? p with
    | some i => exact Int.natCast_nonneg i
    | none =>
      rw [List.findIdx?_eq_none_iff] at h2
      obtain ⟨x, hx, hp⟩ := List.any_eq_true.1 h
      have := h2 x hx
      simp [hp] at this

set_option maxHeartbeats 400000 in
theorem indexFuncL_any (fn : Nat) (cap : Array Value) (p : List Int → Bool) (ao : Option Addr) (n c : Nat) (zss : List (List Int)) (w : World) (h : Intss w ao n zss)
    (hcf : ∀ (args : Array Value) (w : World), (callFunc fn args).run Try.prog w = .ok (.enter fn args) w)
    (hf : ∀ j, j < n → ∀ w' a' n' c', Below w.heap.size w w' → Ints w' a' n' (lget zss j) → Calls Try.prog fn (#[.slice a' n' c'] ++ cap) w' fun e w'' => e = .returned (.bool (p (lget zss j))) ∧ Below w'.heap.size w' w'') :
    Calls Try.prog 105 #[.slice ao n c, .func (.func fn) #[] cap] w fun e w' => e = .returned (.int .i64 (findL p zss)) ∧ Below w.heap.size w w' := by
  have hn := h.2.1
  have HF := Lib.hid hf
  clear hf
  have HL := Lib.hid h.1
  go_enter Try.func105, Try.ntmps105
  go_wp2
  go_loopw [8] (fun i wr => ∃ k : Nat, k ≤ n ∧ i = .int .i64 k ∧ (zss.take k).any p = false ∧ Below w.heap.size w wr) (fun i _ => n - (intOf i).toNat)
  case atStart => exact ⟨0, Nat.zero_le _, rfl, by simp, Below.refl _ _⟩
  case round =>
    obtain ⟨k, hk, rfl, hpre, hb⟩ := hrel
    have HP := Lib.hid hpre
    clear hpre
    by_cases hlt : k < n
    · obtain ⟨b, off, a1, n1, c1, rfl, hc, hin⟩ := (h.below hb).at_ hlt
      have HI := Lib.hid hin
      clear h hin
      cases hp : p (lget zss k) with
      | true =>
        have HX := Lib.hid hp
        clear hp
        go_wp2_with fail
        refine (HF.out k hlt _ a1 n1 c1 hb HI.out).mono ?_
        rintro e w1 ⟨rfl, hb1⟩
        rw [HX.out]
        go_wp2
        go_ret
        exact ⟨ret_int (findL_some (by rw [HL.out]; exact hlt) HP.out HX.out).symm, hb.trans (hb1.mono hb.size)⟩
      | false =>
        have HX := Lib.hid hp
        clear hp
        go_wp2_with fail
        refine (HF.out k hlt _ a1 n1 c1 hb HI.out).mono ?_
        rintro e w1 ⟨rfl, hb1⟩
        rw [HX.out]
        go_wp2
        go_roundw
        case rel => exact ⟨k + 1, by omega, by go_num, by rw [any_take_lget (by rw [HL.out]; exact hlt), HP.out, HX.out]; rfl, hb.trans (hb1.mono hb.size)⟩
        case measure => simp [intOf]; omega
    · obtain rfl : k = n := by omega
      go_wp2
      go_ret
      exact ⟨ret_int (findL_none (by have := HP.out; rwa [List.take_of_length_le (Nat.le_of_eq HL.out)] at this)).symm, hb⟩

theorem containsFuncL_any (fn : Nat) (cap : Array Value) (p : List Int → Bool) (ao : Option Addr) (n c : Nat) (zss : List (List Int)) (w : World) (h : Intss w ao n zss)
    (hcf : ∀ (args : Array Value) (w : World), (callFunc fn args).run Try.prog w = .ok (.enter fn args) w)
    (hf : ∀ j, j < n → ∀ w' a' n' c', Below w.heap.size w w' → Ints w' a' n' (lget zss j) → Calls Try.prog fn (#[.slice a' n' c'] ++ cap) w' fun e w'' => e = .returned (.bool (p (lget zss j))) ∧ Below w'.heap.size w' w'') :
    Calls Try.prog 59 #[.slice ao n c, .func (.func fn) #[] cap] w fun e w' => e = .returned (.bool (zss.any p)) ∧ Below w.heap.size w w' := by
  have HF := Lib.hid hf
  clear hf
  go_enter Try.func59, Try.ntmps59
  go_wp2_with fail
  refine (indexFuncL_any fn cap p ao n c zss w h hcf HF.out).mono ?_
  rintro e w1 ⟨rfl, hb1⟩
  go_wp2
  go_ret
  exact ⟨ret_bool (findL_any p zss), hb1⟩

end Go.Proofs.Ytmdhljleaijkbaa

/- Words that lead points through a table: l11Lead, applied; what a presentation's words are. -/
namespace Go.Proofs.Ytmdhljleaijkbaa
open Go.RowKit

end Go.Proofs.Ytmdhljleaijkbaa

/- One list of numbers behind another. No program in sight. -/
namespace Go.Proofs.Ytmdhljleaijkbaa

def thenL (p q : List Int) : List Int := p.map fun x => iget q x.toNat
theorem length_thenL (p q : List Int) : (thenL p q).length = p.length := by simp [thenL]
theorem iget_thenL {p q : List Int} {k : Nat} (h : k < p.length) : iget (thenL p q) k = iget q (iget p k).toNat := by
  rw [iget_lt (by rw [length_thenL]; exact h), iget_lt h]; simp [thenL]
end Go.Proofs.Ytmdhljleaijkbaa

/- Words that lead points through permutations: l11Lead, applied, then, isIdentity, arePermutations. -/
namespace Go.Proofs.Ytmdhljleaijkbaa
open Go.RowKit

set_option maxRecDepth 100000 in
set_option maxHeartbeats 800000 in
theorem then_any (ao : Option Addr) (n c : Nat) (ps : List Int) (bo : Option Addr) (n' c' : Nat) (qs : List Int) (w : World) (h : Ints w ao n ps) (h' : Ints w bo n' qs) (hn : n ≤ 1048576) (hp : ∀ k, k < n → 0 ≤ iget ps k ∧ iget ps k < n') :
    Calls Try.prog 104 #[.slice ao n c, .slice bo n' c'] w fun e w' => ∃ ao' c', e = .returned (.slice ao' n c') ∧ Own w' w.heap.size 2 ao' n c' ((thenL ps qs).map (Value.int .i64)) ∧ Below w.heap.size w w' := by
  have HL := Lib.hid h.1
  have hn' := h'.2.1
  have HP := Lib.hid hp
  clear hp
  go_enter Try.func104, Try.ntmps104
  go_wp2_with (at_make; refine wpList_mk etI _ rfl _ _ rfl w.heap.size _ _ _ _ n rfl rfl rfl rfl (by omega) (Nat.le_refl _) ?_; intro w1 hown hgrow hsz)
  have hb1 : Below w.heap.size w w1 := (Below.refl _ _).grown hgrow (Nat.le_refl _) (by simp)
  clear hgrow hsz
  go_loopw [13] (fun i wr => ∃ k : Nat, k ≤ n ∧ i = .int .i64 k ∧ Own wr w.heap.size 2 (some ⟨w.heap.size, 0, none⟩) n n (((thenL ps qs).take k ++ List.replicate (n - k) 0).map (Value.int .i64)) ∧ Below w.heap.size w wr) (fun i _ => n - (intOf i).toNat)
  case atStart => exact ⟨0, Nat.zero_le _, rfl, by simpa using hown, hb1⟩
  case round =>
    obtain ⟨k, hk, rfl, ho, hb⟩ := hrel
    clear hown hb1
    by_cases hlt : k < n
    · have h1 := HP.out k hlt
      obtain ⟨y, hy⟩ := Int.eq_ofNat_of_zero_le h1.1
      rw [hy] at h1
      have hyn : y < n' := by omega
      obtain ⟨b, off, rfl, hc⟩ := (h.below hb).at_ hlt
      obtain ⟨b2, off2, rfl, hc2⟩ := (h'.below hb).at_ hyn
      have HV : Hid (iget (thenL ps qs) k = iget qs y) := Lib.hid (by rw [iget_thenL (by rw [HL.out]; exact hlt), hy]; rfl)
      rw [hy] at hc
      have S := ho.stored k (.int .i64 (iget qs y))
      obtain ⟨gc, egc, -, -, -, hcell, hfrz⟩ := ho.form (by omega)
      injection egc with egc; injection egc with egc; subst egc
      have hz := hcell k hlt
      have hf := hfrz k
      rw [List.getElem?_map, List.getElem?_append_right (by simp; omega)] at hz
      have hlk : (List.take k (thenL ps qs)).length = k := by rw [List.length_take, length_thenL, HL.out]; omega
      rw [hlk, Nat.sub_self, List.getElem?_replicate, if_pos (by omega)] at hz
      simp only [Option.map_some] at hz
      have hset : ((thenL ps qs).take k ++ List.replicate (n - k) 0).set k (iget qs y) = (thenL ps qs).take (k + 1) ++ List.replicate (n - (k + 1)) 0 := by
        rw [set_padL hlk hlt, take_iget (by rw [length_thenL, HL.out]; exact hlt), HV.out]
      have hS : Own (wr.setCell ⟨w.heap.size, k, none⟩ (.int .i64 (iget qs y))) w.heap.size 2 (some ⟨w.heap.size, 0, none⟩) n n (((thenL ps qs).take (k + 1) ++ List.replicate (n - (k + 1)) 0).map (Value.int .i64)) := by
        rw [← hset, List.map_set]; exact S.1
      have HS := Lib.hid hS
      have HB := Lib.hid (hb.setCell (p := ⟨w.heap.size, k, none⟩) (Nat.le_refl _) (.int .i64 (iget qs y)))
      clear S hS hset hcell hfrz ho hb h1 hy h h' hlk
      go_wp2
      go_roundw
      case rel => exact ⟨k + 1, by omega, by go_num, HS.out, HB.out⟩
      case measure => simp [intOf]; omega
    · obtain rfl : k = n := by omega
      rw [Nat.sub_self, List.replicate_zero, List.append_nil, List.take_of_length_le (Nat.le_of_eq (by rw [length_thenL, HL.out]))] at ho
      go_wp2
      go_ret
      exact ⟨_, _, rfl, ho, hb⟩

end Go.Proofs.Ytmdhljleaijkbaa

/- holdIn: whether permutations hold a presentation. -/
namespace Go.Proofs.Ytmdhljleaijkbaa
open Go.RowKit

end Go.Proofs.Ytmdhljleaijkbaa

/- HoldIn, the reference's. -/
namespace Go.Proofs.Ytmdhljleaijkbaa
open Go.RowKit

end Go.Proofs.Ytmdhljleaijkbaa

/- HoldIn, the program's, and both doors. -/
namespace Go.Proofs.Ytmdhljleaijkbaa
open Go.RowKit

end Go.Proofs.Ytmdhljleaijkbaa

/- What the reference leaves out of a maniplex: l02Others; numbers of flags. -/
namespace Go.Proofs.Ytmdhljleaijkbaa
open Go.RowKit

end Go.Proofs.Ytmdhljleaijkbaa

/- Coset enumeration: what it computes, on lists. No program in sight. -/
namespace Go.Proofs.Ytmdhljleaijkbaa

/-- where a coset is after all identifications -/
def toRoot (less : List Int) : Nat → Nat → Nat
  | 0, c => c
  | f + 1, c => if iget less c = c then c else toRoot less f (iget less c).toNat
/-- each coset points to itself or to a lesser one -/
def Down (less : List Int) : Prop := ∀ c, c < less.length → 0 ≤ iget less c ∧ iget less c ≤ c
def root (less : List Int) (c : Nat) : Nat := toRoot less (c + 1) c
theorem toRoot_more {less : List Int} (hd : Down less) : ∀ (f f' c : Nat), c < less.length → c < f → c < f' → toRoot less f c = toRoot less f' c := by
  intro f
  induction f with
  | zero => intro f' c _ h; omega
  | succ f ih =>
    intro f' c hc h h'
    cases f' with
    | zero => omega
    | succ f' =>
      unfold toRoot
      by_cases e : iget less c = c
      · rw [if_pos e, if_pos e]
      · rw [if_neg e, if_neg e]
        have h1 := hd c hc
        exact ih f' _ (by omega) (by omega) (by omega)
theorem root_of {less : List Int} {c : Nat} (h : iget less c = c) : root less c = c := by unfold root toRoot; rw [if_pos h]
theorem root_step {less : List Int} (hd : Down less) {c : Nat} (hc : c < less.length) (h : iget less c ≠ c) : root less c = root less (iget less c).toNat := by
  have h1 := hd c hc
  unfold root
  rw [show toRoot less (c + 1) c = toRoot less c (iget less c).toNat by rw [toRoot, if_neg h]]
  exact toRoot_more hd _ _ _ (by omega) (by omega) (by omega)
theorem root_fix {less : List Int} (hd : Down less) : ∀ c, c < less.length → iget less (root less c) = root less c ∧ root less c ≤ c := by
  intro c
  induction c using Nat.strongRecOn with
  | _ c ih =>
    intro hc
    by_cases e : iget less c = c
    · rw [root_of e]; exact ⟨e, Nat.le_refl _⟩
    · have h1 := hd c hc
      rw [root_step hd hc e]
      have := ih (iget less c).toNat (by omega) (by omega)
      exact ⟨this.1, by omega⟩
theorem root_lt {less : List Int} (hd : Down less) {c : Nat} (hc : c < less.length) : root less c < less.length := Nat.lt_of_le_of_lt (root_fix hd c hc).2 hc

def ent (im : List (List Int)) (c g : Nat) : Int := iget (lget im c) g
def image (im : List (List Int)) (less : List Int) (c g : Nat) : Int := if ent im c g < 0 then -1 else root less (ent im c g).toNat

theorem iget_set {zs : List Int} {i j : Nat} {z : Int} : iget (zs.set i z) j = if i = j ∧ i < zs.length then z else iget zs j := by
  simp only [iget, List.getD_eq_getElem?_getD, List.getElem?_set]
  by_cases h : i = j
  · subst h
    by_cases h2 : i < zs.length
    · simp [h2]
    · simp [h2]
  · simp [h]
theorem lget_set {zss : List (List Int)} {i j : Nat} {z : List Int} : lget (zss.set i z) j = if i = j ∧ i < zss.length then z else lget zss j := by
  simp only [lget, List.getD_eq_getElem?_getD, List.getElem?_set]
  by_cases h : i = j
  · subst h
    by_cases h2 : i < zss.length
    · simp [h2]
    · simp [h2]
  · simp [h]
theorem rset_len (im : List (List Int)) (c g : Nat) (z : Int) : (rset im c g z).length = im.length := by simp [rset]
theorem rset_row (im : List (List Int)) (c g : Nat) (z : Int) (k : Nat) : (lget (rset im c g z) k).length = (lget im k).length := by
  unfold rset
  rw [lget_set]
  split
  · rename_i h; rw [← h.1]; simp
  · rfl
theorem ent_rset {im : List (List Int)} {c g k j : Nat} {z : Int} (hc : c < im.length) (hg : g < (lget im c).length) : ent (rset im c g z) k j = if c = k ∧ g = j then z else ent im k j := by
  unfold ent rset
  rw [lget_set]
  by_cases h : c = k
  · subst h
    rw [if_pos ⟨rfl, hc⟩, iget_set]
    by_cases h2 : g = j
    · subst h2; rw [if_pos ⟨rfl, hg⟩, if_pos ⟨rfl, rfl⟩]
    · rw [if_neg (fun e => h2 e.1), if_neg (fun e => h2 e.2)]
  · rw [if_neg (fun e => h e.1), if_neg (fun e => h e.1)]

structure WF (ng : Nat) (im : List (List Int)) (less : List Int) : Prop where
  len : im.length = less.length
  row : ∀ c, c < im.length → (lget im c).length = ng
  down : Down less
  ent : ∀ c g, c < im.length → g < ng → ent im c g < less.length
theorem WF.set_im {ng : Nat} {im : List (List Int)} {less : List Int} (h : WF ng im less) {c g : Nat} {z : Int} (hc : c < im.length) (hg : g < ng) (hz : z < less.length) : WF ng (rset im c g z) less :=
  { len := by rw [rset_len]; exact h.len
    row := fun k hk => by rw [rset_row]; exact h.row k (by rwa [rset_len] at hk)
    down := h.down
    ent := fun k j hk hj => by
      rw [ent_rset hc (by rw [h.row c hc]; exact hg)]
      split
      · exact hz
      · exact h.ent k j (by rwa [rset_len] at hk) hj }
def alive (less : List Int) : Nat := ((List.range less.length).filter fun c => iget less c == (c : Int)).length
def fuel (ng : Nat) (less : List Int) (q : List (Int × Int)) : Nat := alive less * (ng + 1) + q.length
end Go.Proofs.Ytmdhljleaijkbaa
