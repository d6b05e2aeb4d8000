/- Torus maps: l10Torus walked, up to its form. guards: -/
import Derived.Test.YtmdhljleaijkbaaPart6
import Derived.Test.YtmdhljleaijkbaaPart1
import Derived.Test.YtmdhljleaijkbaaProg
import Derived.Laws.StructEq
import Derived.Maps.OwnSet
import Derived.Test.YtmdhljleaijkbaaPart5
import Derived.Deep.DeepCutAuto
import Derived.Deep.CutBlock
import Derived.Deep.RegionLaw
import Derived.Test.YtmdhljleaijkbaaPart2
import Derived.Test.YtmdhljleaijkbaaPart3
import Derived.Test.YtmdhljleaijkbaaPart4
namespace Go.Proofs.Ytmdhljleaijkbaa
open Go.RowKit

attribute [local irreducible] IntKind.wrap
theorem iget_in {n : Nat} {l : List Int} (h : ∀ z ∈ l, 0 ≤ z ∧ z < n) (h0 : 0 < n) (i : Nat) : 0 ≤ iget l i ∧ iget l i < n := by
  by_cases hi : i < l.length
  · exact h _ (iget_mem hi)
  · have : iget l i = 0 := by simp [iget, List.getElem?_eq_none (by omega : l.length ≤ i)]
    omega
set_option maxRecDepth 100000 in
set_option maxHeartbeats 4000000 in
theorem torS_fc (b c n : Nat) (hb : b ≤ 7) (hc : c ≤ 7) (hn : b * b + c * c = n) (h0 : 0 < n) (hfull : (cAll b c n n).1.length = n) (R : List (List Int)) (hR3 : R.length = 3)
    (hF : FC Try.prog 68 [(1003, rowsRo [tRow0 (8 * n), tRow1 (8 * n), tRow2 b c n (cAll b c n n) (8 * n)])] [mA 3, vv (I6 0)] [(9, imOw R)] (.s (.agg [.sl 9 0 3])) []) :
    FC Try.prog 38 [] [vv (I6 b), vv (I6 c)] [(180, imOw R)] (.s (.agg [.sl 180 0 3])) [] := by
  obtain ⟨hbb, hcc⟩ := torN hb hc
  have hn98 : n ≤ 98 := by omega
  have e1 : IntKind.i64.wrap ((b : Int) * b) = ((b * b : Nat) : Int) := by rw [← Int.natCast_mul]; exact IntWalk.i64_in _ (by omega)
  have e2 : IntKind.i64.wrap ((c : Int) * c) = ((c * c : Nat) : Int) := by rw [← Int.natCast_mul]; exact IntWalk.i64_in _ (by omega)
  have e3 : IntKind.i64.wrap (((b * b : Nat) : Int) + ((c * c : Nat) : Int)) = (n : Int) := by rw [IntWalk.i64_in _ (by omega)]; omega
  have hSame : ∀ x y : Int, -1000 ≤ x ∧ x ≤ 1000 → -1000 ≤ y ∧ y ≤ 1000 → FC Try.prog 67 [] [vv (I6 b), vv (I6 c), vv (I6 x), vv (I6 y)] [] (vv (.bool (sameB b c x y))) [] := fun x y => same_fc b c x y hb hc (by omega)
  have hCO : ∀ k, k ≤ n → COk n (cAll b c n k) := fun k => COk.all k
  generalize b * b = bb at *
  generalize c * c = cc at *
  refine fc_enter (nt := 181) Try.func38 rfl rfl (by simp) fun w0 ω0 => ?_
  (refine goes_seq ?_; refine goes_region ?_; apply run_step rfl; (exact stp_allocZ [.slice none 0 0] rfl (by as_aux_lemma => kernel_rfl)); refine run_nil ?_; refine fin_seq ?_; refine goes_seq ?_; refine goes_region ?_; apply run_step rfl; (exact stp_move rfl rfl); apply run_step rfl; (exact stp_move rfl rfl); apply run_step rfl; (first | exact stp_mul rfl rfl rfl e1 | exact stp_mul rfl rfl rfl e2 | exact stp_add rfl rfl rfl e3 | exact stp_lit0 rfl (by as_aux_lemma => kernel_rfl)); apply run_step rfl; (exact stp_move rfl rfl); apply run_step rfl; (exact stp_move rfl rfl); apply run_step rfl; (first | exact stp_mul rfl rfl rfl e1 | exact stp_mul rfl rfl rfl e2 | exact stp_add rfl rfl rfl e3 | exact stp_lit0 rfl (by as_aux_lemma => kernel_rfl)); apply run_step rfl; (first | exact stp_mul rfl rfl rfl e1 | exact stp_mul rfl rfl rfl e2 | exact stp_add rfl rfl rfl e3 | exact stp_lit0 rfl (by as_aux_lemma => kernel_rfl)); apply run_step rfl; (exact stp_assign rfl rfl); refine run_nil ?_; refine fin_seq ?_; refine goes_seq ?_; refine goes_region ?_; apply run_step rfl; (exact stp_lit0 (E := 2) (k := 1) rfl (by as_aux_lemma => kernel_rfl)); apply run_step rfl; (exact stp_lit0 (E := 2) (k := 1) rfl (by as_aux_lemma => kernel_rfl)); apply run_step rfl; (exact stp_assign rfl rfl); apply run_step rfl; (exact stp_assign rfl rfl); refine run_nil ?_; refine fin_seq ?_; refine goes_seq ?_; refine goes_seq ?_; refine goes_region ?_; apply run_step rfl; (exact stp_assign rfl rfl); refine run_nil ?_; refine fin_seq ?_; refine goes_block ?_)
  refine goes_loop (fun q : Nat × (List Int × List Int) => St.of [(0, vv (I6 b)), (1, vv (I6 c)), (4, o1 (.ptr 4 0)), (5, vv (I6 n)), (6, o1 (.sl 29 0 q.2.1.length)), (7, o1 (.sl 30 0 q.2.2.length)), (8, vv (I6 q.1))] [(4, mBox), (29, leOw q.2.1), (30, leOw q.2.2)])
    (fun q => q.1 ≤ n ∧ cAll b c n q.1 = q.2) (fun q => n - q.1) (0, ([], [])) ⟨Nat.zero_le _, rfl⟩ (Wk.of ⟨rfl, rfl, rfl, rfl, rfl, rfl, rfl, trivial⟩ ⟨rfl, rfl, rfl, trivial⟩ trivial) ?_
  rintro ⟨x, s⟩ ⟨hx, hs⟩
  dsimp only at hx hs ⊢
  (refine goes_seq ?_; refine goes_seq ?_; refine goes_region ?_; apply run_step rfl; (exact stp_move rfl rfl); apply run_step rfl; (exact stp_move rfl rfl); apply run_step rfl; (exact stp_bin rfl rfl rfl rfl); refine run_nil ?_; refine fin_seq ?_)
  refine goes_if rfl (fun h1 => ?_) (fun h1 => ?_)
  · have hxn : x < n := by omega
    have hC0 : COk n s := by rw [← hs]; exact hCO x hx
    have hnext : cAll b c n (x + 1) = cRow b c n x s n := by rw [cAll_succ, hs]
    (refine goes_skip ?_; refine fin_seq ?_; refine goes_seq ?_; refine goes_block ?_; refine goes_seq ?_; refine goes_region ?_; apply run_step rfl; (exact stp_assign rfl rfl); refine run_nil ?_; refine fin_seq ?_; refine goes_block ?_)
    refine goes_loop (fun q : Nat × (List Int × List Int) => St.of [(0, vv (I6 b)), (1, vv (I6 c)), (4, o1 (.ptr 4 0)), (5, vv (I6 n)), (6, o1 (.sl 29 0 q.2.1.length)), (7, o1 (.sl 30 0 q.2.2.length)), (8, vv (I6 x)), (9, vv (I6 q.1))] [(4, mBox), (29, leOw q.2.1), (30, leOw q.2.2)])
      (fun q => q.1 ≤ n ∧ cRow b c n x s q.1 = q.2) (fun q => n - q.1) (0, s) ⟨Nat.zero_le _, rfl⟩ (Wk.of ⟨rfl, rfl, rfl, rfl, rfl, rfl, rfl, rfl, trivial⟩ ⟨rfl, rfl, rfl, trivial⟩ trivial) ?_
    rintro ⟨y, u⟩ ⟨hy, hu⟩
    dsimp only at hy hu ⊢
    (refine goes_seq ?_; refine goes_seq ?_; refine goes_region ?_; apply run_step rfl; (exact stp_move rfl rfl); apply run_step rfl; (exact stp_move rfl rfl); apply run_step rfl; (exact stp_bin rfl rfl rfl rfl); refine run_nil ?_; refine fin_seq ?_)
    refine goes_if rfl (fun h2 => ?_) (fun h2 => ?_)
    · have hyn : y < n := by omega
      have hC : COk n u := by rw [← hu]; exact hC0.row hxn y hy
      have hst : cRow b c n x s (y + 1) = cStep b c n x u y := by rw [cRow_succ, hu]
      clear hu
      have hle := hC.le
      (refine goes_skip ?_; refine fin_seq ?_; refine goes_seq ?_; refine goes_block ?_; refine goes_seq ?_; refine goes_region ?_; apply run_step rfl; (exact stp_move rfl rfl); apply run_step rfl; (exact stp_len rfl rfl rfl (by as_aux_lemma => kernel_rfl)); apply run_step rfl; (exact stp_move rfl rfl); apply run_step rfl; (exact stp_bin rfl rfl rfl rfl); apply run_step rfl; (exact stp_assign rfl rfl); refine run_nil ?_; refine fin_seq ?_; refine goes_seq ?_; refine goes_seq ?_; refine goes_region ?_; apply run_step rfl; (exact stp_assign rfl rfl); refine run_nil ?_; refine fin_seq ?_; refine goes_block ?_)
      refine goes_loop (fun q : Nat × Bool => St.of [(0, vv (I6 b)), (1, vv (I6 c)), (4, o1 (.ptr 4 0)), (5, vv (I6 n)), (6, o1 (.sl 29 0 u.1.length)), (7, o1 (.sl 30 0 u.2.length)), (8, vv (I6 x)), (9, vv (I6 y)), (10, vv (.bool q.2)), (11, vv (I6 q.1))] [(4, mBox), (29, leOw u.1), (30, leOw u.2)])
        (fun q => q.1 ≤ u.1.length ∧ (decide ((u.1.length : Int) < (n : Int)) && freB b c u x y q.1) = q.2) (fun q => u.1.length - q.1) (0, decide ((u.1.length : Int) < (n : Int))) ⟨Nat.zero_le _, by rw [freB_zero, Bool.and_true]⟩ (Wk.of ⟨rfl, rfl, rfl, rfl, rfl, rfl, rfl, rfl, rfl, rfl, trivial⟩ ⟨rfl, rfl, rfl, trivial⟩ trivial) ?_
      rintro ⟨i, fr⟩ ⟨hi, hfr⟩
      dsimp only at hi hfr ⊢
      cases fr with
      | true =>
        by_cases hil : i < u.1.length
        · have hlt : (i : Int) < (u.1.length : Int) := by omega
          have ga : (ivals u.1)[i]? = some (I6 (iget u.1 i)) := ivals_get hil
          have gb : (ivals u.2)[i]? = some (I6 (iget u.2 i)) := ivals_get (by rw [hC.len]; exact hil)
          have ba := iget_in hC.a h0 i
          have bb' := iget_in hC.b h0 i
          have hil2 : i < u.2.length := by rw [hC.len]; exact hil
          have la : u.1.length ≤ (ivals u.1).length := by rw [ivals_len]; exact Nat.le_refl _
          have lb : u.2.length ≤ (ivals u.2).length := by rw [ivals_len]; exact Nat.le_refl _
          have hfs := freB_succ b c u x y i
          have hS := hSame ((x : Int) - iget u.1 i) ((y : Int) - iget u.2 i) (by omega) (by omega)
          obtain ⟨z1, hz1⟩ : ∃ z, z = (x : Int) - iget u.1 i := ⟨_, rfl⟩
          obtain ⟨z2, hz2⟩ : ∃ z, z = (y : Int) - iget u.2 i := ⟨_, rfl⟩
          have d1 : IntKind.i64.wrap ((x : Int) - iget u.1 i) = z1 := by rw [hz1]; exact IntWalk.i64_in _ (by omega)
          have d2 : IntKind.i64.wrap ((y : Int) - iget u.2 i) = z2 := by rw [hz2]; exact IntWalk.i64_in _ (by omega)
          rw [← hz1, ← hz2] at hfs hS
          clear hz1 hz2
          (refine goes_seq ?_; refine goes_seq ?_; refine goes_region ?_; apply run_step rfl; (exact stp_move rfl rfl); apply run_step rfl; (exact stp_move rfl rfl); apply run_step rfl; (exact stp_len rfl rfl rfl (by as_aux_lemma => kernel_rfl)); apply run_step rfl; (exact stp_bin rfl rfl rfl (show binI .i64 .lss (i : Int) (u.1.length : Int) = some (.bool true) by simp [binI, hil])); apply run_step rfl; (exact stp_move rfl rfl); apply run_gYes rfl rfl rfl; (exact stp_move rfl rfl); apply run_step rfl; (exact stp_pickT rfl rfl rfl); refine run_nil ?_; refine fin_seq ?_)
          refine goes_cond rfl (fun _ => ?_) (fun e => by cases e)
          (refine goes_skip ?_; refine fin_seq ?_; refine goes_seq ?_; refine goes_block ?_)
          apply goes_draw 14 [] [[], [], [], [], [], [3, 4], [3, 4, 5], [2, 3, 4, 5, 6], [], [], [], [9, 10], [9, 10, 11], [8, 9, 10, 11, 12], [0, 1, 2, 3, 4, 5, 6, 7, 8, 9, 10, 11, 12, 13], [0, 1, 2, 3, 4, 5, 6, 7, 8, 9, 10, 11, 12, 13, 14], [0, 1, 2, 3, 4, 5, 6, 7, 8, 9, 10, 11, 12, 13, 14, 15]] [54, 55, 56, 57, 58, 59, 60, 61, 62, 63, 64, 65, 66, 67] [] (by kernel_rfl) (by kernel_rfl)
          · (apply draw_put rfl; (intro S1 hS; exact stp_move rfl (hS.op rfl)); apply draw_put rfl; (intro S1 hS; exact stp_move rfl (hS.op rfl)); apply draw_put rfl; (intro S1 hS; exact stp_move rfl (hS.op rfl)); apply draw_put rfl; (intro S1 hS; exact stp_move rfl (hS.op rfl)); apply draw_put rfl; (intro S1 hS; exact stp_move rfl (hS.op rfl)); (first | (apply draw_put rfl; (focus (intro S1 hS; exact stp_ix (j := i) rfl (hS.op rfl) (hS.op rfl) (hS.ch _ _ rfl) rfl (by as_aux_lemma => kernel_rfl) rfl hil la))) | (apply draw_put rfl; (focus (intro S1 hS; exact stp_ix (j := i) rfl (hS.op rfl) (hS.op rfl) (hS.ch _ _ rfl) rfl (by as_aux_lemma => kernel_rfl) rfl hil2 lb))) | (apply draw_put rfl; (focus (intro S1 hS; exact stp_sub rfl (hS.op rfl) (hS.op rfl) d1))) | (apply draw_put rfl; (focus (intro S1 hS; exact stp_sub rfl (hS.op rfl) (hS.op rfl) d2)))); apply draw_put rfl; (intro S1 hS; exact stp_loadV rfl (by as_aux_lemma => kernel_rfl) (hS.op rfl) (hS.ch _ _ rfl) rfl (by first | assumption | exact ivals_get (by assumption) | exact irows_get (by assumption) | exact ivals_get (by omega) | exact irows_get (by omega) | rfl)); (first | (apply draw_put rfl; (focus (intro S1 hS; exact stp_ix (j := i) rfl (hS.op rfl) (hS.op rfl) (hS.ch _ _ rfl) rfl (by as_aux_lemma => kernel_rfl) rfl hil la))) | (apply draw_put rfl; (focus (intro S1 hS; exact stp_ix (j := i) rfl (hS.op rfl) (hS.op rfl) (hS.ch _ _ rfl) rfl (by as_aux_lemma => kernel_rfl) rfl hil2 lb))) | (apply draw_put rfl; (focus (intro S1 hS; exact stp_sub rfl (hS.op rfl) (hS.op rfl) d1))) | (apply draw_put rfl; (focus (intro S1 hS; exact stp_sub rfl (hS.op rfl) (hS.op rfl) d2)))); apply draw_put rfl; (intro S1 hS; exact stp_move rfl (hS.op rfl)); apply draw_put rfl; (intro S1 hS; exact stp_move rfl (hS.op rfl)); apply draw_put rfl; (intro S1 hS; exact stp_move rfl (hS.op rfl)); (first | (apply draw_put rfl; (focus (intro S1 hS; exact stp_ix (j := i) rfl (hS.op rfl) (hS.op rfl) (hS.ch _ _ rfl) rfl (by as_aux_lemma => kernel_rfl) rfl hil la))) | (apply draw_put rfl; (focus (intro S1 hS; exact stp_ix (j := i) rfl (hS.op rfl) (hS.op rfl) (hS.ch _ _ rfl) rfl (by as_aux_lemma => kernel_rfl) rfl hil2 lb))) | (apply draw_put rfl; (focus (intro S1 hS; exact stp_sub rfl (hS.op rfl) (hS.op rfl) d1))) | (apply draw_put rfl; (focus (intro S1 hS; exact stp_sub rfl (hS.op rfl) (hS.op rfl) d2)))); apply draw_put rfl; (intro S1 hS; exact stp_loadV rfl (by as_aux_lemma => kernel_rfl) (hS.op rfl) (hS.ch _ _ rfl) rfl (by first | assumption | exact ivals_get (by assumption) | exact irows_get (by assumption) | exact ivals_get (by omega) | exact irows_get (by omega) | rfl)); (first | (apply draw_put rfl; (focus (intro S1 hS; exact stp_ix (j := i) rfl (hS.op rfl) (hS.op rfl) (hS.ch _ _ rfl) rfl (by as_aux_lemma => kernel_rfl) rfl hil la))) | (apply draw_put rfl; (focus (intro S1 hS; exact stp_ix (j := i) rfl (hS.op rfl) (hS.op rfl) (hS.ch _ _ rfl) rfl (by as_aux_lemma => kernel_rfl) rfl hil2 lb))) | (apply draw_put rfl; (focus (intro S1 hS; exact stp_sub rfl (hS.op rfl) (hS.op rfl) d1))) | (apply draw_put rfl; (focus (intro S1 hS; exact stp_sub rfl (hS.op rfl) (hS.op rfl) d2)))); exact Draw.nil)
          · rfl
          ((apply rest_one 14 rfl (by as_aux_lemma => kernel_rfl) rfl rfl; (apply call_gate 67; exact stp_callR hS (by as_aux_lemma => kernel_rfl) rfl rfl ⟨rfl, rfl, rfl, rfl, trivial⟩ trivial rfl rfl)); (apply rest_one 15 rfl (by as_aux_lemma => kernel_rfl) rfl rfl; (exact stp_not rfl rfl)); (apply rest_one 16 rfl (by as_aux_lemma => kernel_rfl) rfl rfl; (exact stp_assign rfl rfl)); (refine rest_done (by as_aux_lemma => kernel_rfl) ?_; skip))
          (refine fin_block ?_; refine fin_seq ?_; refine goes_region ?_; apply run_step rfl; (exact stp_move rfl rfl); apply run_step rfl; (exact stp_add rfl rfl rfl (by first | exact IntWalk.i64_in _ (by omega) | rfl)); apply run_step rfl; (exact stp_assign rfl rfl); refine run_nil ?_)
          exact fin_round (i + 1, !sameB b c z1 z2) ⟨hil, by rw [hfs, ← Bool.and_assoc, hfr, Bool.true_and]⟩ (by show u.1.length - (i + 1) < u.1.length - i; omega) (Wk.of ⟨rfl, rfl, rfl, rfl, rfl, rfl, rfl, rfl, rfl, rfl, trivial⟩ ⟨rfl, rfl, rfl, trivial⟩ trivial)
        · have hie : i = u.1.length := by omega
          have hfr2 := hfr
          rw [hie, Bool.and_eq_true, decide_eq_true_iff] at hfr2
          have hcs : cStep b c n x u y = (u.1 ++ [(x : Int)], u.2 ++ [(y : Int)]) := if_pos ⟨by omega, hfr2.2⟩
          rw [hcs] at hst
          have hz : u.2.length = u.1.length := hC.len
          (refine goes_seq ?_; refine goes_seq ?_; refine goes_region ?_; apply run_step rfl; (exact stp_move rfl rfl); apply run_step rfl; (exact stp_move rfl rfl); apply run_step rfl; (exact stp_len rfl rfl rfl (by as_aux_lemma => kernel_rfl)); apply run_step rfl; (exact stp_bin rfl rfl rfl (show binI .i64 .lss (i : Int) (u.1.length : Int) = some (.bool false) by simp [binI, hil])); apply run_step rfl; (exact stp_move rfl rfl); apply run_gNo rfl rfl rfl rfl rfl; apply run_step rfl; (exact stp_pickF rfl rfl rfl); refine run_nil ?_; refine fin_seq ?_)
          refine goes_cond rfl (fun e => by cases e) (fun _ => ?_)
          (refine goes_exit ?_; refine fin_exit_then ?_; refine fin_exit_then ?_; refine fin_exit_eq ?_; refine fin_seq ?_; refine goes_seq ?_; refine goes_region ?_; apply run_step rfl; (exact stp_move rfl rfl); refine run_nil ?_; refine fin_seq ?_)
          refine goes_cond rfl (fun _ => ?_) (fun e => by cases e)
          (refine goes_seq ?_; refine goes_region ?_; apply run_step rfl; (exact stp_move rfl rfl); apply run_step rfl; (exact stp_move rfl rfl); apply run_step rfl; (exact stp_lit1I (E := 2) rfl (by as_aux_lemma => kernel_rfl) rfl); apply run_step rfl; (exact stp_appI rfl (by as_aux_lemma => kernel_rfl) rfl rfl rfl (by first | rfl | assumption | (simp; done)) rfl rfl (by omega)); apply run_step rfl; (exact stp_assign rfl rfl); refine run_nil ?_; refine fin_seq ?_; refine goes_region ?_; apply run_step rfl; (exact stp_move rfl rfl); apply run_step rfl; (exact stp_move rfl rfl); apply run_step rfl; (exact stp_lit1I (E := 2) rfl (by as_aux_lemma => kernel_rfl) rfl); apply run_step rfl; (exact stp_appI rfl (by as_aux_lemma => kernel_rfl) rfl rfl rfl (by first | rfl | assumption | (simp; done)) rfl rfl (by omega)); apply run_step rfl; (exact stp_assign rfl rfl); refine run_nil ?_; refine fin_block ?_; refine fin_seq ?_; refine goes_region ?_; apply run_step rfl; (exact stp_move rfl rfl); apply run_step rfl; (exact stp_add rfl rfl rfl (by first | exact IntWalk.i64_in _ (by omega) | rfl)); apply run_step rfl; (exact stp_assign rfl rfl); refine run_nil ?_)
          exact fin_round (y + 1, (u.1 ++ [(x : Int)], u.2 ++ [(y : Int)])) ⟨hyn, hst⟩ (by show n - (y + 1) < n - y; omega) (Wk.of ⟨rfl, rfl, rfl, rfl, by simp; rfl, by simp; rfl, rfl, rfl, trivial⟩ ⟨rfl, rfl, rfl, trivial⟩ trivial)
      | false =>
        have hcs : cStep b c n x u y = u := if_neg fun hh => by
          have h3 : decide ((u.1.length : Int) < (n : Int)) = true := by rw [decide_eq_true_iff]; omega
          rw [h3, Bool.true_and] at hfr
          have := freB_no hfr u.1.length hi
          rw [hh.2] at this
          cases this
        rw [hcs] at hst
        by_cases hil : i < u.1.length
        · (refine goes_seq ?_; refine goes_seq ?_; refine goes_region ?_; apply run_step rfl; (exact stp_move rfl rfl); apply run_step rfl; (exact stp_move rfl rfl); apply run_step rfl; (exact stp_len rfl rfl rfl (by as_aux_lemma => kernel_rfl)); apply run_step rfl; (exact stp_bin rfl rfl rfl (show binI .i64 .lss (i : Int) (u.1.length : Int) = some (.bool true) by simp [binI, hil])); apply run_step rfl; (exact stp_move rfl rfl); apply run_gYes rfl rfl rfl; (exact stp_move rfl rfl); apply run_step rfl; (exact stp_pickT rfl rfl rfl); refine run_nil ?_; refine fin_seq ?_)
          refine goes_cond rfl (fun e => by cases e) (fun _ => ?_)
          (refine goes_exit ?_; refine fin_exit_then ?_; refine fin_exit_then ?_; refine fin_exit_eq ?_; refine fin_seq ?_; refine goes_seq ?_; refine goes_region ?_; apply run_step rfl; (exact stp_move rfl rfl); refine run_nil ?_; refine fin_seq ?_)
          refine goes_cond rfl (fun e => by cases e) (fun _ => ?_)
          (refine goes_skip ?_; refine fin_block ?_; refine fin_seq ?_; refine goes_region ?_; apply run_step rfl; (exact stp_move rfl rfl); apply run_step rfl; (exact stp_add rfl rfl rfl (by first | exact IntWalk.i64_in _ (by omega) | rfl)); apply run_step rfl; (exact stp_assign rfl rfl); refine run_nil ?_)
          exact fin_round (y + 1, u) ⟨hyn, hst⟩ (by show n - (y + 1) < n - y; omega) (Wk.of ⟨rfl, rfl, rfl, rfl, rfl, rfl, rfl, rfl, trivial⟩ ⟨rfl, rfl, rfl, trivial⟩ trivial)
        · (refine goes_seq ?_; refine goes_seq ?_; refine goes_region ?_; apply run_step rfl; (exact stp_move rfl rfl); apply run_step rfl; (exact stp_move rfl rfl); apply run_step rfl; (exact stp_len rfl rfl rfl (by as_aux_lemma => kernel_rfl)); apply run_step rfl; (exact stp_bin rfl rfl rfl (show binI .i64 .lss (i : Int) (u.1.length : Int) = some (.bool false) by simp [binI, hil])); apply run_step rfl; (exact stp_move rfl rfl); apply run_gNo rfl rfl rfl rfl rfl; apply run_step rfl; (exact stp_pickF rfl rfl rfl); refine run_nil ?_; refine fin_seq ?_)
          refine goes_cond rfl (fun e => by cases e) (fun _ => ?_)
          (refine goes_exit ?_; refine fin_exit_then ?_; refine fin_exit_then ?_; refine fin_exit_eq ?_; refine fin_seq ?_; refine goes_seq ?_; refine goes_region ?_; apply run_step rfl; (exact stp_move rfl rfl); refine run_nil ?_; refine fin_seq ?_)
          refine goes_cond rfl (fun e => by cases e) (fun _ => ?_)
          (refine goes_skip ?_; refine fin_block ?_; refine fin_seq ?_; refine goes_region ?_; apply run_step rfl; (exact stp_move rfl rfl); apply run_step rfl; (exact stp_add rfl rfl rfl (by first | exact IntWalk.i64_in _ (by omega) | rfl)); apply run_step rfl; (exact stp_assign rfl rfl); refine run_nil ?_)
          exact fin_round (y + 1, u) ⟨hyn, hst⟩ (by show n - (y + 1) < n - y; omega) (Wk.of ⟨rfl, rfl, rfl, rfl, rfl, rfl, rfl, rfl, trivial⟩ ⟨rfl, rfl, rfl, trivial⟩ trivial)
    · obtain rfl : y = n := by omega
      (refine goes_exit ?_; refine fin_exit_then ?_; refine fin_exit_then ?_; refine fin_exit_eq ?_; refine fin_block ?_; refine fin_seq ?_; refine goes_region ?_; apply run_step rfl; (exact stp_move rfl rfl); apply run_step rfl; (exact stp_add rfl rfl rfl (by first | exact IntWalk.i64_in _ (by omega) | rfl)); apply run_step rfl; (exact stp_assign rfl rfl); refine run_nil ?_)
      exact fin_round (x + 1, u) ⟨hxn, hnext.trans hu⟩ (by show y - (x + 1) < y - x; omega) (Wk.of ⟨rfl, rfl, rfl, rfl, rfl, rfl, rfl, trivial⟩ ⟨rfl, rfl, rfl, trivial⟩ trivial)
  · obtain rfl : x = n := by omega
    rw [hs] at hfull hF
    have hC := hCO x hx
    rw [hs] at hC
    have hl2 : s.2.length = s.1.length := hC.len
    have hsl : s.1.length = x := hfull
    have w8 : IntKind.i64.wrap (8 * (x : Int)) = ((8 * x : Nat) : Int) := by rw [IntWalk.i64_in _ (by omega)]; omega
    clear hs hCO h1 hx
    (refine goes_exit ?_; refine fin_exit_then ?_; refine fin_exit_then ?_; refine fin_exit_eq ?_; refine fin_seq ?_; refine goes_seq ?_; refine goes_region ?_; apply run_step rfl; (exact stp_lit0 (E := 2) (k := 1) rfl (by as_aux_lemma => kernel_rfl)); apply run_step rfl; (exact stp_lit0 (E := 2) (k := 1) rfl (by as_aux_lemma => kernel_rfl)); apply run_step rfl; (exact stp_lit0 (E := 2) (k := 1) rfl (by as_aux_lemma => kernel_rfl)); apply run_step rfl; (exact stp_assign rfl rfl); apply run_step rfl; (exact stp_assign rfl rfl); apply run_step rfl; (exact stp_assign rfl rfl); refine run_nil ?_; refine fin_seq ?_; refine goes_seq ?_; refine goes_seq ?_; refine goes_region ?_; apply run_step rfl; (exact stp_assign rfl rfl); refine run_nil ?_; refine fin_seq ?_; refine goes_block ?_)
    refine goes_loop (fun q : Nat × List Int => St.of [(0, vv (I6 b)), (1, vv (I6 c)), (4, o1 (.ptr 4 0)), (5, vv (I6 x)), (6, o1 (.sl 29 0 s.1.length)), (7, o1 (.sl 30 0 s.2.length)), (12, o1 (.sl 79 0 q.1)), (13, o1 (.sl 80 0 q.1)), (14, o1 (.sl 81 0 q.2.length)), (15, vv (I6 q.1))] [(4, mBox), (29, leOw s.1), (30, leOw s.2), (79, leOw (tRow0 q.1)), (80, leOw (tRow1 q.1)), (81, leOw q.2)])
      (fun q => q.1 ≤ 8 * x ∧ tRow2 b c x s q.1 = q.2) (fun q => 8 * x - q.1) (0, []) ⟨Nat.zero_le _, rfl⟩ (Wk.of ⟨rfl, rfl, rfl, rfl, rfl, rfl, rfl, rfl, rfl, rfl, trivial⟩ ⟨rfl, rfl, rfl, rfl, rfl, rfl, trivial⟩ trivial) ?_
    rintro ⟨f, r2⟩ ⟨hf, hr2⟩
    dsimp only at hf hr2 ⊢
    have hr2l : r2.length ≤ f * x := by rw [← hr2]; exact tRow2_len b c x s f
    have hr2m : f * x ≤ 8 * 98 * 98 := Nat.mul_le_mul (by omega) hn98
    have h0l := tRow0_len f
    have h1l := tRow1_len f
    (refine goes_seq ?_; refine goes_seq ?_; refine goes_region ?_; apply run_step rfl; (exact stp_move rfl rfl); apply run_step rfl; (exact stp_move rfl rfl); apply run_step rfl; (exact stp_mul rfl rfl rfl w8); apply run_step rfl; (exact stp_bin rfl rfl rfl rfl); refine run_nil ?_; refine fin_seq ?_)
    refine goes_if rfl (fun h2 => ?_) (fun h2 => ?_)
    · have hfn : f < 8 * x := by omega
      have hnext : tRow2 b c x s (f + 1) = r2 ++ tTwoB b c s (iget s.1 (f / 8) + dX (f % 8 / 2)) (iget s.2 (f / 8) + dY (f % 8 / 2)) (f % 8) x := by rw [tRow2_succ, hr2]; rfl
      have hs0 := tRow0_succ f
      have hs1 := tRow1_succ f
      have ho1 : tOne f = 8 * (f / 8) + if f % 8 % 2 = 0 then (f % 8 + 7) % 8 else (f % 8 + 1) % 8 := rfl
      generalize tRow0 f = Z0 at *
      generalize tRow1 f = Z1 at *
      generalize tOne f = o1v at *
      have hq : f / 8 < x := by omega
      have hk : f % 8 < 8 := by omega
      have la : s.1.length ≤ (ivals s.1).length := by rw [ivals_len]; exact Nat.le_refl _
      have lb : s.2.length ≤ (ivals s.2).length := by rw [ivals_len]; exact Nat.le_refl _
      (refine goes_skip ?_; refine fin_seq ?_; refine goes_seq ?_; refine goes_block ?_; refine goes_seq ?_; refine goes_region ?_; apply run_step rfl; (exact stp_move rfl rfl); apply run_step rfl; (first | exact stp_quoN (b := 8) rfl rfl rfl (by omega) (by omega) | exact stp_remN (b := 8) rfl rfl rfl (by omega) (by omega) | exact stp_oth rfl rfl (by omega)); apply run_step rfl; (exact stp_move rfl rfl); apply run_step rfl; (first | exact stp_quoN (b := 8) rfl rfl rfl (by omega) (by omega) | exact stp_remN (b := 8) rfl rfl rfl (by omega) (by omega) | exact stp_oth rfl rfl (by omega)); apply run_step rfl; (exact stp_assign rfl rfl); apply run_step rfl; (exact stp_assign rfl rfl); refine run_nil ?_; refine fin_seq ?_; refine goes_seq ?_; refine goes_region ?_; apply run_step rfl; (exact stp_move rfl rfl); apply run_step rfl; (exact stp_move rfl rfl); apply run_step rfl; (first | exact stp_quoN (b := 8) rfl rfl rfl (by omega) (by omega) | exact stp_remN (b := 8) rfl rfl rfl (by omega) (by omega) | exact stp_oth rfl rfl (by omega)); apply run_step rfl; (exact stp_lit1I (E := 2) rfl (by as_aux_lemma => kernel_rfl) rfl); apply run_step rfl; (exact stp_appI rfl (by as_aux_lemma => kernel_rfl) rfl rfl rfl (by first | rfl | assumption | (simp; done)) rfl rfl (by omega)); apply run_step rfl; (exact stp_assign rfl rfl); refine run_nil ?_; refine fin_seq ?_; refine goes_seq ?_)
      generalize f / 8 = q at *
      generalize f % 8 = k at *
      have hq1 : q < s.1.length := by omega
      have hq2 : q < s.2.length := by omega
      have ga : (ivals s.1)[q]? = some (I6 (iget s.1 q)) := ivals_get hq1
      have gb : (ivals s.2)[q]? = some (I6 (iget s.2 q)) := ivals_get hq2
      have ba := iget_in hC.a h0 q
      have bb' := iget_in hC.b h0 q
      apply goes_draw 9 [] [[], [], [0, 1], [0, 1, 2], [], [], [4, 5], [4, 5, 6], [0, 1, 2, 3], [0, 1, 2, 3, 4, 5, 6, 7, 8]] [97, 98, 99, 100, 101, 102, 103, 104, 18] [] (by kernel_rfl) (by kernel_rfl)
      · (apply draw_put rfl; (intro S1 hS; exact stp_move rfl (hS.op rfl)); apply draw_put rfl; (intro S1 hS; exact stp_move rfl (hS.op rfl)); (first | (apply draw_put rfl; (focus (intro S1 hS; exact stp_ix (j := q) rfl (hS.op rfl) (hS.op rfl) (hS.ch _ _ rfl) rfl (by as_aux_lemma => kernel_rfl) rfl hq1 la))) | (apply draw_put rfl; (focus (intro S1 hS; exact stp_ix (j := q) rfl (hS.op rfl) (hS.op rfl) (hS.ch _ _ rfl) rfl (by as_aux_lemma => kernel_rfl) rfl hq2 lb)))); apply draw_put rfl; (intro S1 hS; exact stp_loadV rfl (by as_aux_lemma => kernel_rfl) (hS.op rfl) (hS.ch _ _ rfl) rfl (by first | assumption | exact ivals_get (by assumption) | exact irows_get (by assumption) | exact ivals_get (by omega) | exact irows_get (by omega) | rfl)); apply draw_put rfl; (intro S1 hS; exact stp_move rfl (hS.op rfl)); apply draw_put rfl; (intro S1 hS; exact stp_move rfl (hS.op rfl)); (first | (apply draw_put rfl; (focus (intro S1 hS; exact stp_ix (j := q) rfl (hS.op rfl) (hS.op rfl) (hS.ch _ _ rfl) rfl (by as_aux_lemma => kernel_rfl) rfl hq1 la))) | (apply draw_put rfl; (focus (intro S1 hS; exact stp_ix (j := q) rfl (hS.op rfl) (hS.op rfl) (hS.ch _ _ rfl) rfl (by as_aux_lemma => kernel_rfl) rfl hq2 lb)))); apply draw_put rfl; (intro S1 hS; exact stp_loadV rfl (by as_aux_lemma => kernel_rfl) (hS.op rfl) (hS.ch _ _ rfl) rfl (by first | assumption | exact ivals_get (by assumption) | exact irows_get (by assumption) | exact ivals_get (by omega) | exact irows_get (by omega) | rfl)); apply draw_put rfl; (intro S1 hS; exact stp_assign rfl (hS.op rfl)); exact Draw.nil)
      · rfl
      ((apply rest_one 9 rfl (by as_aux_lemma => kernel_rfl) rfl rfl; (exact stp_assign rfl rfl)); (refine rest_done (by as_aux_lemma => kernel_rfl) ?_; skip))
      have w8c : IntKind.i64.wrap (8 * (q : Int)) = ((8 * q : Nat) : Int) := by rw [IntWalk.i64_in _ (by omega)]; omega
      have w7 : IntKind.i64.wrap ((k : Int) + 7) = ((k + 7 : Nat) : Int) := by rw [IntWalk.i64_in _ (by omega)]; omega
      have w1 : IntKind.i64.wrap ((k : Int) + 1) = ((k + 1 : Nat) : Int) := by rw [IntWalk.i64_in _ (by omega)]; omega
      (refine fin_seq ?_; refine goes_seq ?_; refine goes_seq ?_; refine goes_region ?_; apply run_step rfl; (exact stp_move rfl rfl); apply run_step rfl; (exact stp_remN (b := 2) rfl rfl rfl (by omega) (by omega)); apply run_step rfl; (exact stp_bin rfl rfl rfl rfl); refine run_nil ?_; refine fin_seq ?_)
      refine goes_join (St.of [(0, vv (I6 b)), (1, vv (I6 c)), (4, o1 (.ptr 4 0)), (5, vv (I6 x)), (6, o1 (.sl 29 0 s.1.length)), (7, o1 (.sl 30 0 s.2.length)), (12, o1 (.sl 79 0 (f + 1))), (13, o1 (.sl 80 0 (f + 1))), (14, o1 (.sl 81 0 r2.length)), (15, vv (I6 f)), (16, vv (I6 q)), (17, vv (I6 k)), (18, vv (I6 (iget s.1 q))), (19, vv (I6 (iget s.2 q)))] [(4, mBox), (29, leOw s.1), (30, leOw s.2), (79, leOw (Z0 ++ [((othN f : Nat) : Int)])), (80, leOw (Z1 ++ [(o1v : Int)])), (81, leOw r2)]) rfl (fun h3 => ?_) (fun h3 => ?_) ?_
      · have h3' : k % 2 = 0 := by have : ((k % 2 : Nat) : Int) = 0 := by simpa using h3
                                   omega
        rw [if_pos h3'] at ho1
        have wsum : IntKind.i64.wrap (((8 * q : Nat) : Int) + (((k + 7) % 8 : Nat) : Int)) = (o1v : Int) := by rw [IntWalk.i64_in _ (by omega)]; omega
        (refine goes_region ?_; apply run_step rfl; (exact stp_move rfl rfl); apply run_step rfl; (exact stp_move rfl rfl); apply run_step rfl; (first | exact stp_mul rfl rfl rfl w8c | exact stp_add rfl rfl rfl w7 | exact stp_remN (b := 8) rfl rfl rfl (by omega) (by omega) | exact stp_add rfl rfl rfl wsum); apply run_step rfl; (exact stp_move rfl rfl); apply run_step rfl; (first | exact stp_mul rfl rfl rfl w8c | exact stp_add rfl rfl rfl w7 | exact stp_remN (b := 8) rfl rfl rfl (by omega) (by omega) | exact stp_add rfl rfl rfl wsum); apply run_step rfl; (first | exact stp_mul rfl rfl rfl w8c | exact stp_add rfl rfl rfl w7 | exact stp_remN (b := 8) rfl rfl rfl (by omega) (by omega) | exact stp_add rfl rfl rfl wsum); apply run_step rfl; (first | exact stp_mul rfl rfl rfl w8c | exact stp_add rfl rfl rfl w7 | exact stp_remN (b := 8) rfl rfl rfl (by omega) (by omega) | exact stp_add rfl rfl rfl wsum); apply run_step rfl; (exact stp_lit1I (E := 2) rfl (by as_aux_lemma => kernel_rfl) rfl); apply run_step rfl; (exact stp_appI rfl (by as_aux_lemma => kernel_rfl) rfl rfl rfl (by first | rfl | assumption | (simp; done)) rfl rfl (by omega)); apply run_step rfl; (exact stp_assign rfl rfl); refine run_nil ?_)
        exact fin_join (Wk.of ⟨rfl, rfl, rfl, rfl, rfl, rfl, rfl, rfl, rfl, rfl, rfl, rfl, rfl, rfl, trivial⟩ ⟨rfl, rfl, rfl, rfl, rfl, rfl, trivial⟩ trivial)
      · have h3' : ¬ k % 2 = 0 := fun e => by rw [e] at h3; cases h3
        rw [if_neg h3'] at ho1
        have wsum : IntKind.i64.wrap (((8 * q : Nat) : Int) + (((k + 1) % 8 : Nat) : Int)) = (o1v : Int) := by rw [IntWalk.i64_in _ (by omega)]; omega
        (refine goes_region ?_; apply run_step rfl; (exact stp_move rfl rfl); apply run_step rfl; (exact stp_move rfl rfl); apply run_step rfl; (first | exact stp_mul rfl rfl rfl w8c | exact stp_add rfl rfl rfl w1 | exact stp_remN (b := 8) rfl rfl rfl (by omega) (by omega) | exact stp_add rfl rfl rfl wsum); apply run_step rfl; (exact stp_move rfl rfl); apply run_step rfl; (first | exact stp_mul rfl rfl rfl w8c | exact stp_add rfl rfl rfl w1 | exact stp_remN (b := 8) rfl rfl rfl (by omega) (by omega) | exact stp_add rfl rfl rfl wsum); apply run_step rfl; (first | exact stp_mul rfl rfl rfl w8c | exact stp_add rfl rfl rfl w1 | exact stp_remN (b := 8) rfl rfl rfl (by omega) (by omega) | exact stp_add rfl rfl rfl wsum); apply run_step rfl; (first | exact stp_mul rfl rfl rfl w8c | exact stp_add rfl rfl rfl w1 | exact stp_remN (b := 8) rfl rfl rfl (by omega) (by omega) | exact stp_add rfl rfl rfl wsum); apply run_step rfl; (exact stp_lit1I (E := 2) rfl (by as_aux_lemma => kernel_rfl) rfl); apply run_step rfl; (exact stp_appI rfl (by as_aux_lemma => kernel_rfl) rfl rfl rfl (by first | rfl | assumption | (simp; done)) rfl rfl (by omega)); apply run_step rfl; (exact stp_assign rfl rfl); refine run_nil ?_)
        exact fin_join (Wk.of ⟨rfl, rfl, rfl, rfl, rfl, rfl, rfl, rfl, rfl, rfl, rfl, rfl, rfl, rfl, trivial⟩ ⟨rfl, rfl, rfl, rfl, rfl, rfl, trivial⟩ trivial)
      obtain ⟨xf, hxf⟩ : ∃ z, z = iget s.1 q + dX (k / 2) := ⟨_, rfl⟩
      obtain ⟨yf, hyf⟩ : ∃ z, z = iget s.2 q + dY (k / 2) := ⟨_, rfl⟩
      rw [← hxf, ← hyf] at hnext
      have hxb : -1 ≤ dX (k / 2) ∧ dX (k / 2) ≤ 1 := by unfold dX; split; omega; split <;> omega
      have hyb : -1 ≤ dY (k / 2) ∧ dY (k / 2) ≤ 1 := by unfold dY; split; omega; split <;> omega
      have bx : -1 ≤ xf ∧ xf ≤ 99 := by omega
      have by' : -1 ≤ yf ∧ yf ≤ 99 := by omega
      have hj4 : k / 2 < 4 := by omega
      clear hxb hyb ga gb ho1 w8c w7 w1
      (refine fin_seq ?_; refine goes_seq ?_; refine goes_seq ?_; refine goes_region ?_; apply run_step rfl; (exact stp_move rfl rfl); apply run_step rfl; (exact stp_quoN (b := 2) rfl rfl rfl (by omega) (by omega)); refine run_nil ?_; refine fin_seq ?_; refine goes_block ?_; refine goes_seq ?_; refine goes_region ?_; apply run_step rfl; (exact stp_bin rfl rfl rfl rfl); apply run_step rfl; (exact stp_assign rfl rfl); refine run_nil ?_; refine fin_seq ?_)
      generalize k / 2 = j at *
      generalize iget s.1 q = x0 at *
      generalize iget s.2 q = y0 at *
      refine goes_join (St.of [(0, vv (I6 b)), (1, vv (I6 c)), (4, o1 (.ptr 4 0)), (5, vv (I6 x)), (6, o1 (.sl 29 0 s.1.length)), (7, o1 (.sl 30 0 s.2.length)), (12, o1 (.sl 79 0 (f + 1))), (13, o1 (.sl 80 0 (f + 1))), (14, o1 (.sl 81 0 r2.length)), (15, vv (I6 f)), (17, vv (I6 k)), (18, vv (I6 xf)), (19, vv (I6 yf))] [(4, mBox), (29, leOw s.1), (30, leOw s.2), (79, leOw (Z0 ++ [((othN f : Nat) : Int)])), (80, leOw (Z1 ++ [(o1v : Int)])), (81, leOw r2)]) rfl (fun h3 => ?_) (fun h3 => ?_) ?_
      · have h3' : j = 0 := by have : (j : Int) = 0 := by simpa using h3
                               omega
        have e1 : xf = x0 := by rw [hxf, h3']; simp [dX]
        have e2 : IntKind.i64.wrap (y0 - 1) = yf := by rw [hyf, h3', IntWalk.i64_in _ (by omega)]; simp [dY]; omega
        subst e1
        (refine goes_region ?_; apply run_step rfl; (exact stp_move rfl rfl); apply run_step rfl; (exact stp_sub rfl rfl rfl e2); apply run_step rfl; (exact stp_assign rfl rfl); refine run_nil ?_)
        exact fin_join (Wk.of ⟨rfl, rfl, rfl, rfl, rfl, rfl, rfl, rfl, rfl, rfl, rfl, rfl, rfl, trivial⟩ ⟨rfl, rfl, rfl, rfl, rfl, rfl, trivial⟩ trivial)
      · (refine goes_seq ?_; refine goes_region ?_; apply run_step rfl; (exact stp_bin rfl rfl rfl rfl); apply run_step rfl; (exact stp_assign rfl rfl); refine run_nil ?_; refine fin_seq ?_)
        refine goes_cond rfl (fun h4 => ?_) (fun h4 => ?_)
        · have h3' : j = 1 := by have : (j : Int) = 1 := by simpa using h4
                                 omega
          have e1 : yf = y0 := by rw [hyf, h3']; simp [dY]
          have e2 : IntKind.i64.wrap (x0 + 1) = xf := by rw [hxf, h3', IntWalk.i64_in _ (by omega)]; simp [dX]
          subst e1
          (refine goes_region ?_; apply run_step rfl; (exact stp_move rfl rfl); apply run_step rfl; (exact stp_add rfl rfl rfl e2); apply run_step rfl; (exact stp_assign rfl rfl); refine run_nil ?_)
          exact fin_join (Wk.of ⟨rfl, rfl, rfl, rfl, rfl, rfl, rfl, rfl, rfl, rfl, rfl, rfl, rfl, trivial⟩ ⟨rfl, rfl, rfl, rfl, rfl, rfl, trivial⟩ trivial)
        · (refine goes_seq ?_; refine goes_region ?_; apply run_step rfl; (exact stp_bin rfl rfl rfl rfl); apply run_step rfl; (exact stp_assign rfl rfl); refine run_nil ?_; refine fin_seq ?_)
          refine goes_cond rfl (fun h5 => ?_) (fun h5 => ?_)
          · have h3' : j = 2 := by have : (j : Int) = 2 := by simpa using h5
                                   omega
            have e1 : xf = x0 := by rw [hxf, h3']; simp [dX]
            have e2 : IntKind.i64.wrap (y0 + 1) = yf := by rw [hyf, h3', IntWalk.i64_in _ (by omega)]; simp [dY]
            subst e1
            (refine goes_region ?_; apply run_step rfl; (exact stp_move rfl rfl); apply run_step rfl; (exact stp_add rfl rfl rfl e2); apply run_step rfl; (exact stp_assign rfl rfl); refine run_nil ?_)
            exact fin_join (Wk.of ⟨rfl, rfl, rfl, rfl, rfl, rfl, rfl, rfl, rfl, rfl, rfl, rfl, rfl, trivial⟩ ⟨rfl, rfl, rfl, rfl, rfl, rfl, trivial⟩ trivial)
          · have h3' : j = 3 := by
              have n0 : ¬ (j : Int) = 0 := by simpa using h3
              have n1 : ¬ (j : Int) = 1 := by simpa using h4
              have n2 : ¬ (j : Int) = 2 := by simpa using h5
              omega
            have e1 : yf = y0 := by rw [hyf, h3']; simp [dY]
            have e2 : IntKind.i64.wrap (x0 - 1) = xf := by rw [hxf, h3', IntWalk.i64_in _ (by omega)]; simp [dX]; omega
            subst e1 h3'
            (refine goes_seq ?_; refine goes_region ?_; apply run_step rfl; (exact stp_bin rfl rfl rfl rfl); apply run_step rfl; (exact stp_assign rfl rfl); refine run_nil ?_; refine fin_seq ?_)
            refine goes_cond rfl (fun _ => ?_) (fun e => by cases e)
            (refine goes_region ?_; apply run_step rfl; (exact stp_move rfl rfl); apply run_step rfl; (exact stp_sub rfl rfl rfl e2); apply run_step rfl; (exact stp_assign rfl rfl); refine run_nil ?_)
            exact fin_join (Wk.of ⟨rfl, rfl, rfl, rfl, rfl, rfl, rfl, rfl, rfl, rfl, rfl, rfl, rfl, trivial⟩ ⟨rfl, rfl, rfl, rfl, rfl, rfl, trivial⟩ trivial)
      clear hxf hyf hj4 ba bb' hq1 hq2 hq
      (refine fin_block ?_; refine fin_seq ?_; refine goes_seq ?_; refine goes_region ?_; apply run_step rfl; (exact stp_assign rfl rfl); refine run_nil ?_; refine fin_seq ?_; refine goes_block ?_)
      refine goes_loop (fun q : Nat × List Int => St.of [(0, vv (I6 b)), (1, vv (I6 c)), (4, o1 (.ptr 4 0)), (5, vv (I6 x)), (6, o1 (.sl 29 0 s.1.length)), (7, o1 (.sl 30 0 s.2.length)), (12, o1 (.sl 79 0 (f + 1))), (13, o1 (.sl 80 0 (f + 1))), (14, o1 (.sl 81 0 q.2.length)), (15, vv (I6 f)), (17, vv (I6 k)), (18, vv (I6 xf)), (19, vv (I6 yf)), (20, vv (I6 q.1))] [(4, mBox), (29, leOw s.1), (30, leOw s.2), (79, leOw (Z0 ++ [((othN f : Nat) : Int)])), (80, leOw (Z1 ++ [(o1v : Int)])), (81, leOw q.2)])
        (fun q => q.1 ≤ x ∧ r2 ++ tTwoB b c s xf yf k q.1 = q.2) (fun q => x - q.1) (0, r2) ⟨Nat.zero_le _, by simp [tTwoB]⟩ (Wk.of ⟨rfl, rfl, rfl, rfl, rfl, rfl, rfl, rfl, rfl, rfl, rfl, rfl, rfl, rfl, trivial⟩ ⟨rfl, rfl, rfl, rfl, rfl, rfl, trivial⟩ trivial) ?_
      rintro ⟨i, r⟩ ⟨hi, hr⟩
      dsimp only at hi hr ⊢
      have hrl : r.length ≤ 100000 := by
        have := tTwoB_len b c s xf yf k i
        rw [← hr, List.length_append]; omega
      have hts := tTwoB_succ b c s xf yf k i
      (refine goes_seq ?_; refine goes_seq ?_; refine goes_region ?_; apply run_step rfl; (exact stp_move rfl rfl); apply run_step rfl; (exact stp_move rfl rfl); apply run_step rfl; (exact stp_bin rfl rfl rfl rfl); refine run_nil ?_; refine fin_seq ?_)
      refine goes_if rfl (fun h6 => ?_) (fun h6 => ?_)
      · have hil : i < s.1.length := by omega
        have hil2 : i < s.2.length := by omega
        have ga : (ivals s.1)[i]? = some (I6 (iget s.1 i)) := ivals_get hil
        have gb : (ivals s.2)[i]? = some (I6 (iget s.2 i)) := ivals_get hil2
        have ba := iget_in hC.a h0 i
        have bb' := iget_in hC.b h0 i
        have hS := hSame (xf - iget s.1 i) (yf - iget s.2 i) (by omega) (by omega)
        obtain ⟨z1, hz1⟩ : ∃ z, z = xf - iget s.1 i := ⟨_, rfl⟩
        obtain ⟨z2, hz2⟩ : ∃ z, z = yf - iget s.2 i := ⟨_, rfl⟩
        have d1 : IntKind.i64.wrap (xf - iget s.1 i) = z1 := by rw [hz1]; exact IntWalk.i64_in _ (by omega)
        have d2 : IntKind.i64.wrap (yf - iget s.2 i) = z2 := by rw [hz2]; exact IntWalk.i64_in _ (by omega)
        rw [← hz1, ← hz2] at hts hS
        clear hz1 hz2
        (refine goes_skip ?_; refine fin_seq ?_; refine goes_seq ?_; refine goes_block ?_; refine goes_seq ?_)
        apply goes_draw 14 [] [[], [], [], [], [], [3, 4], [3, 4, 5], [2, 3, 4, 5, 6], [], [], [], [9, 10], [9, 10, 11], [8, 9, 10, 11, 12], [0, 1, 2, 3, 4, 5, 6, 7, 8, 9, 10, 11, 12, 13]] [149, 150, 151, 152, 153, 154, 155, 156, 157, 158, 159, 160, 161, 162] [] (by kernel_rfl) (by kernel_rfl)
        · (apply draw_put rfl; (intro S1 hS; exact stp_move rfl (hS.op rfl)); apply draw_put rfl; (intro S1 hS; exact stp_move rfl (hS.op rfl)); apply draw_put rfl; (intro S1 hS; exact stp_move rfl (hS.op rfl)); apply draw_put rfl; (intro S1 hS; exact stp_move rfl (hS.op rfl)); apply draw_put rfl; (intro S1 hS; exact stp_move rfl (hS.op rfl)); (first | (apply draw_put rfl; (focus (intro S1 hS; exact stp_ix (j := i) rfl (hS.op rfl) (hS.op rfl) (hS.ch _ _ rfl) rfl (by as_aux_lemma => kernel_rfl) rfl hil la))) | (apply draw_put rfl; (focus (intro S1 hS; exact stp_ix (j := i) rfl (hS.op rfl) (hS.op rfl) (hS.ch _ _ rfl) rfl (by as_aux_lemma => kernel_rfl) rfl hil2 lb))) | (apply draw_put rfl; (focus (intro S1 hS; exact stp_sub rfl (hS.op rfl) (hS.op rfl) d1))) | (apply draw_put rfl; (focus (intro S1 hS; exact stp_sub rfl (hS.op rfl) (hS.op rfl) d2)))); apply draw_put rfl; (intro S1 hS; exact stp_loadV rfl (by as_aux_lemma => kernel_rfl) (hS.op rfl) (hS.ch _ _ rfl) rfl (by first | assumption | exact ivals_get (by assumption) | exact irows_get (by assumption) | exact ivals_get (by omega) | exact irows_get (by omega) | rfl)); (first | (apply draw_put rfl; (focus (intro S1 hS; exact stp_ix (j := i) rfl (hS.op rfl) (hS.op rfl) (hS.ch _ _ rfl) rfl (by as_aux_lemma => kernel_rfl) rfl hil la))) | (apply draw_put rfl; (focus (intro S1 hS; exact stp_ix (j := i) rfl (hS.op rfl) (hS.op rfl) (hS.ch _ _ rfl) rfl (by as_aux_lemma => kernel_rfl) rfl hil2 lb))) | (apply draw_put rfl; (focus (intro S1 hS; exact stp_sub rfl (hS.op rfl) (hS.op rfl) d1))) | (apply draw_put rfl; (focus (intro S1 hS; exact stp_sub rfl (hS.op rfl) (hS.op rfl) d2)))); apply draw_put rfl; (intro S1 hS; exact stp_move rfl (hS.op rfl)); apply draw_put rfl; (intro S1 hS; exact stp_move rfl (hS.op rfl)); apply draw_put rfl; (intro S1 hS; exact stp_move rfl (hS.op rfl)); (first | (apply draw_put rfl; (focus (intro S1 hS; exact stp_ix (j := i) rfl (hS.op rfl) (hS.op rfl) (hS.ch _ _ rfl) rfl (by as_aux_lemma => kernel_rfl) rfl hil la))) | (apply draw_put rfl; (focus (intro S1 hS; exact stp_ix (j := i) rfl (hS.op rfl) (hS.op rfl) (hS.ch _ _ rfl) rfl (by as_aux_lemma => kernel_rfl) rfl hil2 lb))) | (apply draw_put rfl; (focus (intro S1 hS; exact stp_sub rfl (hS.op rfl) (hS.op rfl) d1))) | (apply draw_put rfl; (focus (intro S1 hS; exact stp_sub rfl (hS.op rfl) (hS.op rfl) d2)))); apply draw_put rfl; (intro S1 hS; exact stp_loadV rfl (by as_aux_lemma => kernel_rfl) (hS.op rfl) (hS.ch _ _ rfl) rfl (by first | assumption | exact ivals_get (by assumption) | exact irows_get (by assumption) | exact ivals_get (by omega) | exact irows_get (by omega) | rfl)); (first | (apply draw_put rfl; (focus (intro S1 hS; exact stp_ix (j := i) rfl (hS.op rfl) (hS.op rfl) (hS.ch _ _ rfl) rfl (by as_aux_lemma => kernel_rfl) rfl hil la))) | (apply draw_put rfl; (focus (intro S1 hS; exact stp_ix (j := i) rfl (hS.op rfl) (hS.op rfl) (hS.ch _ _ rfl) rfl (by as_aux_lemma => kernel_rfl) rfl hil2 lb))) | (apply draw_put rfl; (focus (intro S1 hS; exact stp_sub rfl (hS.op rfl) (hS.op rfl) d1))) | (apply draw_put rfl; (focus (intro S1 hS; exact stp_sub rfl (hS.op rfl) (hS.op rfl) d2)))); exact Draw.nil)
        · rfl
        ((apply rest_one 14 rfl (by as_aux_lemma => kernel_rfl) rfl rfl; (apply call_gate 67; exact stp_callR hS (by as_aux_lemma => kernel_rfl) rfl rfl ⟨rfl, rfl, rfl, rfl, trivial⟩ trivial rfl rfl)); (refine rest_done (by as_aux_lemma => kernel_rfl) ?_; skip))
        generalize sameB b c z1 z2 = sm at *
        (refine fin_seq ?_)
        refine goes_cond rfl (fun h7 => ?_) (fun h7 => ?_)
        · subst h7
          have v8 : IntKind.i64.wrap (8 * (i : Int)) = ((8 * i : Nat) : Int) := by rw [IntWalk.i64_in _ (by omega)]; omega
          have v4 : IntKind.i64.wrap ((k : Int) + 4) = ((k + 4 : Nat) : Int) := by rw [IntWalk.i64_in _ (by omega)]; omega
          have hoth : othN ((k + 4) % 8) ≤ (k + 4) % 8 + 1 := by unfold othN; split <;> omega
          have vs : IntKind.i64.wrap (((8 * i : Nat) : Int) + ((othN ((k + 4) % 8) : Nat) : Int)) = ((tTo k i : Nat) : Int) := by rw [IntWalk.i64_in _ (by omega)]; unfold tTo; omega
          (refine goes_region ?_; apply run_step rfl; (exact stp_move rfl rfl); apply run_step rfl; (exact stp_move rfl rfl); apply run_step rfl; (first | exact stp_mul rfl rfl rfl v8 | exact stp_add rfl rfl rfl v4 | exact stp_remN (b := 8) rfl rfl rfl (by omega) (by omega) | exact stp_oth rfl rfl (by omega) | exact stp_add rfl rfl rfl vs); apply run_step rfl; (exact stp_move rfl rfl); apply run_step rfl; (first | exact stp_mul rfl rfl rfl v8 | exact stp_add rfl rfl rfl v4 | exact stp_remN (b := 8) rfl rfl rfl (by omega) (by omega) | exact stp_oth rfl rfl (by omega) | exact stp_add rfl rfl rfl vs); apply run_step rfl; (first | exact stp_mul rfl rfl rfl v8 | exact stp_add rfl rfl rfl v4 | exact stp_remN (b := 8) rfl rfl rfl (by omega) (by omega) | exact stp_oth rfl rfl (by omega) | exact stp_add rfl rfl rfl vs); apply run_step rfl; (first | exact stp_mul rfl rfl rfl v8 | exact stp_add rfl rfl rfl v4 | exact stp_remN (b := 8) rfl rfl rfl (by omega) (by omega) | exact stp_oth rfl rfl (by omega) | exact stp_add rfl rfl rfl vs); apply run_step rfl; (first | exact stp_mul rfl rfl rfl v8 | exact stp_add rfl rfl rfl v4 | exact stp_remN (b := 8) rfl rfl rfl (by omega) (by omega) | exact stp_oth rfl rfl (by omega) | exact stp_add rfl rfl rfl vs); apply run_step rfl; (exact stp_lit1I (E := 2) rfl (by as_aux_lemma => kernel_rfl) rfl); apply run_step rfl; (exact stp_appI rfl (by as_aux_lemma => kernel_rfl) rfl rfl rfl (by first | rfl | assumption | (simp; done)) rfl rfl (by omega)); apply run_step rfl; (exact stp_assign rfl rfl); refine run_nil ?_; refine fin_block ?_; refine fin_seq ?_; refine goes_region ?_; apply run_step rfl; (exact stp_move rfl rfl); apply run_step rfl; (exact stp_add rfl rfl rfl (by first | exact IntWalk.i64_in _ (by omega) | rfl)); apply run_step rfl; (exact stp_assign rfl rfl); refine run_nil ?_)
          exact fin_round (i + 1, r ++ [((tTo k i : Nat) : Int)]) ⟨by omega, by rw [hts, if_pos rfl, ← List.append_assoc, hr]⟩ (by show x - (i + 1) < x - i; omega) (Wk.of ⟨rfl, rfl, rfl, rfl, rfl, rfl, rfl, rfl, by simp; rfl, rfl, rfl, rfl, rfl, rfl, trivial⟩ ⟨rfl, rfl, rfl, rfl, rfl, rfl, trivial⟩ trivial)
        · subst h7
          (refine goes_skip ?_; refine fin_block ?_; refine fin_seq ?_; refine goes_region ?_; apply run_step rfl; (exact stp_move rfl rfl); apply run_step rfl; (exact stp_add rfl rfl rfl (by first | exact IntWalk.i64_in _ (by omega) | rfl)); apply run_step rfl; (exact stp_assign rfl rfl); refine run_nil ?_)
          exact fin_round (i + 1, r) ⟨by omega, by rw [hts, if_neg (by simp), hr]⟩ (by show x - (i + 1) < x - i; omega) (Wk.of ⟨rfl, rfl, rfl, rfl, rfl, rfl, rfl, rfl, rfl, rfl, rfl, rfl, rfl, rfl, trivial⟩ ⟨rfl, rfl, rfl, rfl, rfl, rfl, trivial⟩ trivial)
      · obtain rfl : i = x := by omega
        (refine goes_exit ?_; refine fin_exit_then ?_; refine fin_exit_then ?_; refine fin_exit_eq ?_; refine fin_block ?_; refine fin_seq ?_; refine goes_region ?_; apply run_step rfl; (exact stp_move rfl rfl); apply run_step rfl; (exact stp_add rfl rfl rfl (by first | exact IntWalk.i64_in _ (by omega) | rfl)); apply run_step rfl; (exact stp_assign rfl rfl); refine run_nil ?_)
        exact fin_round (f + 1, r) ⟨by omega, hnext.trans hr⟩ (by show 8 * i - (f + 1) < 8 * i - f; omega) (Wk.of ⟨rfl, rfl, rfl, rfl, rfl, rfl, rfl, rfl, rfl, rfl, trivial⟩ ⟨rfl, rfl, rfl, congrArg (fun l => some (leOw l)) hs0.symm, congrArg (fun l => some (leOw l)) hs1.symm, rfl, trivial⟩ trivial)
    · obtain rfl : f = 8 * x := by omega
      have l79 : (ivals (tRow0 (8 * x))).length = 8 * x := by rw [ivals_len, h0l]
      have l80 : (ivals (tRow1 (8 * x))).length = 8 * x := by rw [ivals_len, h1l]
      have l81 : (ivals r2).length = r2.length := ivals_len _
      rw [hr2] at hF
      have hF := hF.nm [(1003, 177), (9, 180)] (by kernel_rfl)
      have hF : FC Try.prog 68 [(177, rowsRo [tRow0 (8 * x), tRow1 (8 * x), r2])] [.s (.agg [.sl 177 0 3]), vv (I6 0)] [(180, imOw R)] (.s (.agg [.sl 180 0 3])) [] := hF
      (refine goes_exit ?_; refine fin_exit_then ?_; refine fin_exit_then ?_; refine fin_exit_eq ?_; refine fin_seq ?_; refine goes_seq ?_; refine goes_region ?_; apply run_step rfl; (exact stp_move rfl rfl); apply run_step rfl; (exact stp_move rfl rfl); apply run_step rfl; (exact stp_move rfl rfl); apply run_step rfl; (first | exact stp_lit3R (E := 32) (F := 2) rfl (by as_aux_lemma => kernel_rfl) rfl rfl rfl rfl rfl rfl l79 l80 l81 rfl rfl rfl rfl | exact stp_buildS1 (n0 := 3) rfl rfl rfl (fun _ _ _ => by kernel_rfl) | exact stp_allocZ [.slice none 0 0] rfl (by as_aux_lemma => kernel_rfl) | exact stp_storeAgg rfl rfl rfl rfl rfl rfl rfl rfl (by as_aux_lemma => kernel_rfl) rfl | (apply call_gate 68; exact stp_callN hF (by as_aux_lemma => kernel_rfl) rfl rfl ⟨⟨.inl rfl, trivial⟩, rfl, trivial⟩ ⟨⟨_, rfl, .inr rfl⟩, trivial⟩ rfl rfl rfl)); apply run_step rfl; (first | exact stp_lit3R (E := 32) (F := 2) rfl (by as_aux_lemma => kernel_rfl) rfl rfl rfl rfl rfl rfl l79 l80 l81 rfl rfl rfl rfl | exact stp_buildS1 (n0 := 3) rfl rfl rfl (fun _ _ _ => by kernel_rfl) | exact stp_allocZ [.slice none 0 0] rfl (by as_aux_lemma => kernel_rfl) | exact stp_storeAgg rfl rfl rfl rfl rfl rfl rfl rfl (by as_aux_lemma => kernel_rfl) rfl | (apply call_gate 68; exact stp_callN hF (by as_aux_lemma => kernel_rfl) rfl rfl ⟨⟨.inl rfl, trivial⟩, rfl, trivial⟩ ⟨⟨_, rfl, .inr rfl⟩, trivial⟩ rfl rfl rfl)); apply run_step rfl; (first | exact stp_lit3R (E := 32) (F := 2) rfl (by as_aux_lemma => kernel_rfl) rfl rfl rfl rfl rfl rfl l79 l80 l81 rfl rfl rfl rfl | exact stp_buildS1 (n0 := 3) rfl rfl rfl (fun _ _ _ => by kernel_rfl) | exact stp_allocZ [.slice none 0 0] rfl (by as_aux_lemma => kernel_rfl) | exact stp_storeAgg rfl rfl rfl rfl rfl rfl rfl rfl (by as_aux_lemma => kernel_rfl) rfl | (apply call_gate 68; exact stp_callN hF (by as_aux_lemma => kernel_rfl) rfl rfl ⟨⟨.inl rfl, trivial⟩, rfl, trivial⟩ ⟨⟨_, rfl, .inr rfl⟩, trivial⟩ rfl rfl rfl)); apply run_step rfl; (first | exact stp_lit3R (E := 32) (F := 2) rfl (by as_aux_lemma => kernel_rfl) rfl rfl rfl rfl rfl rfl l79 l80 l81 rfl rfl rfl rfl | exact stp_buildS1 (n0 := 3) rfl rfl rfl (fun _ _ _ => by kernel_rfl) | exact stp_allocZ [.slice none 0 0] rfl (by as_aux_lemma => kernel_rfl) | exact stp_storeAgg rfl rfl rfl rfl rfl rfl rfl rfl (by as_aux_lemma => kernel_rfl) rfl | (apply call_gate 68; exact stp_callN hF (by as_aux_lemma => kernel_rfl) rfl rfl ⟨⟨.inl rfl, trivial⟩, rfl, trivial⟩ ⟨⟨_, rfl, .inr rfl⟩, trivial⟩ rfl rfl rfl)); refine run_nil ?_; refine fin_seq ?_; refine goes_seq ?_; refine goes_region ?_; apply run_step rfl; (exact stp_loadAgg rfl rfl rfl rfl rfl rfl (by as_aux_lemma => kernel_rfl)); apply run_step rfl; (first | exact stp_lit3R (E := 32) (F := 2) rfl (by as_aux_lemma => kernel_rfl) rfl rfl rfl rfl rfl rfl l79 l80 l81 rfl rfl rfl rfl | exact stp_buildS1 (n0 := 3) rfl rfl rfl (fun _ _ _ => by kernel_rfl) | exact stp_allocZ [.slice none 0 0] rfl (by as_aux_lemma => kernel_rfl) | exact stp_storeAgg rfl rfl rfl rfl rfl rfl rfl rfl (by as_aux_lemma => kernel_rfl) rfl | (apply call_gate 68; exact stp_callN hF (by as_aux_lemma => kernel_rfl) rfl rfl ⟨⟨.inl rfl, trivial⟩, rfl, trivial⟩ ⟨⟨_, rfl, .inr rfl⟩, trivial⟩ rfl rfl rfl)); apply run_step rfl; (first | exact stp_lit3R (E := 32) (F := 2) rfl (by as_aux_lemma => kernel_rfl) rfl rfl rfl rfl rfl rfl l79 l80 l81 rfl rfl rfl rfl | exact stp_buildS1 (n0 := 3) rfl rfl rfl (fun _ _ _ => by kernel_rfl) | exact stp_allocZ [.slice none 0 0] rfl (by as_aux_lemma => kernel_rfl) | exact stp_storeAgg rfl rfl rfl rfl rfl rfl rfl rfl (by as_aux_lemma => kernel_rfl) rfl | (apply call_gate 68; exact stp_callN hF (by as_aux_lemma => kernel_rfl) rfl rfl ⟨⟨.inl rfl, trivial⟩, rfl, trivial⟩ ⟨⟨_, rfl, .inr rfl⟩, trivial⟩ rfl rfl rfl)); refine run_nil ?_; refine fin_seq ?_; refine goes_ret ?_)
      exact fin_ret1 (.inl rfl) rfl (.cell rfl rfl rfl rfl rfl (by as_aux_lemma => kernel_rfl)) ⟨rfl, trivial⟩ trivial
end Go.Proofs.Ytmdhljleaijkbaa

/- Torus maps: the contract of the reference's l10Torus. -/
namespace Go.Proofs.Ytmdhljleaijkbaa
open Go.RowKit

theorem back_in {T : List (List Int)} {N : Nat} (hT : Leads T N) (h0 : 0 < N) (hfull : (orb T N 0).2.length = N) : ∀ f, f < N → 0 ≤ iget (backL (orb T N 0).2) f ∧ iget (backL (orb T N 0).2) f < N := fun f hf => by
  have ok := orb_ok hT h0
  have hall : ∀ d, d < N → ∃ k, k < N ∧ (iget (orb T N 0).2 k).toNat = d := fun d hd => by
    have h1 : bcnt (orb T N 0).1 = (orb T N 0).1.length := by rw [ok.cnt, hfull, ok.l]
    obtain ⟨k, k1, k2⟩ := ok.cov d hd (bcnt_full h1 d (by rw [ok.l]; exact hd))
    exact ⟨k, by omega, by rw [k2, Int.toNat_natCast]⟩
  have hq : ∀ k, k < N → (iget (orb T N 0).2 k).toNat < N := fun k hk => by
    obtain ⟨d, h1, h2, _⟩ := ok.q k (by omega)
    rw [h1, Int.toNat_natCast]; exact h2
  obtain ⟨m, m1, m2⟩ := hall f hf
  unfold backL
  rw [hfull]
  have := putL_get (v := fun i => (i : Int)) hq (fun i j hi hj e => surj_injT (φ := fun k => (iget (orb T N 0).2 k).toNat) hall hi hj e) N (Nat.le_refl _) m m1
  rw [m2] at this
  rw [this]
  omega
/-- the torus map of b and c -/
def torF (b c : Nat) : List (List Int) := formL (torR b c (b * b + c * c) (cAll b c (b * b + c * c) (b * b + c * c))) (backL (orb (torR b c (b * b + c * c) (cAll b c (b * b + c * c) (b * b + c * c))) (8 * (b * b + c * c)) 0).2)
theorem torF_len (b c : Nat) : (torF b c).length = 3 := by unfold torF formL; rw [List.length_map]; rfl
theorem torus_fc (b c : Nat) (hb : b ≤ 7) (hc : c ≤ 7) (h0 : 0 < b * b + c * c) (h50 : b * b + c * c ≤ 50) :
    FC Try.prog 38 [] [vv (I6 b), vv (I6 c)] [(180, imOw (torF b c))] (.s (.agg [.sl 180 0 3])) [] := by
  have hg := torGood_all hb hc h0 h50
  have hA : Apart b c (cAll b c (b * b + c * c) (b * b + c * c)) := Apart.all _
  have I := tor_iso hA rfl h0 hg
  have hfull := tor_full hA rfl h0 hg
  have hin := back_in I.lead I.pos hfull
  have hl := (torGood_spec hg).1
  have hF := formS_fc (torR b c (b * b + c * c) (cAll b c (b * b + c * c) (b * b + c * c))) (8 * (b * b + c * c)) I.lead (by show 0 < 3; omega) (by omega) (by show 3 ≤ _; omega) I.pos hfull hin
  have h3 := torF_len b c
  unfold torF at h3 ⊢
  exact torS_fc b c (b * b + c * c) hb hc rfl h0 hl _ h3 hF
end Go.Proofs.Ytmdhljleaijkbaa

/- Torus maps: what the kernel finds, part 1, printed by gen_torc.py. No program in sight. -/
namespace Go.Proofs.Ytmdhljleaijkbaa

set_option maxRecDepth 100000 in
theorem tgd01 : goodB crt01 crt10 1 false = true := by kernel_rfl
set_option maxRecDepth 100000 in
theorem tfr01 : rowsB crt01 (torF 0 1) = true := by kernel_rfl
set_option maxRecDepth 100000 in
theorem tgd03 : goodB crt03 crt30 9 false = true := by kernel_rfl
set_option maxRecDepth 100000 in
theorem tfr03 : rowsB crt03 (torF 0 3) = true := by kernel_rfl
set_option maxRecDepth 100000 in
theorem tgd10 : goodB crt10 crt01 1 false = true := by kernel_rfl
set_option maxRecDepth 100000 in
theorem tfr10 : rowsB crt10 (torF 1 0) = true := by kernel_rfl
set_option maxRecDepth 100000 in
theorem tgd12 : goodB crt12 crt21 5 true = true := by kernel_rfl
set_option maxRecDepth 100000 in
theorem tfr12 : rowsB crt12 (torF 1 2) = true := by kernel_rfl
set_option maxRecDepth 100000 in
theorem tgd24 : goodB crt24 crt42 20 true = true := by kernel_rfl
set_option maxRecDepth 100000 in
theorem tfr24 : rowsB crt24 (torF 2 4) = true := by kernel_rfl
set_option maxRecDepth 100000 in
theorem tgd40 : goodB crt40 crt04 16 false = true := by kernel_rfl
set_option maxRecDepth 100000 in
theorem tfr40 : rowsB crt40 (torF 4 0) = true := by kernel_rfl
end Go.Proofs.Ytmdhljleaijkbaa

/- Torus maps: what the kernel finds, part 2, printed by gen_torc.py. No program in sight. -/
namespace Go.Proofs.Ytmdhljleaijkbaa

set_option maxRecDepth 100000 in
theorem tgd21 : goodB crt21 crt12 5 true = true := by kernel_rfl
set_option maxRecDepth 100000 in
theorem tfr21 : rowsB crt21 (torF 2 1) = true := by kernel_rfl
set_option maxRecDepth 100000 in
theorem tgd23 : goodB crt23 crt32 13 true = true := by kernel_rfl
set_option maxRecDepth 100000 in
theorem tfr23 : rowsB crt23 (torF 2 3) = true := by kernel_rfl
set_option maxRecDepth 100000 in
theorem tgd32 : goodB crt32 crt23 13 true = true := by kernel_rfl
set_option maxRecDepth 100000 in
theorem tfr32 : rowsB crt32 (torF 3 2) = true := by kernel_rfl
set_option maxRecDepth 100000 in
theorem tgd42 : goodB crt42 crt24 20 true = true := by kernel_rfl
set_option maxRecDepth 100000 in
theorem tfr42 : rowsB crt42 (torF 4 2) = true := by kernel_rfl
end Go.Proofs.Ytmdhljleaijkbaa

/- Torus maps: what the kernel finds, part 3, printed by gen_torc.py. No program in sight. -/
namespace Go.Proofs.Ytmdhljleaijkbaa

set_option maxRecDepth 100000 in
theorem tgd02 : goodB crt02 crt20 4 false = true := by kernel_rfl
set_option maxRecDepth 100000 in
theorem tfr02 : rowsB crt02 (torF 0 2) = true := by kernel_rfl
set_option maxRecDepth 100000 in
theorem tgd04 : goodB crt04 crt40 16 false = true := by kernel_rfl
set_option maxRecDepth 100000 in
theorem tfr04 : rowsB crt04 (torF 0 4) = true := by kernel_rfl
set_option maxRecDepth 100000 in
theorem tgd11 : goodB crt11 crt11 2 false = true := by kernel_rfl
set_option maxRecDepth 100000 in
theorem tfr11 : rowsB crt11 (torF 1 1) = true := by kernel_rfl
set_option maxRecDepth 100000 in
theorem tgd22 : goodB crt22 crt22 8 false = true := by kernel_rfl
set_option maxRecDepth 100000 in
theorem tfr22 : rowsB crt22 (torF 2 2) = true := by kernel_rfl
set_option maxRecDepth 100000 in
theorem tgd31 : goodB crt31 crt13 10 true = true := by kernel_rfl
set_option maxRecDepth 100000 in
theorem tfr31 : rowsB crt31 (torF 3 1) = true := by kernel_rfl
set_option maxRecDepth 100000 in
theorem tgd33 : goodB crt33 crt33 18 false = true := by kernel_rfl
set_option maxRecDepth 100000 in
theorem tfr33 : rowsB crt33 (torF 3 3) = true := by kernel_rfl
end Go.Proofs.Ytmdhljleaijkbaa

/- Torus maps: what the kernel finds, part 4, printed by gen_torc.py. No program in sight. -/
namespace Go.Proofs.Ytmdhljleaijkbaa

set_option maxRecDepth 100000 in
theorem tgd13 : goodB crt13 crt31 10 true = true := by kernel_rfl
set_option maxRecDepth 100000 in
theorem tfr13 : rowsB crt13 (torF 1 3) = true := by kernel_rfl
set_option maxRecDepth 100000 in
theorem tgd14 : goodB crt14 crt41 17 true = true := by kernel_rfl
set_option maxRecDepth 100000 in
theorem tfr14 : rowsB crt14 (torF 1 4) = true := by kernel_rfl
set_option maxRecDepth 100000 in
theorem tgd20 : goodB crt20 crt02 4 false = true := by kernel_rfl
set_option maxRecDepth 100000 in
theorem tfr20 : rowsB crt20 (torF 2 0) = true := by kernel_rfl
set_option maxRecDepth 100000 in
theorem tgd30 : goodB crt30 crt03 9 false = true := by kernel_rfl
set_option maxRecDepth 100000 in
theorem tfr30 : rowsB crt30 (torF 3 0) = true := by kernel_rfl
set_option maxRecDepth 100000 in
theorem tgd41 : goodB crt41 crt14 17 true = true := by kernel_rfl
set_option maxRecDepth 100000 in
theorem tfr41 : rowsB crt41 (torF 4 1) = true := by kernel_rfl
end Go.Proofs.Ytmdhljleaijkbaa

/- Torus maps of at most twenty squares: what they are. No program in sight. -/
namespace Go.Proofs.Ytmdhljleaijkbaa

theorem torP_of {b c n : Nat} {k e : Crt} {ch : Bool} (h1 : goodB k e n ch = true) (h2 : rowsB k (torF b c) = true) (h3 : rowsB e (torF c b) = true) (h4 : n = b * b + c * c) (h5 : ch = decide (b ≠ c ∧ b ≠ 0 ∧ c ≠ 0)) : TorP (torF b c) (torF c b) (b * b + c * c) (decide (b ≠ c ∧ b ≠ 0 ∧ c ≠ 0)) := by
  rw [rowsB_spec h2, rowsB_spec h3, ← h4, ← h5]
  exact goodB_spec h1
theorem tor_P {b c : Nat} (h0 : 0 < b * b + c * c) (h20 : b * b + c * c ≤ 20) : TorP (torF b c) (torF c b) (b * b + c * c) (decide (b ≠ c ∧ b ≠ 0 ∧ c ≠ 0)) := by
  have hb : b < 5 := by
    rcases Nat.lt_or_ge b 5 with h | h
    · exact h
    · have := Nat.mul_le_mul h h; omega
  have hc : c < 5 := by
    rcases Nat.lt_or_ge c 5 with h | h
    · exact h
    · have := Nat.mul_le_mul h h; omega
  match b, c, hb, hc with
  | 0, 0, _, _ => omega
  | 0, 1, _, _ => exact torP_of tgd01 tfr01 tfr10 rfl rfl
  | 0, 2, _, _ => exact torP_of tgd02 tfr02 tfr20 rfl rfl
  | 0, 3, _, _ => exact torP_of tgd03 tfr03 tfr30 rfl rfl
  | 0, 4, _, _ => exact torP_of tgd04 tfr04 tfr40 rfl rfl
  | 1, 0, _, _ => exact torP_of tgd10 tfr10 tfr01 rfl rfl
  | 1, 1, _, _ => exact torP_of tgd11 tfr11 tfr11 rfl rfl
  | 1, 2, _, _ => exact torP_of tgd12 tfr12 tfr21 rfl rfl
  | 1, 3, _, _ => exact torP_of tgd13 tfr13 tfr31 rfl rfl
  | 1, 4, _, _ => exact torP_of tgd14 tfr14 tfr41 rfl rfl
  | 2, 0, _, _ => exact torP_of tgd20 tfr20 tfr02 rfl rfl
  | 2, 1, _, _ => exact torP_of tgd21 tfr21 tfr12 rfl rfl
  | 2, 2, _, _ => exact torP_of tgd22 tfr22 tfr22 rfl rfl
  | 2, 3, _, _ => exact torP_of tgd23 tfr23 tfr32 rfl rfl
  | 2, 4, _, _ => exact torP_of tgd24 tfr24 tfr42 rfl rfl
  | 3, 0, _, _ => exact torP_of tgd30 tfr30 tfr03 rfl rfl
  | 3, 1, _, _ => exact torP_of tgd31 tfr31 tfr13 rfl rfl
  | 3, 2, _, _ => exact torP_of tgd32 tfr32 tfr23 rfl rfl
  | 3, 3, _, _ => exact torP_of tgd33 tfr33 tfr33 rfl rfl
  | 3, 4, _, _ => omega
  | 4, 0, _, _ => exact torP_of tgd40 tfr40 tfr04 rfl rfl
  | 4, 1, _, _ => exact torP_of tgd41 tfr41 tfr14 rfl rfl
  | 4, 2, _, _ => exact torP_of tgd42 tfr42 tfr24 rfl rfl
  | 4, 3, _, _ => omega
  | 4, 4, _, _ => omega
end Go.Proofs.Ytmdhljleaijkbaa

/- Maps keyed by torus flags. -/
namespace Go.Proofs.Ytmdhljleaijkbaa
open Go.RowKit

def fv (t : TF) : Value := .agg #[.int .i64 t.x, .int .i64 t.y, .int .i64 t.d, .bool t.l]
theorem fv_eq (t u : TF) (w : World) : (Op.equalIn 10000 88 (fv t) (fv u)).run Try.prog w = .ok (decide (t = u)) w := by
  obtain ⟨x, y, d, l⟩ := t
  obtain ⟨x', y', d', l'⟩ := u
  rw [fv, fv, show (10000 : Nat) = 9998 + 1 + 1 from rfl, run_equalIn_agg w (9998 + 1) 88 _ _ (by kernel_rfl) (by kernel_rfl)]
  simp [go_sem, Try.underlying88]
  by_cases h1 : x = x' <;> by_cases h2 : y = y' <;> by_cases h3 : d = d' <;> by_cases h4 : l = l' <;> simp [h1, h2, h3, h4]
theorem fv_check (b : Bool) (t : TF) (w : World) : (Instr.checkKey b 10000 88 (fv t)).run Try.prog w = .ok () w := by
  obtain ⟨x, y, d, l⟩ := t
  rw [fv]
  have h : ∀ n, (Instr.checkKey b (n + 1 + 1) 88 (.agg #[.int .i64 x, .int .i64 y, .int .i64 d, .bool l])).run Try.prog w = .ok () w := fun n => by
    simp [Instr.checkKey, go_sem, run_underlying Try.underlying88, run_underlying Try.underlying2, run_underlying Try.underlying4]
  exact h 9998
def entT : List TF → Nat → List (Value × Value)
  | [], _ => []
  | a :: r, i => (fv a, .int .i64 (i : Int)) :: entT r (i + 1)
theorem entT_app (k : TF) : ∀ (ks : List TF) (i : Nat), entT (ks ++ [k]) i = entT ks i ++ [(fv k, .int .i64 ((i + ks.length : Nat) : Int))]
  | [], i => rfl
  | a :: r, i => by simp [entT, entT_app k r (i + 1)]; omega
/-- the block holds a map of these keys to their numbers -/
def MapT (w : World) (b : Nat) (ks : List TF) : Prop := ∃ es clock, w.heap[b]? = some (.map es clock) ∧ es.toList.map (fun e => (e.key, e.val)) = entT ks 0
theorem find_run (k : TF) (w : World) : ∀ (es : List MapEntry) (ks : List TF) (i : Nat) (j : Nat), es.map (fun e => (e.key, e.val)) = entT ks j → (Instr.findAsking 88 (fv k) es i).run Try.prog w = .ok ((fndT k ks 0).map fun m => (i + m, Value.int .i64 ((j + m : Nat) : Int))) w
  | [], ks, i, j, h => by
    cases ks with
    | nil => simp [Instr.findAsking, fndT, Sem.run_pure]
    | cons a r => simp [entT] at h
  | e :: es, ks, i, j, h => by
    cases ks with
    | nil => simp [entT] at h
    | cons a r =>
      simp [entT] at h
      obtain ⟨⟨h1, h2⟩, h3⟩ := h
      have ih := find_run k w es r (i + 1) (j + 1) h3
      have sh : ∀ n m, fndT k r (n + m) = (fndT k r n).map (· + m) := by
        clear h3 ih
        induction r with
        | nil => intro n m; rfl
        | cons c r ih2 =>
          intro n m
          unfold fndT
          split
          · rfl
          · rw [show n + m + 1 = (n + 1) + m by omega]; exact ih2 (n + 1) m
      simp only [Instr.findAsking, Sem.run_bind, h1, h2, Op.equal, Op.maxDepth, fv_eq, Result.andThen_ok]
      by_cases hk : k = a
      · simp [hk, fndT, Sem.run_pure]
      · rw [decide_eq_false hk]
        simp only [Bool.false_eq_true, if_false]
        rw [ih]
        have := sh 0 1
        simp only [fndT, hk, if_false]
        rw [this]
        cases fndT k r 0 with
        | none => rfl
        | some m => simp; omega
theorem key_run (k : TF) (w : World) {es : List MapEntry} {ks : List TF} (h : es.map (fun e => (e.key, e.val)) = entT ks 0) : (Instr.findKey 88 (fv k) es).run Try.prog w = .ok ((fndT k ks 0).map fun m => (m, Value.int .i64 (m : Int))) w := by
  have hr := find_run k w es ks 0 0 h
  simp only [Nat.zero_add] at hr
  unfold Instr.findKey
  simp only [Sem.run_bind, run_underlying Try.underlying88, Result.andThen_ok]
  cases es with
  | nil =>
    cases ks with
    | nil => rfl
    | cons a r => simp [entT] at h
  | cons e es => exact hr
theorem look_run (k : TF) {w : World} {b : Nat} {ks : List TF} (h : MapT w b ks) :
    (Instr.lookup 91 (.map (some b)) (fv k) true).run Try.prog w = .ok (match fndT k ks 0 with | some m => .tuple #[.int .i64 (m : Int), .bool true] | none => .tuple #[.int .i64 0, .bool false]) w := by
  obtain ⟨es, clock, hb, hm⟩ := h
  have hz : (zeroValue 2).run Try.prog w = .ok (.int .i64 0) w := by simp [go_sem, run_underlying Try.underlying2]
  have hk := key_run k w hm
  cases hf : fndT k ks 0 with
  | none =>
    rw [hf] at hk
    simp [Instr.lookup, run_underlying Try.underlying91, MapKept.run_getObj_map hb, fv_check, hk, hz, Result.andThen]
  | some m =>
    rw [hf] at hk
    simp [Instr.lookup, run_underlying Try.underlying91, MapKept.run_getObj_map hb, fv_check, hk, Result.andThen]
theorem put_run (k : TF) {w : World} {b : Nat} {ks : List TF} (h : MapT w b ks) (hf : fndT k ks 0 = none) (v : Nat) (hv : v = ks.length) :
    ∃ o, (Instr.mapUpdate 91 (.map (some b)) (fv k) (.int .i64 (v : Int))).run Try.prog w = .ok () (Go.ChangeMaps.setBlock w b o) ∧ MapT (Go.ChangeMaps.setBlock w b o) b (ks ++ [k]) := by
  obtain ⟨es, clock, hb, hm⟩ := h
  have hk := key_run k w hm
  rw [hf] at hk
  refine ⟨.map (es.push { key := fv k, val := .int .i64 (v : Int), born := clock }) (clock + 1), ?_, ?_⟩
  · simp [Instr.mapUpdate, run_underlying Try.underlying91, MapKept.run_getObj_map hb, fv_check, hk, MapKept.run_setObj_map _ hb, Result.andThen, Go.ChangeMaps.setBlock]
  · have hlt := (Array.getElem?_eq_some_iff.1 hb).1
    refine ⟨es.push { key := fv k, val := .int .i64 (v : Int), born := clock }, clock + 1, by simp [Go.ChangeMaps.setBlock, hlt], ?_⟩
    rw [entT_app]; simp [hm, hv]
theorem only_block (w : World) (b : Nat) (o : Obj) : Only b (b + 1) w (Go.ChangeMaps.setBlock w b o) := by
  refine ⟨rfl, rfl, rfl, by simp [Go.ChangeMaps.setBlock], fun k hk hd => ?_⟩
  simp [Go.ChangeMaps.setBlock, Array.getElem?_setIfInBounds]
  intro h; omega
section
variable (w : World) {ops : Array Oper} {rest : List Oper} {o : Oper} {a : Act} {Q : Exit → Act → World → Prop}
theorem wpList_lookY (hg : o.guard = none) (m x : Operand) (hop : o.op = Op.lookup 91 m x true) (b : Nat) (ks : List TF) (k : TF) (j : Nat) (hM : MapT w b ks) (hf : fndT k ks 0 = some j) (hm : a.eval m = .map (some b)) (hx : a.eval x = fv k)
    (hK : wpList Try.prog ops Q rest (a.put o.dst (.tuple #[.int .i64 (j : Int), .bool true])) w) : wpList Try.prog ops Q (o :: rest) a w := by
  refine wpList_plain hg fun K' hK' => ?_
  have hrun := look_run k hM
  rw [hf] at hrun
  unfold Oper.wp
  simp [execOp, hop, hm, hx, hrun, Result.andThen]
  exact hK' _ _ hK
theorem wpList_lookN (hg : o.guard = none) (m x : Operand) (hop : o.op = Op.lookup 91 m x true) (b : Nat) (ks : List TF) (k : TF) (hM : MapT w b ks) (hf : fndT k ks 0 = none) (hm : a.eval m = .map (some b)) (hx : a.eval x = fv k)
    (hK : wpList Try.prog ops Q rest (a.put o.dst (.tuple #[.int .i64 0, .bool false])) w) : wpList Try.prog ops Q (o :: rest) a w := by
  refine wpList_plain hg fun K' hK' => ?_
  have hrun := look_run k hM
  rw [hf] at hrun
  unfold Oper.wp
  simp [execOp, hop, hm, hx, hrun, Result.andThen]
  exact hK' _ _ hK
theorem wpList_putT (hg : o.guard = none) (m x v : Operand) (hop : o.op = Op.mapUpdate 91 m x v ∨ o.op = Op.insert 91 m x v) (b : Nat) (ks : List TF) (k : TF) (z : Int) (hM : MapT w b ks) (hf : fndT k ks 0 = none) (hm : a.eval m = .map (some b)) (hx : a.eval x = fv k) (hv : a.eval v = .int .i64 z) (hz : z = (ks.length : Int))
    (hK : ∀ w', Only b (b + 1) w w' → MapT w' b (ks ++ [k]) → wpList Try.prog ops Q rest (a.put o.dst undef) w') : wpList Try.prog ops Q (o :: rest) a w := by
  refine wpList_plain hg fun K' hK' => ?_
  obtain ⟨ob, hrun, hM2⟩ := put_run k hM hf ks.length rfl
  unfold Oper.wp
  subst hz
  rcases hop with hop | hop
  · simp [execOp, hop, hm, hx, hv, hrun, Result.andThen]
    exact hK' _ _ (hK _ (only_block w b ob) hM2)
  · simp [execOp, hop, hm, hx, hv, hrun, Result.andThen]
    exact hK' _ _ (hK _ (only_block w b ob) hM2)
end
end Go.Proofs.Ytmdhljleaijkbaa

/- The program's search of a torus map: bounds, and its steps one by one. No program in sight. -/
namespace Go.Proofs.Ytmdhljleaijkbaa
open Go.RowKit

/-- the j-th flag lies within j steps -/
def TB (L : List TF) : Prop := ∀ j, j < L.length → (-(j : Int) ≤ (tget L j).x ∧ (tget L j).x ≤ j) ∧ (-(j : Int) ≤ (tget L j).y ∧ (tget L j).y ≤ j) ∧ 0 ≤ (tget L j).d ∧ (tget L j).d ≤ 3
theorem TB.start : TB [tf0] := fun j hj => by
  have : j = 0 := by simp at hj; omega
  subst this
  exact ⟨by decide, by decide, by decide, by decide⟩
theorem tmv_near {t : TF} {i m : Nat} (hi : i < 3) (h : (-(m : Int) ≤ t.x ∧ t.x ≤ m) ∧ (-(m : Int) ≤ t.y ∧ t.y ≤ m) ∧ 0 ≤ t.d ∧ t.d ≤ 3) :
    (-((m + 1 : Nat) : Int) ≤ (tmv i t).x ∧ (tmv i t).x ≤ ((m + 1 : Nat) : Int)) ∧ (-((m + 1 : Nat) : Int) ≤ (tmv i t).y ∧ (tmv i t).y ≤ ((m + 1 : Nat) : Int)) ∧ 0 ≤ (tmv i t).d ∧ (tmv i t).d ≤ 3 := by
  have b1 : -1 ≤ sx t.d ∧ sx t.d ≤ 1 := by unfold sx; split; omega; split <;> omega
  have b2 : -1 ≤ sy t.d ∧ sy t.d ≤ 1 := by unfold sy; split; omega; split <;> omega
  obtain ⟨h1, h2, h3⟩ := h
  match i, hi with
  | 0, _ => exact ⟨by show _ ≤ t.x + sx t.d ∧ t.x + sx t.d ≤ _; omega, by show _ ≤ t.y + sy t.d ∧ t.y + sy t.d ≤ _; omega, by show 0 ≤ (t.d + 2) % 4 ∧ (t.d + 2) % 4 ≤ 3; omega⟩
  | 1, _ => exact ⟨by show _ ≤ t.x ∧ t.x ≤ _; omega, by show _ ≤ t.y ∧ t.y ≤ _; omega, by
      show 0 ≤ (if t.l = true then (t.d + 1) % 4 else (t.d + 3) % 4) ∧ (if t.l = true then (t.d + 1) % 4 else (t.d + 3) % 4) ≤ 3
      split <;> omega⟩
  | 2, _ => exact ⟨by show _ ≤ t.x ∧ t.x ≤ _; omega, by show _ ≤ t.y ∧ t.y ≤ _; omega, h3⟩
section
variable {b c n : Int}
theorem pStep_old {t0 : TF} {s : PSt} {i j : Nat} (h : fndT (tkey b c n (tmv i t0)) (s.1.map (tkey b c n)) 0 = some j) : pStep b c n t0 s i = (s.1, s.2.set i (lget s.2 i ++ [(j : Int)])) := by
  unfold pStep; rw [h]
theorem pStep_new {t0 : TF} {s : PSt} {i : Nat} (h : fndT (tkey b c n (tmv i t0)) (s.1.map (tkey b c n)) 0 = none) : pStep b c n t0 s i = (s.1 ++ [tmv i t0], s.2.set i (lget s.2 i ++ [(s.1.length : Int)])) := by
  unfold pStep; rw [h]
theorem TB.step {s : PSt} {m i : Nat} (h : TB s.1) (hm : m < s.1.length) (hi : i < 3) {t0 : TF} (ht : t0 = tget s.1 m) : TB (pStep b c n t0 s i).1 := by
  cases hf : fndT (tkey b c n (tmv i t0)) (s.1.map (tkey b c n)) 0 with
  | some j => rw [pStep_old hf]; exact h
  | none =>
    rw [pStep_new hf]
    intro j hj
    by_cases e : j < s.1.length
    · rw [tget_app_lt e]; exact h j e
    · obtain rfl : j = s.1.length := by simp at hj; omega
      rw [tget_app_eq]
      have := tmv_near hi (h m hm)
      rw [← ht] at this
      omega
theorem pStep_keep {s : PSt} {m i : Nat} (hm : m < s.1.length) (t0 : TF) : s.1.length ≤ (pStep b c n t0 s i).1.length ∧ tget (pStep b c n t0 s i).1 m = tget s.1 m := by
  cases hf : fndT (tkey b c n (tmv i t0)) (s.1.map (tkey b c n)) 0 with
  | some j => rw [pStep_old hf]; exact ⟨Nat.le_refl _, rfl⟩
  | none => rw [pStep_new hf]; exact ⟨by simp, tget_app_lt hm⟩
theorem pLoop_stop {f i : Nat} {s : PSt} (h : ¬ i < s.1.length) : pLoop b c n f i s = s := by
  cases f with
  | zero => rfl
  | succ f => unfold pLoop; rw [if_neg h]
theorem pLoop_go {f i : Nat} {s : PSt} (h : i < s.1.length) : pLoop b c n (f + 1) i s = pLoop b c n f (i + 1) (pRow b c n (tget s.1 i) s 3) := by
  conv => lhs; unfold pLoop
  rw [if_pos h]
end
end Go.Proofs.Ytmdhljleaijkbaa

/- Torus maps, the program's search: the state of its walk. -/
namespace Go.Proofs.Ytmdhljleaijkbaa
open Go.RowKit

/-- the cells of flags -/
def fcells : List TF → List Value
  | [] => []
  | t :: r => .int .i64 t.x :: .int .i64 t.y :: .int .i64 t.d :: .bool t.l :: fcells r
theorem fcells_len : ∀ L, (fcells L).length = L.length * 4
  | [] => rfl
  | t :: r => by simp [fcells, fcells_len r]; omega
theorem fcells_app (t : TF) : ∀ L, fcells L ++ [.int .i64 t.x, .int .i64 t.y, .int .i64 t.d, .bool t.l] = fcells (L ++ [t])
  | [] => rfl
  | u :: r => by simp [fcells, fcells_app t r]
theorem fcells_get : ∀ (L : List TF) (j : Nat), j < L.length → (fcells L)[j * 4]? = some (.int .i64 (tget L j).x) ∧ (fcells L)[j * 4 + 1]? = some (.int .i64 (tget L j).y) ∧ (fcells L)[j * 4 + 2]? = some (.int .i64 (tget L j).d) ∧ (fcells L)[j * 4 + 3]? = some (.bool (tget L j).l)
  | [], j, h => by simp at h
  | t :: r, 0, h => by simp [fcells, tget]
  | t :: r, j + 1, h => by
    have ih := fcells_get r j (by simpa using h)
    rw [show (j + 1) * 4 = j * 4 + 1 + 1 + 1 + 1 by omega]
    simpa [fcells, tget] using ih
/-- the slice at ao, of m flags, is a row of the call's own -/
def OwnF (w : World) (base : Nat) (ao : Option Addr) (m c : Nat) (L : List TF) : Prop :=
  w.ownsRow base 88 4 (.slice ao m c) m (fcells L) ∧ m ≤ 4398046511104
section
variable {w w' : World} {base : Nat} {ao : Option Addr} {m c : Nat} {L : List TF}
theorem OwnF.len (h : OwnF w base ao m c L) : L.length = m := by
  have := h.1.1; rw [fcells_len] at this; omega
theorem OwnF.lt (h : OwnF w base ao m c L) : ∀ g, bk ao = some g → base ≤ g ∧ g < w.heap.size := by
  have := h.1.lt
  rw [ownBlock_slice] at this; exact this
theorem OwnF.same (h : OwnF w base ao m c L) (hs : ∀ g, bk ao = some g → w'.heap[g]? = w.heap[g]?) : OwnF w' base ao m c L := by
  refine ⟨⟨h.1.1, ?_⟩, h.2⟩
  rcases h.1.2 with h2 | ⟨g, cap, cur, hv, hg, hh, r⟩
  · exact Or.inl h2
  · refine Or.inr ⟨g, cap, cur, hv, hg, ?_, r⟩
    have : bk ao = some g := by injection hv with h1; subst h1; rfl
    rw [hs g this]; exact hh
theorem OwnF.typ (h : OwnF w base ao m c L) {g : Nat} (hg : bk ao = some g) : ∃ cs, w.heap[g]? = some (.cells cs 88 (0, 0)) := by
  rcases h.1.2 with h2 | ⟨g', cap, cur, hv, _, hh, _⟩
  · have h2 := h2.1
    injection h2 with h3; subst h3; cases hg
  · injection hv with h3; subst h3
    obtain rfl := Option.some.inj hg
    exact ⟨cur, hh⟩
theorem OwnF.at_ (h : OwnF w base ao m c L) {j : Nat} (hj : j < m) : ∃ g, ao = some ⟨g, 0, none⟩ ∧ g < w.heap.size ∧ w.cell? ⟨g, j * 4, none⟩ = some (.int .i64 (tget L j).x) ∧ w.cell? ⟨g, j * 4 + 1, none⟩ = some (.int .i64 (tget L j).y) ∧ w.cell? ⟨g, j * 4 + 2, none⟩ = some (.int .i64 (tget L j).d) ∧ w.cell? ⟨g, j * 4 + 3, none⟩ = some (.bool (tget L j).l) := by
  have hl := h.len
  obtain ⟨g, cap, hv, hb, hlt⟩ := h.1.form (by omega)
  injection hv with h1 _ h2
  subst h1 h2
  have hg := fcells_get L j (by omega)
  exact ⟨g, rfl, hlt, (h.1.cellAt (j * 4) (by omega)).trans hg.1, (h.1.cellAt (j * 4 + 1) (by omega)).trans hg.2.1, (h.1.cellAt (j * 4 + 2) (by omega)).trans hg.2.2.1, (h.1.cellAt (j * 4 + 3) (by omega)).trans hg.2.2.2⟩
theorem OwnF.kept {row : Option Nat} (h : OwnF w base ao m c L) (hg : w.grownBy w' row) (hne : ∀ g, bk ao = some g → row ≠ some g) : OwnF w' base ao m c L :=
  h.same fun g hb => hg.block g (h.lt g hb).2 fun e => hne g hb e.symm
end
section
variable {ops : Array Oper} {rest : List Oper} {o : Oper} {a : Act} {Q : Exit → Act → World → Prop}
theorem info_flag : (Try.prog.info? 88).map (fun i => (i.zero, i.size, i.bytes)) = some (some (.agg #[.int .i64 0, .int .i64 0, .int .i64 0, .bool false]), 4, 32) := by kernel_rfl
/-- append(s, t) of one flag: it lies in a block of its own, just laid -/
theorem wpList_apF (w : World) (hg : o.guard = none) (s x : Operand) (ho : o.op = .call { callee := .builtin .append, args := #[s, x], argTypes := #[90, 90] })
    (base : Nat) (ao : Option Addr) (n c : Nat) (L : List TF) (hs : a.eval s = .slice ao n c) (hown : OwnF w base ao n c L) (t : TF)
    (hx : a.eval x = .slice (some ⟨w.heap.size, 0, none⟩) 1 1) (hn : n + 1 ≤ 4398046511104) (hbase : base ≤ w.heap.size)
    (hK : ∀ ao' c' w', OwnF w' base ao' (n + 1) c' (L ++ [t]) → w.grownBy w' (bk ao) → (bk ao' = bk ao ∨ bk ao' = some (w.heap.size + 1)) → wpList Try.prog ops Q rest (a.put o.dst (.slice ao' (n + 1) c')) w') :
    wpList Try.prog ops Q (o :: rest) a (w.alloc (.cells #[.int .i64 t.x, .int .i64 t.y, .int .i64 t.d, .bool t.l] 88)) := by
  obtain ⟨i, hi, hz, hsz, hby⟩ := info_parts info_flag
  have hown' : OwnF (w.alloc (.cells #[.int .i64 t.x, .int .i64 t.y, .int .i64 t.d, .bool t.l] 88)) base ao n c L := hown.same fun g hg => Below.heap_alloc w _ g (hown.lt g hg).2
  refine wpList_append_own_at _ hg s x 90 ho base 88 i (.agg #[.int .i64 0, .int .i64 0, .int .i64 0, .bool false]) 4 32 Try.underlying90 hi hz hsz hby rfl (by omega) (.slice ao n c) n (fcells L) hs hown'.1 ⟨w.heap.size, 0, none⟩ 1 1 [.int .i64 t.x, .int .i64 t.y, .int .i64 t.d, .bool t.l] hx rfl (by
      intro j y hj
      match j, hj with
      | 0, hj => simp at hj; subst hj; simp [Addr.add]
      | 1, hj => simp at hj; subst hj; simp [Addr.add]
      | 2, hj => simp at hj; subst hj; simp [Addr.add]
      | 3, hj => simp at hj; subst hj; simp [Addr.add]
      | j + 4, hj => simp at hj)
    (by intro y hy; simp at hy; rcases hy with rfl | rfl | rfl | rfl <;> rfl) (by simp [maxLen]; omega) (by omega) (by simp; omega) ?_
  intro v' w' h1 h2 _ h4
  rw [ownBlock_slice] at h2 h4
  rw [fcells_app] at h1
  obtain ⟨g, cap, rfl, hb, hlt⟩ := h1.form (by omega)
  refine hK _ _ _ ⟨h1, hn⟩ (grown_tr (World.grownBy_alloc w _ _) h2) ?_
  rw [ownBlock_slice] at h4
  simpa using h4
end
theorem Own.typF {w : World} {lo E n c : Nat} {ao : Option Addr} {xs : List Value} (h : Own w lo E ao n c xs) {g : Nat} (hg : bk ao = some g) : ∃ cs, w.heap[g]? = some (.cells cs E (0, 0)) := by
  rcases h.1.2 with h2 | ⟨g', cap, cur, hv, _, hh, _⟩
  · have h2 := h2.1
    injection h2 with h3; subst h3; cases hg
  · injection hv with h3; subst h3
    obtain rfl := Option.some.inj hg
    exact ⟨cur, hh⟩
theorem OwR.sameF {w w' : World} {lo hi E F : Nat} {ao : Option Addr} {n c : Nat} {xs : List Value} {ds : List (List Int)} (h : OwR (OwS F) w lo hi E ao n c xs ds) (hs : ∀ g cs t, lo ≤ g → g < hi → w.heap[g]? = some (.cells cs t (0, 0)) → t = E ∨ t = F → w'.heap[g]? = w.heap[g]?) : OwR (OwS F) w' lo hi E ao n c xs ds :=
  { own := h.own.same fun g hg => by
      obtain ⟨cs, hc⟩ := h.own.typF hg
      exact hs g cs E (h.own.lt g hg).1 (h.top g hg) hc (.inl rfl)
    top := h.top, len := h.len, rng := h.rng, out := h.out, apart := h.apart
    el := fun j u d hu hd => by
      obtain ⟨ao', n', c', rfl, ho⟩ := h.el j u d hu hd
      refine ⟨ao', n', c', rfl, ho.same fun g hg => ?_⟩
      obtain ⟨cs, hc⟩ := ho.typF hg
      have hr := h.rng j _ hu g (by rw [ownBlock_slice]; exact hg)
      exact hs g cs F hr.1 hr.2 hc (.inr rfl) }
abbrev clV (nb : Nat) : Value := .func (.func 63) #[] #[.pointer (some ⟨nb, 0, none⟩)]
/-- the search: its boxes (b, c, the result, n, the closure), the flags, the map, the rows -/
structure TS (b c n : Int) (w wr : World) (lo p1 p2 p3 p4 : Nat) (ao : Option Addr) (cap mb g0 : Nat) (us : List Value) (s : PSt) : Prop where
  bx : Blk wr w.heap.size 2 #[.int .i64 b]
  cx : Blk wr p1 2 #[.int .i64 c]
  mn : Blk wr p2 28 #[.slice none 0 0]
  nx : Blk wr p3 2 #[.int .i64 n]
  fx : Blk wr p4 52 #[clV p3]
  ps : (w.heap.size < p1 ∧ p1 < lo) ∧ (w.heap.size < p2 ∧ p2 < lo) ∧ (w.heap.size < p3 ∧ p3 < lo) ∧ (w.heap.size < p4 ∧ p4 < lo)
  ls : OwnF wr lo ao s.1.length cap s.1
  mp : MapT wr mb (s.1.map (tkey b c n))
  at_ : lo ≤ mb
  rws : OwR (OwS 2) wr lo wr.heap.size 32 (some ⟨g0, 0, none⟩) 3 3 us s.2
  bel : Below w.heap.size w wr
theorem MapT.lt {w : World} {b : Nat} {ks : List TF} (h : MapT w b ks) : b < w.heap.size := by
  obtain ⟨es, k, hb, _⟩ := h
  exact (Array.getElem?_eq_some_iff.1 hb).1
theorem MapT.same {w w' : World} {b : Nat} {ks : List TF} (h : MapT w b ks) (hs : w'.heap[b]? = w.heap[b]?) : MapT w' b ks := by
  obtain ⟨es, k, hb, hm⟩ := h
  exact ⟨es, k, hs.trans hb, hm⟩
section
variable {b c n : Int} {w wr w' : World} {lo p1 p2 p3 p4 : Nat} {ao : Option Addr} {cap mb g0 : Nat} {us : List Value} {s : PSt}
theorem TS.size (h : TS b c n w wr lo p1 p2 p3 p4 ao cap mb g0 us s) : lo ≤ wr.heap.size := by have := h.mp.lt; have := h.at_; omega
/-- what may turn: nothing below, neither the boxes -/
theorem TS.keep (h : TS b c n w wr lo p1 p2 p3 p4 ao cap mb g0 us s) (hb : Below wr.heap.size wr w') : TS b c n w w' lo p1 p2 p3 p4 ao cap mb g0 us s := by
  have hs := h.size
  exact ⟨h.bx.belowS hb, h.cx.belowS hb, h.mn.belowS hb, h.nx.belowS hb, h.fx.belowS hb, h.ps, h.ls.same fun g hg => hb.block g (h.ls.lt g hg).2, h.mp.same (hb.block mb h.mp.lt), h.at_, (h.rws.below (innerS _) hb).mono (Nat.le_refl _) hb.size, h.bel.trans (hb.mono h.bel.size)⟩
theorem TS.put (h : TS b c n w wr lo p1 p2 p3 p4 ao cap mb g0 us s) {k : TF} (ho : Only mb (mb + 1) wr w') (hm : MapT w' mb (s.1.map (tkey b c n) ++ [k])) :
    OwnF w' lo ao s.1.length cap s.1 ∧ (∀ {L : List TF} {r : List (List Int)} {ao' : Option Addr} {cap' : Nat} {w2 : World}, w'.grownBy w2 (bk ao) → OwnF w2 lo ao' L.length cap' L → L.map (tkey b c n) = s.1.map (tkey b c n) ++ [k] → r = s.2 → TS b c n w w2 lo p1 p2 p3 p4 ao' cap' mb g0 us (L, r)) := by
  have hs := h.size
  have hps := h.ps
  have hat := h.at_
  obtain ⟨es, ck, hmb, _⟩ := h.mp
  have hne : ∀ (g : Nat) (cs : Array Value) (t : TypeId), wr.heap[g]? = some (Obj.cells cs t (0, 0)) → g ≠ mb := fun g cs t hg e => by subst e; rw [hmb] at hg; cases hg
  have hk : ∀ g, g < wr.heap.size → g ≠ mb → w'.heap[g]? = wr.heap[g]? := fun g hg hn => ho.block g hg (by omega)
  have hF : OwnF w' lo ao s.1.length cap s.1 := h.ls.same fun g hg => by
    obtain ⟨cs, hc⟩ := h.ls.typ hg
    exact hk g (h.ls.lt g hg).2 (hne g cs _ hc)
  refine ⟨hF, fun {L r ao' cap' w2} hg hL hmap hr => ?_⟩
  subst hr
  have hsz := ho.size
  have hsz2 := hg.size
  have hB : Below lo w' w2 := ⟨hg.os, hg.tape, hg.output, hg.size, fun g hlt => hg.block g (by omega) fun e => by have := (h.ls.lt g e.symm).1; omega⟩
  have hB0 : Below lo wr w2 := (ho.below (by omega) hs).trans hB
  have hlist : ∀ (g : Nat) (cs : Array Value) (t : TypeId), w'.heap[g]? = some (Obj.cells cs t (0, 0)) → t ≠ 88 → w2.heap[g]? = w'.heap[g]? := fun g cs t hc hn => hg.block g (by exact (Array.getElem?_eq_some_iff.1 hc).1) fun e => by
    obtain ⟨cs', hc'⟩ := hF.typ e.symm
    rw [hc'] at hc
    injection hc with hc
    injection hc with h1 h2
    exact hn h2.symm
  refine ⟨h.bx.below hB0 (by omega), h.cx.below hB0 (by omega), h.mn.below hB0 (by omega), h.nx.below hB0 (by omega), h.fx.below hB0 (by omega), h.ps, hL, ?_, hat, ?_, h.bel.trans (hB0.mono (by omega))⟩
  · rw [hmap]
    obtain ⟨es', ck', hmb', e'⟩ := hm
    refine ⟨es', ck', ?_, e'⟩
    rw [hg.block mb (Array.getElem?_eq_some_iff.1 hmb').1 fun e => ?_]
    · exact hmb'
    · obtain ⟨cs', hc'⟩ := hF.typ e.symm
      rw [hc'] at hmb'; cases hmb'
  · have h1 := h.rws.sameF (w' := w2) fun g cs t _ hhi hc ht => by
      have e1 := hk g hhi (hne g cs t hc)
      rw [← e1] at hc ⊢
      exact hlist g cs t hc (by rcases ht with rfl | rfl <;> decide)
    exact h1.mono (Nat.le_refl _) (by omega)
/-- the number goes behind its row -/
theorem TS.row (h : TS b c n w wr lo p1 p2 p3 p4 ao cap mb g0 us s) {i : Nat} (hi : i < 3) {ra ra' : Option Addr} {rn rc rc' : Nat} (hu : us[i]? = some (.slice ra rn rc)) {zs : List Int} (hg : wr.grownBy w' (bk ra)) (ho : Own w' 0 2 ra' (rn + 1) rc' (zs.map (Value.int .i64))) (hat : bk ra' = bk ra ∨ ∃ g, bk ra' = some g ∧ wr.heap.size ≤ g) (hne : ∀ g, bk ra' = some g → lo ≤ g) :
    TS b c n w (w'.setCell ⟨g0, i, none⟩ (.slice ra' (rn + 1) rc')) lo p1 p2 p3 p4 ao cap mb g0 (us.set i (.slice ra' (rn + 1) rc')) (s.1, s.2.set i zs) := by
  have hs := h.size
  have hps := h.ps
  have hat_ := h.at_
  have hsz := hg.size
  have hg0 := h.rws.own.lt g0 rfl
  obtain ⟨cs0, hc0⟩ := h.rws.own.typF (g := g0) rfl
  have hrow : ∀ g, bk ra = some g → lo ≤ g ∧ ∃ cs, wr.heap[g]? = some (.cells cs 2 (0, 0)) := fun g e => by
    have hr := h.rws.rng i _ hu g (by rw [ownBlock_slice]; exact e)
    obtain ⟨d, hd⟩ : ∃ d, s.2[i]? = some d := ⟨_, List.getElem?_eq_getElem (by have := h.rws.len; omega)⟩
    obtain ⟨a1, n1, c1, e1, o1⟩ := h.rws.el i _ d hu hd
    injection e1 with e1 e2 e3
    subst e1 e2 e3
    exact ⟨hr.1, o1.typF e⟩
  have hB : Below lo wr w' := ⟨hg.os, hg.tape, hg.output, hg.size, fun g hlt => hg.block g (by omega) fun e => by have := (hrow g e.symm).1; omega⟩
  have hB2 : Below lo wr (w'.setCell ⟨g0, i, none⟩ (.slice ra' (rn + 1) rc')) := hB.setCell (by show _ ≤ g0; omega) _
  have hset : ∀ g, g ≠ g0 → (w'.setCell ⟨g0, i, none⟩ (.slice ra' (rn + 1) rc')).heap[g]? = w'.heap[g]? := fun g hne => Below.heap_setCell _ _ _ _ hne
  have hoth : ∀ g o, wr.heap[g]? = some o → (∀ (cs : Array Value) (t : TypeId), o = Obj.cells cs t (0, 0) → t ≠ 2 ∧ t ≠ 32) → (w'.setCell ⟨g0, i, none⟩ (.slice ra' (rn + 1) rc')).heap[g]? = wr.heap[g]? := fun g o hgo hn => by
    rw [hset g fun e => by rw [e, hc0] at hgo; exact (hn _ _ (Option.some.inj hgo).symm).2 rfl]
    exact hg.block g (Array.getElem?_eq_some_iff.1 hgo).1 fun e => by
      obtain ⟨_, cs, hc⟩ := hrow g e.symm
      rw [hc] at hgo
      exact (hn _ _ (Option.some.inj hgo).symm).1 rfl
  have hput := h.rws.put (innerS _) (w' := w') (u' := .slice ra' (rn + 1) rc') (d' := zs) hu (by rw [ownBlock_slice]; exact hg) ⟨_, _, _, rfl, ho⟩ (by rw [ownBlock_slice, ownBlock_slice]; rcases hat with e | ⟨g, e1, e2⟩; exact .inr (.inl e); exact .inr (.inr ⟨g, e1, e2⟩)) (Nat.le_refl _) hs
  refine ⟨h.bx.below hB2 (by omega), h.cx.below hB2 (by omega), h.mn.below hB2 (by omega), h.nx.below hB2 (by omega), h.fx.below hB2 (by omega), h.ps, ?_, ?_, hat_, ?_, h.bel.trans (hB2.mono (by omega))⟩
  · exact h.ls.same fun g hg => by
      obtain ⟨cs, hc⟩ := h.ls.typ hg
      exact hoth g _ hc fun cs' t e => by injection e with e1 e2; subst e2; decide
  · obtain ⟨es, ck, hmb, e⟩ := h.mp
    exact ⟨es, ck, (hoth mb _ hmb fun cs t e => by cases e).trans hmb, e⟩
  · have : (w'.setCell ⟨g0, i, none⟩ (.slice ra' (rn + 1) rc')).heap.size = w'.heap.size := by simp [World.setCell]
    rw [this]; exact hput
end
theorem TS.init {b c n : Int} {w w6 w7 w8 w9 : World} {lo p1 p2 p3 p4 p5 mb : Nat} (k1 : Blk w6 w.heap.size 2 #[.int .i64 b]) (k2 : Blk w6 p1 2 #[.int .i64 c]) (k3 : Blk w6 p2 28 #[.slice none 0 0]) (k4 : Blk w6 p3 2 #[.int .i64 n]) (k5 : Blk w6 p4 52 #[clV p3])
    (ps : (w.heap.size < p1 ∧ p1 < lo) ∧ (w.heap.size < p2 ∧ p2 < lo) ∧ (w.heap.size < p3 ∧ p3 < lo) ∧ (w.heap.size < p4 ∧ p4 < lo)) (k6 : OwnF w6 lo (some ⟨p5, 0, none⟩) 1 1 [tf0]) (kb : Below w.heap.size w w6) (ks : w6.heap.size = mb) (hm : lo ≤ mb)
    (b7 : Below (w6.alloc (.map #[] 0)).heap.size (w6.alloc (.map #[] 0)) w7) (o8 : Only mb (mb + 1) w7 w8) (m8 : MapT w8 mb ([] ++ [tkey b c n tf0])) (h9 : Own w9 lo 32 (some ⟨w8.heap.size, 0, none⟩) 3 3 (List.replicate 3 (.slice none 0 0))) (g9 : w8.grownBy w9 none) :
    TS b c n w w9 lo p1 p2 p3 p4 (some ⟨p5, 0, none⟩) 1 mb w8.heap.size (List.replicate 3 (.slice none 0 0)) ([tf0], [[], [], []]) := by
  subst ks
  have b7' : Below w6.heap.size w6 w7 := (below_alloc1 w6 _).trans (b7.mono (by simp))
  have s7 := b7.size
  simp at s7
  have b8 : Below w6.heap.size w6 w8 := b7'.trans (o8.below (Nat.le_refl _) (by omega))
  have s8 := o8.size
  have b9' : Below w8.heap.size w8 w9 := ⟨g9.os, g9.tape, g9.output, g9.size, fun k hk => g9.block k hk (by simp)⟩
  have b9 : Below w6.heap.size w6 w9 := b8.trans (b9'.mono (by omega))
  refine ⟨k1.belowS b9, k2.belowS b9, k3.belowS b9, k4.belowS b9, k5.belowS b9, ps, k6.same fun g hg => b9.block g (k6.lt g hg).2, m8.same (b9'.block _ (by omega)), hm, ?_, kb.trans (b9.mono kb.size)⟩
  exact OwR.blank rfl h9 ⟨none, 0, 0, rfl, Own.nil_ _ _ _⟩ fun g hg => (h9.lt g hg).2
end Go.Proofs.Ytmdhljleaijkbaa

/- A memory of names: function values that hold variables. No program in sight. -/
namespace Go.Proofs.Ytmdhljleaijkbaa
open Go.RowKit

section
variable {P : Program} {nt : Nat} {S S' : St} {w0 w : World} {ω0 : Beg} {ω : Own?} {η : Env} {a : Act}
theorem stp_callG {f : FuncId} {o : Oper} {dst : Option Nat} {ins outs : List (Nm × Ch)} {args : List AV} {res : AV} {back : List (Nat × AV)} (kp : List (Nat × Nm))
    (hfc : FC P f ins args outs res back) (hod : o.dst = dst) (ht : (dst.map fun t => Nat.blt t nt) != some false) (hop : ∀ {w0 : World} {ω0 : Beg} {η : Env} {ω : Own?} {a : Act} {w : World}, SatE w0 ω0 nt S η ω a w → ∃ us, (execOp a.eval o).run P w = .ok (.enter f us.toArray) w ∧ DenL η args us)
    (hin : allIn S ins) (hkp : allKp ins args back kp)
    (hnr : (res.names.all (inL outs)) = true) (hno : (outs.all fun p => p.2.own && p.2.names.all (inL outs)) = true) :
    Stp P nt o S ((S.after ins outs (kp.map (·.2))).putO dst res) := by
  classical
  refine ⟨fun w0 ω0 a w Q ⟨η, ω, hs⟩ => ?_⟩
  obtain ⟨us, hrun, hopsL⟩ := hop hs
  let η1 : Env := { η with h := fun x => if lk x ins = none then none else η.h x }
  let ω1 : Own? := fun b => match ω b with
    | some (x, i) => if consB ins x = true then some (x, i) else none
    | none => none
  have hω1n : ∀ b, ω b = none → ω1 b = none := fun b h => by simp only [ω1, h]
  have hω1s : ∀ b x i, ω b = some (x, i) → consB ins x = true → ω1 b = some (x, i) := fun b x i h h' => by simp only [ω1, h, if_pos h']
  have hω1f : ∀ b x i, ω b = some (x, i) → consB ins x = false → ω1 b = none := fun b x i h h' => by simp [ω1, h, h']
  have hη1 : ∀ x, η1.h x = none ∨ (η1.h x = η.h x ∧ ∀ i, η1.r x i = η.r x i) := fun x => by
    by_cases e : lk x ins = none
    · exact .inl (if_pos e)
    · exact .inr ⟨if_neg e, fun _ => rfl⟩
  have hmem : Mem η1 ω1 w fun x => lk x ins := by
    refine ⟨fun x c hx => ?_, fun x hx => if_pos hx⟩
    have hx : lk x ins = some c := hx
    obtain ⟨c', hc', hcc⟩ := allIn_lk hin hx
    obtain ⟨hd, h1, h2⟩ := hs.mem.1 x c' hc'
    refine ⟨hd, by simp only [η1]; rw [if_neg (by rw [hx]; simp)]; exact h1, ?_⟩
    by_cases hown : c.own = true
    · have hcc' : c' = c := by
        rcases hcc with h | h
        · exact h
        · rw [h] at hown; cases hown
      subst hcc'
      refine h2.own ⟨Nat.le_refl _, fun b hb hp => ⟨rfl, ?_⟩⟩ (fun _ => rfl) fun l _ a _ z _ => hη1 z
      rcases hp with hp | ⟨i, hp⟩
      · rw [hp]; exact hω1n b hp
      · rw [hp]; exact hω1s b x i hp (by unfold consB; rw [hx]; exact hown)
    · have hcons : consB ins x = false := by unfold consB; rw [hx]; simpa using hown
      have hc0 : c = { c' with own := false } := by
        rcases hcc with h | h
        · rw [h]; have : c.own = false := by simpa using hown
          rw [← this]
        · exact h
      rw [hc0]
      exact h2.view hω1n (fun b i hb => hω1f b x i hb hcons) (fun _ => rfl) fun l _ a _ z _ => hη1 z
  have hargs : DenL η1 args (us) := by
    obtain ⟨h1, h2⟩ := hopsL
    refine ⟨h1, fun j av hj => ?_⟩
    obtain ⟨u, h3, h4⟩ := h2 j av hj
    exact ⟨u, h3, h4.mono fun y _ => hη1 y⟩
  have hcall := hfc w η1 ω1 _ hmem hargs
  unfold Oper.wp
  rw [hrun, Oper.upon_enter]
  refine hcall.mono fun e w' hl => ?_
  obtain ⟨v, η2, ω2, rfl, hdv, hm2, hfr, hbk⟩ := hl
  have hdst : ∀ t, dst = some t → t < nt := fun t ht' => by subst ht'; simpa using ht
  let ω3 : Own? := fun b => if b < w.heap.size ∧ ω1 b = none then ω b else ω2 b
  let η3 : Env := { h := fun y => if inL outs y = true then η2.h y else if consB ins y = true then none else η.h y
                    r := fun y i => if inL outs y = true then η2.r y i else η.r y i }
  have hturn : Turn η η3 (inL outs) (memB (kp.map (·.2))) := fun y => by
    by_cases ho : inL outs y = true
    · refine .inr (.inr ⟨ho, fun hk h' he => ?_⟩)
      obtain ⟨hin', j, hj, hj'⟩ := allKp_mem hkp hk
      obtain ⟨u, hu, hdu⟩ := hbk j _ hj'
      obtain ⟨u', hu', hdu'⟩ := hopsL.2 j _ hj
      rw [hu] at hu'; obtain rfl := Option.some.inj hu'
      have he2 : η2.h y = some h' := by simp only [η3, if_pos ho] at he; exact he
      obtain ⟨b, o, g1, g2⟩ := (show Den1 η2 (.ptr y 0) u from hdu).2 h' he2
      obtain ⟨u'', hu'', hdu''⟩ := hargs.2 j _ hj
      have hlk : ∃ h, η.h y = some h := by
        obtain ⟨c, hc⟩ := Option.isSome_iff_exists.1 hin'
        obtain ⟨c', hc', _⟩ := allIn_lk hin hc
        obtain ⟨h, hh, _⟩ := hs.mem.1 y c' hc'
        exact ⟨h, hh⟩
      obtain ⟨h, hh⟩ := hlk
      obtain ⟨b', o', g1', g2'⟩ := (show Den1 η (.ptr y 0) u from hdu').2 h hh
      rw [g2] at g2'
      injection g2' with g2'; injection g2' with g2'; injection g2' with g2' g3'
      refine ⟨h, hh, ?_⟩
      rw [g1, g1']
      subst g2'
      simp at g3'
      rw [g3']
    · by_cases hc : consB ins y = true
      · exact .inl (by simp only [η3, if_neg ho, if_pos hc])
      · exact .inr (.inl ⟨by simp only [η3, if_neg ho, if_neg hc], fun i => by simp only [η3, if_neg ho]⟩)
  have hω3 : ∀ b, b < w.heap.size → ω1 b = none → ω3 b = ω b := fun b h1 h2 => by simp only [ω3, if_pos (And.intro h1 h2)]
  have hb3 : ∀ b, b < w.heap.size → ω1 b = none → w'.heap[b]? = w.heap[b]? := fun b h1 h2 => (hfr.block b h1 h2).1
  have hω32 : ∀ b o, ω2 b = some o → ω3 b = some o := fun b o h => by
    by_cases e : b < w.heap.size ∧ ω1 b = none
    · have := (hfr.block b e.1 e.2).2
      rw [this] at h; cases h
    · simp only [ω3, if_neg e, h]
  have hsame : Same ω w ω3 w' (fun o => o = none ∨ ∃ y i, o = some (y, i) ∧ consB ins y = false) := by
    refine ⟨hfr.size, fun b hb hp => ?_⟩
    have h1 : ω1 b = none := by
      rcases hp with h | ⟨y, i, h, hc⟩
      · exact hω1n b h
      · exact hω1f b y i h hc
    exact ⟨hb3 b hb h1, hω3 b hb h1⟩
  have hst : SatE w0 ω0 nt (S.after ins outs (kp.map (·.2))) η3 ω3 a w' := by
    refine { dfr := hs.dfr, tsz := hs.tsz, slots := fun t av ht' => ?_, phs := fun t av ht' => ?_, mem := ⟨fun y c hy => ?_, fun y hy => ?_⟩, fr := ?_ }
    · obtain ⟨h1, h2⟩ := bind_bad ht'
      obtain ⟨u, h3, h4⟩ := hs.slots t av h1
      exact ⟨u, h3, h4.turn hturn h2⟩
    · obtain ⟨h1, h2⟩ := bind_bad ht'
      obtain ⟨u, h3, h4⟩ := hs.phs t av h1
      exact ⟨u, h3, h4.turn hturn h2⟩
    · have hy : (match lk y outs with
        | some c => some c
        | none => bif consB ins y then none else (S.ch y).map (Ch.clean (inL outs) (memB (kp.map (·.2))))) = some c := hy
      cases hl : lk y outs with
      | some c1 =>
        rw [hl] at hy
        obtain rfl := Option.some.inj hy
        have ho : inL outs y = true := by unfold inL; rw [hl]; rfl
        obtain ⟨hd, h1, h2⟩ := hm2.1 y c1 hl
        refine ⟨hd, by simp only [η3, if_pos ho]; exact h1, ?_⟩
        have hall := List.all_eq_true.1 hno _ (lk_mem hl)
        simp only [Bool.and_eq_true] at hall
        refine ChIs.sameO (η := η2) (ω := ω2) (w := w') hall.1 (fun b i _ hb => ⟨rfl, hω32 b _ hb⟩) (fun i => by simp only [η3, if_pos ho]) (fun l hlf b1 hb1 z hz => ?_) h2
        have hz' : inL outs z = true := List.all_eq_true.1 hall.2 z (Ch.names_mem hlf hb1 hz)
        exact .inr ⟨by simp only [η3, if_pos hz'], fun i => by simp only [η3, if_pos hz']⟩
      | none =>
        rw [hl] at hy
        have ho : inL outs y = false := by unfold inL; rw [hl]; rfl
        cases hc : consB ins y with
        | true => rw [hc] at hy; cases hy
        | false =>
          rw [hc] at hy
          simp only [cond_false, Option.map_eq_some_iff] at hy
          obtain ⟨c0, hc0, rfl⟩ := hy
          obtain ⟨hd, h1, h2⟩ := hs.mem.1 y c0 hc0
          refine ⟨hd, by simp only [η3, ho, hc]; exact h1, ?_⟩
          exact h2.turn hsame (.inl rfl) (fun i => .inr ⟨y, i, rfl, hc⟩) (fun i => by simp only [η3, ho]; rfl) hturn
    · have hy : (match lk y outs with
        | some c => some c
        | none => bif consB ins y then none else (S.ch y).map (Ch.clean (inL outs) (memB (kp.map (·.2))))) = none := hy
      cases hl : lk y outs with
      | some c1 => rw [hl] at hy; cases hy
      | none =>
        rw [hl] at hy
        have ho : inL outs y = false := by unfold inL; rw [hl]; rfl
        cases hc : consB ins y with
        | true => simp only [η3, ho, hc]; rfl
        | false =>
          rw [hc] at hy
          simp only [cond_false, Option.map_eq_none_iff] at hy
          simp only [η3, ho, hc]
          exact hs.mem.2 y hy
    · refine ⟨hfr.os.trans hs.fr.os, hfr.tape.trans hs.fr.tape, hfr.output.trans hs.fr.output, Nat.le_trans hs.fr.size hfr.size, fun b hb hn => ?_⟩
      obtain ⟨h1, h2⟩ := hs.fr.block b hb hn
      have hlt := Nat.lt_of_lt_of_le hb hs.fr.size
      exact ⟨(hb3 b hlt (hω1n b h2)).trans h1, (hω3 b hlt (hω1n b h2)).trans h2⟩
  rw [hod]
  cases dst with
  | none => exact ⟨η3, ω3, hst⟩
  | some t => exact ⟨η3, ω3, hst.putV (hdst t rfl) (hdv.mono fun y hy => by
      have hz' : inL outs y = true := List.all_eq_true.1 hnr y (AV.has_names hy)
      exact .inr ⟨by simp only [η3, if_pos hz'], fun i => by simp only [η3, if_pos hz']⟩)⟩
variable {t : Nat} {ty : TypeId} {ps : String} {af : Array Edge} {gd : Option (Nat × Bool)} {x y : Operand}
/-- a call of a function value that holds one variable, which only reads -/
theorem stp_callC {f : FuncId} {xs : Array Operand} {ts : Array TypeId} {n off : Nat} {ins : List (Nm × Ch)} {args args' : List AV} {res : AV} {back : List (Nat × AV)} (hy : S.op y = some (o1 (.clo (.func f) [(n, off)])))
    (hfc : FC P f ins (args ++ [o1 (.ptr n off)]) [] res back) (hf : goFnB P f = true) (ht : Nat.blt t nt = true) (hx' : opL S xs.toList = some args') (hto : allTo args' args) (hin : allIn S ins) (hro : (ins.all fun p => !p.2.own) = true) (hnr : (res.names.all (inL [])) = true) :
    Stp P nt ⟨some t, .call { callee := .value y, args := xs, argTypes := ts }, ty, ps, af, gd⟩ S (S.put t res) :=
  (stp_callG (dst := some t) (kp := []) hfc rfl (by simp [ht]) (fun {w0 ω0 η ω a w} hs => by
    obtain ⟨us, hev, hus, hat⟩ : Den1 η (.clo (.func f) [(n, off)]) (a.eval y) := hs.opv hy
    obtain ⟨q, hq, hp1, hp2⟩ := hat 0 (n, off) rfl
    have hl : us.size = 1 := hus
    have hue : us = #[q] := by
      apply Array.ext (by simpa using hl)
      intro i h1 h2
      obtain rfl : i = 0 := by simp at h2; omega
      rw [Array.getElem?_eq_getElem h1] at hq
      simpa using hq
    subst hue
    obtain ⟨d1, d2⟩ := (hs.opsL hx').to hto
    refine ⟨xs.toList.map a.eval ++ [q], ?_, by rw [List.length_append, List.length_append, d1]; rfl, fun j av hj => ?_⟩
    · have : (xs.toList.map a.eval ++ [q]).toArray = xs.map a.eval ++ #[q] := by apply Array.ext'; simp
      rw [this]
      simp [execOp, resolve, hev, Deferred.ofValue, invoke, goFnB_run hf]
    · by_cases h : j < args.length
      · rw [List.getElem?_append_left h] at hj
        obtain ⟨u, g1, g2⟩ := d2 j av hj
        exact ⟨u, by rw [List.getElem?_append_left (by rw [d1]; exact h)]; exact g1, g2⟩
      · rw [List.getElem?_append_right (by omega)] at hj
        have e : j - args.length = 0 := by
          have := (List.getElem?_eq_some_iff.1 hj).1
          simp at this; omega
        rw [e] at hj
        obtain rfl := Option.some.inj hj
        exact ⟨q, by rw [List.getElem?_append_right (by omega), d1, e]; rfl, hp1, hp2⟩) hin trivial hnr rfl).wk (wk_after0 hro)
end
end Go.Proofs.Ytmdhljleaijkbaa

/- Torus maps, the program's: the closures in names. -/
namespace Go.Proofs.Ytmdhljleaijkbaa
open Go.RowKit

attribute [local irreducible] IntKind.wrap
abbrev nBox (n : Int) : Ch := ⟨false, 2, 1, .flat [.val (I6 n)]⟩
set_option maxRecDepth 100000 in
theorem mod_fc (n k : Int) (hn : 1 ≤ n ∧ n ≤ 98) (hk : -1000000 ≤ k ∧ k ≤ 1000000) :
    FC Try.prog 63 [(1006, nBox n)] [vv (I6 k), o1 (.ptr 1006 0)] [] (vv (I6 (mdI n k))) [] := by
  have hb := Int.tmod_lt_of_pos k (show 0 < n by omega)
  have hb2 : -n < k.tmod n := Int.lt_tmod_of_pos k (show 0 < n by omega)
  unfold mdI
  have hne : n ≠ 0 := by omega
  obtain ⟨r, hr⟩ : ∃ r, k.tmod n = r := ⟨_, rfl⟩
  rw [hr] at hb hb2 ⊢
  obtain ⟨a, ha⟩ : ∃ a, r + n = a := ⟨_, rfl⟩
  have hw1 : IntKind.i64.wrap (r + n) = a := by rw [IntWalk.i64_in _ (by omega)]; exact ha
  rw [ha]
  obtain ⟨q, hq⟩ : ∃ q, a.tmod n = q := ⟨_, rfl⟩
  rw [hq]
  refine fc_enter (nt := 11) Try.func63 rfl rfl (by simp) fun w0 ω0 => ?_
  (refine goes_seq ?_; refine goes_region ?_; apply run_step rfl; (exact stp_assign rfl rfl); refine run_nil ?_; refine fin_seq ?_; refine goes_seq ?_)
  apply goes_draw 7 [] [[], [], [0, 1], [], [0, 1, 2, 3], [], [0, 1, 2, 3, 4, 5], [0, 1, 2, 3, 4, 5, 6]] [4, 5, 6, 7, 8, 9, 10] [] (by kernel_rfl) (by kernel_rfl)
  · (apply draw_put rfl; (intro S1 hS; exact stp_move rfl (hS.op rfl)); apply draw_put rfl; (intro S1 hS; exact stp_loadF rfl (by as_aux_lemma => kernel_rfl) (hS.op rfl) (hS.ch _ _ rfl) rfl rfl); (first | (apply draw_put rfl; (focus (intro S1 hS; exact stp_remI rfl (hS.op rfl) (hS.op rfl) hne hr))) | (apply draw_put rfl; (focus (intro S1 hS; exact stp_remI rfl (hS.op rfl) (hS.op rfl) hne hq))) | (apply draw_put rfl; (focus (intro S1 hS; exact stp_add rfl (hS.op rfl) (hS.op rfl) hw1)))); apply draw_put rfl; (intro S1 hS; exact stp_loadF rfl (by as_aux_lemma => kernel_rfl) (hS.op rfl) (hS.ch _ _ rfl) rfl rfl); (first | (apply draw_put rfl; (focus (intro S1 hS; exact stp_remI rfl (hS.op rfl) (hS.op rfl) hne hr))) | (apply draw_put rfl; (focus (intro S1 hS; exact stp_remI rfl (hS.op rfl) (hS.op rfl) hne hq))) | (apply draw_put rfl; (focus (intro S1 hS; exact stp_add rfl (hS.op rfl) (hS.op rfl) hw1)))); apply draw_put rfl; (intro S1 hS; exact stp_loadF rfl (by as_aux_lemma => kernel_rfl) (hS.op rfl) (hS.ch _ _ rfl) rfl rfl); (first | (apply draw_put rfl; (focus (intro S1 hS; exact stp_remI rfl (hS.op rfl) (hS.op rfl) hne hr))) | (apply draw_put rfl; (focus (intro S1 hS; exact stp_remI rfl (hS.op rfl) (hS.op rfl) hne hq))) | (apply draw_put rfl; (focus (intro S1 hS; exact stp_add rfl (hS.op rfl) (hS.op rfl) hw1)))); exact Draw.nil)
  · rfl
  ((apply rest_one 7 rfl (by as_aux_lemma => kernel_rfl) rfl rfl; (exact stp_assign rfl rfl)); (refine rest_done (by as_aux_lemma => kernel_rfl) ?_; skip))
  (refine fin_seq ?_; refine goes_ret ?_)
  exact fin_ret1 (.inl rfl) rfl (.tmp rfl) trivial trivial
abbrev mBx : Ch := ⟨false, 92, 1, .flat [.clo (.func 63) [(1006, 0)]]⟩
set_option maxRecDepth 100000 in
set_option maxHeartbeats 2000000 in
theorem key_fc (b c n : Int) (t : TF) (hn : 1 ≤ n ∧ n ≤ 98) (hb : 0 ≤ b ∧ b ≤ 7) (hc : 0 ≤ c ∧ c ≤ 7) (hx : -10000 ≤ t.x ∧ t.x ≤ 10000) (hy : -10000 ≤ t.y ∧ t.y ≤ 10000) :
    FC Try.prog 64 [(1001, mBx), (1002, nBox b), (1003, nBox c), (1006, nBox n)] [.s (.agg [.val (I6 t.x), .val (I6 t.y), .val (I6 t.d), .val (.bool t.l)]), o1 (.ptr 1001 0), o1 (.ptr 1002 0), o1 (.ptr 1003 0)] []
      (.s (.agg [.val (I6 (tkey b c n t).x), .val (I6 (tkey b c n t).y), .val (I6 t.d), .val (.bool t.l)])) [] := by
  obtain ⟨x, y, d, l⟩ := t
  dsimp only at hx hy
  have m1 := mul_in (A := 10000) (B := 7) (by omega) (show -((7 : Nat) : Int) ≤ b ∧ b ≤ ((7 : Nat) : Int) by omega) (a := x)
  have m2 := mul_in (A := 10000) (B := 7) (by omega) (show -((7 : Nat) : Int) ≤ c ∧ c ≤ ((7 : Nat) : Int) by omega) (a := y)
  have m3 := mul_in (A := 10000) (B := 7) (by omega) (show -((7 : Nat) : Int) ≤ b ∧ b ≤ ((7 : Nat) : Int) by omega) (a := y)
  have m4 := mul_in (A := 10000) (B := 7) (by omega) (show -((7 : Nat) : Int) ≤ c ∧ c ≤ ((7 : Nat) : Int) by omega) (a := x)
  unfold tkey
  dsimp only
  obtain ⟨xb, hxb⟩ : ∃ z, z = x * b := ⟨_, rfl⟩
  obtain ⟨yc, hyc⟩ : ∃ z, z = y * c := ⟨_, rfl⟩
  obtain ⟨yb, hyb⟩ : ∃ z, z = y * b := ⟨_, rfl⟩
  obtain ⟨xc, hxc⟩ : ∃ z, z = x * c := ⟨_, rfl⟩
  rw [← hxb] at m1
  rw [← hyc] at m2
  rw [← hyb] at m3
  rw [← hxc] at m4
  rw [← hxb, ← hyc, ← hyb, ← hxc]
  have w1 : IntKind.i64.wrap (x * b) = xb := by rw [← hxb]; exact IntWalk.i64_in _ (by omega)
  have w2 : IntKind.i64.wrap (y * c) = yc := by rw [← hyc]; exact IntWalk.i64_in _ (by omega)
  have w3 : IntKind.i64.wrap (y * b) = yb := by rw [← hyb]; exact IntWalk.i64_in _ (by omega)
  have w4 : IntKind.i64.wrap (x * c) = xc := by rw [← hxc]; exact IntWalk.i64_in _ (by omega)
  obtain ⟨u, hu⟩ : ∃ z, z = xb + yc := ⟨_, rfl⟩
  obtain ⟨v, hv⟩ : ∃ z, z = yb - xc := ⟨_, rfl⟩
  have w5 : IntKind.i64.wrap (xb + yc) = u := by rw [← hu]; exact IntWalk.i64_in _ (by omega)
  have w6 : IntKind.i64.wrap (yb - xc) = v := by rw [← hv]; exact IntWalk.i64_in _ (by omega)
  rw [← hu, ← hv]
  have hA := mod_fc n u hn (by omega)
  have hB := mod_fc n v hn (by omega)
  generalize mdI n u = p at *
  generalize mdI n v = q at *
  clear hxb hyc hyb hxc hu hv
  refine fc_enter (nt := 31) Try.func64 rfl rfl (by simp) fun w0 ω0 => ?_
  (refine goes_seq ?_; refine goes_region ?_; apply run_step rfl; (exact stp_box rfl rfl rfl rfl); apply run_step rfl; (exact stp_allocZ [.int .i64 0, .int .i64 0, .int .i64 0, .bool false] rfl (by as_aux_lemma => kernel_rfl)); refine run_nil ?_; refine fin_seq ?_; refine goes_seq ?_)
  apply goes_draw 23 [] [[], [], [1], [], [1, 2, 3], [], [5], [], [5, 6, 7], [1, 2, 3, 4, 5, 6, 7, 8], [0, 1, 2, 3, 4, 5, 6, 7, 8, 9], [], [], [12], [], [12, 13, 14], [], [16], [], [16, 17, 18], [12, 13, 14, 15, 16, 17, 18, 19], [0, 1, 2, 3, 4, 5, 6, 7, 8, 9, 10, 11, 12, 13, 14, 15, 16, 17, 18, 19, 20], [0, 1, 2, 3, 4, 5, 6, 7, 8, 9, 10, 12, 13, 16, 17], [0, 1, 2, 3, 4, 5, 6, 7, 8, 9, 10, 11, 12, 13, 14, 15, 16, 17, 18, 19, 20, 21, 22], [0, 1, 2, 3, 4, 5, 6, 7, 8, 9, 10, 11, 12, 13, 14, 15, 16, 17, 18, 19, 20, 21, 22, 23], [0, 1, 2, 3, 4, 5, 6, 7, 8, 9, 10, 11, 12, 13, 14, 15, 16, 17, 18, 19, 20, 21, 22, 23, 24]] [6, 7, 8, 9, 10, 11, 12, 13, 14, 15, 16, 17, 18, 19, 20, 21, 22, 23, 24, 25, 26, 27, 28] [] (by kernel_rfl) (by kernel_rfl)
  · (apply draw_put rfl; (intro S1 hS; exact stp_loadF rfl (by as_aux_lemma => kernel_rfl) (hS.op rfl) (hS.ch _ _ rfl) rfl rfl); apply draw_put rfl; (intro S1 hS; exact stp_fieldAddr (d := 0) rfl (hS.op rfl) (hS.ch _ _ rfl) (by as_aux_lemma => kernel_rfl)); apply draw_put rfl; (intro S1 hS; exact stp_loadF rfl (by as_aux_lemma => kernel_rfl) (hS.op rfl) (hS.ch _ _ rfl) rfl rfl); apply draw_put rfl; (intro S1 hS; exact stp_loadF rfl (by as_aux_lemma => kernel_rfl) (hS.op rfl) (hS.ch _ _ rfl) rfl rfl); (first | (apply draw_put rfl; (focus (intro S1 hS; exact stp_mul rfl (hS.op rfl) (hS.op rfl) w1))) | (apply draw_put rfl; (focus (intro S1 hS; exact stp_mul rfl (hS.op rfl) (hS.op rfl) w2))) | (apply draw_put rfl; (focus (intro S1 hS; exact stp_mul rfl (hS.op rfl) (hS.op rfl) w3))) | (apply draw_put rfl; (focus (intro S1 hS; exact stp_mul rfl (hS.op rfl) (hS.op rfl) w4))) | (apply draw_put rfl; (focus (intro S1 hS; exact stp_add rfl (hS.op rfl) (hS.op rfl) w5))) | (apply draw_put rfl; (focus (intro S1 hS; exact stp_sub rfl (hS.op rfl) (hS.op rfl) w6))) | (apply draw_put rfl; (focus (intro S1 hS; exact stp_callC (args := [vv (I6 u)]) (hS.op rfl) hA (by as_aux_lemma => kernel_rfl) rfl (opL_le hS rfl) ⟨rfl, trivial⟩ (allIn_le hS ⟨⟨_, rfl, .inl rfl⟩, trivial⟩) rfl rfl))) | (apply draw_put rfl; (focus (intro S1 hS; exact stp_callC (args := [vv (I6 v)]) (hS.op rfl) hB (by as_aux_lemma => kernel_rfl) rfl (opL_le hS rfl) ⟨rfl, trivial⟩ (allIn_le hS ⟨⟨_, rfl, .inl rfl⟩, trivial⟩) rfl rfl)))); apply draw_put rfl; (intro S1 hS; exact stp_fieldAddr (d := 1) rfl (hS.op rfl) (hS.ch _ _ rfl) (by as_aux_lemma => kernel_rfl)); apply draw_put rfl; (intro S1 hS; exact stp_loadF rfl (by as_aux_lemma => kernel_rfl) (hS.op rfl) (hS.ch _ _ rfl) rfl rfl); apply draw_put rfl; (intro S1 hS; exact stp_loadF rfl (by as_aux_lemma => kernel_rfl) (hS.op rfl) (hS.ch _ _ rfl) rfl rfl); (first | (apply draw_put rfl; (focus (intro S1 hS; exact stp_mul rfl (hS.op rfl) (hS.op rfl) w1))) | (apply draw_put rfl; (focus (intro S1 hS; exact stp_mul rfl (hS.op rfl) (hS.op rfl) w2))) | (apply draw_put rfl; (focus (intro S1 hS; exact stp_mul rfl (hS.op rfl) (hS.op rfl) w3))) | (apply draw_put rfl; (focus (intro S1 hS; exact stp_mul rfl (hS.op rfl) (hS.op rfl) w4))) | (apply draw_put rfl; (focus (intro S1 hS; exact stp_add rfl (hS.op rfl) (hS.op rfl) w5))) | (apply draw_put rfl; (focus (intro S1 hS; exact stp_sub rfl (hS.op rfl) (hS.op rfl) w6))) | (apply draw_put rfl; (focus (intro S1 hS; exact stp_callC (args := [vv (I6 u)]) (hS.op rfl) hA (by as_aux_lemma => kernel_rfl) rfl (opL_le hS rfl) ⟨rfl, trivial⟩ (allIn_le hS ⟨⟨_, rfl, .inl rfl⟩, trivial⟩) rfl rfl))) | (apply draw_put rfl; (focus (intro S1 hS; exact stp_callC (args := [vv (I6 v)]) (hS.op rfl) hB (by as_aux_lemma => kernel_rfl) rfl (opL_le hS rfl) ⟨rfl, trivial⟩ (allIn_le hS ⟨⟨_, rfl, .inl rfl⟩, trivial⟩) rfl rfl)))); (first | (apply draw_put rfl; (focus (intro S1 hS; exact stp_mul rfl (hS.op rfl) (hS.op rfl) w1))) | (apply draw_put rfl; (focus (intro S1 hS; exact stp_mul rfl (hS.op rfl) (hS.op rfl) w2))) | (apply draw_put rfl; (focus (intro S1 hS; exact stp_mul rfl (hS.op rfl) (hS.op rfl) w3))) | (apply draw_put rfl; (focus (intro S1 hS; exact stp_mul rfl (hS.op rfl) (hS.op rfl) w4))) | (apply draw_put rfl; (focus (intro S1 hS; exact stp_add rfl (hS.op rfl) (hS.op rfl) w5))) | (apply draw_put rfl; (focus (intro S1 hS; exact stp_sub rfl (hS.op rfl) (hS.op rfl) w6))) | (apply draw_put rfl; (focus (intro S1 hS; exact stp_callC (args := [vv (I6 u)]) (hS.op rfl) hA (by as_aux_lemma => kernel_rfl) rfl (opL_le hS rfl) ⟨rfl, trivial⟩ (allIn_le hS ⟨⟨_, rfl, .inl rfl⟩, trivial⟩) rfl rfl))) | (apply draw_put rfl; (focus (intro S1 hS; exact stp_callC (args := [vv (I6 v)]) (hS.op rfl) hB (by as_aux_lemma => kernel_rfl) rfl (opL_le hS rfl) ⟨rfl, trivial⟩ (allIn_le hS ⟨⟨_, rfl, .inl rfl⟩, trivial⟩) rfl rfl)))); (first | (apply draw_put rfl; (focus (intro S1 hS; exact stp_mul rfl (hS.op rfl) (hS.op rfl) w1))) | (apply draw_put rfl; (focus (intro S1 hS; exact stp_mul rfl (hS.op rfl) (hS.op rfl) w2))) | (apply draw_put rfl; (focus (intro S1 hS; exact stp_mul rfl (hS.op rfl) (hS.op rfl) w3))) | (apply draw_put rfl; (focus (intro S1 hS; exact stp_mul rfl (hS.op rfl) (hS.op rfl) w4))) | (apply draw_put rfl; (focus (intro S1 hS; exact stp_add rfl (hS.op rfl) (hS.op rfl) w5))) | (apply draw_put rfl; (focus (intro S1 hS; exact stp_sub rfl (hS.op rfl) (hS.op rfl) w6))) | (apply draw_put rfl; (focus (intro S1 hS; exact stp_callC (args := [vv (I6 u)]) (hS.op rfl) hA (by as_aux_lemma => kernel_rfl) rfl (opL_le hS rfl) ⟨rfl, trivial⟩ (allIn_le hS ⟨⟨_, rfl, .inl rfl⟩, trivial⟩) rfl rfl))) | (apply draw_put rfl; (focus (intro S1 hS; exact stp_callC (args := [vv (I6 v)]) (hS.op rfl) hB (by as_aux_lemma => kernel_rfl) rfl (opL_le hS rfl) ⟨rfl, trivial⟩ (allIn_le hS ⟨⟨_, rfl, .inl rfl⟩, trivial⟩) rfl rfl)))); apply draw_put rfl; (intro S1 hS; exact stp_loadF rfl (by as_aux_lemma => kernel_rfl) (hS.op rfl) (hS.ch _ _ rfl) rfl rfl); apply draw_put rfl; (intro S1 hS; exact stp_fieldAddr (d := 1) rfl (hS.op rfl) (hS.ch _ _ rfl) (by as_aux_lemma => kernel_rfl)); apply draw_put rfl; (intro S1 hS; exact stp_loadF rfl (by as_aux_lemma => kernel_rfl) (hS.op rfl) (hS.ch _ _ rfl) rfl rfl); apply draw_put rfl; (intro S1 hS; exact stp_loadF rfl (by as_aux_lemma => kernel_rfl) (hS.op rfl) (hS.ch _ _ rfl) rfl rfl); (first | (apply draw_put rfl; (focus (intro S1 hS; exact stp_mul rfl (hS.op rfl) (hS.op rfl) w1))) | (apply draw_put rfl; (focus (intro S1 hS; exact stp_mul rfl (hS.op rfl) (hS.op rfl) w2))) | (apply draw_put rfl; (focus (intro S1 hS; exact stp_mul rfl (hS.op rfl) (hS.op rfl) w3))) | (apply draw_put rfl; (focus (intro S1 hS; exact stp_mul rfl (hS.op rfl) (hS.op rfl) w4))) | (apply draw_put rfl; (focus (intro S1 hS; exact stp_add rfl (hS.op rfl) (hS.op rfl) w5))) | (apply draw_put rfl; (focus (intro S1 hS; exact stp_sub rfl (hS.op rfl) (hS.op rfl) w6))) | (apply draw_put rfl; (focus (intro S1 hS; exact stp_callC (args := [vv (I6 u)]) (hS.op rfl) hA (by as_aux_lemma => kernel_rfl) rfl (opL_le hS rfl) ⟨rfl, trivial⟩ (allIn_le hS ⟨⟨_, rfl, .inl rfl⟩, trivial⟩) rfl rfl))) | (apply draw_put rfl; (focus (intro S1 hS; exact stp_callC (args := [vv (I6 v)]) (hS.op rfl) hB (by as_aux_lemma => kernel_rfl) rfl (opL_le hS rfl) ⟨rfl, trivial⟩ (allIn_le hS ⟨⟨_, rfl, .inl rfl⟩, trivial⟩) rfl rfl)))); apply draw_put rfl; (intro S1 hS; exact stp_fieldAddr (d := 0) rfl (hS.op rfl) (hS.ch _ _ rfl) (by as_aux_lemma => kernel_rfl)); apply draw_put rfl; (intro S1 hS; exact stp_loadF rfl (by as_aux_lemma => kernel_rfl) (hS.op rfl) (hS.ch _ _ rfl) rfl rfl); apply draw_put rfl; (intro S1 hS; exact stp_loadF rfl (by as_aux_lemma => kernel_rfl) (hS.op rfl) (hS.ch _ _ rfl) rfl rfl); (first | (apply draw_put rfl; (focus (intro S1 hS; exact stp_mul rfl (hS.op rfl) (hS.op rfl) w1))) | (apply draw_put rfl; (focus (intro S1 hS; exact stp_mul rfl (hS.op rfl) (hS.op rfl) w2))) | (apply draw_put rfl; (focus (intro S1 hS; exact stp_mul rfl (hS.op rfl) (hS.op rfl) w3))) | (apply draw_put rfl; (focus (intro S1 hS; exact stp_mul rfl (hS.op rfl) (hS.op rfl) w4))) | (apply draw_put rfl; (focus (intro S1 hS; exact stp_add rfl (hS.op rfl) (hS.op rfl) w5))) | (apply draw_put rfl; (focus (intro S1 hS; exact stp_sub rfl (hS.op rfl) (hS.op rfl) w6))) | (apply draw_put rfl; (focus (intro S1 hS; exact stp_callC (args := [vv (I6 u)]) (hS.op rfl) hA (by as_aux_lemma => kernel_rfl) rfl (opL_le hS rfl) ⟨rfl, trivial⟩ (allIn_le hS ⟨⟨_, rfl, .inl rfl⟩, trivial⟩) rfl rfl))) | (apply draw_put rfl; (focus (intro S1 hS; exact stp_callC (args := [vv (I6 v)]) (hS.op rfl) hB (by as_aux_lemma => kernel_rfl) rfl (opL_le hS rfl) ⟨rfl, trivial⟩ (allIn_le hS ⟨⟨_, rfl, .inl rfl⟩, trivial⟩) rfl rfl)))); (first | (apply draw_put rfl; (focus (intro S1 hS; exact stp_mul rfl (hS.op rfl) (hS.op rfl) w1))) | (apply draw_put rfl; (focus (intro S1 hS; exact stp_mul rfl (hS.op rfl) (hS.op rfl) w2))) | (apply draw_put rfl; (focus (intro S1 hS; exact stp_mul rfl (hS.op rfl) (hS.op rfl) w3))) | (apply draw_put rfl; (focus (intro S1 hS; exact stp_mul rfl (hS.op rfl) (hS.op rfl) w4))) | (apply draw_put rfl; (focus (intro S1 hS; exact stp_add rfl (hS.op rfl) (hS.op rfl) w5))) | (apply draw_put rfl; (focus (intro S1 hS; exact stp_sub rfl (hS.op rfl) (hS.op rfl) w6))) | (apply draw_put rfl; (focus (intro S1 hS; exact stp_callC (args := [vv (I6 u)]) (hS.op rfl) hA (by as_aux_lemma => kernel_rfl) rfl (opL_le hS rfl) ⟨rfl, trivial⟩ (allIn_le hS ⟨⟨_, rfl, .inl rfl⟩, trivial⟩) rfl rfl))) | (apply draw_put rfl; (focus (intro S1 hS; exact stp_callC (args := [vv (I6 v)]) (hS.op rfl) hB (by as_aux_lemma => kernel_rfl) rfl (opL_le hS rfl) ⟨rfl, trivial⟩ (allIn_le hS ⟨⟨_, rfl, .inl rfl⟩, trivial⟩) rfl rfl)))); (first | (apply draw_put rfl; (focus (intro S1 hS; exact stp_mul rfl (hS.op rfl) (hS.op rfl) w1))) | (apply draw_put rfl; (focus (intro S1 hS; exact stp_mul rfl (hS.op rfl) (hS.op rfl) w2))) | (apply draw_put rfl; (focus (intro S1 hS; exact stp_mul rfl (hS.op rfl) (hS.op rfl) w3))) | (apply draw_put rfl; (focus (intro S1 hS; exact stp_mul rfl (hS.op rfl) (hS.op rfl) w4))) | (apply draw_put rfl; (focus (intro S1 hS; exact stp_add rfl (hS.op rfl) (hS.op rfl) w5))) | (apply draw_put rfl; (focus (intro S1 hS; exact stp_sub rfl (hS.op rfl) (hS.op rfl) w6))) | (apply draw_put rfl; (focus (intro S1 hS; exact stp_callC (args := [vv (I6 u)]) (hS.op rfl) hA (by as_aux_lemma => kernel_rfl) rfl (opL_le hS rfl) ⟨rfl, trivial⟩ (allIn_le hS ⟨⟨_, rfl, .inl rfl⟩, trivial⟩) rfl rfl))) | (apply draw_put rfl; (focus (intro S1 hS; exact stp_callC (args := [vv (I6 v)]) (hS.op rfl) hB (by as_aux_lemma => kernel_rfl) rfl (opL_le hS rfl) ⟨rfl, trivial⟩ (allIn_le hS ⟨⟨_, rfl, .inl rfl⟩, trivial⟩) rfl rfl)))); apply draw_put rfl; (intro S1 hS; exact stp_fieldAddr (d := 0) rfl (hS.op rfl) (hS.ch _ _ rfl) (by as_aux_lemma => kernel_rfl)); exact Draw.nil)
  · rfl
  ((apply rest_one 23 rfl (by as_aux_lemma => kernel_rfl) rfl rfl; (exact stp_storeF rfl rfl rfl rfl rfl rfl (by as_aux_lemma => kernel_rfl) rfl)); (apply rest_one 24 rfl (by as_aux_lemma => kernel_rfl) rfl rfl; (exact stp_fieldAddr (d := 1) rfl rfl rfl (by as_aux_lemma => kernel_rfl))); (apply rest_one 25 rfl (by as_aux_lemma => kernel_rfl) rfl rfl; (exact stp_storeF rfl rfl rfl rfl rfl rfl (by as_aux_lemma => kernel_rfl) rfl)); (refine rest_done (by as_aux_lemma => kernel_rfl) ?_; skip))
  (refine fin_seq ?_; refine goes_seq ?_; refine goes_region ?_; apply run_step rfl; (first | exact stp_loadAgg (k := 4) rfl rfl rfl rfl rfl rfl (by as_aux_lemma => kernel_rfl) | exact stp_storeAgg rfl rfl rfl rfl rfl rfl rfl rfl (by as_aux_lemma => kernel_rfl) rfl); apply run_step rfl; (first | exact stp_loadAgg (k := 4) rfl rfl rfl rfl rfl rfl (by as_aux_lemma => kernel_rfl) | exact stp_storeAgg rfl rfl rfl rfl rfl rfl rfl rfl (by as_aux_lemma => kernel_rfl) rfl); refine run_nil ?_; refine fin_seq ?_; refine goes_ret ?_)
  exact fin_ret1 (.inl rfl) rfl (.cell rfl rfl rfl rfl rfl (by as_aux_lemma => kernel_rfl)) trivial trivial
end Go.Proofs.Ytmdhljleaijkbaa

/- Torus maps, the program's: its closures and moves. -/
namespace Go.Proofs.Ytmdhljleaijkbaa
open Go.RowKit

abbrev stepsV : Value := .agg #[.int .i64 1, .int .i64 0, .int .i64 0, .int .i64 1, .int .i64 (-1), .int .i64 0, .int .i64 0, .int .i64 (-1)]
theorem step_run (d : Int) (hd : d = 0 ∨ d = 1 ∨ d = 2 ∨ d = 3) (w : World) : (Instr.index 124 stepsV (.int .i64 d)).run Try.prog w = .ok (.agg #[.int .i64 (sx d), .int .i64 (sy d)]) w := by
  rcases hd with rfl | rfl | rfl | rfl <;> simp [Instr.index, run_underlying Try.underlying124, run_underlying Try.underlying123, run_underlying Try.underlying2, asIntOf, go_sem, sx, sy]
set_option maxRecDepth 100000 in
set_option maxHeartbeats 3200000 in
theorem moved0 (x y d : Int) (l : Bool) (w : World) (hd : d = 0 ∨ d = 1 ∨ d = 2 ∨ d = 3) (hx : -10000 ≤ x ∧ x ≤ 10000) (hy : -10000 ≤ y ∧ y ≤ 10000) :
    Calls Try.prog 65 #[.agg #[.int .i64 x, .int .i64 y, .int .i64 d, .bool l], .int .i64 0] w fun e w' => e = .returned (fv (tmv 0 ⟨x, y, d, l⟩)) ∧ Below w.heap.size w w' := by
  have hix := step_run d hd
  have hd4 : 0 ≤ d ∧ d ≤ 3 := by omega
  have b1 : -1 ≤ sx d ∧ sx d ≤ 1 := by unfold sx; split; omega; split <;> omega
  have b2 : -1 ≤ sy d ∧ sy d ≤ 1 := by unfold sy; split; omega; split <;> omega
  unfold tmv
  generalize sx d = X at *
  generalize sy d = Y at *
  have w1 : IntKind.i64.wrap (x + X) = x + X := IntWalk.i64_in _ (by omega)
  have w2 : IntKind.i64.wrap (y + Y) = y + Y := IntWalk.i64_in _ (by omega)
  have w3 : IntKind.i64.wrap (d + 2) = d + 2 := IntWalk.i64_in _ (by omega)
  clear hd
  go_enter Try.func65, Try.ntmps65
  go_wp2
  exact bodyPost_ret (v := .agg #[.int .i64 (x + X), .int .i64 (y + Y), .int .i64 ((d + 2) % 4), .bool (!l)]) (by simp [results, Try.f65, go_sem]) rfl ⟨rfl, below_alloc3 w _ _ _⟩
set_option maxRecDepth 100000 in
set_option maxHeartbeats 3200000 in
theorem moved1 (x y d : Int) (l : Bool) (w : World) (hd4 : 0 ≤ d ∧ d ≤ 3) :
    Calls Try.prog 65 #[.agg #[.int .i64 x, .int .i64 y, .int .i64 d, .bool l], .int .i64 1] w fun e w' => e = .returned (fv (tmv 1 ⟨x, y, d, l⟩)) ∧ Below w.heap.size w w' := by
  unfold tmv
  have w1 : IntKind.i64.wrap (d + 1) = d + 1 := IntWalk.i64_in _ (by omega)
  have w3 : IntKind.i64.wrap (d + 3) = d + 3 := IntWalk.i64_in _ (by omega)
  cases l with
  | true =>
    go_enter Try.func65, Try.ntmps65
    go_wp2
    exact bodyPost_ret (v := .agg #[.int .i64 x, .int .i64 y, .int .i64 ((d + 1) % 4), .bool false]) (by simp [results, Try.f65, go_sem]) rfl ⟨rfl, below_alloc2 w _ _⟩
  | false =>
    go_enter Try.func65, Try.ntmps65
    go_wp2
    exact bodyPost_ret (v := .agg #[.int .i64 x, .int .i64 y, .int .i64 ((d + 3) % 4), .bool true]) (by simp [results, Try.f65, go_sem]) rfl ⟨rfl, below_alloc2 w _ _⟩
set_option maxRecDepth 100000 in
set_option maxHeartbeats 3200000 in
theorem moved2 (x y d : Int) (l : Bool) (w : World) :
    Calls Try.prog 65 #[.agg #[.int .i64 x, .int .i64 y, .int .i64 d, .bool l], .int .i64 2] w fun e w' => e = .returned (fv (tmv 2 ⟨x, y, d, l⟩)) ∧ Below w.heap.size w w' := by
  unfold tmv
  go_enter Try.func65, Try.ntmps65
  go_wp2
  exact bodyPost_ret (v := .agg #[.int .i64 x, .int .i64 y, .int .i64 d, .bool (!l)]) (by simp [results, Try.f65, go_sem]) rfl ⟨rfl, below_alloc2 w _ _⟩
theorem moved_any (t : TF) (i : Nat) (w : World) (hi : i < 3) (hd : 0 ≤ t.d ∧ t.d ≤ 3) (hx : -10000 ≤ t.x ∧ t.x ≤ 10000) (hy : -10000 ≤ t.y ∧ t.y ≤ 10000) :
    Calls Try.prog 65 #[fv t, .int .i64 i] w fun e w' => e = .returned (fv (tmv i t)) ∧ Below w.heap.size w w' := by
  obtain ⟨x, y, d, l⟩ := t
  match i, hi with
  | 0, _ => exact moved0 x y d l w (by dsimp only at hd; omega) hx hy
  | 1, _ => exact moved1 x y d l w hd
  | 2, _ => exact moved2 x y d l w
end Go.Proofs.Ytmdhljleaijkbaa

/- Torus maps, the program's: the key of a flag in words. -/
namespace Go.Proofs.Ytmdhljleaijkbaa
open Go.RowKit

theorem flat1 {η : Env} {w : World} {x b : Nat} {E : TypeId} {a : A1} {u : Value} (hc : w.cell? ⟨b, 0, none⟩ = some u) (hb : b < w.heap.size) (hd : Den1 η a u) : ChIs η noOwn w x ⟨some ⟨b, 0, none⟩, 1, 1⟩ ⟨false, E, 1, .flat [a]⟩ := by
  refine ⟨rfl, ?_⟩
  show VecR noOwn w ⟨some ⟨b, 0, none⟩, 1, 1⟩ 1 _
  refine ⟨Nat.le_refl 1, fun j hj => ?_⟩
  obtain rfl : j = 0 := by omega
  refine ⟨b, 0, u, rfl, rfl, hb, hc, fun a' ha => ?_⟩
  simp at ha
  subst ha
  exact hd
theorem ptr1 {η : Env} {x b : Nat} (h : η.h x = some ⟨some ⟨b, 0, none⟩, 1, 1⟩) : Den1 η (.ptr x 0) (.pointer (some ⟨b, 0, none⟩)) :=
  ⟨⟨_, rfl⟩, fun h' hh => by rw [h] at hh; obtain rfl := Option.some.inj hh; exact ⟨b, 0, rfl, rfl⟩⟩
abbrev hdOf (b : Nat) : Hd := ⟨some ⟨b, 0, none⟩, 1, 1⟩
theorem key_any (b c n : Int) (t : TF) (hn : 1 ≤ n ∧ n ≤ 98) (hb : 0 ≤ b ∧ b ≤ 7) (hc : 0 ≤ c ∧ c ≤ 7) (hx : -10000 ≤ t.x ∧ t.x ≤ 10000) (hy : -10000 ≤ t.y ∧ t.y ≤ 10000) (w : World) (mb bb cb nb : Nat)
    (lm : mb < w.heap.size) (lb : bb < w.heap.size) (lc : cb < w.heap.size) (ln : nb < w.heap.size)
    (cm : w.cell? ⟨mb, 0, none⟩ = some (.func (.func 63) #[] #[.pointer (some ⟨nb, 0, none⟩)])) (cbb : w.cell? ⟨bb, 0, none⟩ = some (.int .i64 b)) (ccc : w.cell? ⟨cb, 0, none⟩ = some (.int .i64 c)) (cn : w.cell? ⟨nb, 0, none⟩ = some (.int .i64 n)) :
    Calls Try.prog 64 #[fv t, .pointer (some ⟨mb, 0, none⟩), .pointer (some ⟨bb, 0, none⟩), .pointer (some ⟨cb, 0, none⟩)] w fun e w' => e = .returned (fv (tkey b c n t)) ∧ Below w.heap.size w w' := by
  let l : Lay := [(1001, (mBx, hdOf mb, fun _ => ⟨none, 0, 1⟩)), (1002, (nBox b, hdOf bb, fun _ => ⟨none, 0, 1⟩)), (1003, (nBox c, hdOf cb, fun _ => ⟨none, 0, 1⟩)), (1006, (nBox n, hdOf nb, fun _ => ⟨none, 0, 1⟩))]
  have h := key_fc b c n t hn hb hc hx hy
  have hm : Mem (envOf l) noOwn w (fun x => lk x (l.map fun p => (p.1, p.2.1))) := by
    have hl : ∀ x, lk x (l.map fun p => (p.1, p.2.1)) = (lk x l).map fun q => q.1 := fun x => lk_map (fun q => q.1) l x
    refine ⟨fun x c' hx => ?_, fun x hx => ?_⟩
    · replace hx := (hl x).symm.trans hx
      obtain ⟨q, hq, rfl⟩ := Option.map_eq_some_iff.1 hx
      have he : (envOf l).h x = some q.2.1 := by simp [envOf, hq]
      refine ⟨q.2.1, he, ?_⟩
      have hmem := lk_mem hq
      simp only [l, List.mem_cons, List.not_mem_nil, or_false, Prod.mk.injEq] at hmem
      rcases hmem with ⟨rfl, rfl⟩ | ⟨rfl, rfl⟩ | ⟨rfl, rfl⟩ | ⟨rfl, rfl⟩
      · refine flat1 cm lm ⟨#[.pointer (some ⟨nb, 0, none⟩)], rfl, rfl, fun j p hp => ?_⟩
        match j, hp with
        | 0, hp =>
          simp at hp
          subst hp
          exact ⟨_, rfl, ⟨_, rfl⟩, fun h' hh => (ptr1 (η := envOf l) (x := 1006) (b := nb) rfl).2 h' hh⟩
      · exact flat1 cbb lb rfl
      · exact flat1 ccc lc rfl
      · exact flat1 cn ln rfl
    · replace hx := (hl x).symm.trans hx
      have : lk x l = none := by simpa using hx
      simp [envOf, this]
  refine (h w (envOf l) noOwn [fv t, .pointer (some ⟨mb, 0, none⟩), .pointer (some ⟨bb, 0, none⟩), .pointer (some ⟨cb, 0, none⟩)] hm ⟨rfl, fun j av hj => ?_⟩).mono ?_
  · match j, hj with
    | 0, hj =>
      simp at hj; subst hj
      refine ⟨_, rfl, _, rfl, rfl, fun i a hi => ?_⟩
      match i, hi with
      | 0, hi => simp at hi; subst hi; exact ⟨_, rfl, rfl⟩
      | 1, hi => simp at hi; subst hi; exact ⟨_, rfl, rfl⟩
      | 2, hi => simp at hi; subst hi; exact ⟨_, rfl, rfl⟩
      | 3, hi => simp at hi; subst hi; exact ⟨_, rfl, rfl⟩
    | 1, hj => simp at hj; subst hj; exact ⟨_, rfl, ptr1 rfl⟩
    | 2, hj => simp at hj; subst hj; exact ⟨_, rfl, ptr1 rfl⟩
    | 3, hj => simp at hj; subst hj; exact ⟨_, rfl, ptr1 rfl⟩
  · rintro e w' ⟨v, η, ω, rfl, hd, _, h3, _⟩
    refine ⟨?_, ⟨h3.os, h3.tape, h3.output, h3.size, fun b hb => (h3.block b hb rfl).1⟩⟩
    obtain ⟨us, rfl, hl, ha⟩ := hd
    obtain ⟨u0, g0, d0⟩ := ha 0 _ rfl
    obtain ⟨u1, g1, d1⟩ := ha 1 _ rfl
    obtain ⟨u2, g2, d2⟩ := ha 2 _ rfl
    obtain ⟨u3, g3, d3⟩ := ha 3 _ rfl
    have d0 : u0 = _ := d0
    have d1 : u1 = _ := d1
    have d2 : u2 = _ := d2
    have d3 : u3 = _ := d3
    subst d0 d1 d2 d3
    match us, hl with
    | ⟨[p0, p1, p2, p3]⟩, _ =>
      simp at g0 g1 g2 g3
      subst g0 g1 g2 g3
      rfl
end Go.Proofs.Ytmdhljleaijkbaa

/- The program's search of a torus map: what holds from round to round. No program in sight. -/
namespace Go.Proofs.Ytmdhljleaijkbaa
open Go.RowKit

section
variable {b c n : Int} {T : List (List Int)} {N : Nat} {φ : Nat → TF} {R : PSt}
/-- at the head of a round -/
structure PO (b c n : Int) (T : List (List Int)) (N : Nat) (φ : Nat → TF) (R : PSt) (at_ : Nat) (s : PSt) : Prop where
  le : at_ ≤ s.1.length
  alike : ∃ o, Alike b c n T N φ s o at_ 0
  tb : TB s.1
  eq : pLoop b c n (N + 1 - at_) at_ s = R
theorem PO.start (I : Iso b c n T N φ) : PO b c n T N φ (pLoop b c n (N + 1) 0 ([tf0], [[], [], []])) 0 ([tf0], [[], [], []]) :=
  ⟨Nat.zero_le _, ⟨_, alike_start I⟩, TB.start, rfl⟩
theorem PO.few {at_ : Nat} {s : PSt} (h : PO b c n T N φ R at_ s) : s.1.length ≤ N := by
  obtain ⟨o, ho⟩ := h.alike
  rw [ho.len]; exact ho.ok.le
theorem PO.done {at_ : Nat} {s : PSt} (h : PO b c n T N φ R at_ s) (hat : ¬ at_ < s.1.length) : s = R := by
  have := h.eq
  rwa [pLoop_stop hat] at this
/-- within a round -/
structure PI (N at_ : Nat) (t0 : TF) (s : PSt) : Prop where
  few : s.1.length ≤ N
  three : s.2.length = 3
  tb : TB s.1
  here : at_ < s.1.length
  same : tget s.1 at_ = t0
  rows : ∀ i, i < 3 → (lget s.2 i).length ≤ at_ + 1
theorem PO.inner (I : Iso b c n T N φ) {at_ : Nat} {s : PSt} (h : PO b c n T N φ R at_ s) (hat : at_ < s.1.length) : ∀ k, k ≤ 3 → PI N at_ (tget s.1 at_) (pRow b c n (tget s.1 at_) s k)
  | 0, _ => by
    obtain ⟨o, ho⟩ := h.alike
    exact ⟨h.few, ho.three, h.tb, hat, rfl, fun i hi => by have := ho.rlen i hi; rw [if_neg (by omega)] at this; show (lget s.2 i).length ≤ _; omega⟩
  | k + 1, hk => by
    have ih := PO.inner I h hat k (by omega)
    obtain ⟨o, ho⟩ := h.alike
    obtain ⟨h1, h2⟩ := alike_row I ho hat (k + 1) hk
    rw [pRow_succ] at h1 h2 ⊢
    have hk2 := pStep_keep (b := b) (c := c) (n := n) (i := k) ih.here (tget s.1 at_)
    refine ⟨by rw [h1.len]; exact h1.ok.le, h1.three, ih.tb.step ih.here (by omega) ih.same.symm, by have := ih.here; omega, hk2.2.trans ih.same, fun i hi => ?_⟩
    have := h1.rlen i hi
    split at this <;> omega
theorem PO.next (I : Iso b c n T N φ) {at_ : Nat} {s : PSt} (h : PO b c n T N φ R at_ s) (hat : at_ < s.1.length) : PO b c n T N φ R (at_ + 1) (pRow b c n (tget s.1 at_) s 3) := by
  have hi := PO.inner I h hat 3 (Nat.le_refl _)
  have hf := h.few
  obtain ⟨o, ho⟩ := h.alike
  obtain ⟨h1, _⟩ := alike_row I ho hat 3 (Nat.le_refl _)
  refine ⟨by have := hi.here; omega, ⟨_, ⟨h1.ok, h1.len, h1.key, h1.three, fun r hr => by rw [h1.rlen r hr, if_pos hr, if_neg (by omega)], h1.row⟩⟩, hi.tb, ?_⟩
  have := h.eq
  rw [show N + 1 - at_ = (N + 1 - (at_ + 1)) + 1 by omega, pLoop_go hat] at this
  exact this
end
end Go.Proofs.Ytmdhljleaijkbaa

/- Torus maps, the program's search, walked. -/
namespace Go.Proofs.Ytmdhljleaijkbaa
open Go.RowKit

theorem sizeF_any (ao : Option Addr) (n c : Nat) (w : World) : Calls Try.prog 66 #[.slice ao n c] w fun e w' => e = .returned (.int .i64 n) ∧ w' = w := by
  go_enter Try.func66, Try.ntmps66
  go_wp2
  go_ret
  exact ⟨rfl, rfl⟩
set_option maxRecDepth 100000 in
set_option maxHeartbeats 3200000 in
theorem torI_any (b c : Nat) (w : World) {T : List (List Int)} {φ : Nat → TF} (I : Iso b c (b * b + c * c : Nat) T (8 * (b * b + c * c)) φ) (hb : b ≤ 7) (hc : c ≤ 7) (h0 : 0 < b * b + c * c) (h50 : b * b + c * c ≤ 50) :
    Calls Try.prog 36 #[.int .i64 b, .int .i64 c] w fun e w' => ∃ v, e = .returned v ∧ OwM 2 32 w' w.heap.size w'.heap.size v (pLoop b c (b * b + c * c : Nat) (8 * (b * b + c * c) + 1) 0 ([tf0], [[], [], []])).2 ∧ Below w.heap.size w w' := by
  obtain ⟨n, hn⟩ : ∃ n, n = b * b + c * c := ⟨_, rfl⟩
  rw [← hn] at h0 h50 I ⊢
  have hbb : b * b ≤ 50 := by omega
  have hcc : c * c ≤ 50 := by omega
  have e1 : IntKind.i64.wrap ((b : Int) * b) = ((b * b : Nat) : Int) := by
    rw [← Int.natCast_mul]; exact IntWalk.i64_in _ (by omega)
  have e2 : IntKind.i64.wrap ((c : Int) * c) = ((c * c : Nat) : Int) := by
    rw [← Int.natCast_mul]; exact IntWalk.i64_in _ (by omega)
  have e3 : IntKind.i64.wrap (((b * b : Nat) : Int) + ((c * c : Nat) : Int)) = (n : Int) := by rw [IntWalk.i64_in _ (by omega)]; omega
  generalize b * b = B at *
  generalize c * c = C at *
  have HN := Lib.hid hn
  clear hn
  have hsf : ∀ (a : Addr) (m : Mode) (W : World) (fn : Fn) (x y : Array Value), (store a (.func fn x y) m).run Try.prog W = stored Try.prog W a (.func fn x y) m := fun a m W fn x y => run_store Try.prog W a _ m rfl
  have PS := PO.start I
  have hR3 : (pLoop b c n (8 * n + 1) 0 ([tf0], [[], [], []])).2.length = 3 := by have := (alike_end I).three; exact this
  generalize pLoop b c n (8 * n + 1) 0 ([tf0], [[], [], []]) = R at *
  go_enter Try.func36, Try.ntmps36
  go_upto_region 5 with fail
  have k1 : Blk ((((((w.alloc (.cells #[.int .i64 b] 2)).alloc (.cells #[.int .i64 c] 2)).alloc (.cells #[.slice none 0 0] 28)).alloc (.cells #[.int .i64 n] 2)).alloc (.cells #[clV (w.heap.size + 1 + 1 + 1)] 52)).alloc (.cells #[.int .i64 0, .int .i64 0, .int .i64 0, .bool true] 88)) w.heap.size 2 #[.int .i64 b] := (((((blk_at rfl).alloc _).alloc _).alloc _).alloc _).alloc _
  have k2 : Blk ((((((w.alloc (.cells #[.int .i64 b] 2)).alloc (.cells #[.int .i64 c] 2)).alloc (.cells #[.slice none 0 0] 28)).alloc (.cells #[.int .i64 n] 2)).alloc (.cells #[clV (w.heap.size + 1 + 1 + 1)] 52)).alloc (.cells #[.int .i64 0, .int .i64 0, .int .i64 0, .bool true] 88)) (w.heap.size + 1) 2 #[.int .i64 c] := ((((blk_at (by simp)).alloc _).alloc _).alloc _).alloc _
  have k3 : Blk ((((((w.alloc (.cells #[.int .i64 b] 2)).alloc (.cells #[.int .i64 c] 2)).alloc (.cells #[.slice none 0 0] 28)).alloc (.cells #[.int .i64 n] 2)).alloc (.cells #[clV (w.heap.size + 1 + 1 + 1)] 52)).alloc (.cells #[.int .i64 0, .int .i64 0, .int .i64 0, .bool true] 88)) (w.heap.size + 2) 28 #[.slice none 0 0] := (((blk_at (by simp)).alloc _).alloc _).alloc _
  have k4 : Blk ((((((w.alloc (.cells #[.int .i64 b] 2)).alloc (.cells #[.int .i64 c] 2)).alloc (.cells #[.slice none 0 0] 28)).alloc (.cells #[.int .i64 n] 2)).alloc (.cells #[clV (w.heap.size + 1 + 1 + 1)] 52)).alloc (.cells #[.int .i64 0, .int .i64 0, .int .i64 0, .bool true] 88)) (w.heap.size + 3) 2 #[.int .i64 n] := ((blk_at (by simp)).alloc _).alloc _
  have k5 : Blk ((((((w.alloc (.cells #[.int .i64 b] 2)).alloc (.cells #[.int .i64 c] 2)).alloc (.cells #[.slice none 0 0] 28)).alloc (.cells #[.int .i64 n] 2)).alloc (.cells #[clV (w.heap.size + 1 + 1 + 1)] 52)).alloc (.cells #[.int .i64 0, .int .i64 0, .int .i64 0, .bool true] 88)) (w.heap.size + 4) 52 #[clV (w.heap.size + 3)] := (blk_at (by simp)).alloc _
  have k6 : OwnF ((((((w.alloc (.cells #[.int .i64 b] 2)).alloc (.cells #[.int .i64 c] 2)).alloc (.cells #[.slice none 0 0] 28)).alloc (.cells #[.int .i64 n] 2)).alloc (.cells #[clV (w.heap.size + 1 + 1 + 1)] 52)).alloc (.cells #[.int .i64 0, .int .i64 0, .int .i64 0, .bool true] 88)) (w.heap.size + 5) (some ⟨w.heap.size + 5, 0, none⟩) 1 1 [tf0] := ⟨by
    have := World.ownsRow_lit (base := w.heap.size + 5) (e := 88) (size := 4) (((((w.alloc (.cells #[.int .i64 b] 2)).alloc (.cells #[.int .i64 c] 2)).alloc (.cells #[.slice none 0 0] 28)).alloc (.cells #[.int .i64 n] 2)).alloc (.cells #[clV (w.heap.size + 1 + 1 + 1)] 52)) #[.int .i64 0, .int .i64 0, .int .i64 0, .bool true] 1 (by simp) (by simp [maxLen]) (by simp)
    simpa [fcells, tf0] using this, by omega⟩
  have kb : Below w.heap.size w ((((((w.alloc (.cells #[.int .i64 b] 2)).alloc (.cells #[.int .i64 c] 2)).alloc (.cells #[.slice none 0 0] 28)).alloc (.cells #[.int .i64 n] 2)).alloc (.cells #[clV (w.heap.size + 1 + 1 + 1)] 52)).alloc (.cells #[.int .i64 0, .int .i64 0, .int .i64 0, .bool true] 88)) := ((below_alloc3 w _ _ _).alloc (by simp; omega) _ |>.alloc (by simp; omega) _).alloc (by simp; omega) _
  have ks : ((((((w.alloc (.cells #[.int .i64 b] 2)).alloc (.cells #[.int .i64 c] 2)).alloc (.cells #[.slice none 0 0] 28)).alloc (.cells #[.int .i64 n] 2)).alloc (.cells #[clV (w.heap.size + 1 + 1 + 1)] 52)).alloc (.cells #[.int .i64 0, .int .i64 0, .int .i64 0, .bool true] 88)).heap.size = w.heap.size + 6 := by simp
  have P0 := Lib.hid k1
  have P1 := Lib.hid k2
  have P2 := Lib.hid k3
  have P3 := Lib.hid k4
  have P4 := Lib.hid k5
  have P6 := Lib.hid k6
  have PB := Lib.hid kb
  generalize (((((w.alloc (.cells #[.int .i64 b] 2)).alloc (.cells #[.int .i64 c] 2)).alloc (.cells #[.slice none 0 0] 28)).alloc (.cells #[.int .i64 n] 2)).alloc (.cells #[clV (w.heap.size + 1 + 1 + 1)] 52)).alloc (.cells #[.int .i64 0, .int .i64 0, .int .i64 0, .bool true] 88) = w6 at *
  have hps : (w.heap.size < w.heap.size + 1 ∧ w.heap.size + 1 < w.heap.size + 5) ∧ (w.heap.size < w.heap.size + 1 + 1 ∧ w.heap.size + 1 + 1 < w.heap.size + 5) ∧ (w.heap.size < w.heap.size + 1 + 1 + 1 ∧ w.heap.size + 1 + 1 + 1 < w.heap.size + 5) ∧ (w.heap.size < w.heap.size + 1 + 1 + 1 + 1 ∧ w.heap.size + 1 + 1 + 1 + 1 < w.heap.size + 5) := by omega
  have hl5 : w.heap.size + 1 + 1 + 1 + 1 + 1 = w.heap.size + 5 := rfl
  have k2 : Blk w6 (w.heap.size + 1) 2 #[.int .i64 c] := k2
  have k3 : Blk w6 (w.heap.size + 1 + 1) 28 #[.slice none 0 0] := k3
  have k4 : Blk w6 (w.heap.size + 1 + 1 + 1) 2 #[.int .i64 n] := k4
  have k5 : Blk w6 (w.heap.size + 1 + 1 + 1 + 1) 52 #[clV (w.heap.size + 1 + 1 + 1)] := k5
  have k6 : OwnF w6 (w.heap.size + 5) (some ⟨w.heap.size + 1 + 1 + 1 + 1 + 1, 0, none⟩) 1 1 [tf0] := k6
  have hp5 : w.heap.size + 1 + 1 + 1 + 1 + 1 < w6.heap.size := by omega
  clear P0 P1 P2 P3 P4 P6 PB hl5
  generalize w.heap.size + 1 + 1 + 1 + 1 + 1 = p5 at *
  generalize w.heap.size + 1 + 1 + 1 + 1 = p4 at *
  generalize w.heap.size + 1 + 1 + 1 = p3 at *
  generalize w.heap.size + 1 + 1 = p2 at *
  generalize w.heap.size + 1 = p1 at *
  have hmk : ∀ W : World, (Instr.makeMap 91 none).run Try.prog W = .ok (.map (some W.heap.size)) (W.alloc (.map #[] 0)) := fun W => Go.RowKit.run_makeMap _ W
  obtain ⟨g5, hg5, hg5l, c0, c1, c2, c3⟩ := k6.at_ (j := 0) (by omega)
  obtain rfl : p5 = g5 := by injection hg5 with h; injection h
  have c0 : w6.cell? ⟨p5, 0, none⟩ = some (.int .i64 0) := c0
  have c1 : w6.cell? ⟨p5, 1, none⟩ = some (.int .i64 0) := c1
  have c2 : w6.cell? ⟨p5, 2, none⟩ = some (.int .i64 0) := c2
  have c3 : w6.cell? ⟨p5, 3, none⟩ = some (.bool true) := c3
  have ba := Below.heap_alloc w6 (.map #[] 0) p5 hg5l
  have c0 : (w6.alloc (.map #[] 0)).cell? ⟨p5, 0, none⟩ = some (.int .i64 0) := (World.cell?_of_block ba).trans c0
  have c1 : (w6.alloc (.map #[] 0)).cell? ⟨p5, 1, none⟩ = some (.int .i64 0) := (World.cell?_of_block ba).trans c1
  have c2 : (w6.alloc (.map #[] 0)).cell? ⟨p5, 2, none⟩ = some (.int .i64 0) := (World.cell?_of_block ba).trans c2
  have c3 : (w6.alloc (.map #[] 0)).cell? ⟨p5, 3, none⟩ = some (.bool true) := (World.cell?_of_block ba).trans c3
  clear ba
  have hM0 : MapT (w6.alloc (.map #[] 0)) (w.heap.size + 6) [] := ⟨#[], 0, by rw [← ks]; exact heap_alloc_new w6 _, rfl⟩
  go_wp2_with (first | (go_at_call 64; refine (key_any b c n tf0 (by omega) (by omega) (by omega) (by decide) (by decide) (w6.alloc (.map #[] 0)) p4 w.heap.size p1 p3 (k5.alloc _).lt (k1.alloc _).lt (k2.alloc _).lt (k4.alloc _).lt ((k5.alloc _).cell 0) ((k1.alloc _).cell 0) ((k2.alloc _).cell 0) ((k4.alloc _).cell 0)).mono ?_; rintro e w7 ⟨rfl, b7⟩; have hM := hM0.same (b7.block _ hM0.lt)) | (refine wpList_putT w7 rfl _ _ _ (.inr rfl) (w.heap.size + 6) [] (tkey b c n tf0) 0 hM rfl rfl rfl rfl rfl ?_; intro w8 o8 m8) | (at_make; refine wpList_mk etSS _ rfl _ _ rfl p5 _ _ _ _ 3 rfl rfl rfl rfl (by omega) (by have := b7.size; have := o8.size; simp at *; omega) ?_; intro w9 h9 g9 s9))
  have KT := TS.init k1 k2 k3 k4 k5 hps k6 kb ks (by omega) b7 o8 m8 h9 g9
  have h31 : ((3 : Nat) : Int) = 3 := rfl
  have hlo : w.heap.size < p5 := by have := hps.1; omega
  clear k1 k2 k3 k4 k5 hps k6 kb ks b7 o8 m8 h9 g9 hM hM0 c0 c1 c2 c3 hg5l s9 hmk hp5 hg5 e1 e2 e3 hbb hcc hsf HN
  generalize w.heap.size + 6 = mb at *
  generalize w8.heap.size = g0 at *
  go_loopw [8, 11] (fun lv iv wr => ∃ (at_ : Nat) (s : PSt) (ao : Option Addr) (cap : Nat) (us : List Value), lv = .slice ao s.1.length cap ∧ iv = .int .i64 at_ ∧ PO b c n T (8 * n) φ R at_ s ∧ TS b c n w wr p5 p1 p2 p3 p4 ao cap mb g0 us s) (fun _ iv _ => 8 * n + 1 - (intOf iv).toNat)
  case atStart => exact ⟨0, _, _, _, _, rfl, rfl, PS, KT⟩
  case round =>
    clear KT PS
    obtain ⟨at_, s, ao, cap, us, rfl, rfl, PS, KT⟩ := hrel
    have hfew := PS.few
    by_cases hat : at_ < s.1.length
    · have PI0 := Lib.hid (PO.inner I PS hat)
      have PN := Lib.hid (PO.next I PS hat)
      clear PS
      go_wp2
      go_loopw [8, 43] (fun lv iv wi => ∃ (k : Nat) (s' : PSt) (ao' : Option Addr) (cap' : Nat) (us' : List Value), lv = .slice ao' s'.1.length cap' ∧ iv = .int .i64 k ∧ k ≤ 3 ∧ s' = pRow b c n (tget s.1 at_) s k ∧ TS b c n w wi p5 p1 p2 p3 p4 ao' cap' mb g0 us' s') (fun _ iv _ => 3 - (intOf iv).toNat)
      case atStart => exact ⟨0, _, _, _, _, rfl, rfl, Nat.zero_le _, rfl, KT⟩
      case round =>
        clear KT
        obtain ⟨k, s', ao', cap', us', rfl, rfl, hk, hs', KI⟩ := hrel
        by_cases hlt : k < 3
        · have pi := PI0.out k hk
          rw [← hs'] at pi
          obtain ⟨pi1, pi2, pi3, pi4, pi5, pi6⟩ := pi
          obtain ⟨g, rfl, hgl, d0, d1, d2, d3⟩ := KI.ls.at_ pi4
          have hb := pi3 at_ pi4
          rw [pi5] at d0 d1 d2 d3 hb
          have hst : pRow b c n (tget s.1 at_) s (k + 1) = pStep b c n (tget s.1 at_) s' k := by rw [pRow_succ, hs']
          have HS := Lib.hid hst
          have HS' := Lib.hid hs'
          clear hst hs'
          generalize tget s.1 at_ = t0 at *
          go_wp2_with (go_at_call 65; refine (moved_any t0 k _ hlt (by omega) (by omega) (by omega)).mono ?_; rintro e wx ⟨rfl, bx⟩; rw [fv]; generalize htn : tmv k t0 = tn)
          have KX := KI.keep bx
          have near := tmv_near hlt hb
          rw [htn] at near
          have kn : Blk (wx.alloc (.cells #[.int .i64 tn.x, .int .i64 tn.y, .int .i64 tn.d, .bool tn.l] 88)) wx.heap.size 88 #[.int .i64 tn.x, .int .i64 tn.y, .int .i64 tn.d, .bool tn.l] := blk_at rfl
          have KY := KX.keep (below_alloc1 wx (.cells #[.int .i64 tn.x, .int .i64 tn.y, .int .i64 tn.d, .bool tn.l] 88))
          have sx := KX.size
          have mx := KX.mp.lt
          clear KX KI bx d0 d1 d2 d3 hgl
          generalize wx.alloc (.cells #[.int .i64 tn.x, .int .i64 tn.y, .int .i64 tn.d, .bool tn.l] 88) = wy at *
          generalize wx.heap.size = pn at *
          refine (key_any b c n tn (by omega) (by omega) (by omega) (by omega) (by omega) wy p4 w.heap.size p1 p3 KY.fx.lt KY.bx.lt KY.cx.lt KY.nx.lt (KY.fx.cell 0) (KY.bx.cell 0) (KY.cx.cell 0) (KY.nx.cell 0)).mono ?_
          rintro e wz ⟨rfl, bz⟩
          have KZ := KY.keep bz
          have kz := kn.belowS bz
          clear KY kn bz
          obtain ⟨u, d, hu, hd, ⟨ra, rn, rc, rfl, ow0⟩, hin⟩ := KZ.rws.get hlt
          have hdl : d = lget s'.2 k := (lget_get? hd).symm
          have hrl : d.length = rn := by have := ow0.len; simpa using this
          have hrn := pi6 k hlt
          rw [← hdl] at hrn
          have HD := Lib.hid hdl
          clear hd hdl hin
          cases hf : fndT (tkey b c n tn) (s'.1.map (tkey b c n)) 0 with
          | some j =>
            have hpS : pStep b c n t0 s' k = (s'.1, s'.2.set k (d ++ [(j : Int)])) := by rw [HD.out]; exact pStep_old (by rw [htn]; exact hf)
            have HPS := Lib.hid hpS
            clear hpS
            have OWP := ow0
            clear ow0
            have KW := KZ
            have cs7 : wz.cell? ⟨g0, k, none⟩ = some (.slice ra rn rc) := KZ.rws.cell hu
            have HM := Lib.hid KZ.mp
            have HF := Lib.hid hf
            clear hf
            have c7 : wz.cell? ⟨g0, k, none⟩ = some (.slice ra rn rc) := KW.rws.cell hu
            have OW := Lib.hid (show Own wz 0 2 ra rn rc (d.map (Value.int .i64)) from OWP)
            have rin := KW.rws.rng k _ hu
            have rout : bk ra = none ∨ bk (some (⟨g0, 0, none⟩ : Addr)) ≠ bk ra := by
              cases hr : bk ra with
              | none => exact .inl rfl
              | some x => exact .inr fun e => KW.rws.out k _ x hu (by rw [ownBlock_slice]; exact hr) e
            have OK := Lib.hid KW
            have ssz := KW.size
            clear KW KZ OWP
            go_wp2_with (first | (refine wpList_lookY wz rfl _ _ rfl mb _ _ j HM.out HF.out rfl rfl ?_) | (at_builtin; refine wpList_ap1 etI _ rfl _ _ rfl 0 ra rn rc _ rfl OW.out (.int .i64 (j : Int)) rfl rfl (by omega) (Nat.zero_le _) ?_; intro ao2 c2 w2 ho2 hg2 hblk; have OG := OK.out.rws.own.kept hg2 (rout.elim (fun e => .inr (by rw [e]; simp [bk])) .inr); have q7 : w2.cell? ⟨g0, k, none⟩ = some (.slice ra rn rc) := hg2.cell c7 (rout.elim (fun e => by rw [e]; simp) fun e => by simpa [bk] using e); have f7 : w2.frozen? ⟨g0, k, none⟩ = false := by obtain ⟨x, ex, -, -, -, -, fx⟩ := OG.form (by omega); injection ex with ex; injection ex with ex; subst ex; exact fx k))
            have KQ := Lib.hid (OK.out.row hlt hu hg2 (by rw [List.map_append]; exact ho2 : Own w2 0 2 ao2 (rn + 1) c2 ((d ++ [(j : Int)]).map (Value.int .i64))) (hblk.elim .inl fun e => .inr ⟨_, e, Nat.le_succ _⟩) (fun x hx => by rcases hblk with e | e; exact (rin x (by rw [ownBlock_slice, ← e]; exact hx)).1; rw [e] at hx; have := Option.some.inj hx; omega))
            clear ho2 hg2 hblk OG OK OW
            go_wp2
            go_roundw
            case rel => exact ⟨k + 1, (s'.1, s'.2.set k (d ++ [(j : Int)])), _, _, _, rfl, by go_num, hlt, by rw [HS.out, HPS.out], KQ.out⟩
            case measure => simp [intOf]; omega
          | none =>
            have hpS : pStep b c n t0 s' k = (s'.1 ++ [tn], s'.2.set k (d ++ [(s'.1.length : Int)])) := by rw [HD.out, ← htn]; exact pStep_new (by rw [htn]; exact hf)
            have HPS := Lib.hid hpS
            clear hpS ow0
            have HF := Lib.hid hf
            clear hf
            have x0 : wz.cell? ⟨pn, 0, none⟩ = some (.int .i64 tn.x) := kz.cell 0
            have x1 : wz.cell? ⟨pn, 1, none⟩ = some (.int .i64 tn.y) := kz.cell 1
            have x2 : wz.cell? ⟨pn, 2, none⟩ = some (.int .i64 tn.d) := kz.cell 2
            have x3 : wz.cell? ⟨pn, 3, none⟩ = some (.bool tn.l) := kz.cell 3
            go_upto_region 18 with (first | (refine wpList_lookN wz rfl _ _ rfl mb _ _ KZ.mp HF.out rfl rfl ?_) | (go_at_call 66; refine (sizeF_any _ _ _ _).mono ?_; rintro e w' ⟨rfl, rfl⟩) | (go_at_call 64; refine (key_any b c n tn (by omega) (by omega) (by omega) (by omega) (by omega) _ p4 w.heap.size p1 p3 KZ.fx.lt KZ.bx.lt KZ.cx.lt KZ.nx.lt (KZ.fx.cell 0) (KZ.bx.cell 0) (KZ.cx.cell 0) (KZ.nx.cell 0)).mono ?_; rintro e wv ⟨rfl, bv⟩; have KV := KZ.keep bv; have kv := kz.belowS bv) | (refine wpList_putT wv rfl _ _ _ (.inl rfl) mb _ (tkey b c n tn) (s'.1.length : Int) KV.mp HF.out rfl rfl rfl (by rw [List.length_map]) ?_; intro w3 o3 m3))
            have kq := kv.only o3 (.inr (by omega))
            have y0 : w3.cell? ⟨pn, 0, none⟩ = some (.int .i64 tn.x) := kq.cell 0
            have y1 : w3.cell? ⟨pn, 1, none⟩ = some (.int .i64 tn.y) := kq.cell 1
            have y2 : w3.cell? ⟨pn, 2, none⟩ = some (.int .i64 tn.d) := kq.cell 2
            have y3 : w3.cell? ⟨pn, 3, none⟩ = some (.bool tn.l) := kq.cell 3
            obtain ⟨hF, hT⟩ := KV.put o3 m3
            have s3 : p5 ≤ w3.heap.size := by have := KV.size; have := o3.size; omega
            clear KZ KV kz kv x0 x1 x2 x3
            go_upto_region 19 with (at_builtin; refine wpList_apF w3 rfl _ _ rfl p5 _ _ _ _ rfl hF tn rfl (by omega) s3 ?_; intro ao3 c3 w4 h4 g4 hb4)
            have KW := hT (L := s'.1 ++ [tn]) (r := s'.2) g4 (by rw [List.length_append]; exact h4) (by rw [List.map_append]; rfl) rfl
            clear hT hF h4 g4 hb4 y0 y1 y2 y3 kq
            have c7 : w4.cell? ⟨g0, k, none⟩ = some (.slice ra rn rc) := KW.rws.cell hu
            obtain ⟨u2, d2, hu2, hd2, ⟨ra2, rn2, rc2, hru, ow0⟩, hin2⟩ := KW.rws.get hlt
            rw [hu] at hu2
            obtain rfl := Option.some.inj hu2
            injection hru with hr1 hr2 hr3
            subst hr1 hr2 hr3
            obtain rfl : d = d2 := by rw [HD.out]; exact lget_get? hd2
            have OW := Lib.hid ow0
            have rin := KW.rws.rng k _ hu
            have rout : bk ra = none ∨ bk (some (⟨g0, 0, none⟩ : Addr)) ≠ bk ra := by
              cases hr : bk ra with
              | none => exact .inl rfl
              | some x => exact .inr fun e => KW.rws.out k _ x hu (by rw [ownBlock_slice]; exact hr) e
            have OK := Lib.hid KW
            have ssz := KW.size
            clear KW ow0 hin2 hd2 hu2
            go_wp2_with (at_builtin; refine wpList_ap1 etI _ rfl _ _ rfl 0 ra rn rc _ rfl OW.out (.int .i64 (s'.1.length : Int)) rfl rfl (by omega) (Nat.zero_le _) ?_; intro ao2 c2 w2 ho2 hg2 hblk; have OG := OK.out.rws.own.kept hg2 (rout.elim (fun e => .inr (by rw [e]; simp [bk])) .inr); have q7 : w2.cell? ⟨g0, k, none⟩ = some (.slice ra rn rc) := hg2.cell c7 (rout.elim (fun e => by rw [e]; simp) fun e => by simpa [bk] using e); have f7 : w2.frozen? ⟨g0, k, none⟩ = false := by obtain ⟨x, ex, -, -, -, -, fx⟩ := OG.form (by omega); injection ex with ex; injection ex with ex; subst ex; exact fx k)
            have KQ := Lib.hid (OK.out.row hlt hu hg2 (by rw [List.map_append]; exact ho2 : Own w2 0 2 ao2 (rn + 1) c2 ((d ++ [(s'.1.length : Int)]).map (Value.int .i64))) (hblk.elim .inl fun e => .inr ⟨_, e, Nat.le_succ _⟩) (fun x hx => by rcases hblk with e | e; exact (rin x (by rw [ownBlock_slice, ← e]; exact hx)).1; rw [e] at hx; have := Option.some.inj hx; omega))
            clear ho2 hg2 hblk OG OK OW
            go_wp2
            go_roundw
            case rel => exact ⟨k + 1, (s'.1 ++ [tn], s'.2.set k (d ++ [(s'.1.length : Int)])), _, _, _, by rw [List.length_append]; rfl, by go_num, hlt, by rw [HS.out, HPS.out], KQ.out⟩
            case measure => simp [intOf]; omega
        · obtain rfl : k = 3 := by omega
          have HS' := Lib.hid hs'
          clear hs' hlt
          have h33 : decide ((3 : Int) < 3) = false := by decide
          go_wp2
          go_roundw
          case rel => exact ⟨at_ + 1, s', _, _, _, rfl, by go_num, by rw [HS'.out]; exact PN.out, KI⟩
          case measure => simp [intOf]; omega
    · obtain rfl := PS.done hat
      have c0 : wr.cell? ⟨p2, 0, none⟩ = some (.slice none 0 0) := KT.mn.cell 0
      have f0 := KT.mn.frozen 0
      have hge : ¬ ((at_ : Int) < s.1.length) := by omega
      have hps := KT.ps
      have KM := KT.mn.set_ 0 (.slice (some ⟨g0, 0, none⟩) 3 3)
      have hrw := KT.rws.own.lt g0 rfl
      have KR : OwR (OwS 2) (wr.setCell ⟨p2, 0, none⟩ (.slice (some ⟨g0, 0, none⟩) 3 3)) p5 wr.heap.size 32 (some ⟨g0, 0, none⟩) 3 3 us s.2 := KT.rws.same (innerS _) fun g h1 _ _ => Below.heap_setCell _ _ _ _ (by simp; omega)
      have KB : Below w.heap.size w (wr.setCell ⟨p2, 0, none⟩ (.slice (some ⟨g0, 0, none⟩) 3 3)) := KT.bel.setCell (by show w.heap.size ≤ p2; omega) _
      have ksz : (wr.setCell ⟨p2, 0, none⟩ (.slice (some ⟨g0, 0, none⟩) 3 3)).heap.size = wr.heap.size := by simp [World.setCell]
      rw [← ksz] at KR
      clear KT PS ksz
      go_wp2
      generalize wr.setCell ⟨p2, 0, none⟩ (.slice (some ⟨g0, 0, none⟩) 3 3) = ws at *
      have e0 : ws.cell? ⟨p2, 0, none⟩ = some (.slice (some ⟨g0, 0, none⟩) 3 3) := KM.cell 0
      exact bodyPost_ret (v := .agg #[.slice (some ⟨g0, 0, none⟩) 3 3]) (by simp [results, Try.f36, go_sem, e0]) rfl ⟨_, rfl, ⟨_, _, _, us, rfl, KR.mono (by omega) (Nat.le_refl _)⟩, KB⟩
end Go.Proofs.Ytmdhljleaijkbaa

/- TorusMap, the reference's and the program's: the same rows. -/
namespace Go.Proofs.Ytmdhljleaijkbaa
open Go.RowKit

theorem torF_rows {b c : Nat} (hb : b ≤ 7) (hc : c ≤ 7) (h0 : 0 < b * b + c * c) (h50 : b * b + c * c ≤ 50) : ∀ r ∈ torF b c, r.length = 8 * (b * b + c * c) := fun r hr => by
  have hg := torGood_all hb hc h0 h50
  have hfull := tor_full (Apart.all _) rfl h0 hg
  unfold torF formL at hr
  rw [List.mem_map] at hr
  obtain ⟨x, _, rfl⟩ := hr
  unfold fRow backL
  rw [putL_len, putL_len, hfull]
theorem torF_same {b c : Nat} (hb : b ≤ 7) (hc : c ≤ 7) (h0 : 0 < b * b + c * c) (h50 : b * b + c * c ≤ 50) : (pLoop b c (b * b + c * c : Nat) (8 * (b * b + c * c) + 1) 0 ([tf0], [[], [], []])).2 = torF b c := by
  have hg := torGood_all hb hc h0 h50
  exact tor_alike (Apart.all _) rfl h0 hg
theorem torS_any (b c : Nat) (w : World) (hb : b ≤ 7) (hc : c ≤ 7) (h0 : 0 < b * b + c * c) (h50 : b * b + c * c ≤ 50) :
    Calls Try.prog 38 #[.int .i64 b, .int .i64 c] w fun e w' => ∃ v, e = .returned v ∧ OwM 2 32 w' w.heap.size w'.heap.size v (torF b c) ∧ Below w.heap.size w w' := by
  refine ((torus_fc b c hb hc h0 h50).call (w := w) (l := []) (us := [.int .i64 b, .int .i64 c]) (fun p hp => by cases hp) rfl (denL2 rfl rfl)).mono ?_
  rintro e w' ⟨v, η, ω, rfl, hd, hm, hB, hn⟩
  obtain ⟨us, rfl, hus, ha⟩ := hd
  obtain ⟨u0, g0, d0⟩ := ha 0 _ rfl
  have e0 : us = #[u0] := by
    have hus : us.size = 1 := hus
    apply Array.ext (by simpa using hus)
    intro i q1 q2
    obtain rfl : i = 0 := by simp at q2; omega
    rw [Array.getElem?_eq_getElem q1] at g0
    simpa using g0
  subst e0
  obtain ⟨ao, n, c', us', rfl, hor⟩ := toSS (zss := torF b c) (x := 180) (E := 32) (F := 2) hm hn rfl (by rw [torF_len]; exact d0) (by rw [torF_len]; omega) (fun r hr => by rw [torF_rows hb hc h0 h50 r hr]; omega)
  exact ⟨_, rfl, ⟨ao, n, c', us', rfl, hor⟩, hB⟩
theorem torM_any (b c : Nat) (w : World) (hb : b ≤ 7) (hc : c ≤ 7) (h0 : 0 < b * b + c * c) (h50 : b * b + c * c ≤ 50) :
    Calls Try.prog 36 #[.int .i64 b, .int .i64 c] w fun e w' => ∃ v, e = .returned v ∧ OwM 2 32 w' w.heap.size w'.heap.size v (torF b c) ∧ Below w.heap.size w w' := by
  rw [← torF_same hb hc h0 h50]
  exact torI_any b c w (tor_iso (Apart.all _) rfl h0 (torGood_all hb hc h0 h50)) hb hc h0 h50
def torOk (b c : Int) : Bool := inB b 0 7 && (inB c 0 7 && inB (b * b + c * c) 1 50)
def torusR (b c : Int) : List (List Int) := if torOk b c = true then torF b.toNat c.toNat else []
def torusC (b c : Int) : Int := if torOk b c = true then 0 else 2
set_option maxHeartbeats 1600000 in
theorem api_specTorusMap (b c : Int) (w : World) :
    Calls Try.prog 8 #[.int .i64 b, .int .i64 c] w fun e w' => ∃ v, e = .returned (.tuple #[v, .int .i64 (torusC b c)]) ∧ OwM 2 32 w' w.heap.size w'.heap.size v (torusR b c) ∧ Below w.heap.size w w' := by
  have hb := below_alloc1 w (.cells #[.slice none 0 0] 28)
  have kb : Blk (w.alloc (.cells #[.slice none 0 0] 28)) w.heap.size 28 #[.slice none 0 0] := blk_at rfl
  have no : torOk b c = false → torusR b c = [] ∧ torusC b c = 2 := fun h => by unfold torusR torusC; simp [h]
  have leave : ∀ {P : Prop}, (OwM 2 32 (w.alloc (.cells #[.slice none 0 0] 28)) w.heap.size (w.alloc (.cells #[.slice none 0 0] 28)).heap.size (.agg #[.slice none 0 0]) [] → P) → P := fun k => k ⟨_, _, _, [], rfl, OwR.empty_ (Own.nil_ _ _ _) (by simp [bk])⟩
  cases h1 : inB b 0 7 with
  | false =>
    obtain ⟨hR, hC⟩ := no (by unfold torOk; rw [h1]; rfl)
    have HX := Lib.hid h1
    rw [hR, hC]
    clear h1 hR hC no
    go_enter Try.func8, Try.ntmps8
    go_wp2_with (go_at_call 37; refine (specIn_any _ _ _ _).mono ?_; rintro e w' ⟨rfl, rfl⟩; rw [HX.out])
    exact bodyPost_ret (v := .tuple #[.agg #[.slice none 0 0], .int .i64 2]) (by simp [results, Try.f8, go_sem]) rfl ⟨_, rfl, leave id, hb⟩
  | true =>
    cases h2 : inB c 0 7 with
    | false =>
      obtain ⟨hR, hC⟩ := no (by unfold torOk; rw [h1, h2]; rfl)
      have HX := Lib.hid h1
      have HY := Lib.hid h2
      rw [hR, hC]
      clear h1 h2 hR hC no
      go_enter Try.func8, Try.ntmps8
      go_wp2_with (go_at_call 37; refine (specIn_any _ _ _ _).mono ?_; rintro e w' ⟨rfl, rfl⟩; first | rw [HX.out] | rw [HY.out])
      exact bodyPost_ret (v := .tuple #[.agg #[.slice none 0 0], .int .i64 2]) (by simp [results, Try.f8, go_sem]) rfl ⟨_, rfl, leave id, hb⟩
    | true =>
      have HX := Lib.hid h1
      have HY := Lib.hid h2
      have i1 := inB_true.1 h1
      have i2 := inB_true.1 h2
      obtain ⟨x, rfl⟩ := Int.eq_ofNat_of_zero_le i1.1
      obtain ⟨y, rfl⟩ := Int.eq_ofNat_of_zero_le i2.1
      have hx : x ≤ 7 := by omega
      have hy : y ≤ 7 := by omega
      clear i1 i2
      have xx : x * x ≤ 49 := Nat.mul_le_mul hx hx
      have yy : y * y ≤ 49 := Nat.mul_le_mul hy hy
      have e1 : IntKind.i64.wrap ((x : Int) * x) = ((x * x : Nat) : Int) := by
        rw [← Int.natCast_mul]; exact IntWalk.i64_in _ (by omega)
      have e2 : IntKind.i64.wrap ((y : Int) * y) = ((y * y : Nat) : Int) := by
        rw [← Int.natCast_mul]; exact IntWalk.i64_in _ (by omega)
      have e3 : IntKind.i64.wrap (((x * x : Nat) : Int) + ((y * y : Nat) : Int)) = ((x * x + y * y : Nat) : Int) := by rw [IntWalk.i64_in _ (by omega)]; omega
      have hok : torOk x y = decide (1 ≤ x * x + y * y ∧ x * x + y * y ≤ 50) := by
        unfold torOk
        rw [h1, h2, Bool.true_and, Bool.true_and]
        unfold inB
        rw [← Int.natCast_mul, ← Int.natCast_mul, ← Bool.decide_and, decide_eq_decide]
        omega
      by_cases hz : x = 0 ∧ y = 0
      · obtain ⟨hR, hC⟩ := no (by rw [hok, hz.1, hz.2]; rfl)
        rw [hR, hC]
        have z1 : ((x : Int) == 0) = true := by rw [hz.1]; rfl
        have z2 : ((y : Int) == 0) = true := by rw [hz.2]; rfl
        clear h1 h2 hR hC no hok hz xx yy e1 e2 e3 hx hy
        go_enter Try.func8, Try.ntmps8
        go_wp2_with (go_at_call 37; refine (specIn_any _ _ _ _).mono ?_; rintro e w' ⟨rfl, rfl⟩; first | rw [HX.out] | rw [HY.out])
        exact bodyPost_ret (v := .tuple #[.agg #[.slice none 0 0], .int .i64 2]) (by simp [results, Try.f8, go_sem]) rfl ⟨_, rfl, leave id, hb⟩
      · have hz1 : 0 < x * x + y * y := by
          rcases Nat.eq_zero_or_pos x with h | h
          · have : 0 < y := by omega
            have := Nat.mul_pos this this; omega
          · have := Nat.mul_pos h h; omega
        have cz : ((x : Int) == 0) = true → ((y : Int) == 0) = false := fun h => by
          have : (x : Int) = 0 := by simpa using h
          rw [beq_eq_false_iff_ne]; omega
        by_cases hs : x * x + y * y ≤ 50
        · have hR : torusR x y = torF x y := by unfold torusR; rw [hok, decide_eq_true ⟨hz1, hs⟩, if_pos rfl, Int.toNat_natCast, Int.toNat_natCast]
          have hC : torusC x y = 0 := by unfold torusC; rw [hok, decide_eq_true ⟨hz1, hs⟩, if_pos rfl]
          rw [hR, hC]
          clear h1 h2 hR hC no hok leave
          have HT := Lib.hid (torS_any x y · hx hy hz1 hs)
          have h50 : decide ((50 : Int) < ((x * x + y * y : Nat) : Int)) = false := by simp; omega
          have body : ∀ {P : Prop}, (((x : Int) == 0) = true → ((y : Int) == 0) = false → P) → (((x : Int) == 0) = false → P) → P := fun p q => by
            cases hc : ((x : Int) == 0) with
            | true => exact p hc (cz hc)
            | false => exact q hc
          generalize hXX : x * x = X at *
          generalize hYY : y * y = Y at *
          clear hXX hYY cz
          refine body (fun z1 z2 => ?_) (fun z1 => ?_)
          all_goals
            clear body
            go_enter Try.func8, Try.ntmps8
            go_wp2_with (go_at_call 37; refine (specIn_any _ _ _ _).mono ?_; rintro e w' ⟨rfl, rfl⟩; first | rw [HX.out] | rw [HY.out])
            refine (HT.out _).mono ?_
            rintro e w1 ⟨v1, rfl, ⟨a1, n1, c1, us, rfl, o1⟩, b1⟩
            have k1 := kb.belowS b1
            have c0 : w1.cell? ⟨w.heap.size, 0, none⟩ = some (.slice none 0 0) := k1.cell 0
            have f0 := k1.frozen 0
            go_wp2
            have k2 := k1.set_ 0 (.slice a1 n1 c1)
            have z2 : w1.heap.size = (w1.setCell ⟨w.heap.size, 0, none⟩ (.slice a1 n1 c1)).heap.size := by simp [World.setCell]
            have o2 := o1.same (innerS _) (w' := w1.setCell ⟨w.heap.size, 0, none⟩ (.slice a1 n1 c1)) (fun g h1 _ _ => Below.heap_setCell _ _ _ _ (by simp at h1 ⊢; omega))
            have b2 := (hb.trans (b1.mono hb.size)).setCell (p := ⟨w.heap.size, 0, none⟩) (Nat.le_refl _) (.slice a1 n1 c1)
            generalize w1.setCell ⟨w.heap.size, 0, none⟩ (.slice a1 n1 c1) = w2 at *
            have e0 : w2.cell? ⟨w.heap.size, 0, none⟩ = some (.slice a1 n1 c1) := k2.cell 0
            exact bodyPost_ret (v := .tuple #[.agg #[.slice a1 n1 c1], .int .i64 0]) (by simp [results, Try.f8, go_sem, e0]) rfl ⟨_, rfl, ⟨_, _, _, us, rfl, o2.mono hb.size (by omega)⟩, b2⟩
        · obtain ⟨hR, hC⟩ := no (by rw [hok]; exact decide_eq_false (by omega))
          rw [hR, hC]
          clear h1 h2 hR hC no hok
          have h50 : decide ((50 : Int) < ((x * x + y * y : Nat) : Int)) = true := by simp; omega
          have body : ∀ {P : Prop}, (((x : Int) == 0) = true → ((y : Int) == 0) = false → P) → (((x : Int) == 0) = false → P) → P := fun p q => by
            cases hc : ((x : Int) == 0) with
            | true => exact p hc (cz hc)
            | false => exact q hc
          generalize hXX : x * x = X at *
          generalize hYY : y * y = Y at *
          clear hXX hYY cz
          refine body (fun z1 z2 => ?_) (fun z1 => ?_)
          all_goals
            clear body
            go_enter Try.func8, Try.ntmps8
            go_wp2_with (go_at_call 37; refine (specIn_any _ _ _ _).mono ?_; rintro e w' ⟨rfl, rfl⟩; first | rw [HX.out] | rw [HY.out])
            exact bodyPost_ret (v := .tuple #[.agg #[.slice none 0 0], .int .i64 2]) (by simp [results, Try.f8, go_sem]) rfl ⟨_, rfl, leave id, hb⟩
set_option maxHeartbeats 1600000 in
theorem api_implTorusMap (b c : Int) (w : World) :
    Calls Try.prog 7 #[.int .i64 b, .int .i64 c] w fun e w' => ∃ v, e = .returned (.tuple #[v, .int .i64 (torusC b c)]) ∧ OwM 2 32 w' w.heap.size w'.heap.size v (torusR b c) ∧ Below w.heap.size w w' := by
  have hb := below_alloc1 w (.cells #[.slice none 0 0] 28)
  have kb : Blk (w.alloc (.cells #[.slice none 0 0] 28)) w.heap.size 28 #[.slice none 0 0] := blk_at rfl
  have no : torOk b c = false → torusR b c = [] ∧ torusC b c = 2 := fun h => by unfold torusR torusC; simp [h]
  have leave : ∀ {P : Prop}, (OwM 2 32 (w.alloc (.cells #[.slice none 0 0] 28)) w.heap.size (w.alloc (.cells #[.slice none 0 0] 28)).heap.size (.agg #[.slice none 0 0]) [] → P) → P := fun k => k ⟨_, _, _, [], rfl, OwR.empty_ (Own.nil_ _ _ _) (by simp [bk])⟩
  cases h1 : inB b 0 7 with
  | false =>
    obtain ⟨hR, hC⟩ := no (by unfold torOk; rw [h1]; rfl)
    have HX := Lib.hid h1
    rw [hR, hC]
    clear h1 hR hC no
    go_enter Try.func7, Try.ntmps7
    go_wp2_with (go_at_call 35; refine (within_any _ _ _ _).mono ?_; rintro e w' ⟨rfl, rfl⟩; rw [HX.out])
    exact bodyPost_ret (v := .tuple #[.agg #[.slice none 0 0], .int .i64 2]) (by simp [results, Try.f7, go_sem]) rfl ⟨_, rfl, leave id, hb⟩
  | true =>
    cases h2 : inB c 0 7 with
    | false =>
      obtain ⟨hR, hC⟩ := no (by unfold torOk; rw [h1, h2]; rfl)
      have HX := Lib.hid h1
      have HY := Lib.hid h2
      rw [hR, hC]
      clear h1 h2 hR hC no
      go_enter Try.func7, Try.ntmps7
      go_wp2_with (go_at_call 35; refine (within_any _ _ _ _).mono ?_; rintro e w' ⟨rfl, rfl⟩; first | rw [HX.out] | rw [HY.out])
      exact bodyPost_ret (v := .tuple #[.agg #[.slice none 0 0], .int .i64 2]) (by simp [results, Try.f7, go_sem]) rfl ⟨_, rfl, leave id, hb⟩
    | true =>
      have HX := Lib.hid h1
      have HY := Lib.hid h2
      have i1 := inB_true.1 h1
      have i2 := inB_true.1 h2
      obtain ⟨x, rfl⟩ := Int.eq_ofNat_of_zero_le i1.1
      obtain ⟨y, rfl⟩ := Int.eq_ofNat_of_zero_le i2.1
      have hx : x ≤ 7 := by omega
      have hy : y ≤ 7 := by omega
      clear i1 i2
      have xx : x * x ≤ 49 := Nat.mul_le_mul hx hx
      have yy : y * y ≤ 49 := Nat.mul_le_mul hy hy
      have e1 : IntKind.i64.wrap ((x : Int) * x) = ((x * x : Nat) : Int) := by
        rw [← Int.natCast_mul]; exact IntWalk.i64_in _ (by omega)
      have e2 : IntKind.i64.wrap ((y : Int) * y) = ((y * y : Nat) : Int) := by
        rw [← Int.natCast_mul]; exact IntWalk.i64_in _ (by omega)
      have hok : torOk x y = inB ((x * x + y * y : Nat) : Int) 1 50 := by
        unfold torOk
        rw [h1, h2, Bool.true_and, Bool.true_and, ← Int.natCast_mul, ← Int.natCast_mul, ← Int.natCast_add]
      obtain ⟨S, hS⟩ : ∃ S, S = x * x + y * y := ⟨_, rfl⟩
      have e3 : IntKind.i64.wrap (((x * x : Nat) : Int) + ((y * y : Nat) : Int)) = (S : Int) := by rw [IntWalk.i64_in _ (by omega)]; omega
      rw [← hS] at hok
      cases h3 : inB (S : Int) 1 50 with
      | false =>
        have HZ := Lib.hid h3
        obtain ⟨hR, hC⟩ := no (by rw [hok, h3])
        rw [hR, hC]
        clear h1 h2 h3 hR hC no hok hS
        generalize x * x = X at *
        generalize y * y = Y at *
        go_enter Try.func7, Try.ntmps7
        go_wp2_with (go_at_call 35; refine (within_any _ _ _ _).mono ?_; rintro e w' ⟨rfl, rfl⟩; first | rw [HX.out] | rw [HY.out] | rw [HZ.out])
        exact bodyPost_ret (v := .tuple #[.agg #[.slice none 0 0], .int .i64 2]) (by simp [results, Try.f7, go_sem]) rfl ⟨_, rfl, leave id, hb⟩
      | true =>
        have HZ := Lib.hid h3
        have i3 := inB_true.1 h3
        have hR : torusR x y = torF x y := by unfold torusR; rw [hok, h3, if_pos rfl, Int.toNat_natCast, Int.toNat_natCast]
        have hC : torusC x y = 0 := by unfold torusC; rw [hok, h3, if_pos rfl]
        rw [hR, hC]
        have HT := Lib.hid (torM_any x y · hx hy (by omega) (by omega))
        clear h1 h2 h3 hR hC no hok leave i3 hS
        generalize x * x = X at *
        generalize y * y = Y at *
        go_enter Try.func7, Try.ntmps7
        go_wp2_with (go_at_call 35; refine (within_any _ _ _ _).mono ?_; rintro e w' ⟨rfl, rfl⟩; first | rw [HX.out] | rw [HY.out] | rw [HZ.out])
        refine (HT.out _).mono ?_
        rintro e w1 ⟨v1, rfl, ⟨a1, n1, c1, us, rfl, o1⟩, b1⟩
        have k1 := kb.belowS b1
        have c0 : w1.cell? ⟨w.heap.size, 0, none⟩ = some (.slice none 0 0) := k1.cell 0
        have f0 := k1.frozen 0
        go_wp2
        have k2 := k1.set_ 0 (.slice a1 n1 c1)
        have z2 : w1.heap.size = (w1.setCell ⟨w.heap.size, 0, none⟩ (.slice a1 n1 c1)).heap.size := by simp [World.setCell]
        have o2 := o1.same (innerS _) (w' := w1.setCell ⟨w.heap.size, 0, none⟩ (.slice a1 n1 c1)) (fun g h1 _ _ => Below.heap_setCell _ _ _ _ (by simp at h1 ⊢; omega))
        have b2 := (hb.trans (b1.mono hb.size)).setCell (p := ⟨w.heap.size, 0, none⟩) (Nat.le_refl _) (.slice a1 n1 c1)
        generalize w1.setCell ⟨w.heap.size, 0, none⟩ (.slice a1 n1 c1) = w2 at *
        have e0 : w2.cell? ⟨w.heap.size, 0, none⟩ = some (.slice a1 n1 c1) := k2.cell 0
        exact bodyPost_ret (v := .tuple #[.agg #[.slice a1 n1 c1], .int .i64 0]) (by simp [results, Try.f7, go_sem, e0]) rfl ⟨_, rfl, ⟨_, _, _, us, rfl, o2.mono hb.size (by omega)⟩, b2⟩
end Go.Proofs.Ytmdhljleaijkbaa

/- Draws of words: l11DrawWord, l11Power. -/
namespace Go.Proofs.Ytmdhljleaijkbaa
open Go.RowKit

theorem Src.grown {w w' : World} {sb : Nat} {row : Option Nat} (h : Src w sb) (hg : w.grownBy w' row) (hr : ∀ g, row = some g → sb < g) : Src w' sb := by
  obtain ⟨ao, n, c, k, hh, h1, h2, h3, h4⟩ := h.box
  have hlt := h1.lt
  refine ⟨ao, n, c, k, hh, (hg.block sb hlt (fun e => by have := hr sb e.symm; omega)).trans h1, h2, h3, h4.1, fun hn => ?_⟩
  obtain ⟨b, off, e, hb, hc⟩ := h4.2 hn
  refine ⟨b, off, e, hb, fun j hj => ?_⟩
  obtain ⟨x, hx, hcx⟩ := hc j hj
  exact ⟨x, hx, (World.cell?_of_block (hg.block b (World.block_lt_of_cell? w _ hcx) (fun e => by have := hr b e.symm; omega))).trans hcx⟩
set_option maxHeartbeats 3200000 in
theorem pick_any (sb : Nat) (ao : Option Addr) (n c : Nat) (zs : List Int) (w : World) (h : Src w sb) (hz : Ints w ao n zs) (hn : 1 ≤ n) (hn2 : n ≤ 100) (hne : bk ao ≠ some sb) :
    Calls Try.prog 34 #[.pointer (some ⟨sb, 0, none⟩), .slice ao n c] w fun e w' => ∃ r : Nat, r < n ∧ e = .returned (.int .i64 (iget zs r)) ∧ Src w' sb ∧ Only sb (sb + 1) w w' := by
  go_enter Try.func34, Try.ntmps34
  go_wp2_with fail
  refine (next_any sb _ _ h (by omega)).mono ?_
  rintro e w2 ⟨r, rfl, -, r2, s2, o2⟩
  have hr := r2 (by omega)
  have hr2 : r < n := by omega
  have hz2 : Ints w2 ao n zs := hz.same fun g hg hlt => o2.block g hlt (by
    have : g ≠ sb := fun e => by subst e; exact hne hg
    omega)
  obtain ⟨b, off, rfl, hc⟩ := hz2.at_ hr2
  clear r2 hz hz2
  go_wp2
  go_ret
  exact ⟨r, hr2, rfl, s2, o2⟩
end Go.Proofs.Ytmdhljleaijkbaa

/- The identity of n points: the reference's l01Unit. -/
namespace Go.Proofs.Ytmdhljleaijkbaa
open Go.RowKit

end Go.Proofs.Ytmdhljleaijkbaa

/- Draws: a source far from what turns, rows written out, and the reference's l01Draw. -/
namespace Go.Proofs.Ytmdhljleaijkbaa
open Go.RowKit

theorem own_rowL {w : World} {zs : List Int} {us : List Value} {g k : Nat} (hg : w.heap.size = g) (hu : us = zs.map (Value.int .i64)) (hk : zs.length = k) (hk2 : k ≤ 1000) : Own (w.alloc (.cells us.toArray 2)) w.heap.size 2 (some ⟨g, 0, none⟩) k k (zs.map (Value.int .i64)) := by
  subst hu hk
  have := own_lit (w := w) (base := w.heap.size) (E := 2) (us := zs.map (Value.int .i64)) hg (Nat.le_refl _) (by simp; omega)
  simpa using this
theorem src_farL {w w' : World} {sb : Nat} (h : Src w sb) (hs : ∀ g, g ≤ sb → w'.heap[g]? = w.heap[g]?) : Src w' sb := by
  obtain ⟨ao, n, c, k, hh, h1, h2, h3, h4⟩ := h.box
  refine ⟨ao, n, c, k, hh, (hs sb (Nat.le_refl _)).trans h1, h2, h3, h4.1, fun hn => ?_⟩
  obtain ⟨b, off, e, hb, hc⟩ := h4.2 hn
  refine ⟨b, off, e, hb, fun j hj => ?_⟩
  obtain ⟨x, hx, hcx⟩ := hc j hj
  exact ⟨x, hx, (World.cell?_of_block (hs b (by omega))).trans hcx⟩
theorem src_belowL {w w2 : World} {sb : Nat} (h : Src w sb) (hs : sb < w.heap.size) (b2 : Below w.heap.size w w2) : Src w2 sb := src_farL h fun g hg => b2.block g (by omega)
end Go.Proofs.Ytmdhljleaijkbaa

/- The draw of a torus map: two numbers. -/
namespace Go.Proofs.Ytmdhljleaijkbaa
open Go.RowKit

set_option maxRecDepth 100000 in
set_option maxHeartbeats 3200000 in
theorem drawTorus_any (ao : Option Addr) (n c : Nat) (w : World) (h : Bts w ao n w.heap.size) :
    Calls Try.prog 6 #[.slice ao n c] w fun e w' => ∃ b c : Int, e = .returned (.tuple #[.int .i64 b, .int .i64 c]) ∧ Below w.heap.size w w' := by
  go_enter Try.func6, Try.ntmps6
  go_wp2_with fail
  refine (from_any ao n c w h).mono ?_
  rintro e w1 ⟨rfl, s1, z1, b1⟩
  go_wp2_with fail
  refine (next_any w.heap.size _ _ s1 (by omega)).mono ?_
  rintro e w2 ⟨r, rfl, -, -, s2, o2⟩
  have b2 : Below w.heap.size w w2 := b1.trans (o2.below (Nat.le_refl _) (by omega))
  have z2 : w.heap.size < w2.heap.size := Nat.lt_of_lt_of_le z1 o2.size
  clear s1 o2 b1 h
  by_cases hr : r = 0
  · subst hr
    have iL : Ints (w2.alloc (.cells #[.int .i64 (-1), .int .i64 8, .int .i64 7, .int .i64 0, .int .i64 5] 2)) (some ⟨w2.heap.size, 0, none⟩) 5 [-1, 8, 7, 0, 5] := (own_rowL (us := [.int .i64 (-1), .int .i64 8, .int .i64 7, .int .i64 0, .int .i64 5]) rfl rfl rfl (by simp)).ints
    have kA := below_alloc1 w2 (.cells #[.int .i64 (-1), .int .i64 8, .int .i64 7, .int .i64 0, .int .i64 5] 2)
    have IL := Lib.hid iL
    have S3 := Lib.hid (src_belowL s2 z2 kA)
    have B3 := Lib.hid (b2.trans (kA.mono (Nat.le_of_lt z2)))
    have hne : bk (some ⟨w2.heap.size, 0, none⟩) ≠ some w.heap.size := by simp [bk]; omega
    have z3 : w.heap.size < (w2.alloc (.cells #[.int .i64 (-1), .int .i64 8, .int .i64 7, .int .i64 0, .int .i64 5] 2)).heap.size := Nat.lt_of_lt_of_le z2 kA.size
    clear iL kA s2 b2
    go_wp2_with fail
    refine (pick_any w.heap.size _ 5 5 [-1, 8, 7, 0, 5] _ S3.out IL.out (by omega) (by omega) hne).mono ?_
    rintro e w4 ⟨q, -, rfl, s4, o4⟩
    have b4 := B3.out.trans (o4.below (Nat.le_refl _) (by omega))
    have z4 : w.heap.size < w4.heap.size := Nat.lt_of_lt_of_le z3 o4.size
    generalize iget [-1, 8, 7, 0, 5] q = b
    clear IL S3 B3 hne z3 o4
    have iL : Ints (w4.alloc (.cells #[.int .i64 0, .int .i64 1, .int .i64 7, .int .i64 8, .int .i64 5] 2)) (some ⟨w4.heap.size, 0, none⟩) 5 [0, 1, 7, 8, 5] := (own_rowL (us := [.int .i64 0, .int .i64 1, .int .i64 7, .int .i64 8, .int .i64 5]) rfl rfl rfl (by simp)).ints
    have kA := below_alloc1 w4 (.cells #[.int .i64 0, .int .i64 1, .int .i64 7, .int .i64 8, .int .i64 5] 2)
    have IL := Lib.hid iL
    have S3 := Lib.hid (src_belowL s4 z4 kA)
    have B3 := Lib.hid (b4.trans (kA.mono (Nat.le_of_lt z4)))
    have hne : bk (some ⟨w4.heap.size, 0, none⟩) ≠ some w.heap.size := by simp [bk]; omega
    have z3 : w.heap.size < (w4.alloc (.cells #[.int .i64 0, .int .i64 1, .int .i64 7, .int .i64 8, .int .i64 5] 2)).heap.size := Nat.lt_of_lt_of_le z4 kA.size
    clear iL kA s4 b4
    go_wp2_with fail
    refine (pick_any w.heap.size _ 5 5 [0, 1, 7, 8, 5] _ S3.out IL.out (by omega) (by omega) hne).mono ?_
    rintro e w5 ⟨q, -, rfl, s5, o5⟩
    have B5 := Lib.hid (B3.out.trans (o5.below (Nat.le_refl _) (by omega)))
    generalize iget [0, 1, 7, 8, 5] q = c2
    clear IL S3 B3 hne z3 s5 o5
    go_wp2_with fail
    exact bodyPost_ret (v := .tuple #[.int .i64 b, .int .i64 c2]) (by simp [results, Try.f6, go_sem]) rfl ⟨b, c2, rfl, B5.out⟩
  · have hr0 : ((r : Int) == 0) = false := by simp; omega
    go_wp2_with fail
    refine (next_any w.heap.size _ _ s2 (by omega)).mono ?_
    rintro e w3 ⟨r3, rfl, -, -, s3, o3⟩
    have b3 := b2.trans (o3.below (Nat.le_refl _) (by omega))
    have z3 : w.heap.size < w3.heap.size := Nat.lt_of_lt_of_le z2 o3.size
    clear s2 o3 b2
    go_wp2_with fail
    refine (next_any w.heap.size _ _ s3 (by omega)).mono ?_
    rintro e w4 ⟨r4, rfl, -, -, s4, o4⟩
    have B4 := Lib.hid (b3.trans (o4.below (Nat.le_refl _) (by omega)))
    clear s3 o4 b3 s4
    go_wp2_with fail
    exact bodyPost_ret (v := .tuple #[.int .i64 r3, .int .i64 r4]) (by simp [results, Try.f6, go_sem]) rfl ⟨r3, r4, rfl, B4.out⟩
end Go.Proofs.Ytmdhljleaijkbaa

/- Coset enumeration: l11Find. -/
namespace Go.Proofs.Ytmdhljleaijkbaa
open Go.RowKit

end Go.Proofs.Ytmdhljleaijkbaa

/- Coset enumeration: l11Define. -/
namespace Go.Proofs.Ytmdhljleaijkbaa
open Go.RowKit

end Go.Proofs.Ytmdhljleaijkbaa

/- The laws' helpers on lists of words: likeInts, same9, run9. -/
namespace Go.Proofs.Ytmdhljleaijkbaa
open Go.RowKit

set_option maxHeartbeats 400000 in
theorem likeInts_any (a b : Option Addr) (n ca cb : Nat) (zs : List Int) (w : World) (ha : Ints w a n zs) (hb : Ints w b n zs) :
    Calls Try.prog 17 #[.slice a n ca, .slice b n cb] w fun e w' => e = .returned (.bool true) ∧ ∃ m, w' = w.drewN m := by
  have hla := ha.2.1
  have hl' : ((n : Int) != (n:Int)) = false := by simp
  go_enter Try.func17, Try.ntmps17
  go_wp2
  go_loopw [5] (fun i wr => ∃ k : Nat, k ≤ n ∧ i = .int .i64 k ∧ ∃ m, wr = w.drewN m) (fun i _ => n - (intOf i).toNat)
  case atStart => exact ⟨0, Nat.zero_le _, rfl, 0, rfl⟩
  case round =>
    obtain ⟨k, hk, rfl, m, rfl⟩ := hrel
    by_cases hlt : k < n
    · obtain ⟨ba, oa, rfl, hca⟩ := ha.at_ hlt
      obtain ⟨bb, ob, rfl, hcb⟩ := hb.at_ hlt
      have he' : (iget zs k != iget zs k) = false := by simp
      go_wp2_with fail
      go_quiet (fail)
      go_wp2
      go_roundw
      case rel => exact ⟨k + 1, by omega, by go_num, _, rfl⟩
      case measure => first | (simp [intOf]; done) | (simp [intOf]; omega)
    · obtain rfl : k = n := by omega
      go_wp2
      go_ret
      exact ⟨rfl, _, rfl⟩
end Go.Proofs.Ytmdhljleaijkbaa
