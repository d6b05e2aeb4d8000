/- Coset enumeration: l11Run. guards: -/
import Derived.Test.YtpognnifgcacnaaPart3
namespace Go.Proofs.Ytpognnifgcacnaa
open Go.RowKit

set_option maxRecDepth 100000 in
set_option maxHeartbeats 4000000 in
theorem l11Run_fc (ng : Nat) (rels words : List (List Int)) (R m : Nat) (hR : rels.length = R) (hm : words.length = m) (hr : ∀ w ∈ rels, Letters ng w) (hw : ∀ w ∈ words, Letters ng w) (hng : ng ≤ 1000) (hrl : ∀ w ∈ rels, w.length ≤ 1000000000) (hwl : ∀ w ∈ words, w.length ≤ 1000000000) (hR2 : R ≤ 1000000000) (hm2 : m ≤ 1000000000) (X : CSt) (hX : runC ng rels words = X) :
    FC Try.prog 197 [(1002, rowsRo words), (1003, rowsRo rels)] [.s (.agg [.val (I6 ng), .sl 1003 0 R]), o1 (.sl 1002 0 m)] [(1000, imOw X.1), (1001, leOw X.2.1)]
      (.s (.agg [.sl 1000 0 X.2.1.length, .sl 1001 0 X.2.1.length, .val (.bool X.2.2)])) [] := by
  refine fc_enter (nt := 107) Try.func197 rfl rfl (by simp) fun w0 ω0 => ?_
  (refine goes_seq ?_; refine goes_region ?_; apply run_step rfl; (exact stp_box rfl rfl rfl rfl); apply run_step rfl; (exact stp_allocZ [.slice none 0 0, .slice none 0 0, .bool false] rfl (by as_aux_lemma => kernel_rfl)); refine run_nil ?_; refine fin_seq ?_; refine goes_seq ?_; refine goes_region ?_; apply run_step rfl; (exact stp_buildZ [.slice none 0 0, .slice none 0 0, .bool false] rfl (by as_aux_lemma => kernel_rfl)); apply run_step rfl; (exact stp_fieldAddr (d := 0) rfl rfl rfl (by as_aux_lemma => kernel_rfl)); apply run_step rfl; (exact stp_loadF rfl (by as_aux_lemma => kernel_rfl) rfl rfl rfl rfl))
  refine run_wk (wk_nilA (t := 14) (n := 1000) (k := 1) (E := 49) (d := .rows 2 (irows []) []) 0 rfl rfl rfl rfl) ?_
  refine run_wk (wk_nilA (t := 14) (n := 1001) (k := 1) (E := 2) (d := .vals (ivals [])) 1 rfl rfl rfl rfl) ?_
  have hD := l11Define_fc [] [] 0 0 ng false rfl rfl (by simp) hng (by simp)
  (apply run_step rfl; (apply call_gate 220; exact stp_call [] hD (by as_aux_lemma => kernel_rfl) rfl rfl ⟨⟨.inl rfl, .inl rfl, .inl rfl, trivial⟩, rfl, trivial⟩ ⟨⟨_, rfl, .inl rfl⟩, ⟨_, rfl, .inl rfl⟩, trivial⟩ trivial rfl rfl); apply run_step rfl; (exact stp_move rfl rfl); apply run_step rfl; (exact stp_extract rfl rfl rfl); apply run_step rfl; (exact stp_extract rfl rfl rfl); apply run_step rfl; (exact stp_allocZ [.slice none 0 0, .slice none 0 0, .bool false] rfl (by as_aux_lemma => kernel_rfl)); apply run_step rfl; (exact stp_storeAgg rfl rfl rfl rfl rfl rfl rfl rfl (by as_aux_lemma => kernel_rfl) rfl); apply run_step rfl; (exact stp_assign rfl rfl); refine run_nil ?_; refine fin_seq ?_; refine goes_seq ?_; refine goes_seq ?_; refine goes_region ?_; apply run_step rfl; (exact stp_assign rfl rfl); refine run_nil ?_; refine fin_seq ?_; refine goes_block ?_)
  refine goes_loop (fun j : Nat × CSt => St.of [(1, o1 (.sl 1002 0 m)), (2, o1 (.ptr 2 0)), (4, o1 (.ptr 4 0)), (5, o1 (.ptr 5 0)), (7, vv (I6 j.1))] [(1000, imOw j.2.1), (1001, leOw j.2.2.1), (1002, rowsRo words), (1003, rowsRo rels), (2, ⟨true, 72, 2, .flat [.val (I6 ng), .sl 1003 0 R]⟩), (4, ⟨true, 185, 3, .flat [.val (.slice none 0 0), .val (.slice none 0 0), .val (.bool false)]⟩), (5, ⟨true, 185, 3, .flat [.sl 1000 0 j.2.2.1.length, .sl 1001 0 j.2.2.1.length, .val (.bool j.2.2.2)]⟩)])
    (fun j => j.1 ≤ m ∧ (words.take j.1).foldl (close0 ng) (startC ng) = j.2 ∧ CloseOK ng 1 j.2) (fun j => m - j.1) (0, startC ng) ⟨Nat.zero_le _, rfl, startC_ok ng⟩ (Wk.of ⟨rfl, rfl, rfl, rfl, rfl, trivial⟩ ⟨rfl, rfl, rfl, rfl, rfl, rfl, rfl, trivial⟩ trivial) ?_
  rintro ⟨j, M, N, b⟩ ⟨hj, hfo, hok⟩
  dsimp only at hj hfo ⊢
  repeat refine goes_seq ?_
  refine goes_cut (St.of [(1, o1 (.sl 1002 0 m)), (2, o1 (.ptr 2 0)), (4, o1 (.ptr 4 0)), (5, o1 (.ptr 5 0)), (7, vv (I6 j)), (28, vv (.bool (decide ((j : Int) < m) && !b)))] [(1000, imOw M), (1001, leOw N), (1002, rowsRo words), (1003, rowsRo rels), (2, ⟨true, 72, 2, .flat [.val (I6 ng), .sl 1003 0 R]⟩), (4, ⟨true, 185, 3, .flat [.val (.slice none 0 0), .val (.slice none 0 0), .val (.bool false)]⟩), (5, ⟨true, 185, 3, .flat [.sl 1000 0 N.length, .sl 1001 0 N.length, .val (.bool b)]⟩)]) ?_ ?_
  · (refine goes_region ?_; apply run_step rfl; (exact stp_move rfl rfl); apply run_step rfl; (exact stp_move rfl rfl); apply run_step rfl; (exact stp_len rfl rfl rfl (by as_aux_lemma => kernel_rfl)); apply run_step rfl; (exact stp_bin rfl rfl rfl rfl); apply run_step rfl; (exact stp_move rfl rfl))
    refine run_bool 24 rfl (fun h => ?_) (fun h => ?_)
    · (apply run_gYes rfl rfl rfl; (exact stp_fieldAddr (d := 2) rfl rfl rfl (by as_aux_lemma => kernel_rfl)); apply run_gYes rfl rfl rfl; (exact stp_loadF rfl (by as_aux_lemma => kernel_rfl) rfl rfl rfl rfl); apply run_gYes rfl rfl rfl; (exact stp_not rfl rfl); apply run_step rfl; (exact stp_pickT rfl rfl rfl); refine run_nil ?_)
      exact fin_join (Wk.of ⟨rfl, rfl, rfl, rfl, rfl, by rw [h]; rfl, trivial⟩ ⟨rfl, rfl, rfl, rfl, rfl, rfl, rfl, trivial⟩ trivial)
    · (apply run_gNo rfl rfl rfl rfl rfl; apply run_gNo rfl rfl rfl rfl rfl; apply run_gNo rfl rfl rfl rfl rfl; apply run_step rfl; (exact stp_pickF rfl rfl rfl); refine run_nil ?_)
      exact fin_join (Wk.of ⟨rfl, rfl, rfl, rfl, rfl, by rw [h]; rfl, trivial⟩ ⟨rfl, rfl, rfl, rfl, rfl, rfl, rfl, trivial⟩ trivial)
  (refine fin_seq ?_)
  refine goes_cond rfl (fun hc => ?_) (fun hc => ?_)
  · obtain ⟨hlt, rfl⟩ : j < m ∧ b = false := by
      simp at hc; exact ⟨by omega, hc.2⟩
    have hjw : j < words.length := by omega
    obtain ⟨W, hW⟩ : ∃ W, lget words j = W := ⟨_, rfl⟩
    have hWm : W ∈ words := by rw [← hW]; exact lget_mem hjw
    obtain ⟨C, hC⟩ : ∃ C, closeC ng M N 0 (W.map Int.toNat) = C := ⟨_, rfl⟩
    have hN0 : 0 < N.length := hok.lo
    have hcl := l11Close_fc ng N.length M N 0 words j W.length W rfl hok.wf hN0 hok.hi hng hjw hW rfl (hwl W hWm) (hw W hWm) C hC
    have hfo' : (words.take (j + 1)).foldl (close0 ng) (startC ng) = C := by
      rw [take_lget hjw, List.foldl_append, hfo, hW]; exact hC
    have hok' : CloseOK ng 1 C := by
      have := close0_ok (w := W) hok (by omega) (hw W hWm)
      unfold close0 at this
      rw [if_neg (by simp)] at this
      rw [← hC]; exact this
    have hrow : (irows words)[j]? = some (ivals W) := by rw [← hW]; exact irows_get hjw
    (refine goes_skip ?_; refine fin_seq ?_; refine goes_seq ?_; refine goes_block ?_)
    apply goes_draw 5 [] [[], [], [], [1, 2], [1, 2, 3], [0, 1, 2, 3, 4], [0, 1, 2, 3, 4, 5]] [31, 32, 33, 34, 35] [] (by kernel_rfl) (by kernel_rfl)
    · (apply draw_put rfl; (intro S1 hS; exact stp_loadAgg rfl (hS.op rfl) (hS.ch _ _ rfl) rfl rfl rfl (by as_aux_lemma => kernel_rfl)); apply draw_put rfl; (intro S1 hS; exact stp_move rfl (hS.op rfl)); apply draw_put rfl; (intro S1 hS; exact stp_move rfl (hS.op rfl)); apply draw_put rfl; (intro S1 hS; exact stp_ix rfl (hS.op rfl) (hS.op rfl) (hS.ch _ _ rfl) rfl (by as_aux_lemma => kernel_rfl) (by first | rfl | exact (Int.toNat_of_nonneg (by omega)).symm) (by first | assumption | omega | (simp; omega)) (by first | exact Nat.le_refl _ | exact Nat.le_of_eq (ivals_len _).symm | exact Nat.le_of_eq (irows_len _).symm | (refine Nat.le_trans ?_ (Nat.le_of_eq (ivals_len _).symm); (first | omega | (simp; done) | (simp; omega))) | (refine Nat.le_trans ?_ (Nat.le_of_eq (irows_len _).symm); (first | omega | (simp; done) | (simp; omega))))); apply draw_put rfl; (intro S1 hS; exact stp_loadR rfl (by as_aux_lemma => kernel_rfl) (hS.op rfl) (hS.ch _ _ rfl) rfl (by first | assumption | exact ivals_get (by assumption) | exact irows_get (by assumption) | exact ivals_get (by omega) | exact irows_get (by omega) | rfl) (by first | exact ivals_len _ | assumption | rfl)); exact Draw.nil)
    · rfl
    ((apply rest_one 5 rfl (by as_aux_lemma => kernel_rfl) rfl rfl; (apply call_gate 221; exact stp_call [] hcl (by as_aux_lemma => kernel_rfl) rfl rfl ⟨⟨.inl rfl, .inl rfl, .inl rfl, trivial⟩, rfl, rfl, trivial⟩ ⟨⟨_, rfl, .inl rfl⟩, ⟨_, rfl, .inl rfl⟩, ⟨_, rfl, .inl rfl⟩, trivial⟩ trivial rfl rfl)); (apply rest_one 6 rfl (by as_aux_lemma => kernel_rfl) rfl rfl; (exact stp_storeAgg rfl rfl rfl rfl rfl rfl rfl rfl (by as_aux_lemma => kernel_rfl) rfl)); (refine rest_done (by as_aux_lemma => kernel_rfl) ?_; skip))
    (refine fin_block ?_; refine fin_seq ?_; refine goes_region ?_; apply run_step rfl; (exact stp_move rfl rfl); apply run_step rfl; (exact stp_add rfl rfl rfl (by first | exact IntWalk.i64_in _ (by omega) | rfl)); apply run_step rfl; (exact stp_assign rfl rfl); refine run_nil ?_)
    exact fin_round (j + 1, C) ⟨hlt, hfo', hok'⟩ (by show m - (j + 1) < m - j; omega) (Wk.of ⟨rfl, rfl, rfl, rfl, rfl, trivial⟩ ⟨rfl, rfl, rfl, rfl, rfl, rfl, rfl, trivial⟩ trivial)
  · (refine goes_exit ?_; refine fin_exit_then ?_; refine fin_exit_then ?_; refine fin_exit_eq ?_; refine fin_seq ?_; refine goes_seq ?_; refine goes_seq ?_; refine goes_region ?_; apply run_step rfl; (exact stp_assign rfl rfl); refine run_nil ?_; refine fin_seq ?_; refine goes_block ?_)
    have hfw : words.foldl (close0 ng) (startC ng) = (M, N, b) := by
      by_cases hjm : j = m
      · rw [← hfo, hjm, ← hm, List.take_length]
      · refine fold_failed hfo ?_
        show b = true
        rw [decide_eq_true (show (j : Int) < m by omega)] at hc
        simpa using hc
    have hX0 : outer ng rels 2001 0 (M, N, b) = X := by rw [← hfw]; exact hX
    refine goes_loop (fun c : Nat × CSt => St.of [(1, o1 (.sl 1002 0 m)), (2, o1 (.ptr 2 0)), (4, o1 (.ptr 4 0)), (5, o1 (.ptr 5 0)), (8, vv (I6 c.1))] [(1000, imOw c.2.1), (1001, leOw c.2.2.1), (1002, rowsRo words), (1003, rowsRo rels), (2, ⟨true, 72, 2, .flat [.val (I6 ng), .sl 1003 0 R]⟩), (4, ⟨true, 185, 3, .flat [.val (.slice none 0 0), .val (.slice none 0 0), .val (.bool false)]⟩), (5, ⟨true, 185, 3, .flat [.sl 1000 0 c.2.2.1.length, .sl 1001 0 c.2.2.1.length, .val (.bool c.2.2.2)]⟩)])
      (fun c => outer ng rels (2001 - c.1) c.1 c.2 = X ∧ c.1 ≤ c.2.2.1.length ∧ CloseOK ng 1 c.2) (fun c => 2001 - c.1) (0, (M, N, b)) ⟨hX0, Nat.zero_le _, hok⟩ (Wk.of ⟨rfl, rfl, rfl, rfl, rfl, trivial⟩ ⟨rfl, rfl, rfl, rfl, rfl, rfl, rfl, trivial⟩ trivial) ?_
    clear hfw hX0 hc hfo hok hj
    clear j M N b
    rintro ⟨c, M, N, b⟩ ⟨hout, hcl, hok⟩
    dsimp only at hout hcl ⊢
    have hNl : N.length ≤ 2000 := hok.hi
    repeat refine goes_seq ?_
    refine goes_cut (St.of [(1, o1 (.sl 1002 0 m)), (2, o1 (.ptr 2 0)), (4, o1 (.ptr 4 0)), (5, o1 (.ptr 5 0)), (8, vv (I6 c)), (46, vv (.bool (decide ((c : Int) < N.length) && !b)))] [(1000, imOw M), (1001, leOw N), (1002, rowsRo words), (1003, rowsRo rels), (2, ⟨true, 72, 2, .flat [.val (I6 ng), .sl 1003 0 R]⟩), (4, ⟨true, 185, 3, .flat [.val (.slice none 0 0), .val (.slice none 0 0), .val (.bool false)]⟩), (5, ⟨true, 185, 3, .flat [.sl 1000 0 N.length, .sl 1001 0 N.length, .val (.bool b)]⟩)]) ?_ ?_
    · (refine goes_region ?_; apply run_step rfl; (exact stp_move rfl rfl); apply run_step rfl; (exact stp_fieldAddr (d := 1) rfl rfl rfl (by as_aux_lemma => kernel_rfl)); apply run_step rfl; (exact stp_loadF rfl (by as_aux_lemma => kernel_rfl) rfl rfl rfl rfl); apply run_step rfl; (exact stp_len rfl rfl rfl (by as_aux_lemma => kernel_rfl)); apply run_step rfl; (exact stp_bin rfl rfl rfl rfl); apply run_step rfl; (exact stp_move rfl rfl))
      refine run_bool 42 rfl (fun h => ?_) (fun h => ?_)
      · (apply run_gYes rfl rfl rfl; (exact stp_fieldAddr (d := 2) rfl rfl rfl (by as_aux_lemma => kernel_rfl)); apply run_gYes rfl rfl rfl; (exact stp_loadF rfl (by as_aux_lemma => kernel_rfl) rfl rfl rfl rfl); apply run_gYes rfl rfl rfl; (exact stp_not rfl rfl); apply run_step rfl; (exact stp_pickT rfl rfl rfl); refine run_nil ?_)
        exact fin_join (Wk.of ⟨rfl, rfl, rfl, rfl, rfl, by rw [h]; rfl, trivial⟩ ⟨rfl, rfl, rfl, rfl, rfl, rfl, rfl, trivial⟩ trivial)
      · (apply run_gNo rfl rfl rfl rfl rfl; apply run_gNo rfl rfl rfl rfl rfl; apply run_gNo rfl rfl rfl rfl rfl; apply run_step rfl; (exact stp_pickF rfl rfl rfl); refine run_nil ?_)
        exact fin_join (Wk.of ⟨rfl, rfl, rfl, rfl, rfl, by rw [h]; rfl, trivial⟩ ⟨rfl, rfl, rfl, rfl, rfl, rfl, rfl, trivial⟩ trivial)
    (refine fin_seq ?_)
    refine goes_cond rfl (fun hc => ?_) (fun hc => ?_)
    · obtain ⟨hlt, rfl⟩ : c < N.length ∧ b = false := by
        simp at hc; exact ⟨by omega, hc.2⟩
      obtain ⟨s0, hs0⟩ : ∃ s0 : CSt, s0 = (M, N, false) := ⟨_, rfl⟩
      have hok0 : CloseOK ng N.length s0 := by subst hs0; exact ⟨hok.wf, Nat.le_refl _, hok.hi⟩
      have houts : outer ng rels (2000 - c) (c + 1) (coset1 ng rels c s0) = X := by
        rw [← hout, show 2001 - c = (2000 - c) + 1 by omega, outer, if_pos ⟨hlt, rfl⟩, hs0]
      (refine goes_skip ?_; refine fin_seq ?_; refine goes_seq ?_; refine goes_block ?_; refine goes_seq ?_; refine goes_seq ?_; refine goes_region ?_; apply run_step rfl; (exact stp_assign rfl rfl); refine run_nil ?_; refine fin_seq ?_; refine goes_block ?_)
      refine goes_loop (fun j : Nat × CSt => St.of [(1, o1 (.sl 1002 0 m)), (2, o1 (.ptr 2 0)), (4, o1 (.ptr 4 0)), (5, o1 (.ptr 5 0)), (8, vv (I6 c)), (9, vv (I6 j.1))] [(1000, imOw j.2.1), (1001, leOw j.2.2.1), (1002, rowsRo words), (1003, rowsRo rels), (2, ⟨true, 72, 2, .flat [.val (I6 ng), .sl 1003 0 R]⟩), (4, ⟨true, 185, 3, .flat [.val (.slice none 0 0), .val (.slice none 0 0), .val (.bool false)]⟩), (5, ⟨true, 185, 3, .flat [.sl 1000 0 j.2.2.1.length, .sl 1001 0 j.2.2.1.length, .val (.bool j.2.2.2)]⟩)])
        (fun j => j.1 ≤ R ∧ (rels.take j.1).foldl (close1 ng c) s0 = j.2 ∧ CloseOK ng N.length j.2) (fun j => R - j.1) (0, s0) ⟨Nat.zero_le _, rfl, hok0⟩ (Wk.of (by rw [hs0]; exact ⟨rfl, rfl, rfl, rfl, rfl, rfl, trivial⟩) (by rw [hs0]; exact ⟨rfl, rfl, rfl, rfl, rfl, rfl, rfl, trivial⟩) trivial) ?_
      generalize hn0 : N.length = n0 at *
      have hn02 : n0 ≤ 2000 := hNl
      clear hout hok hc hs0
      clear hn0
      rintro ⟨j, M, N, b⟩ ⟨hj, hfo, hok⟩
      dsimp only at hj hfo ⊢
      have hNl : N.length ≤ 2000 := hok.hi
      have hNn : n0 ≤ N.length := hok.lo
      have hcN : c < N.length := by omega
      repeat refine goes_seq ?_
      refine goes_cut (St.of [(1, o1 (.sl 1002 0 m)), (2, o1 (.ptr 2 0)), (4, o1 (.ptr 4 0)), (5, o1 (.ptr 5 0)), (8, vv (I6 c)), (9, vv (I6 j)), (67, vv (.bool ((decide ((j : Int) < R) && (iget N c == (c : Int))) && !b)))] [(1000, imOw M), (1001, leOw N), (1002, rowsRo words), (1003, rowsRo rels), (2, ⟨true, 72, 2, .flat [.val (I6 ng), .sl 1003 0 R]⟩), (4, ⟨true, 185, 3, .flat [.val (.slice none 0 0), .val (.slice none 0 0), .val (.bool false)]⟩), (5, ⟨true, 185, 3, .flat [.sl 1000 0 N.length, .sl 1001 0 N.length, .val (.bool b)]⟩)]) ?_ ?_
      · (refine goes_region ?_; apply run_step rfl; (exact stp_move rfl rfl); apply run_step rfl; (exact stp_fieldAddr (d := 1) rfl rfl rfl (by as_aux_lemma => kernel_rfl)); apply run_step rfl; (exact stp_loadF rfl (by as_aux_lemma => kernel_rfl) rfl rfl rfl rfl); apply run_step rfl; (exact stp_len rfl rfl rfl (by as_aux_lemma => kernel_rfl)); apply run_step rfl; (exact stp_bin rfl rfl rfl rfl); apply run_step rfl; (exact stp_move rfl rfl))
        refine run_bool 54 rfl (fun h => ?_) (fun h => ?_)
        · (apply run_gYes rfl rfl rfl; (exact stp_fieldAddr (d := 1) rfl rfl rfl (by as_aux_lemma => kernel_rfl)); apply run_gYes rfl rfl rfl; (exact stp_loadF rfl (by as_aux_lemma => kernel_rfl) rfl rfl rfl rfl); apply run_gYes rfl rfl rfl; (exact stp_move rfl rfl); apply run_gYes rfl rfl rfl; (exact stp_ix rfl rfl rfl rfl rfl (by as_aux_lemma => kernel_rfl) (by first | rfl | exact (Int.toNat_of_nonneg (by omega)).symm) (by first | assumption | omega | (simp; omega)) (by first | exact Nat.le_refl _ | exact Nat.le_of_eq (ivals_len _).symm | exact Nat.le_of_eq (irows_len _).symm | (refine Nat.le_trans ?_ (Nat.le_of_eq (ivals_len _).symm); (first | omega | (simp; done) | (simp; omega))) | (refine Nat.le_trans ?_ (Nat.le_of_eq (irows_len _).symm); (first | omega | (simp; done) | (simp; omega))))); apply run_gYes rfl rfl rfl; (exact stp_loadV rfl (by as_aux_lemma => kernel_rfl) rfl rfl rfl (by first | assumption | exact ivals_get (by assumption) | exact irows_get (by assumption) | exact ivals_get (by omega) | exact irows_get (by omega) | rfl)); apply run_gYes rfl rfl rfl; (exact stp_move rfl rfl); apply run_gYes rfl rfl rfl; (exact stp_bin rfl rfl rfl rfl); apply run_step rfl; (exact stp_pickT rfl rfl rfl); apply run_step rfl; (exact stp_move rfl rfl))
          refine run_bool 63 rfl (fun h' => ?_) (fun h' => ?_)
          · (apply run_gYes rfl rfl rfl; (exact stp_fieldAddr (d := 2) rfl rfl rfl (by as_aux_lemma => kernel_rfl)); apply run_gYes rfl rfl rfl; (exact stp_loadF rfl (by as_aux_lemma => kernel_rfl) rfl rfl rfl rfl); apply run_gYes rfl rfl rfl; (exact stp_not rfl rfl); apply run_step rfl; (exact stp_pickT rfl rfl rfl); refine run_nil ?_)
            exact fin_join (Wk.of ⟨rfl, rfl, rfl, rfl, rfl, rfl, by rw [h, h']; rfl, trivial⟩ ⟨rfl, rfl, rfl, rfl, rfl, rfl, rfl, trivial⟩ trivial)
          · (apply run_gNo rfl rfl rfl rfl rfl; apply run_gNo rfl rfl rfl rfl rfl; apply run_gNo rfl rfl rfl rfl rfl; apply run_step rfl; (exact stp_pickF rfl rfl rfl); refine run_nil ?_)
            exact fin_join (Wk.of ⟨rfl, rfl, rfl, rfl, rfl, rfl, by rw [h, h']; rfl, trivial⟩ ⟨rfl, rfl, rfl, rfl, rfl, rfl, rfl, trivial⟩ trivial)
        · (apply run_gNo rfl rfl rfl rfl rfl; apply run_gNo rfl rfl rfl rfl rfl; apply run_gNo rfl rfl rfl rfl rfl; apply run_gNo rfl rfl rfl rfl rfl; apply run_gNo rfl rfl rfl rfl rfl; apply run_gNo rfl rfl rfl rfl rfl; apply run_gNo rfl rfl rfl rfl rfl; apply run_step rfl; (exact stp_pickF rfl rfl rfl); apply run_step rfl; (exact stp_move rfl rfl); apply run_gNo rfl rfl rfl rfl rfl; apply run_gNo rfl rfl rfl rfl rfl; apply run_gNo rfl rfl rfl rfl rfl; apply run_step rfl; (exact stp_pickF rfl rfl rfl); refine run_nil ?_)
          exact fin_join (Wk.of ⟨rfl, rfl, rfl, rfl, rfl, rfl, by rw [h]; rfl, trivial⟩ ⟨rfl, rfl, rfl, rfl, rfl, rfl, rfl, trivial⟩ trivial)
      (refine fin_seq ?_)
      refine goes_cond rfl (fun hc => ?_) (fun hc => ?_)
      · obtain ⟨⟨hjr, hlive⟩, rfl⟩ : (j < R ∧ iget N c = (c : Int)) ∧ b = false := by
          simp at hc; exact ⟨⟨by omega, hc.1.2⟩, hc.2⟩
        have hjw : j < rels.length := by omega
        obtain ⟨W, hW⟩ : ∃ W, lget rels j = W := ⟨_, rfl⟩
        have hWm : W ∈ rels := by rw [← hW]; exact lget_mem hjw
        obtain ⟨C, hC⟩ : ∃ C, closeC ng M N c (W.map Int.toNat) = C := ⟨_, rfl⟩
        have hlv : liveC (M, N, false) c = true := by show (decide (iget N c = (c : Int)) && !false) = true; simp [hlive]
        have hcl : FC Try.prog 221 [(1000, imOw M), (1001, leOw N), (1003, rowsRo rels)] [stAV N.length N.length false, vv (I6 c), o1 (.esl 1003 j 0 W.length)] [(1000, imOw C.1), (1001, leOw C.2.1)] (.s (.agg [.sl 1000 0 C.2.1.length, .sl 1001 0 C.2.1.length, .val (.bool C.2.2)])) [] := (l11Close_fc ng N.length M N c rels j W.length W rfl hok.wf hcN hNl hng hjw hW rfl (hrl W hWm) (hr W hWm) C hC).nm [(1000, 1000), (1001, 1001), (1002, 1003)] (by kernel_rfl)
        have hst : close1 ng c (M, N, false) W = C := by unfold close1; rw [if_pos hlv]; exact hC
        have hfo' : (rels.take (j + 1)).foldl (close1 ng c) s0 = C := by
          rw [take_lget hjw, List.foldl_append, hfo, hW]; exact hst
        have hok' : CloseOK ng n0 C := by rw [← hst]; exact close1_ok hok hlt (hr W hWm)
        have hrow : (irows rels)[j]? = some (ivals W) := by rw [← hW]; exact irows_get hjw
        (refine goes_skip ?_; refine fin_seq ?_; refine goes_seq ?_; refine goes_block ?_)
        apply goes_draw 7 [] [[], [], [], [2], [], [2, 3, 4], [2, 3, 4, 5], [0, 1, 2, 3, 4, 5, 6], [0, 1, 2, 3, 4, 5, 6, 7]] [70, 71, 72, 73, 74, 75, 76] [] (by kernel_rfl) (by kernel_rfl)
        · (apply draw_put rfl; (intro S1 hS; exact stp_loadAgg rfl (hS.op rfl) (hS.ch _ _ rfl) rfl rfl rfl (by as_aux_lemma => kernel_rfl)); apply draw_put rfl; (intro S1 hS; exact stp_move rfl (hS.op rfl)); apply draw_put rfl; (intro S1 hS; exact stp_fieldAddr (d := 1) rfl (hS.op rfl) (hS.ch _ _ rfl) (by as_aux_lemma => kernel_rfl)); apply draw_put rfl; (intro S1 hS; exact stp_loadF rfl (by as_aux_lemma => kernel_rfl) (hS.op rfl) (hS.ch _ _ rfl) rfl rfl); apply draw_put rfl; (intro S1 hS; exact stp_move rfl (hS.op rfl)); apply draw_put rfl; (intro S1 hS; exact stp_ix rfl (hS.op rfl) (hS.op rfl) (hS.ch _ _ rfl) rfl (by as_aux_lemma => kernel_rfl) (by first | rfl | exact (Int.toNat_of_nonneg (by omega)).symm) (by first | assumption | omega | (simp; omega)) (by first | exact Nat.le_refl _ | exact Nat.le_of_eq (ivals_len _).symm | exact Nat.le_of_eq (irows_len _).symm | (refine Nat.le_trans ?_ (Nat.le_of_eq (ivals_len _).symm); (first | omega | (simp; done) | (simp; omega))) | (refine Nat.le_trans ?_ (Nat.le_of_eq (irows_len _).symm); (first | omega | (simp; done) | (simp; omega))))); apply draw_put rfl; (intro S1 hS; exact stp_loadR rfl (by as_aux_lemma => kernel_rfl) (hS.op rfl) (hS.ch _ _ rfl) rfl (by first | assumption | exact ivals_get (by assumption) | exact irows_get (by assumption) | exact ivals_get (by omega) | exact irows_get (by omega) | rfl) (by first | exact ivals_len _ | assumption | rfl)); exact Draw.nil)
        · rfl
        ((apply rest_one 7 rfl (by as_aux_lemma => kernel_rfl) rfl rfl; (apply call_gate 221; exact stp_call [] hcl (by as_aux_lemma => kernel_rfl) rfl rfl ⟨⟨.inl rfl, .inl rfl, .inl rfl, trivial⟩, rfl, rfl, trivial⟩ ⟨⟨_, rfl, .inl rfl⟩, ⟨_, rfl, .inl rfl⟩, ⟨_, rfl, .inl rfl⟩, trivial⟩ trivial rfl rfl)); (apply rest_one 8 rfl (by as_aux_lemma => kernel_rfl) rfl rfl; (exact stp_storeAgg rfl rfl rfl rfl rfl rfl rfl rfl (by as_aux_lemma => kernel_rfl) rfl)); (refine rest_done (by as_aux_lemma => kernel_rfl) ?_; skip))
        (refine fin_block ?_; refine fin_seq ?_; refine goes_region ?_; apply run_step rfl; (exact stp_move rfl rfl); apply run_step rfl; (exact stp_add rfl rfl rfl (by first | exact IntWalk.i64_in _ (by omega) | rfl)); apply run_step rfl; (exact stp_assign rfl rfl); refine run_nil ?_)
        exact fin_round (j + 1, C) ⟨hjr, hfo', hok'⟩ (by show R - (j + 1) < R - j; omega) (Wk.of ⟨rfl, rfl, rfl, rfl, rfl, rfl, trivial⟩ ⟨rfl, rfl, rfl, rfl, rfl, rfl, rfl, trivial⟩ trivial)
      · (refine goes_exit ?_; refine fin_exit_then ?_; refine fin_exit_then ?_; refine fin_exit_eq ?_; refine fin_seq ?_; refine goes_seq ?_; refine goes_region ?_; apply run_step rfl; (exact stp_assign rfl rfl); refine run_nil ?_; refine fin_seq ?_; refine goes_block ?_)
        have hfull : rels.foldl (close1 ng c) s0 = (M, N, b) := by
          by_cases hjR : j = R
          · rw [← hfo, hjR, ← hR, List.take_length]
          · refine fold_dead hfo ?_
            rw [decide_eq_true (show (j : Int) < R by omega)] at hc
            show (decide (iget N c = (c : Int)) && !b) = false
            simpa using hc
        obtain ⟨s1, hs1⟩ : ∃ s1 : CSt, s1 = (M, N, b) := ⟨_, rfl⟩
        have hok1 : CloseOK ng n0 s1 := by rw [hs1]; exact hok
        have hcos : (List.range ng).foldl (next1 ng c) s1 = coset1 ng rels c s0 := by unfold coset1; rw [hfull, hs1]
        refine goes_loop (fun g : Nat × CSt => St.of [(1, o1 (.sl 1002 0 m)), (2, o1 (.ptr 2 0)), (4, o1 (.ptr 4 0)), (5, o1 (.ptr 5 0)), (8, vv (I6 c)), (10, vv (I6 g.1))] [(1000, imOw g.2.1), (1001, leOw g.2.2.1), (1002, rowsRo words), (1003, rowsRo rels), (2, ⟨true, 72, 2, .flat [.val (I6 ng), .sl 1003 0 R]⟩), (4, ⟨true, 185, 3, .flat [.val (.slice none 0 0), .val (.slice none 0 0), .val (.bool false)]⟩), (5, ⟨true, 185, 3, .flat [.sl 1000 0 g.2.2.1.length, .sl 1001 0 g.2.2.1.length, .val (.bool g.2.2.2)]⟩)])
          (fun g => g.1 ≤ ng ∧ (List.range g.1).foldl (next1 ng c) s1 = g.2 ∧ CloseOK ng n0 g.2) (fun g => ng - g.1) (0, s1) ⟨Nat.zero_le _, rfl, hok1⟩ (Wk.of (by rw [hs1]; exact ⟨rfl, rfl, rfl, rfl, rfl, rfl, trivial⟩) (by rw [hs1]; exact ⟨rfl, rfl, rfl, rfl, rfl, rfl, rfl, trivial⟩) trivial) ?_
        clear hok hc hs1 hfull hfo hcN hNl hNn
        rintro ⟨g, M, N, b⟩ ⟨hg, hfo, hok⟩
        dsimp only at hg hfo ⊢
        have hNl : N.length ≤ 2000 := hok.hi
        have hNn : n0 ≤ N.length := hok.lo
        have hcN : c < N.length := by omega
        repeat refine goes_seq ?_
        refine goes_cut (St.of [(1, o1 (.sl 1002 0 m)), (2, o1 (.ptr 2 0)), (4, o1 (.ptr 4 0)), (5, o1 (.ptr 5 0)), (8, vv (I6 c)), (10, vv (I6 g)), (95, vv (.bool ((decide ((g : Int) < ng) && (iget N c == (c : Int))) && !b)))] [(1000, imOw M), (1001, leOw N), (1002, rowsRo words), (1003, rowsRo rels), (2, ⟨true, 72, 2, .flat [.val (I6 ng), .sl 1003 0 R]⟩), (4, ⟨true, 185, 3, .flat [.val (.slice none 0 0), .val (.slice none 0 0), .val (.bool false)]⟩), (5, ⟨true, 185, 3, .flat [.sl 1000 0 N.length, .sl 1001 0 N.length, .val (.bool b)]⟩)]) ?_ ?_
        · (refine goes_region ?_; apply run_step rfl; (exact stp_move rfl rfl); apply run_step rfl; (exact stp_fieldAddr (d := 0) rfl rfl rfl (by as_aux_lemma => kernel_rfl)); apply run_step rfl; (exact stp_loadF rfl (by as_aux_lemma => kernel_rfl) rfl rfl rfl rfl); apply run_step rfl; (exact stp_bin rfl rfl rfl rfl); apply run_step rfl; (exact stp_move rfl rfl))
          refine run_bool 82 rfl (fun h => ?_) (fun h => ?_)
          · (apply run_gYes rfl rfl rfl; (exact stp_fieldAddr (d := 1) rfl rfl rfl (by as_aux_lemma => kernel_rfl)); apply run_gYes rfl rfl rfl; (exact stp_loadF rfl (by as_aux_lemma => kernel_rfl) rfl rfl rfl rfl); apply run_gYes rfl rfl rfl; (exact stp_move rfl rfl); apply run_gYes rfl rfl rfl; (exact stp_ix rfl rfl rfl rfl rfl (by as_aux_lemma => kernel_rfl) (by first | rfl | exact (Int.toNat_of_nonneg (by omega)).symm) (by first | assumption | omega | (simp; omega)) (by first | exact Nat.le_refl _ | exact Nat.le_of_eq (ivals_len _).symm | exact Nat.le_of_eq (irows_len _).symm | (refine Nat.le_trans ?_ (Nat.le_of_eq (ivals_len _).symm); (first | omega | (simp; done) | (simp; omega))) | (refine Nat.le_trans ?_ (Nat.le_of_eq (irows_len _).symm); (first | omega | (simp; done) | (simp; omega))))); apply run_gYes rfl rfl rfl; (exact stp_loadV rfl (by as_aux_lemma => kernel_rfl) rfl rfl rfl (by first | assumption | exact ivals_get (by assumption) | exact irows_get (by assumption) | exact ivals_get (by omega) | exact irows_get (by omega) | rfl)); apply run_gYes rfl rfl rfl; (exact stp_move rfl rfl); apply run_gYes rfl rfl rfl; (exact stp_bin rfl rfl rfl rfl); apply run_step rfl; (exact stp_pickT rfl rfl rfl); apply run_step rfl; (exact stp_move rfl rfl))
            refine run_bool 91 rfl (fun h' => ?_) (fun h' => ?_)
            · (apply run_gYes rfl rfl rfl; (exact stp_fieldAddr (d := 2) rfl rfl rfl (by as_aux_lemma => kernel_rfl)); apply run_gYes rfl rfl rfl; (exact stp_loadF rfl (by as_aux_lemma => kernel_rfl) rfl rfl rfl rfl); apply run_gYes rfl rfl rfl; (exact stp_not rfl rfl); apply run_step rfl; (exact stp_pickT rfl rfl rfl); refine run_nil ?_)
              exact fin_join (Wk.of ⟨rfl, rfl, rfl, rfl, rfl, rfl, by rw [h, h']; rfl, trivial⟩ ⟨rfl, rfl, rfl, rfl, rfl, rfl, rfl, trivial⟩ trivial)
            · (apply run_gNo rfl rfl rfl rfl rfl; apply run_gNo rfl rfl rfl rfl rfl; apply run_gNo rfl rfl rfl rfl rfl; apply run_step rfl; (exact stp_pickF rfl rfl rfl); refine run_nil ?_)
              exact fin_join (Wk.of ⟨rfl, rfl, rfl, rfl, rfl, rfl, by rw [h, h']; rfl, trivial⟩ ⟨rfl, rfl, rfl, rfl, rfl, rfl, rfl, trivial⟩ trivial)
          · (apply run_gNo rfl rfl rfl rfl rfl; apply run_gNo rfl rfl rfl rfl rfl; apply run_gNo rfl rfl rfl rfl rfl; apply run_gNo rfl rfl rfl rfl rfl; apply run_gNo rfl rfl rfl rfl rfl; apply run_gNo rfl rfl rfl rfl rfl; apply run_gNo rfl rfl rfl rfl rfl; apply run_step rfl; (exact stp_pickF rfl rfl rfl); apply run_step rfl; (exact stp_move rfl rfl); apply run_gNo rfl rfl rfl rfl rfl; apply run_gNo rfl rfl rfl rfl rfl; apply run_gNo rfl rfl rfl rfl rfl; apply run_step rfl; (exact stp_pickF rfl rfl rfl); refine run_nil ?_)
            exact fin_join (Wk.of ⟨rfl, rfl, rfl, rfl, rfl, rfl, by rw [h]; rfl, trivial⟩ ⟨rfl, rfl, rfl, rfl, rfl, rfl, rfl, trivial⟩ trivial)
        (refine fin_seq ?_)
        refine goes_cond rfl (fun hc => ?_) (fun hc => ?_)
        · obtain ⟨⟨hgn, hlive⟩, rfl⟩ : (g < ng ∧ iget N c = (c : Int)) ∧ b = false := by
            simp at hc; exact ⟨⟨by omega, hc.1.2⟩, hc.2⟩
          have hlv : liveC (M, N, false) c = true := by show (decide (iget N c = (c : Int)) && !false) = true; simp [hlive]
          have hN := l11Next_fc ng N.length M N c g rfl hok.wf hcN hgn hNl hng
          have hst : next1 ng c (M, N, false) g = ((nextC ng M N c g).1, (nextC ng M N c g).2.1, (nextC ng M N c g).2.2.1) := by unfold next1; rw [if_pos hlv]
          have hok' := next1_ok (g := g) hok hlt hgn
          rw [hst] at hok'
          have hfo' : (List.range (g + 1)).foldl (next1 ng c) s1 = ((nextC ng M N c g).1, (nextC ng M N c g).2.1, (nextC ng M N c g).2.2.1) := by
            rw [List.range_succ, List.foldl_append, hfo, ← hst]; rfl
          generalize nextC ng M N c g = D at *
          obtain ⟨M', N', b', d'⟩ := D
          dsimp only at hN hok' hfo'
          (refine goes_skip ?_; refine fin_seq ?_; refine goes_seq ?_; refine goes_block ?_; refine goes_seq ?_; refine goes_region ?_; apply run_step rfl; (exact stp_loadAgg rfl rfl rfl rfl rfl rfl (by as_aux_lemma => kernel_rfl)); apply run_step rfl; (exact stp_move rfl rfl); apply run_step rfl; (exact stp_move rfl rfl); apply run_step rfl; (apply call_gate 222; exact stp_call [] hN (by as_aux_lemma => kernel_rfl) rfl rfl ⟨⟨.inl rfl, .inl rfl, .inl rfl, trivial⟩, rfl, rfl, trivial⟩ ⟨⟨_, rfl, .inl rfl⟩, ⟨_, rfl, .inl rfl⟩, trivial⟩ trivial rfl rfl); apply run_step rfl; (exact stp_move rfl rfl); apply run_step rfl; (exact stp_extract rfl rfl rfl); apply run_step rfl; (exact stp_extract rfl rfl rfl); apply run_step rfl; (exact stp_allocZ [.slice none 0 0, .slice none 0 0, .bool false] rfl (by as_aux_lemma => kernel_rfl)); apply run_step rfl; (exact stp_storeAgg rfl rfl rfl rfl rfl rfl rfl rfl (by as_aux_lemma => kernel_rfl) rfl); apply run_step rfl; (exact stp_assign rfl rfl); refine run_nil ?_; refine fin_seq ?_; refine goes_region ?_; apply run_step rfl; (exact stp_loadAgg rfl rfl rfl rfl rfl rfl (by as_aux_lemma => kernel_rfl)); apply run_step rfl; (exact stp_storeAgg rfl rfl rfl rfl rfl rfl rfl rfl (by as_aux_lemma => kernel_rfl) rfl); refine run_nil ?_; refine fin_block ?_; refine fin_seq ?_; refine goes_region ?_; apply run_step rfl; (exact stp_move rfl rfl); apply run_step rfl; (exact stp_add rfl rfl rfl (by first | exact IntWalk.i64_in _ (by omega) | rfl)); apply run_step rfl; (exact stp_assign rfl rfl); refine run_nil ?_)
          exact fin_round (g + 1, (M', N', b')) ⟨hgn, hfo', hok'⟩ (by show ng - (g + 1) < ng - g; omega) (Wk.of ⟨rfl, rfl, rfl, rfl, rfl, rfl, trivial⟩ ⟨rfl, rfl, rfl, rfl, rfl, rfl, rfl, trivial⟩ trivial)
        · (refine goes_exit ?_; refine fin_exit_then ?_; refine fin_exit_then ?_; refine fin_exit_eq ?_; refine fin_block ?_; refine fin_seq ?_; refine goes_region ?_; apply run_step rfl; (exact stp_move rfl rfl); apply run_step rfl; (exact stp_add rfl rfl rfl (by first | exact IntWalk.i64_in _ (by omega) | rfl)); apply run_step rfl; (exact stp_assign rfl rfl); refine run_nil ?_)
          have hfg : coset1 ng rels c s0 = (M, N, b) := by
            rw [← hcos]
            by_cases hgn : g = ng
            · rw [← hfo, hgn]
            · refine range_dead hfo ?_ ng hg
              rw [decide_eq_true (show (g : Int) < ng by omega)] at hc
              show (decide (iget N c = (c : Int)) && !b) = false
              simpa using hc
          exact fin_round (c + 1, (M, N, b)) ⟨by show outer ng rels (2001 - (c + 1)) (c + 1) (M, N, b) = X; rw [show 2001 - (c + 1) = 2000 - c by omega, ← hfg]; exact houts, by show c + 1 ≤ N.length; omega, hok.le (by omega)⟩ (by show 2001 - (c + 1) < 2001 - c; omega) (Wk.of ⟨rfl, rfl, rfl, rfl, rfl, trivial⟩ ⟨rfl, rfl, rfl, rfl, rfl, rfl, rfl, trivial⟩ trivial)
    · (refine goes_exit ?_; refine fin_exit_then ?_; refine fin_exit_then ?_; refine fin_exit_eq ?_; refine fin_seq ?_; refine goes_seq ?_; refine goes_region ?_; apply run_step rfl; (exact stp_loadAgg rfl rfl rfl rfl rfl rfl (by as_aux_lemma => kernel_rfl)); apply run_step rfl; (exact stp_storeAgg rfl rfl rfl rfl rfl rfl rfl rfl (by as_aux_lemma => kernel_rfl) rfl); refine run_nil ?_; refine fin_seq ?_; refine goes_ret ?_)
      have hXs : (M, N, b) = X := by
        rw [← hout]
        cases hk : 2001 - c with
        | zero => omega
        | succ f =>
          rw [outer, if_neg]
          rintro ⟨h1, h2⟩
          have h1 : c < N.length := h1
          have h2 : b = false := h2
          rw [decide_eq_true (show (c : Int) < N.length by omega), h2] at hc
          cases hc
      subst hXs
      exact fin_ret1 (.inl rfl) rfl (.cell rfl rfl rfl rfl rfl (by kernel_rfl)) ⟨rfl, rfl, trivial⟩ trivial
end Go.Proofs.Ytpognnifgcacnaa

/- Coset enumeration: images are never lost; the table is complete at the end. No program in sight. -/
namespace Go.Proofs.Ytpognnifgcacnaa

structure Grow (ng : Nat) (im : List (List Int)) (less : List Int) (im' : List (List Int)) (less' : List Int) : Prop where
  len : less.length ≤ less'.length
  ent : ∀ c g, c < less.length → g < ng → 0 ≤ ent im c g → 0 ≤ ent im' c g
  dead : ∀ c, c < less.length → iget less c ≠ c → iget less' c ≠ c
theorem Grow.refl (ng : Nat) (im : List (List Int)) (less : List Int) : Grow ng im less im less := ⟨Nat.le_refl _, fun _ _ _ _ h => h, fun _ _ h => h⟩
theorem Grow.trans {ng : Nat} {a b c : List (List Int)} {x y z : List Int} (h : Grow ng a x b y) (k : Grow ng b y c z) : Grow ng a x c z :=
  ⟨Nat.le_trans h.len k.len, fun i g hi hg h1 => k.ent i g (Nat.lt_of_lt_of_le hi h.len) hg (h.ent i g hi hg h1), fun i hi h1 => k.dead i (Nat.lt_of_lt_of_le hi h.len) (h.dead i hi h1)⟩
theorem WF.grow_set {ng : Nat} {im : List (List Int)} {less : List Int} (h : WF ng im less) {c g : Nat} {z : Int} (hc : c < im.length) (hg : g < ng) (hz : 0 ≤ z) : Grow ng im less (rset im c g z) less :=
  ⟨Nat.le_refl _, fun i j _ _ h1 => by
    rw [ent_rset hc (by rw [h.row c hc]; exact hg)]
    split
    · exact hz
    · exact h1, fun _ _ h => h⟩
theorem WF.grow_app {ng : Nat} {im : List (List Int)} {less : List Int} (h : WF ng im less) (r : List Int) (z : Int) : Grow ng im less (im ++ [r]) (less ++ [z]) :=
  ⟨by simp, fun i j hi _ h1 => by
    have hi' : i < im.length := by rw [h.len]; exact hi
    unfold Proofs.Ytpognnifgcacnaa.ent at h1 ⊢
    rw [lget_app_lt hi']; exact h1, fun i hi h1 => by rw [iget_app_lt hi]; exact h1⟩
theorem nextC_grow {ng : Nat} {im : List (List Int)} {less : List Int} {c g : Nat} (h : WF ng im less) (hc : c < less.length) (hg : g < ng) : Grow ng im less (nextC ng im less c g).1 (nextC ng im less c g).2.1 := by
  unfold nextC
  split
  · exact Grow.refl _ _ _
  · split
    · exact Grow.refl _ _ _
    · have h1 := h.app
      have hl := h.len
      have g1 := h.grow_app (List.replicate ng (-1)) (less.length : Int)
      have h2 := h1.set_im (c := c) (g := g) (z := (less.length : Int)) (by simp; omega) hg (by simp; omega)
      have g2 := h1.grow_set (c := c) (g := g) (z := (less.length : Int)) (by simp; omega) hg (by omega)
      have g3 := h2.grow_set (c := less.length) (g := g) (z := (c : Int)) (by rw [rset_len]; simp; omega) hg (by omega)
      exact (g1.trans g2).trans g3
theorem nextC_ent {ng : Nat} {im : List (List Int)} {less : List Int} {c g : Nat} (h : WF ng im less) (hc : c < less.length) (hg : g < ng) (hf : (nextC ng im less c g).2.2.1 = false) : 0 ≤ ent (nextC ng im less c g).1 c g := by
  unfold nextC at hf ⊢
  split
  · rename_i h0; exact h0
  · rename_i h0
    rw [if_neg h0] at hf
    split
    · rename_i h1; rw [if_pos h1] at hf; cases hf
    · have h1 := h.app
      have hl := h.len
      have h2 := h1.set_im (c := c) (g := g) (z := (less.length : Int)) (by simp; omega) hg (by simp; omega)
      unfold addC
      dsimp only
      rw [ent_rset (by rw [rset_len]; simp; omega) (by rw [h2.row _ (by rw [rset_len]; simp; omega)]; exact hg)]
      split
      · omega
      · rw [ent_rset (by simp; omega) (by rw [h1.row _ (by simp; omega)]; exact hg), if_pos ⟨rfl, rfl⟩]; omega
theorem goC_grow {ng n0 : Nat} : ∀ (w : List Nat) (s : List (List Int) × List Int × Bool × Nat), GoOK ng n0 s → (∀ g ∈ w, g < ng) → Grow ng s.1 s.2.1 (goC ng s w).1 (goC ng s w).2.1
  | [], s, _, _ => Grow.refl _ _ _
  | g :: r, s, h, hg => by
    unfold goC
    split
    · exact Grow.refl _ _ _
    · have k := nextC_grow h.wf h.d (hg g (by simp))
      obtain ⟨h1, h2, h3, h4, _⟩ := nextC_ok h.wf h.d (hg g (by simp)) h.hi
      exact k.trans (goC_grow (n0 := n0) r _ ⟨h1, Nat.le_trans h.lo h2, h3, h4⟩ fun x hx => hg x (by simp [hx]))
theorem mergeUp_grow {ng lo hi : Nat} {im : List (List Int)} {less : List Int} {q : List (Int × Int)} (h : WF ng im less) (hlo : lo < im.length) (hhi : hi < im.length) (hq : QOK less.length q) : ∀ g, g ≤ ng → Grow ng im less (mergeUp lo hi (im, q) g).1 less
  | 0, _ => Grow.refl _ _ _
  | g + 1, hg => by
    have ih := mergeUp_grow h hlo hhi hq g (by omega)
    obtain ⟨h1, _, _, h4⟩ := mergeUp_ok h hlo hhi hq g (by omega)
    simp only [mergeUp, stepG]
    split
    · exact ih
    · rename_i hn
      split
      · exact ih
      · exact ih.trans (h1.grow_set (by omega) (by omega) (by omega))
theorem grow_less {ng : Nat} {im : List (List Int)} {less : List Int} {lo hi : Nat} (h : lo < hi) : Grow ng im less im (less.set hi (lo : Int)) :=
  ⟨by simp, fun _ _ _ _ h => h, fun c hc h1 => by
    rw [iget_set]
    split
    · rename_i e; rw [← e.1]; omega
    · exact h1⟩
theorem identLoop_grow {ng n : Nat} : ∀ (f : Nat) (im : List (List Int)) (less : List Int) (q : List (Int × Int)), WF ng im less → less.length = n → QOK n q → Grow ng im less (identLoop ng f im less q).1 (identLoop ng f im less q).2
  | 0, im, less, q, h, hn, _ => Grow.refl _ _ _
  | f + 1, im, less, [], h, hn, _ => Grow.refl _ _ _
  | f + 1, im, less, p :: q, h, hn, hq => by
    have hp := hq p (by simp)
    have hq' : QOK less.length q := fun x hx => hn ▸ hq x (by simp [hx])
    have hr1 := root_lt h.down (c := p.1.toNat) (by omega)
    have hr2 := root_lt h.down (c := p.2.toNat) (by omega)
    simp only [identLoop]
    split
    · exact identLoop_grow f im less q h hn fun x hx => hq x (by simp [hx])
    · rename_i hne
      obtain ⟨h1, h2, h3, h4⟩ := mergeUp_ok h (lo := min (root less p.1.toNat) (root less p.2.toNat)) (hi := max (root less p.1.toNat) (root less p.2.toNat)) (by rw [h.len]; omega) (by rw [h.len]; omega) hq' ng (Nat.le_refl _)
      have g1 := mergeUp_grow h (lo := min (root less p.1.toNat) (root less p.2.toNat)) (hi := max (root less p.1.toNat) (root less p.2.toNat)) (by rw [h.len]; omega) (by rw [h.len]; omega) hq' ng (Nat.le_refl _)
      refine (g1.trans (grow_less (by omega))).trans (identLoop_grow f _ _ _ (h1.set_less (by omega)) (by rw [List.length_set]; exact hn) (hn ▸ h2))
theorem closeC_grow {ng : Nat} {im : List (List Int)} {less : List Int} {c : Nat} {w : List Nat} (h : WF ng im less) (hc : c < less.length) (hn : less.length ≤ 2000) (hg : ∀ g ∈ w, g < ng) : Grow ng im less (closeC ng im less c w).1 (closeC ng im less c w).2.1 := by
  unfold closeC
  cases hw : w.getLast? with
  | none => exact Grow.refl _ _ _
  | some g =>
    have hgl : g < ng := hg g (List.mem_of_getLast? hw)
    have ok := goC_ok (n0 := less.length) w.dropLast (im, less, false, c) ⟨h, Nat.le_refl _, hn, hc⟩ fun x hx => hg x (List.dropLast_subset _ hx)
    have gr := goC_grow (n0 := less.length) w.dropLast (im, less, false, c) ⟨h, Nat.le_refl _, hn, hc⟩ fun x hx => hg x (List.dropLast_subset _ hx)
    generalize goC ng (im, less, false, c) w.dropLast = s at *
    have hcs : c < s.2.1.length := Nat.lt_of_lt_of_le hc ok.lo
    have gr : Grow ng im less s.1 s.2.1 := gr
    dsimp only
    split
    · exact gr
    · have e1 := image_lt ok.wf ok.d hgl
      have e2 := image_lt ok.wf hcs hgl
      have hd := ok.d
      have hl := ok.wf.len
      split
      · rename_i he
        exact gr.trans (identLoop_grow _ _ _ _ ok.wf rfl (fun p hp => by simp at hp; subst hp; exact ⟨⟨he, e1⟩, by omega, by dsimp only; omega⟩))
      · split
        · rename_i hf
          exact gr.trans (identLoop_grow _ _ _ _ ok.wf rfl (fun p hp => by simp at hp; subst hp; exact ⟨⟨hf, e2⟩, by omega, by dsimp only; omega⟩))
        · have k1 := ok.wf.set_im (c := s.2.2.2) (g := g) (z := (c : Int)) (by omega) hgl (by omega)
          exact (gr.trans (ok.wf.grow_set (c := s.2.2.2) (g := g) (z := (c : Int)) (by omega) hgl (by omega))).trans (k1.grow_set (c := c) (g := g) (z := (s.2.2.2 : Int)) (by rw [rset_len]; omega) hgl (by omega))

/-- a coset is spent, or has all its images -/
def Dn (ng : Nat) (s : CSt) (c : Nat) : Prop := iget s.2.1 c ≠ (c : Int) ∨ ∀ g, g < ng → 0 ≤ ent s.1 c g
abbrev GrowC (ng : Nat) (s s' : CSt) : Prop := Grow ng s.1 s.2.1 s'.1 s'.2.1
theorem Grow.dn {ng : Nat} {s s' : CSt} {c : Nat} (h : GrowC ng s s') (hc : c < s.2.1.length) (hd : Dn ng s c) : Dn ng s' c :=
  hd.imp (h.dead c hc) fun hd g hg => h.ent c g hc hg (hd g hg)
theorem close1_grow {ng n c : Nat} {s : CSt} {w : List Int} (h : CloseOK ng n s) (hn : c < n) (hw : Letters ng w) : GrowC ng s (close1 ng c s w) := by
  unfold close1
  split
  · exact closeC_grow h.wf (Nat.lt_of_lt_of_le hn h.lo) h.hi hw.nat
  · exact Grow.refl _ _ _
theorem next1_grow {ng n c g : Nat} {s : CSt} (h : CloseOK ng n s) (hn : c < n) (hg : g < ng) : GrowC ng s (next1 ng c s g) := by
  unfold next1
  split
  · exact nextC_grow h.wf (Nat.lt_of_lt_of_le hn h.lo) hg
  · exact Grow.refl _ _ _
theorem foldl_grow {α : Type} {ng n : Nat} {f : CSt → α → CSt} {p : α → Prop} (hf : ∀ s x, CloseOK ng n s → p x → CloseOK ng n (f s x)) (hg : ∀ s x, CloseOK ng n s → p x → GrowC ng s (f s x)) : ∀ (l : List α) (s : CSt), CloseOK ng n s → (∀ x ∈ l, p x) → GrowC ng s (l.foldl f s)
  | [], s, _, _ => Grow.refl _ _ _
  | x :: r, s, h, hp => (hg s x h (hp x (by simp))).trans (foldl_grow hf hg r _ (hf s x h (hp x (by simp))) fun y hy => hp y (by simp [hy]))
theorem gens_done {ng n c : Nat} {s : CSt} (h : CloseOK ng n s) (hn : c < n) : ∀ m, m ≤ ng → CloseOK ng n ((List.range m).foldl (next1 ng c) s) ∧ GrowC ng s ((List.range m).foldl (next1 ng c) s) ∧ (((List.range m).foldl (next1 ng c) s).2.2 = false →
    iget ((List.range m).foldl (next1 ng c) s).2.1 c ≠ (c : Int) ∨ ∀ g, g < m → 0 ≤ ent ((List.range m).foldl (next1 ng c) s).1 c g)
  | 0, _ => ⟨h, Grow.refl _ _ _, fun _ => .inr fun g hg => by omega⟩
  | m + 1, hm => by
    obtain ⟨h1, h2, h3⟩ := gens_done h hn m (by omega)
    rw [List.range_succ, List.foldl_append]
    generalize (List.range m).foldl (next1 ng c) s = t at *
    show CloseOK ng n (next1 ng c t m) ∧ GrowC ng s (next1 ng c t m) ∧ ((next1 ng c t m).2.2 = false → iget (next1 ng c t m).2.1 c ≠ (c : Int) ∨ ∀ g, g < m + 1 → 0 ≤ ent (next1 ng c t m).1 c g)
    have g1 := next1_grow (g := m) h1 hn (by omega)
    refine ⟨next1_ok h1 hn (by omega), h2.trans g1, fun hf => ?_⟩
    have hct : c < t.2.1.length := Nat.lt_of_lt_of_le hn h1.lo
    cases hl : liveC t c with
    | false =>
      rw [next1_dead hl] at hf ⊢
      left
      unfold liveC at hl
      rw [hf] at hl
      simpa using hl
    | true =>
      have hlv : iget t.2.1 c = (c : Int) ∧ t.2.2 = false := by unfold liveC at hl; simpa using hl
      rcases h3 hlv.2 with h4 | h4
      · exact absurd hlv.1 h4
      · by_cases e : iget (next1 ng c t m).2.1 c = (c : Int)
        · right
          intro g hg
          by_cases e2 : g = m
          · subst e2
            unfold next1 at hf ⊢
            rw [if_pos hl] at hf ⊢
            exact nextC_ent h1.wf hct (by omega) hf
          · exact g1.ent c g hct (by omega) (h4 g (by omega))
        · exact .inl e
theorem coset1_done {ng n c : Nat} {rels : List (List Int)} {s : CSt} (h : CloseOK ng n s) (hn : c < n) (hr : ∀ w ∈ rels, Letters ng w) : GrowC ng s (coset1 ng rels c s) ∧ ((coset1 ng rels c s).2.2 = false → Dn ng (coset1 ng rels c s) c) := by
  have h1 := foldl_ok (p := Letters ng) (fun s w h hw => close1_ok h hn hw) rels s h hr
  have g1 := foldl_grow (p := Letters ng) (fun s w h hw => close1_ok h hn hw) (fun s w h hw => close1_grow h hn hw) rels s h hr
  obtain ⟨_, g2, h3⟩ := gens_done h1 hn ng (Nat.le_refl _)
  exact ⟨g1.trans g2, h3⟩
theorem outer_failed {ng : Nat} {rels : List (List Int)} {s : CSt} (h : s.2.2 = true) : ∀ f c, outer ng rels f c s = s
  | 0, _ => rfl
  | f + 1, c => by unfold outer; rw [if_neg (by rw [h]; simp)]
theorem outer_done {ng : Nat} {rels : List (List Int)} (hr : ∀ w ∈ rels, Letters ng w) : ∀ (f c : Nat) (s : CSt), CloseOK ng 1 s → 2001 ≤ f + c → c ≤ s.2.1.length → (∀ i, i < c → Dn ng s i) → (outer ng rels f c s).2.2 = false → ∀ i, i < (outer ng rels f c s).2.1.length → Dn ng (outer ng rels f c s) i
  | 0, c, s, h, hf, hc, _, _ => by have := h.hi; omega
  | f + 1, c, s, h, hf, hc, hd, hnf => by
    unfold outer at hnf ⊢
    by_cases hcond : c < s.2.1.length ∧ s.2.2 = false
    · rw [if_pos hcond] at hnf ⊢
      have hk := coset1_ok (n := s.2.1.length) ⟨h.wf, Nat.le_refl _, h.hi⟩ hcond.1 hr
      obtain ⟨g1, d1⟩ := coset1_done (n := s.2.1.length) ⟨h.wf, Nat.le_refl _, h.hi⟩ hcond.1 hr
      have hnf1 : (coset1 ng rels c s).2.2 = false := by
        cases e : (coset1 ng rels c s).2.2 with
        | false => rfl
        | true => rw [outer_failed e, e] at hnf; cases hnf
      refine outer_done hr f (c + 1) _ (hk.le h.lo) (by omega) (by have := g1.len; omega) (fun i hi => ?_) hnf
      by_cases e : i = c
      · subst e; exact d1 hnf1
      · exact g1.dn (by omega) (hd i (by omega))
    · rw [if_neg hcond] at hnf ⊢
      intro i hi
      refine hd i ?_
      by_cases e : c < s.2.1.length
      · exact absurd ⟨e, hnf⟩ hcond
      · omega
/-- the procedure that does not fail leaves a complete table -/
theorem runC_done {ng : Nat} {rels words : List (List Int)} (hr : ∀ w ∈ rels, Letters ng w) (hw : ∀ w ∈ words, Letters ng w) (hnf : (runC ng rels words).2.2 = false) : ∀ c, c < (runC ng rels words).2.1.length → Dn ng (runC ng rels words) c :=
  outer_done hr _ _ _ (foldl_ok (p := Letters ng) (fun s w h hw => close0_ok h (by omega) hw) _ _ (startC_ok ng) hw) (Nat.le_refl _) (Nat.zero_le _) (fun i hi => by omega) hnf
end Go.Proofs.Ytpognnifgcacnaa

/- Coset enumeration: cosets numbered anew, and the table. No program in sight. -/
namespace Go.Proofs.Ytpognnifgcacnaa

/-- the order in which cosets are met, and the number of each (-1: not met) -/
abbrev NSt := List Int × List Int
def visit (s : NSt) (d : Nat) : NSt := if iget s.2 d < 0 then (s.1 ++ [(d : Int)], s.2.set d (s.1.length : Int)) else s
def visitG (im : List (List Int)) (less : List Int) (i : Nat) (s : NSt) (g : Nat) : NSt := visit s (image im less (iget s.1 i).toNat g).toNat
def tabRow (ng : Nat) (im : List (List Int)) (less : List Int) (i : Nat) (s : NSt) : NSt := (List.range ng).foldl (visitG im less i) s
def tabLoop (ng : Nat) (im : List (List Int)) (less : List Int) : Nat → Nat → NSt → NSt
  | 0, _, s => s
  | f + 1, i, s => if i < s.1.length then tabLoop ng im less f (i + 1) (tabRow ng im less i s) else s
def tabStart (n : Nat) : NSt := ([0], (List.replicate n (-1)).set 0 0)
def numbered (ng : Nat) (im : List (List Int)) (less : List Int) : NSt := tabLoop ng im less (less.length + 1) 0 (tabStart less.length)
def tableC (ng : Nat) (im : List (List Int)) (less : List Int) : List (List Int) :=
  (List.range ng).map fun g => (numbered ng im less).1.map fun c => iget (numbered ng im less).2 (image im less c.toNat g).toNat

/-- how many have a number -/
def cnt (l : List Int) : Nat := (l.filter fun z => decide (0 ≤ z)).length
theorem cnt_le (l : List Int) : cnt l ≤ l.length := List.length_filter_le _ _
theorem cnt_set : ∀ (l : List Int) (d : Nat) (z : Int), d < l.length → iget l d < 0 → 0 ≤ z → cnt (l.set d z) = cnt l + 1
  | [], d, z, h, _, _ => by simp at h
  | x :: r, 0, z, _, h, hz => by
    have h : x < 0 := by simpa [iget] using h
    simp [cnt, show ¬ 0 ≤ x by omega, hz]
  | x :: r, d + 1, z, hd, h, hz => by
    have ih := cnt_set r d z (by simpa using hd) (by simpa [iget] using h) hz
    unfold cnt at ih ⊢
    simp only [List.set_cons_succ, List.filter_cons]
    split
    · simp only [List.length_cons]; omega
    · exact ih

/-- complete: live cosets have all images -/
structure Full (ng : Nat) (im : List (List Int)) (less : List Int) : Prop where
  wf : WF ng im less
  pos : 0 < less.length
  full : ∀ c, c < less.length → iget less c = (c : Int) → ∀ g, g < ng → 0 ≤ ent im c g
theorem Full.zero {ng : Nat} {im : List (List Int)} {less : List Int} (h : Full ng im less) : iget less 0 = ((0 : Nat) : Int) := by
  have := h.wf.down 0 h.pos; omega
theorem Full.image {ng : Nat} {im : List (List Int)} {less : List Int} (h : Full ng im less) {c g : Nat} (hc : c < less.length) (hl : iget less c = (c : Int)) (hg : g < ng) :
    ∃ d : Nat, image im less c g = (d : Int) ∧ d < less.length ∧ iget less d = (d : Int) := by
  have h1 := h.full c hc hl g hg
  have h2 := h.wf.ent c g (by rw [h.wf.len]; exact hc) hg
  refine ⟨root less (ent im c g).toNat, by unfold Proofs.Ytpognnifgcacnaa.image; rw [if_neg (by omega)], root_lt h.wf.down (by omega), ?_⟩
  exact (root_fix h.wf.down _ (by omega)).1

structure TOK (n : Nat) (less : List Int) (s : NSt) : Prop where
  len : s.2.length = n
  cnt : cnt s.2 = s.1.length
  live : ∀ k, k < s.1.length → ∃ d : Nat, iget s.1 k = (d : Int) ∧ d < n ∧ iget less d = (d : Int) ∧ iget s.2 d = (k : Int)
  num : ∀ d, d < n → 0 ≤ iget s.2 d → iget s.2 d < s.1.length
theorem TOK.le {n : Nat} {less : List Int} {s : NSt} (h : TOK n less s) : s.1.length ≤ n := by
  have := cnt_le s.2; rw [h.cnt, h.len] at this; exact this
theorem visit_ok {n : Nat} {less : List Int} {s : NSt} {d : Nat} (h : TOK n less s) (hd : d < n) (hl : iget less d = (d : Int)) : TOK n less (visit s d) := by
  unfold visit
  split
  · rename_i hn
    refine ⟨by rw [List.length_set]; exact h.len, ?_, fun k hk => ?_, fun e he h0 => ?_⟩
    · dsimp only; rw [cnt_set _ _ _ (by rw [h.len]; exact hd) hn (by omega), h.cnt]; simp
    · dsimp only at hk ⊢
      by_cases e : k < s.1.length
      · obtain ⟨d', h1, h2, h3, h4⟩ := h.live k e
        refine ⟨d', by rw [iget_app_lt e]; exact h1, h2, h3, ?_⟩
        rw [iget_set]
        split
        · rename_i e2; rw [e2.1] at hn; omega
        · exact h4
      · obtain rfl : k = s.1.length := by simp at hk; omega
        exact ⟨d, iget_app_eq, hd, hl, by rw [iget_set, if_pos ⟨rfl, by rw [h.len]; exact hd⟩]⟩
    · dsimp only at h0 ⊢
      rw [iget_set] at h0 ⊢
      rw [List.length_append]
      split
      · simp; omega
      · rename_i hne
        rw [if_neg hne] at h0
        have := h.num e he h0
        simp; omega
  · exact h
/-- numbers are kept -/
structure NGrow (s s' : NSt) : Prop where
  pre : ∀ k, k < s.1.length → iget s'.1 k = iget s.1 k
  len : s.1.length ≤ s'.1.length
  num : ∀ d, 0 ≤ iget s.2 d → iget s'.2 d = iget s.2 d
theorem NGrow.refl (s : NSt) : NGrow s s := ⟨fun _ _ => rfl, Nat.le_refl _, fun _ _ => rfl⟩
theorem NGrow.trans {a b c : NSt} (h : NGrow a b) (k : NGrow b c) : NGrow a c :=
  ⟨fun i hi => (k.pre i (Nat.lt_of_lt_of_le hi h.len)).trans (h.pre i hi), Nat.le_trans h.len k.len, fun d hd => (k.num d (by rw [h.num d hd]; exact hd)).trans (h.num d hd)⟩
theorem visit_grow (s : NSt) (d : Nat) : NGrow s (visit s d) := by
  unfold visit
  split
  · rename_i hn
    refine ⟨fun k hk => iget_app_lt hk, by simp, fun e he => ?_⟩
    dsimp only
    rw [iget_set, if_neg]
    rintro ⟨rfl, _⟩
    omega
  · exact NGrow.refl s
theorem visit_num {n : Nat} {less : List Int} {s : NSt} {d : Nat} (h : TOK n less s) (hd : d < n) : 0 ≤ iget (visit s d).2 d := by
  unfold visit
  split
  · dsimp only; rw [iget_set, if_pos ⟨rfl, by rw [h.len]; exact hd⟩]; omega
  · rename_i hn; omega
theorem visitG_ok {ng : Nat} {im : List (List Int)} {less : List Int} (hF : Full ng im less) {i g : Nat} {s : NSt} (h : TOK less.length less s) (hi : i < s.1.length) (hg : g < ng) :
    TOK less.length less (visitG im less i s g) ∧ NGrow s (visitG im less i s g) ∧ 0 ≤ iget (visitG im less i s g).2 (image im less (iget s.1 i).toNat g).toNat := by
  obtain ⟨d, h1, h2, h3, _⟩ := h.live i hi
  obtain ⟨e, e1, e2, e3⟩ := hF.image h2 h3 hg
  unfold visitG
  rw [h1, Int.toNat_natCast, e1, Int.toNat_natCast]
  exact ⟨visit_ok h e2 e3, visit_grow s e, visit_num h e2⟩
theorem tabRow_ok {ng : Nat} {im : List (List Int)} {less : List Int} (hF : Full ng im less) {i : Nat} {s : NSt} (h : TOK less.length less s) (hi : i < s.1.length) : ∀ m, m ≤ ng →
    TOK less.length less ((List.range m).foldl (visitG im less i) s) ∧ NGrow s ((List.range m).foldl (visitG im less i) s) ∧ ∀ g, g < m → 0 ≤ iget ((List.range m).foldl (visitG im less i) s).2 (image im less (iget s.1 i).toNat g).toNat
  | 0, _ => ⟨h, NGrow.refl s, fun g hg => by omega⟩
  | m + 1, hm => by
    obtain ⟨h1, h2, h3⟩ := tabRow_ok hF h hi m (by omega)
    rw [List.range_succ, List.foldl_append]
    generalize (List.range m).foldl (visitG im less i) s = t at *
    obtain ⟨k1, k2, k3⟩ := visitG_ok hF (i := i) (g := m) h1 (Nat.lt_of_lt_of_le hi h2.len) (by omega)
    rw [h2.pre i hi] at k3
    refine ⟨k1, h2.trans k2, fun g hg => ?_⟩
    by_cases e : g = m
    · subst e; exact k3
    · have := h3 g (by omega)
      show 0 ≤ iget (visitG im less i t m).2 _
      rw [k2.num _ this]; exact this
/-- all images of the first i cosets have numbers -/
def Seen (ng : Nat) (im : List (List Int)) (less : List Int) (i : Nat) (s : NSt) : Prop := ∀ k, k < i → ∀ g, g < ng → 0 ≤ iget s.2 (image im less (iget s.1 k).toNat g).toNat
theorem Seen.row {ng : Nat} {im : List (List Int)} {less : List Int} (hF : Full ng im less) {i : Nat} {s : NSt} (h : TOK less.length less s) (hi : i < s.1.length) (hs : Seen ng im less i s) : Seen ng im less (i + 1) (tabRow ng im less i s) := by
  obtain ⟨_, h2, h3⟩ := tabRow_ok hF h hi ng (Nat.le_refl _)
  intro k hk g hg
  show 0 ≤ iget (tabRow ng im less i s).2 _
  have e : iget (tabRow ng im less i s).1 k = iget s.1 k := h2.pre k (by omega)
  rw [e]
  by_cases e2 : k = i
  · subst e2; exact h3 g hg
  · have := hs k (by omega) g hg
    have e3 := h2.num _ this
    unfold tabRow
    rw [e3]; exact this
theorem tabLoop_ok {ng : Nat} {im : List (List Int)} {less : List Int} (hF : Full ng im less) : ∀ (f i : Nat) (s : NSt), TOK less.length less s → Seen ng im less i s → i ≤ s.1.length → less.length + 1 ≤ f + i →
    TOK less.length less (tabLoop ng im less f i s) ∧ Seen ng im less (tabLoop ng im less f i s).1.length (tabLoop ng im less f i s)
  | 0, i, s, h, hs, hi, hf => by have := h.le; omega
  | f + 1, i, s, h, hs, hi, hf => by
    unfold tabLoop
    split
    · rename_i hlt
      obtain ⟨h1, h2, _⟩ := tabRow_ok hF h hlt ng (Nat.le_refl _)
      exact tabLoop_ok hF f (i + 1) _ h1 (hs.row hF h hlt) (Nat.le_trans hlt h2.len) (by omega)
    · rename_i hlt
      obtain rfl : i = s.1.length := by omega
      exact ⟨h, hs⟩
theorem cnt_rep : ∀ n, cnt (List.replicate n (-1)) = 0
  | 0 => rfl
  | n + 1 => by have := cnt_rep n; unfold cnt at this ⊢; rw [List.replicate_succ, List.filter_cons, if_neg (by decide)]; exact this
theorem tabStart_ok {ng : Nat} {im : List (List Int)} {less : List Int} (hF : Full ng im less) : TOK less.length less (tabStart less.length) := by
  have hp := hF.pos
  have hr : ∀ d, d < less.length → iget (List.replicate less.length (-1)) d = -1 := fun d hd => iget_rep hd
  refine ⟨by simp [tabStart], ?_, fun k hk => ?_, fun d hd h0 => ?_⟩
  · show cnt ((List.replicate less.length (-1)).set 0 0) = 1
    rw [cnt_set _ _ _ (by simpa using hp) (by rw [hr 0 hp]; decide) (by decide), cnt_rep]
  · obtain rfl : k = 0 := by simp [tabStart] at hk; omega
    exact ⟨0, rfl, hp, hF.zero, by show iget ((List.replicate less.length (-1)).set 0 0) 0 = _; rw [iget_set, if_pos ⟨rfl, by simpa using hp⟩]; rfl⟩
  · have h0 : 0 ≤ iget ((List.replicate less.length (-1)).set 0 0) d := h0
    show iget ((List.replicate less.length (-1)).set 0 0) d < ((1 : Nat) : Int)
    rw [iget_set] at h0 ⊢
    split
    · decide
    · rename_i hne; rw [if_neg hne, hr d hd] at h0; omega
theorem numbered_ok {ng : Nat} {im : List (List Int)} {less : List Int} (hF : Full ng im less) : TOK less.length less (numbered ng im less) ∧ Seen ng im less (numbered ng im less).1.length (numbered ng im less) :=
  tabLoop_ok hF _ _ _ (tabStart_ok hF) (fun k hk => by omega) (Nat.zero_le _) (by omega)
theorem full_run {ng : Nat} {rels words : List (List Int)} (hr : ∀ w ∈ rels, Letters ng w) (hw : ∀ w ∈ words, Letters ng w) (hnf : (runC ng rels words).2.2 = false) : Full ng (runC ng rels words).1 (runC ng rels words).2.1 :=
  ⟨(runC_ok hr hw).wf, (runC_ok hr hw).lo, fun c hc hl g hg => (runC_done hr hw hnf c hc).elim (fun h => absurd hl h) fun h => h g hg⟩
theorem tableC_entry {ng : Nat} {im : List (List Int)} {less : List Int} (hF : Full ng im less) {k g : Nat} (hk : k < (numbered ng im less).1.length) (hg : g < ng) :
    0 ≤ iget (numbered ng im less).2 (image im less (iget (numbered ng im less).1 k).toNat g).toNat ∧ iget (numbered ng im less).2 (image im less (iget (numbered ng im less).1 k).toNat g).toNat < (numbered ng im less).1.length := by
  obtain ⟨h, hs⟩ := numbered_ok hF
  have h0 := hs k hk g hg
  obtain ⟨d, h1, h2, h3, _⟩ := h.live k hk
  obtain ⟨e, e1, e2, _⟩ := hF.image h2 h3 hg
  rw [h1, Int.toNat_natCast, e1, Int.toNat_natCast] at h0 ⊢
  exact ⟨h0, h.num e e2 h0⟩
end Go.Proofs.Ytpognnifgcacnaa

/- Coset enumeration: l11Table. guards: -/
namespace Go.Proofs.Ytpognnifgcacnaa
open Go.RowKit

set_option maxRecDepth 100000 in
set_option maxHeartbeats 4000000 in
theorem l11Table_failed (ng : Nat) (rels words : List (List Int)) (R m : Nat) (hR : rels.length = R) (hm : words.length = m) (hr : ∀ w ∈ rels, Letters ng w) (hw : ∀ w ∈ words, Letters ng w) (hng : ng ≤ 1000) (hrl : ∀ w ∈ rels, w.length ≤ 1000000000) (hwl : ∀ w ∈ words, w.length ≤ 1000000000) (hR2 : R ≤ 1000000000) (hm2 : m ≤ 1000000000) (hf : (runC ng rels words).2.2 = true) :
    FC Try.prog 144 [(1002, rowsRo words), (1003, rowsRo rels)] [.s (.agg [.val (I6 ng), .sl 1003 0 R]), o1 (.sl 1002 0 m)] [] (.tup [.one (.val (.slice none 0 0)), .one (.val (.bool false))]) [] := by
  have hRun := l11Run_fc ng rels words R m hR hm hr hw hng hrl hwl hR2 hm2 _ rfl
  rw [hf] at hRun
  refine fc_enter (nt := 101) Try.func144 rfl rfl (by simp) fun w0 ω0 => ?_
  (refine goes_seq ?_; refine goes_region ?_; apply run_step rfl; (exact stp_box rfl rfl rfl rfl); apply run_step rfl; (exact stp_assign rfl rfl); apply run_step rfl; (exact stp_assign rfl rfl); refine run_nil ?_; refine fin_seq ?_; refine goes_seq ?_; refine goes_region ?_; apply run_step rfl; (exact stp_loadAgg rfl rfl rfl rfl rfl rfl (by as_aux_lemma => kernel_rfl)); apply run_step rfl; (exact stp_move rfl rfl); apply run_step rfl; (apply call_gate 197; exact stp_call [] hRun (by as_aux_lemma => kernel_rfl) rfl rfl ⟨⟨.inl rfl, .inl rfl, trivial⟩, rfl, trivial⟩ ⟨⟨_, rfl, .inl rfl⟩, ⟨_, rfl, .inl rfl⟩, trivial⟩ trivial rfl rfl); apply run_step rfl; (exact stp_allocZ [.slice none 0 0, .slice none 0 0, .bool false] rfl (by as_aux_lemma => kernel_rfl)); apply run_step rfl; (exact stp_storeAgg rfl rfl rfl rfl rfl rfl rfl rfl (by as_aux_lemma => kernel_rfl) rfl); refine run_nil ?_; refine fin_seq ?_; refine goes_seq ?_; refine goes_seq ?_; refine goes_region ?_; apply run_step rfl; (exact stp_fieldAddr (d := 2) rfl rfl rfl (by as_aux_lemma => kernel_rfl)); apply run_step rfl; (exact stp_loadF rfl (by as_aux_lemma => kernel_rfl) rfl rfl rfl rfl); refine run_nil ?_; refine fin_seq ?_)
  refine goes_cond rfl (fun _ => ?_) (fun e => by cases e)
  (refine goes_seq ?_; refine goes_region ?_; apply run_step rfl; (exact stp_assign rfl rfl); apply run_step rfl; (exact stp_assign rfl rfl); refine run_nil ?_; refine fin_seq ?_; refine goes_ret ?_; refine fin_ret_then ?_)
  exact fin_ret2 (.inl rfl) rfl (.tmp rfl) (.tmp rfl) trivial trivial
end Go.Proofs.Ytpognnifgcacnaa

/- A memory of names: make of integers; small steps. No program in sight. -/
namespace Go.Proofs.Ytpognnifgcacnaa
open Go.RowKit

section
variable {P : Program} {nt : Nat} {S S1 : St} {w0 w : World} {ω0 : Beg} {ω : Own?} {η : Env} {a : Act} {Q : Exit → Act → World → Prop}
variable {t : Nat} {ty : TypeId} {ps : String} {af : Array Edge} {gd : Option (Nat × Bool)} {x y : Operand} {av : AV}
theorem ivals_rep (n : Nat) (z : Int) : ivals (List.replicate n z) = List.replicate n (I6 z) := by simp [ivals]
theorem irows_rep (n : Nat) : irows (List.replicate n []) = List.replicate n [] := by simp [irows, ivals]
/-- make of integers -/
theorem stp_makeI {T E n : Nat} {l c : Operand} {kl kc : IntKind} {L C : Int} (ht : Nat.blt t nt = true) (hT : elZ P T E 1 = true) (hz : (P.info? E).bind (·.zero) = some (I6 0)) (hl : S.op l = some (vv (.int kl L))) (hc : S.op c = some (vv (.int kc C)))
    (hL : L = (n : Int)) (hC : C = (n : Int)) (hn : n ≤ 2199023255552) : Stp P nt ⟨some t, .makeSlice T l c, ty, ps, af, gd⟩ S ((S.new t ⟨true, E, 1, .vals (ivals (List.replicate n 0))⟩).put t (o1 (.sl t 0 n))) := by
  rw [ivals_rep]
  exact stp_make (ts := #[]) ht hT hz hl hc hL hC hn rfl
/-- make of nil slices -/
theorem stp_makeR {T E F n : Nat} {l c : Operand} {kl kc : IntKind} {L C : Int} (ht : Nat.blt t nt = true) (hT : elZ P T E 1 = true) (hz : (P.info? E).bind (·.zero) = some (.slice none 0 0)) (hF : P.underlying E = some (.slice F)) (hl : S.op l = some (vv (.int kl L))) (hc : S.op c = some (vv (.int kc C)))
    (hL : L = (n : Int)) (hC : C = (n : Int)) (hn : n ≤ 2199023255552) : Stp P nt ⟨some t, .makeSlice T l c, ty, ps, af, gd⟩ S ((S.new t ⟨true, E, 1, .rows F (irows (List.replicate n [])) []⟩).put t (o1 (.sl t 0 n))) := by
  rw [irows_rep]
  exact stp_makeRows (ts := #[]) ht hT hz hF hl hc hL hC hn
end
end Go.Proofs.Ytpognnifgcacnaa

/- Coset enumeration: l11Table where the procedure does not fail. guards: -/
namespace Go.Proofs.Ytpognnifgcacnaa
open Go.RowKit

/-- the numbers while they are blanked -/
def blankN (n j : Nat) : List Int := (List.range n).map fun i => if 1 ≤ i ∧ i < j then -1 else 0
theorem blankN_len (n j : Nat) : (blankN n j).length = n := by simp [blankN]
theorem iget_blankN {n j i : Nat} (h : i < n) : iget (blankN n j) i = if 1 ≤ i ∧ i < j then -1 else 0 := by simp [iget, blankN, h]
theorem blankN_one (n : Nat) : blankN n 1 = List.replicate n 0 := by
  refine iget_ext (by rw [blankN_len]; simp) fun k hk => ?_
  rw [blankN_len] at hk
  rw [iget_blankN hk, if_neg (by omega), iget_rep hk]
theorem blankN_set {n j : Nat} (h : 1 ≤ j) (hj : j < n) : (blankN n j).set j (-1) = blankN n (j + 1) := by
  refine iget_ext (by rw [List.length_set, blankN_len, blankN_len]) fun k hk => ?_
  rw [List.length_set, blankN_len] at hk
  rw [iget_set, iget_blankN hk, iget_blankN hk, blankN_len]
  by_cases e : j = k
  · subst e; rw [if_pos ⟨rfl, hj⟩, if_pos ⟨h, by omega⟩]
  · rw [if_neg (fun h => e h.1)]
    by_cases e2 : 1 ≤ k ∧ k < j
    · rw [if_pos e2, if_pos ⟨e2.1, by omega⟩]
    · rw [if_neg e2, if_neg (by omega)]
theorem blankN_done {n j : Nat} (h0 : 0 < n) (h : n ≤ j) : blankN n j = (tabStart n).2 := by
  refine iget_ext (by rw [blankN_len]; simp [tabStart]) fun k hk => ?_
  rw [blankN_len] at hk
  show _ = iget ((List.replicate n (-1)).set 0 0) k
  rw [iget_blankN hk, iget_set, iget_rep hk]
  by_cases e : 0 = k
  · subst e; rw [if_neg (by omega), if_pos ⟨rfl, by simpa using h0⟩]
  · rw [if_pos (by omega), if_neg (fun h => e h.1)]

/-- a row of the table -/
def tabC (im : List (List Int)) (less : List Int) (s : NSt) (g k : Nat) : Int := iget s.2 (image im less (iget s.1 k).toNat g).toNat
theorem tableC_row (ng : Nat) (im : List (List Int)) (less : List Int) : tableC ng im less = (List.range ng).map fun g => (List.range (numbered ng im less).1.length).map (tabC im less (numbered ng im less) g) := by
  unfold tableC
  refine List.map_congr_left fun g _ => ?_
  refine List.ext_getElem (by simp) fun k h1 h2 => ?_
  simp at h1
  simp [tabC, iget, h1]
theorem tabLoop_step {ng : Nat} {im : List (List Int)} {less : List Int} {f i : Nat} {s : NSt} (h : i < s.1.length) : tabLoop ng im less (f + 1) i s = tabLoop ng im less f (i + 1) (tabRow ng im less i s) := by rw [tabLoop, if_pos h]

set_option maxRecDepth 100000 in
set_option maxHeartbeats 4000000 in
theorem l11Table_done (ng : Nat) (rels words : List (List Int)) (R m : Nat) (hR : rels.length = R) (hm : words.length = m) (hr : ∀ w ∈ rels, Letters ng w) (hw : ∀ w ∈ words, Letters ng w) (hng : ng ≤ 1000) (hrl : ∀ w ∈ rels, w.length ≤ 1000000000) (hwl : ∀ w ∈ words, w.length ≤ 1000000000) (hR2 : R ≤ 1000000000) (hm2 : m ≤ 1000000000) (hf : (runC ng rels words).2.2 = false) :
    FC Try.prog 144 [(1002, rowsRo words), (1003, rowsRo rels)] [.s (.agg [.val (I6 ng), .sl 1003 0 R]), o1 (.sl 1002 0 m)] [(69, imOw (tableC ng (runC ng rels words).1 (runC ng rels words).2.1))] (.tup [.one (.sl 69 0 ng), .one (.val (.bool true))]) [] := by
  have hRun := l11Run_fc ng rels words R m hR hm hr hw hng hrl hwl hR2 hm2 _ rfl
  have hF := full_run hr hw hf
  have hhi := (runC_ok hr hw).hi
  obtain ⟨X, hX⟩ : ∃ X, runC ng rels words = X := ⟨_, rfl⟩
  rw [hX] at hRun hF hhi hf ⊢
  clear hX
  obtain ⟨im, less, bb⟩ := X
  dsimp only at hRun hF hhi hf ⊢
  subst hf
  have hn0 := hF.pos
  have him : im.length = less.length := hF.wf.len
  have hts := tabStart_ok hF
  refine fc_enter (nt := 101) Try.func144 rfl rfl (by simp) fun w0 ω0 => ?_
  (refine goes_seq ?_; refine goes_region ?_; apply run_step rfl; (exact stp_box rfl rfl rfl rfl); apply run_step rfl; (exact stp_assign rfl rfl); apply run_step rfl; (exact stp_assign rfl rfl); refine run_nil ?_; refine fin_seq ?_; refine goes_seq ?_; refine goes_region ?_; apply run_step rfl; (exact stp_loadAgg rfl rfl rfl rfl rfl rfl (by as_aux_lemma => kernel_rfl)); apply run_step rfl; (exact stp_move rfl rfl); apply run_step rfl; (apply call_gate 197; exact stp_call [] hRun (by as_aux_lemma => kernel_rfl) rfl rfl ⟨⟨.inl rfl, .inl rfl, trivial⟩, rfl, trivial⟩ ⟨⟨_, rfl, .inl rfl⟩, ⟨_, rfl, .inl rfl⟩, trivial⟩ trivial rfl rfl); apply run_step rfl; (exact stp_allocZ [.slice none 0 0, .slice none 0 0, .bool false] rfl (by as_aux_lemma => kernel_rfl)); apply run_step rfl; (exact stp_storeAgg rfl rfl rfl rfl rfl rfl rfl rfl (by as_aux_lemma => kernel_rfl) rfl); refine run_nil ?_; refine fin_seq ?_; refine goes_seq ?_; refine goes_seq ?_; refine goes_region ?_; apply run_step rfl; (exact stp_fieldAddr (d := 2) rfl rfl rfl (by as_aux_lemma => kernel_rfl)); apply run_step rfl; (exact stp_loadF rfl (by as_aux_lemma => kernel_rfl) rfl rfl rfl rfl); refine run_nil ?_; refine fin_seq ?_)
  refine goes_cond rfl (fun e => by cases e) (fun _ => ?_)
  (refine goes_skip ?_; refine fin_seq ?_; refine goes_seq ?_; refine goes_region ?_; apply run_step rfl; (exact stp_lit1I (E := 2) rfl (by as_aux_lemma => kernel_rfl) rfl); apply run_step rfl; (exact stp_assign rfl rfl); refine run_nil ?_; refine fin_seq ?_; refine goes_seq ?_; refine goes_region ?_; apply run_step rfl; (exact stp_fieldAddr (d := 1) rfl rfl rfl (by as_aux_lemma => kernel_rfl)); apply run_step rfl; (exact stp_loadF rfl (by as_aux_lemma => kernel_rfl) rfl rfl rfl rfl); apply run_step rfl; (exact stp_len rfl rfl rfl (by as_aux_lemma => kernel_rfl)); apply run_step rfl; (exact stp_makeI (E := 2) rfl (by as_aux_lemma => kernel_rfl) (by as_aux_lemma => kernel_rfl) rfl rfl rfl rfl (by omega)); apply run_step rfl; (exact stp_assign rfl rfl); refine run_nil ?_; refine fin_seq ?_; refine goes_seq ?_; refine goes_seq ?_; refine goes_region ?_; apply run_step rfl; (exact stp_assign rfl rfl); refine run_nil ?_; refine fin_seq ?_; refine goes_block ?_)
  refine goes_loop (fun j : Nat => St.of [(2, o1 (.ptr 2 0)), (6, o1 (.ptr 6 0)), (7, o1 (.sl 22 0 1)), (8, o1 (.sl 26 0 less.length)), (9, vv (I6 j))] [(1000, imOw im), (1001, leOw less), (2, ⟨true, 72, 2, .flat [.val (I6 ng), .sl 1003 0 R]⟩), (6, ⟨true, 185, 3, .flat [.sl 1000 0 less.length, .sl 1001 0 less.length, .val (.bool false)]⟩), (22, leOw [0]), (26, leOw (blankN less.length j))])
    (fun j => 1 ≤ j ∧ j ≤ less.length) (fun j => less.length - j) 1 ⟨Nat.le_refl _, hn0⟩ (Wk.of ⟨rfl, rfl, rfl, rfl, rfl, trivial⟩ ⟨rfl, rfl, rfl, rfl, rfl, by rw [blankN_one]; rfl, trivial⟩ trivial) ?_
  rintro j ⟨hj1, hj2⟩
  have hbl : (blankN less.length j).length = less.length := blankN_len _ _
  (refine goes_seq ?_; refine goes_seq ?_; refine goes_region ?_; apply run_step rfl; (exact stp_move rfl rfl); apply run_step rfl; (exact stp_move rfl rfl); apply run_step rfl; (exact stp_len rfl rfl rfl (by as_aux_lemma => kernel_rfl)); apply run_step rfl; (exact stp_bin rfl rfl rfl rfl); refine run_nil ?_; refine fin_seq ?_)
  refine goes_if rfl (fun h => ?_) (fun h => ?_)
  · have hlt : j < less.length := by omega
    (refine goes_skip ?_; refine fin_seq ?_; refine goes_seq ?_; refine goes_block ?_; refine goes_region ?_; apply run_step rfl; (exact stp_move rfl rfl); apply run_step rfl; (exact stp_move rfl rfl); apply run_step rfl; (exact stp_ix rfl rfl rfl rfl rfl (by as_aux_lemma => kernel_rfl) (by first | rfl | exact (Int.toNat_of_nonneg (by omega)).symm) (by first | assumption | omega | (simp; omega)) (by first | exact Nat.le_refl _ | exact Nat.le_of_eq (ivals_len _).symm | exact Nat.le_of_eq (irows_len _).symm | (refine Nat.le_trans ?_ (Nat.le_of_eq (ivals_len _).symm); (first | omega | (simp; done) | (simp; omega))) | (refine Nat.le_trans ?_ (Nat.le_of_eq (irows_len _).symm); (first | omega | (simp; done) | (simp; omega))))); apply run_step rfl; (exact stp_stI rfl rfl rfl rfl rfl (by first | assumption | omega | (simp; omega)) (by as_aux_lemma => kernel_rfl)); refine run_nil ?_; refine fin_block ?_; refine fin_seq ?_; refine goes_region ?_; apply run_step rfl; (exact stp_move rfl rfl); apply run_step rfl; (exact stp_add rfl rfl rfl (by first | exact IntWalk.i64_in _ (by omega) | rfl)); apply run_step rfl; (exact stp_assign rfl rfl); refine run_nil ?_)
    exact fin_round (j + 1) ⟨by omega, hlt⟩ (by omega) (Wk.of ⟨rfl, rfl, rfl, rfl, rfl, trivial⟩ ⟨rfl, rfl, rfl, rfl, rfl, by rw [← blankN_set hj1 hlt]; rfl, trivial⟩ trivial)
  · obtain rfl : j = less.length := by omega
    clear h
    have hb2 : blankN less.length less.length = (tabStart less.length).2 := blankN_done hn0 (Nat.le_refl _)
    rw [hb2]
    clear hb2 hbl
    (refine goes_exit ?_; refine fin_exit_then ?_; refine fin_exit_then ?_; refine fin_exit_eq ?_; refine fin_seq ?_; refine goes_seq ?_; refine goes_seq ?_; refine goes_region ?_; apply run_step rfl; (exact stp_assign rfl rfl); refine run_nil ?_; refine fin_seq ?_; refine goes_block ?_)
    refine goes_loop (fun q : Nat × NSt => St.of [(2, o1 (.ptr 2 0)), (6, o1 (.ptr 6 0)), (7, o1 (.sl 22 0 q.2.1.length)), (8, o1 (.sl 26 0 less.length)), (10, vv (I6 q.1))] [(1000, imOw im), (1001, leOw less), (2, ⟨true, 72, 2, .flat [.val (I6 ng), .sl 1003 0 R]⟩), (6, ⟨true, 185, 3, .flat [.sl 1000 0 less.length, .sl 1001 0 less.length, .val (.bool false)]⟩), (22, leOw q.2.1), (26, leOw q.2.2)])
      (fun q => q.1 ≤ q.2.1.length ∧ TOK less.length less q.2 ∧ tabLoop ng im less (less.length + 1 - q.1) q.1 q.2 = numbered ng im less) (fun q => less.length + 1 - q.1) (0, tabStart less.length) ⟨Nat.zero_le _, hts, rfl⟩ (Wk.of ⟨rfl, rfl, rfl, rfl, rfl, trivial⟩ ⟨rfl, rfl, rfl, rfl, rfl, rfl, trivial⟩ trivial) ?_
    rintro ⟨i, O, M⟩ ⟨hi, htok, hnum⟩
    dsimp only at hi hnum ⊢
    have hOl : O.length ≤ less.length := htok.le
    (refine goes_seq ?_; refine goes_seq ?_; refine goes_region ?_; apply run_step rfl; (exact stp_move rfl rfl); apply run_step rfl; (exact stp_move rfl rfl); apply run_step rfl; (exact stp_len rfl rfl rfl (by as_aux_lemma => kernel_rfl)); apply run_step rfl; (exact stp_bin rfl rfl rfl rfl); refine run_nil ?_; refine fin_seq ?_)
    refine goes_if rfl (fun h => ?_) (fun h => ?_)
    · have hlt : i < O.length := by omega
      have hnum' : tabLoop ng im less (less.length - i) (i + 1) (tabRow ng im less i (O, M)) = numbered ng im less := by
        rw [← hnum, show less.length + 1 - i = (less.length - i) + 1 by omega]
        exact (tabLoop_step hlt).symm
      obtain ⟨s0, hs0⟩ : ∃ s0 : NSt, s0 = (O, M) := ⟨_, rfl⟩
      obtain ⟨d, hd1, hd2, hd3, -⟩ := htok.live i hlt
      dsimp only at hd1
      have hrow : ∀ n, n ≤ ng → TOK less.length less ((List.range n).foldl (visitG im less i) s0) ∧ NGrow s0 ((List.range n).foldl (visitG im less i) s0) := fun n hn =>
        have := tabRow_ok hF (i := i) (s := s0) (by rw [hs0]; exact htok) (by rw [hs0]; exact hlt) n hn
        ⟨this.1, this.2.1⟩
      have hfin : tabLoop ng im less (less.length - i) (i + 1) ((List.range ng).foldl (visitG im less i) s0) = numbered ng im less := by rw [hs0]; exact hnum'
      (refine goes_skip ?_; refine fin_seq ?_; refine goes_seq ?_; refine goes_block ?_; refine goes_seq ?_; refine goes_region ?_; apply run_step rfl; (exact stp_assign rfl rfl); refine run_nil ?_; refine fin_seq ?_; refine goes_block ?_)
      refine goes_loop (fun q : Nat × NSt => St.of [(2, o1 (.ptr 2 0)), (6, o1 (.ptr 6 0)), (7, o1 (.sl 22 0 q.2.1.length)), (8, o1 (.sl 26 0 less.length)), (10, vv (I6 i)), (11, vv (I6 q.1))] [(1000, imOw im), (1001, leOw less), (2, ⟨true, 72, 2, .flat [.val (I6 ng), .sl 1003 0 R]⟩), (6, ⟨true, 185, 3, .flat [.sl 1000 0 less.length, .sl 1001 0 less.length, .val (.bool false)]⟩), (22, leOw q.2.1), (26, leOw q.2.2)])
        (fun q => q.1 ≤ ng ∧ (List.range q.1).foldl (visitG im less i) s0 = q.2) (fun q => ng - q.1) (0, s0) ⟨Nat.zero_le _, rfl⟩ (Wk.of (by rw [hs0]; exact ⟨rfl, rfl, rfl, rfl, rfl, rfl, trivial⟩) (by rw [hs0]; exact ⟨rfl, rfl, rfl, rfl, rfl, rfl, trivial⟩) trivial) ?_
      have hO0 : s0.1.length = O.length := by rw [hs0]
      have hd0 : iget s0.1 i = (d : Int) := by rw [hs0]; exact hd1
      clear hnum hnum' htok hs0 hd1
      generalize O.length = on at *
      rintro ⟨g, O, M⟩ ⟨hg, hfo⟩
      dsimp only at hg hfo ⊢
      obtain ⟨tok, grw⟩ := hrow g hg
      rw [hfo] at tok grw
      have hiO : i < O.length := Nat.lt_of_lt_of_le (by omega) grw.len
      have hOl' : O.length ≤ less.length := tok.le
      have hML : M.length = less.length := tok.len
      have hdO : iget O i = (d : Int) := (grw.pre i (by omega)).trans hd0
      have hget : (ivals O)[i]? = some (I6 (d : Int)) := by rw [ivals_get hiO, hdO]
      (refine goes_seq ?_; refine goes_seq ?_; refine goes_region ?_; apply run_step rfl; (exact stp_move rfl rfl); apply run_step rfl; (exact stp_fieldAddr (d := 0) rfl rfl rfl (by as_aux_lemma => kernel_rfl)); apply run_step rfl; (exact stp_loadF rfl (by as_aux_lemma => kernel_rfl) rfl rfl rfl rfl); apply run_step rfl; (exact stp_bin rfl rfl rfl rfl); refine run_nil ?_; refine fin_seq ?_)
      refine goes_if rfl (fun h2 => ?_) (fun h2 => ?_)
      · have hgn : g < ng := by omega
        obtain ⟨e, he1, he2, _⟩ := hF.image hd2 hd3 hgn
        have hI := l11Image_fc im less less.length less.length d g false him rfl hF.wf.down (by omega) (by rw [hF.wf.row d (by omega)]; exact hgn) (hF.wf.ent d g (by omega) hgn)
        rw [he1] at hI
        have hst : (List.range (g + 1)).foldl (visitG im less i) s0 = visit (O, M) e := by
          rw [List.range_succ, List.foldl_append, hfo]
          show visit (O, M) (image im less (iget O i).toNat g).toNat = _
          rw [hdO, Int.toNat_natCast, he1, Int.toNat_natCast]
        (refine goes_skip ?_; refine fin_seq ?_; refine goes_seq ?_; refine goes_block ?_; refine goes_seq ?_)
        apply goes_draw 6 [] [[], [], [], [1, 2], [1, 2, 3], [], [0, 1, 2, 3, 4, 5], [0, 1, 2, 3, 4, 5, 6]] [48, 49, 50, 51, 52, 53] [] (by kernel_rfl) (by kernel_rfl)
        · (apply draw_put rfl; (intro S1 hS; exact stp_loadAgg rfl (hS.op rfl) (hS.ch _ _ rfl) rfl rfl rfl (by as_aux_lemma => kernel_rfl)); apply draw_put rfl; (intro S1 hS; exact stp_move rfl (hS.op rfl)); apply draw_put rfl; (intro S1 hS; exact stp_move rfl (hS.op rfl)); apply draw_put rfl; (intro S1 hS; exact stp_ix rfl (hS.op rfl) (hS.op rfl) (hS.ch _ _ rfl) rfl (by as_aux_lemma => kernel_rfl) (by first | rfl | exact (Int.toNat_of_nonneg (by omega)).symm) (by first | assumption | omega | (simp; omega)) (by first | exact Nat.le_refl _ | exact Nat.le_of_eq (ivals_len _).symm | exact Nat.le_of_eq (irows_len _).symm | (refine Nat.le_trans ?_ (Nat.le_of_eq (ivals_len _).symm); (first | omega | (simp; done) | (simp; omega))) | (refine Nat.le_trans ?_ (Nat.le_of_eq (irows_len _).symm); (first | omega | (simp; done) | (simp; omega))))); apply draw_put rfl; (intro S1 hS; exact stp_loadV rfl (by as_aux_lemma => kernel_rfl) (hS.op rfl) (hS.ch _ _ rfl) rfl (by first | assumption | exact ivals_get (by assumption) | exact irows_get (by assumption) | exact ivals_get (by omega) | exact irows_get (by omega) | rfl)); apply draw_put rfl; (intro S1 hS; exact stp_move rfl (hS.op rfl)); exact Draw.nil)
        · rfl
        ((apply rest_one 6 rfl (by as_aux_lemma => kernel_rfl) rfl rfl; (apply call_gate 198; exact stp_callR hI (by as_aux_lemma => kernel_rfl) rfl rfl ⟨⟨.inl rfl, .inl rfl, .inl rfl, trivial⟩, rfl, rfl, trivial⟩ ⟨⟨_, rfl, .inr rfl⟩, ⟨_, rfl, .inr rfl⟩, trivial⟩ rfl rfl)); (apply rest_one 7 rfl (by as_aux_lemma => kernel_rfl) rfl rfl; (exact stp_assign rfl rfl)); (refine rest_done (by as_aux_lemma => kernel_rfl) ?_; skip))
        (refine fin_seq ?_; refine goes_seq ?_; refine goes_region ?_; apply run_step rfl; (exact stp_move rfl rfl); apply run_step rfl; (exact stp_move rfl rfl); apply run_step rfl; (exact stp_ix rfl rfl rfl rfl rfl (by as_aux_lemma => kernel_rfl) (by first | rfl | exact (Int.toNat_of_nonneg (by omega)).symm) (by first | assumption | omega | (simp; omega)) (by first | exact Nat.le_refl _ | exact Nat.le_of_eq (ivals_len _).symm | exact Nat.le_of_eq (irows_len _).symm | (refine Nat.le_trans ?_ (Nat.le_of_eq (ivals_len _).symm); (first | omega | (simp; done) | (simp; omega))) | (refine Nat.le_trans ?_ (Nat.le_of_eq (irows_len _).symm); (first | omega | (simp; done) | (simp; omega))))); apply run_step rfl; (exact stp_loadV rfl (by as_aux_lemma => kernel_rfl) rfl rfl rfl (by first | assumption | exact ivals_get (by assumption) | exact irows_get (by assumption) | exact ivals_get (by omega) | exact irows_get (by omega) | rfl)); apply run_step rfl; (exact stp_bin rfl rfl rfl rfl); refine run_nil ?_; refine fin_seq ?_)
        refine goes_cond rfl (fun hc => ?_) (fun hc => ?_)
        · have hneg : iget M e < 0 := by simpa using hc
          have hv : visit (O, M) e = (O ++ [(e : Int)], M.set e (O.length : Int)) := if_pos hneg
          (refine goes_seq ?_; refine goes_region ?_; apply run_step rfl; (exact stp_move rfl rfl); apply run_step rfl; (exact stp_move rfl rfl); apply run_step rfl; (exact stp_move rfl rfl); apply run_step rfl; (exact stp_len rfl rfl rfl (by as_aux_lemma => kernel_rfl)); apply run_step rfl; (exact stp_ix rfl rfl rfl rfl rfl (by as_aux_lemma => kernel_rfl) (by first | rfl | exact (Int.toNat_of_nonneg (by omega)).symm) (by first | assumption | omega | (simp; omega)) (by first | exact Nat.le_refl _ | exact Nat.le_of_eq (ivals_len _).symm | exact Nat.le_of_eq (irows_len _).symm | (refine Nat.le_trans ?_ (Nat.le_of_eq (ivals_len _).symm); (first | omega | (simp; done) | (simp; omega))) | (refine Nat.le_trans ?_ (Nat.le_of_eq (irows_len _).symm); (first | omega | (simp; done) | (simp; omega))))); apply run_step rfl; (exact stp_stI rfl rfl rfl rfl rfl (by first | assumption | omega | (simp; omega)) (by as_aux_lemma => kernel_rfl)); refine run_nil ?_; refine fin_seq ?_; refine goes_region ?_; apply run_step rfl; (exact stp_move rfl rfl); apply run_step rfl; (exact stp_move rfl rfl); apply run_step rfl; (exact stp_lit1I (E := 2) rfl (by as_aux_lemma => kernel_rfl) rfl); apply run_step rfl; (exact stp_appI rfl (by as_aux_lemma => kernel_rfl) rfl rfl rfl (by first | rfl | assumption | (simp; done)) rfl rfl (by omega)); apply run_step rfl; (exact stp_assign rfl rfl); refine run_nil ?_; refine fin_block ?_; refine fin_seq ?_; refine goes_region ?_; apply run_step rfl; (exact stp_move rfl rfl); apply run_step rfl; (exact stp_add rfl rfl rfl (by first | exact IntWalk.i64_in _ (by omega) | rfl)); apply run_step rfl; (exact stp_assign rfl rfl); refine run_nil ?_)
          exact fin_round (g + 1, (O ++ [(e : Int)], M.set e (O.length : Int))) ⟨hgn, hst.trans hv⟩ (by show ng - (g + 1) < ng - g; omega) (Wk.of ⟨rfl, rfl, by simp; rfl, rfl, rfl, rfl, trivial⟩ ⟨rfl, rfl, rfl, rfl, rfl, rfl, trivial⟩ trivial)
        · have hneg : ¬ iget M e < 0 := by simpa using hc
          have hv : visit (O, M) e = (O, M) := if_neg hneg
          (refine goes_skip ?_; refine fin_block ?_; refine fin_seq ?_; refine goes_region ?_; apply run_step rfl; (exact stp_move rfl rfl); apply run_step rfl; (exact stp_add rfl rfl rfl (by first | exact IntWalk.i64_in _ (by omega) | rfl)); apply run_step rfl; (exact stp_assign rfl rfl); refine run_nil ?_)
          exact fin_round (g + 1, (O, M)) ⟨hgn, hst.trans hv⟩ (by show ng - (g + 1) < ng - g; omega) (Wk.of ⟨rfl, rfl, rfl, rfl, rfl, rfl, trivial⟩ ⟨rfl, rfl, rfl, rfl, rfl, rfl, trivial⟩ trivial)
      · obtain rfl : g = ng := by omega
        (refine goes_exit ?_; refine fin_exit_then ?_; refine fin_exit_then ?_; refine fin_exit_eq ?_; refine fin_block ?_; refine fin_seq ?_; refine goes_region ?_; apply run_step rfl; (exact stp_move rfl rfl); apply run_step rfl; (exact stp_add rfl rfl rfl (by first | exact IntWalk.i64_in _ (by omega) | rfl)); apply run_step rfl; (exact stp_assign rfl rfl); refine run_nil ?_)
        exact fin_round (i + 1, (O, M)) ⟨hiO, tok, by rw [← hfin, hfo]; show tabLoop _ _ _ (less.length + 1 - (i + 1)) _ _ = _; rw [show less.length + 1 - (i + 1) = less.length - i by omega]⟩ (by show less.length + 1 - (i + 1) < less.length + 1 - i; omega) (Wk.of ⟨rfl, rfl, rfl, rfl, rfl, trivial⟩ ⟨rfl, rfl, rfl, rfl, rfl, rfl, trivial⟩ trivial)
    · have hio : i = O.length := by omega
      have hOM : numbered ng im less = (O, M) := by
        rw [← hnum, show less.length + 1 - i = (less.length - i) + 1 by omega, tabLoop, if_neg (by show ¬ i < O.length; omega)]
      have hML : M.length = less.length := htok.len
      have htb := tableC_row ng im less
      rw [hOM] at htb
      dsimp only at htb
      rw [htb]
      clear hnum h htb hio hi
      (refine goes_exit ?_; refine fin_exit_then ?_; refine fin_exit_then ?_; refine fin_exit_eq ?_; refine fin_seq ?_; refine goes_seq ?_; refine goes_region ?_; apply run_step rfl; (exact stp_lit0R (E := 49) (F := 2) rfl (by as_aux_lemma => kernel_rfl)); apply run_step rfl; (exact stp_assign rfl rfl); refine run_nil ?_; refine fin_seq ?_; refine goes_seq ?_; refine goes_seq ?_; refine goes_region ?_; apply run_step rfl; (exact stp_assign rfl rfl); refine run_nil ?_; refine fin_seq ?_; refine goes_block ?_)
      refine goes_loop (fun g : Nat => St.of [(2, o1 (.ptr 2 0)), (6, o1 (.ptr 6 0)), (7, o1 (.sl 22 0 O.length)), (8, o1 (.sl 26 0 less.length)), (13, o1 (.sl 69 0 g)), (14, vv (I6 g))] [(1000, imOw im), (1001, leOw less), (2, ⟨true, 72, 2, .flat [.val (I6 ng), .sl 1003 0 R]⟩), (6, ⟨true, 185, 3, .flat [.sl 1000 0 less.length, .sl 1001 0 less.length, .val (.bool false)]⟩), (22, leOw O), (26, leOw M), (69, imOw ((List.range g).map fun g => (List.range O.length).map (tabC im less (O, M) g)))])
        (fun g => g ≤ ng) (fun g => ng - g) 0 (Nat.zero_le _) (Wk.of ⟨rfl, rfl, rfl, rfl, rfl, rfl, trivial⟩ ⟨rfl, rfl, rfl, rfl, rfl, rfl, rfl, trivial⟩ trivial) ?_
      intro g hg
      (refine goes_seq ?_; refine goes_seq ?_; refine goes_region ?_; apply run_step rfl; (exact stp_move rfl rfl); apply run_step rfl; (exact stp_fieldAddr (d := 0) rfl rfl rfl (by as_aux_lemma => kernel_rfl)); apply run_step rfl; (exact stp_loadF rfl (by as_aux_lemma => kernel_rfl) rfl rfl rfl rfl); apply run_step rfl; (exact stp_bin rfl rfl rfl rfl); refine run_nil ?_; refine fin_seq ?_)
      refine goes_if rfl (fun h2 => ?_) (fun h2 => ?_)
      · have hgn : g < ng := by omega
        (refine goes_skip ?_; refine fin_seq ?_; refine goes_seq ?_; refine goes_block ?_; refine goes_seq ?_; refine goes_region ?_; apply run_step rfl; (exact stp_lit0 (E := 2) (k := 1) rfl (by as_aux_lemma => kernel_rfl)); apply run_step rfl; (exact stp_assign rfl rfl); refine run_nil ?_; refine fin_seq ?_; refine goes_seq ?_; refine goes_seq ?_; refine goes_region ?_; apply run_step rfl; (exact stp_assign rfl rfl); refine run_nil ?_; refine fin_seq ?_; refine goes_block ?_)
        refine goes_loop (fun k : Nat => St.of [(2, o1 (.ptr 2 0)), (6, o1 (.ptr 6 0)), (7, o1 (.sl 22 0 O.length)), (8, o1 (.sl 26 0 less.length)), (13, o1 (.sl 69 0 g)), (14, vv (I6 g)), (15, o1 (.sl 76 0 k)), (16, vv (I6 k))] [(1000, imOw im), (1001, leOw less), (2, ⟨true, 72, 2, .flat [.val (I6 ng), .sl 1003 0 R]⟩), (6, ⟨true, 185, 3, .flat [.sl 1000 0 less.length, .sl 1001 0 less.length, .val (.bool false)]⟩), (22, leOw O), (26, leOw M), (69, imOw ((List.range g).map fun g => (List.range O.length).map (tabC im less (O, M) g))), (76, leOw ((List.range k).map (tabC im less (O, M) g)))])
          (fun k => k ≤ O.length) (fun k => O.length - k) 0 (Nat.zero_le _) (Wk.of ⟨rfl, rfl, rfl, rfl, rfl, rfl, rfl, rfl, trivial⟩ ⟨rfl, rfl, rfl, rfl, rfl, rfl, rfl, rfl, trivial⟩ trivial) ?_
        intro k hk
        (refine goes_seq ?_; refine goes_seq ?_; refine goes_region ?_; apply run_step rfl; (exact stp_move rfl rfl); apply run_step rfl; (exact stp_move rfl rfl); apply run_step rfl; (exact stp_len rfl rfl rfl (by as_aux_lemma => kernel_rfl)); apply run_step rfl; (exact stp_bin rfl rfl rfl rfl); refine run_nil ?_; refine fin_seq ?_)
        refine goes_if rfl (fun h3 => ?_) (fun h3 => ?_)
        · have hkO : k < O.length := by omega
          obtain ⟨d, hd1, hd2, hd3, -⟩ := htok.live k hkO
          dsimp only at hd1
          obtain ⟨e, he1, he2, _⟩ := hF.image hd2 hd3 hgn
          have hI := l11Image_fc im less less.length less.length d g false him rfl hF.wf.down (by omega) (by rw [hF.wf.row d (by omega)]; exact hgn) (hF.wf.ent d g (by omega) hgn)
          rw [he1] at hI
          have hget : (ivals O)[k]? = some (I6 (d : Int)) := by rw [ivals_get hkO, hd1]
          have htc : tabC im less (O, M) g k = iget M e := by unfold tabC; dsimp only; rw [hd1, Int.toNat_natCast, he1, Int.toNat_natCast]
          have hkl : ((List.range k).map (tabC im less (O, M) g)).length = k := by simp
          (refine goes_skip ?_; refine fin_seq ?_; refine goes_seq ?_; refine goes_block ?_)
          apply goes_draw 12 [] [[], [], [], [], [], [3, 4], [3, 4, 5], [], [2, 3, 4, 5, 6, 7], [1, 2, 3, 4, 5, 6, 7, 8], [1, 2, 3, 4, 5, 6, 7, 8, 9], [1, 2, 3, 4, 5, 6, 7, 8, 9, 10], [0, 1, 2, 3, 4, 5, 6, 7, 8, 9, 10, 11], [0, 1, 2, 3, 4, 5, 6, 7, 8, 9, 10, 11, 12]] [83, 84, 85, 86, 87, 88, 89, 90, 91, 92, 93, 94] [94] (by kernel_rfl) (by kernel_rfl)
          · (apply draw_put rfl; (intro S1 hS; exact stp_move rfl (hS.op rfl)); apply draw_put rfl; (intro S1 hS; exact stp_move rfl (hS.op rfl)); apply draw_put rfl; (intro S1 hS; exact stp_loadAgg rfl (hS.op rfl) (hS.ch _ _ rfl) rfl rfl rfl (by as_aux_lemma => kernel_rfl)); apply draw_put rfl; (intro S1 hS; exact stp_move rfl (hS.op rfl)); apply draw_put rfl; (intro S1 hS; exact stp_move rfl (hS.op rfl)); apply draw_put rfl; (intro S1 hS; exact stp_ix rfl (hS.op rfl) (hS.op rfl) (hS.ch _ _ rfl) rfl (by as_aux_lemma => kernel_rfl) (by first | rfl | exact (Int.toNat_of_nonneg (by omega)).symm) (by first | assumption | omega | (simp; omega)) (by first | exact Nat.le_refl _ | exact Nat.le_of_eq (ivals_len _).symm | exact Nat.le_of_eq (irows_len _).symm | (refine Nat.le_trans ?_ (Nat.le_of_eq (ivals_len _).symm); (first | omega | (simp; done) | (simp; omega))) | (refine Nat.le_trans ?_ (Nat.le_of_eq (irows_len _).symm); (first | omega | (simp; done) | (simp; omega))))); apply draw_put rfl; (intro S1 hS; exact stp_loadV rfl (by as_aux_lemma => kernel_rfl) (hS.op rfl) (hS.ch _ _ rfl) rfl (by first | assumption | exact ivals_get (by assumption) | exact irows_get (by assumption) | exact ivals_get (by omega) | exact irows_get (by omega) | rfl)); apply draw_put rfl; (intro S1 hS; exact stp_move rfl (hS.op rfl)); (apply draw_put rfl; (focus (intro S1 hS; apply call_gate 198; exact stp_callR hI (by as_aux_lemma => kernel_rfl) rfl (opL_le hS rfl) ⟨⟨.inl rfl, .inl rfl, .inl rfl, trivial⟩, rfl, rfl, trivial⟩ (allIn_le hS ⟨⟨_, rfl, .inr rfl⟩, ⟨_, rfl, .inr rfl⟩, trivial⟩) rfl rfl))); apply draw_put rfl; (intro S1 hS; exact stp_ix rfl (hS.op rfl) (hS.op rfl) (hS.ch _ _ rfl) rfl (by as_aux_lemma => kernel_rfl) (by first | rfl | exact (Int.toNat_of_nonneg (by omega)).symm) (by first | assumption | omega | (simp; omega)) (by first | exact Nat.le_refl _ | exact Nat.le_of_eq (ivals_len _).symm | exact Nat.le_of_eq (irows_len _).symm | (refine Nat.le_trans ?_ (Nat.le_of_eq (ivals_len _).symm); (first | omega | (simp; done) | (simp; omega))) | (refine Nat.le_trans ?_ (Nat.le_of_eq (irows_len _).symm); (first | omega | (simp; done) | (simp; omega))))); apply draw_put rfl; (intro S1 hS; exact stp_loadV rfl (by as_aux_lemma => kernel_rfl) (hS.op rfl) (hS.ch _ _ rfl) rfl (by first | assumption | exact ivals_get (by assumption) | exact irows_get (by assumption) | exact ivals_get (by omega) | exact irows_get (by omega) | rfl)); apply draw_new rfl; (intro S1 hS; exact stp_lit1I (E := 2) rfl (by as_aux_lemma => kernel_rfl) (hS.op rfl)); exact Draw.nil)
          · rfl
          ((apply rest_one 12 rfl (by as_aux_lemma => kernel_rfl) rfl rfl; (exact stp_appI rfl (by as_aux_lemma => kernel_rfl) rfl rfl rfl (by first | rfl | assumption | (simp; done)) rfl rfl (by omega))); (apply rest_one 13 rfl (by as_aux_lemma => kernel_rfl) rfl rfl; (exact stp_assign rfl rfl)); (refine rest_done (by as_aux_lemma => kernel_rfl) ?_; skip))
          (refine fin_block ?_; refine fin_seq ?_; refine goes_region ?_; apply run_step rfl; (exact stp_move rfl rfl); apply run_step rfl; (exact stp_add rfl rfl rfl (by first | exact IntWalk.i64_in _ (by omega) | rfl)); apply run_step rfl; (exact stp_assign rfl rfl); refine run_nil ?_)
          exact fin_round (k + 1) hkO (by omega) (Wk.of ⟨rfl, rfl, rfl, rfl, rfl, rfl, rfl, rfl, trivial⟩ ⟨rfl, rfl, rfl, rfl, rfl, rfl, rfl, by rw [List.range_succ, List.map_append, List.map_singleton, htc]; rfl, trivial⟩ trivial)
        · obtain rfl : k = O.length := by omega
          have hgl : ((List.range g).map fun g => (List.range O.length).map (tabC im less (O, M) g)).length = g := by simp
          have hkl : ((List.range O.length).map (tabC im less (O, M) g)).length = O.length := by simp
          (refine goes_exit ?_; refine fin_exit_then ?_; refine fin_exit_then ?_; refine fin_exit_eq ?_; refine fin_seq ?_; refine goes_region ?_; apply run_step rfl; (exact stp_move rfl rfl); apply run_step rfl; (exact stp_move rfl rfl); apply run_step rfl; (exact stp_lit1 (E := 49) rfl (by as_aux_lemma => kernel_rfl) rfl rfl rfl); apply run_step rfl; (exact stp_appR rfl (by as_aux_lemma => kernel_rfl) rfl rfl (by first | rfl | assumption | (simp; done)) rfl rfl rfl (by first | rfl | assumption | (simp; done)) rfl (by omega)); apply run_step rfl; (exact stp_assign rfl rfl); refine run_nil ?_; refine fin_block ?_; refine fin_seq ?_; refine goes_region ?_; apply run_step rfl; (exact stp_move rfl rfl); apply run_step rfl; (exact stp_add rfl rfl rfl (by first | exact IntWalk.i64_in _ (by omega) | rfl)); apply run_step rfl; (exact stp_assign rfl rfl); refine run_nil ?_)
          exact fin_round (g + 1) hgn (by omega) (Wk.of ⟨rfl, rfl, rfl, rfl, rfl, rfl, trivial⟩ ⟨rfl, rfl, rfl, rfl, rfl, rfl, by rw [List.range_succ (n := g), List.map_append]; rfl, trivial⟩ trivial)
      · obtain rfl : g = ng := by omega
        (refine goes_exit ?_; refine fin_exit_then ?_; refine fin_exit_then ?_; refine fin_exit_eq ?_; refine fin_seq ?_; refine goes_seq ?_; refine goes_region ?_; apply run_step rfl; (exact stp_move rfl rfl); apply run_step rfl; (exact stp_assign rfl rfl); apply run_step rfl; (exact stp_assign rfl rfl); refine run_nil ?_; refine fin_seq ?_; refine goes_ret ?_)
        exact fin_ret2 (.inl rfl) rfl (.tmp rfl) (.tmp rfl) ⟨rfl, trivial⟩ trivial
end Go.Proofs.Ytpognnifgcacnaa

/- A memory of names: a region that draws, with several operations free to come at any time. No program in sight. -/
namespace Go.Proofs.Ytpognnifgcacnaa
open Go.RowKit

section
variable {P : Program} {nt : Nat} {S S1 : St} {w0 w : World} {ω0 : Beg} {ω : Own?} {η : Env} {a : Act} {Q : Exit → Act → World → Prop}

def AllSubs : List Nat → (List Nat → Prop) → Prop
  | [], p => p []
  | f :: r, p => AllSubs r p ∧ AllSubs r (fun ks => p (f :: ks))
theorem AllSubs.filter {q : Nat → Bool} : ∀ {fs : List Nat} {p : List Nat → Prop}, AllSubs fs p → p (fs.filter q)
  | [], p, h => h
  | f :: r, p, h => by
    rw [List.filter_cons]
    split
    · exact AllSubs.filter (p := fun ks => p (f :: ks)) h.2
    · exact AllSubs.filter (p := p) h.1
theorem AllSubs.map {p p' : List Nat → Prop} (h : ∀ ks, p ks → p' ks) : ∀ {fs : List Nat}, AllSubs fs p → AllSubs fs p'
  | [], k => h _ k
  | _ :: _, k => ⟨AllSubs.map h k.1, AllSubs.map (fun ks => h _) k.2⟩
theorem missing_apps {sk : List Nat} {L : Array Bool} {nA : Nat} : ∀ {ks : List Nat}, ks.Nodup → (∀ f ∈ ks, f < nA ∧ memN sk f = false ∧ L.getD f false = false) → missing sk L nA = missing (ks ++ sk) L nA + ks.length
  | [], _, _ => rfl
  | f :: r, hn, h => by
    have h1 := missing_apps (sk := sk) (L := L) (nA := nA) (ks := r) (List.nodup_cons.1 hn).2 fun g hg => h g (by simp [hg])
    have h2 := h f (by simp)
    have h3 : memN (r ++ sk) f = false := by
      cases hb : memN (r ++ sk) f with
      | false => rfl
      | true =>
        exfalso
        rcases List.mem_append.1 (memN_iff.1 hb) with h4 | h4
        · exact (List.nodup_cons.1 hn).1 h4
        · rw [memN_iff.2 h4] at h2; exact absurd h2.2.1 (by simp)
    have := missing_le_cons (sk := r ++ sk) (L := L) f h2.2.2 h3 nA h2.1
    rw [h1, this, List.cons_append, List.length_cons]; omega

def clsLB (ops : Array Oper) (nA : Nat) (sk : List Nat) (fs : List Nat) (cls : List (List Nat)) : Bool :=
  Nat.ble nA ops.size && (List.range ops.size).all fun i => match ops[i]? with
    | some o => (Nat.ble nA i || memN sk i || o.after.all fun e => !Region.binds .any e || (Nat.blt e.on i && !memN sk e.on)) && ((cls.getD i []).all fun j => o.after.any fun e => Region.binds .any e && (Nat.beq j e.on || memN (cls.getD e.on []) j)) &&
        ((Nat.blt i nA && !memN sk i) || (List.range nA).all fun j => memN fs j || memN sk j || memN (cls.getD i []) j) && (Nat.ble nA i || (cls.getD i []).all fun j => Nat.blt j i)
    | none => true
structure ClsLOK (ops : Array Oper) (nA : Nat) (sk : List Nat) (fs : List Nat) (cls : List (List Nat)) : Prop where
  size : nA ≤ ops.size
  less : ∀ i o, ops[i]? = some o → i < nA → memN sk i = false → ∀ e ∈ o.after, Region.binds .any e = true → e.on < i ∧ memN sk e.on = false
  dep : ∀ i o, ops[i]? = some o → ∀ j ∈ cls.getD i [], ∃ e ∈ o.after, Region.binds .any e = true ∧ (j = e.on ∨ j ∈ cls.getD e.on [])
  late : ∀ i o, ops[i]? = some o → (nA ≤ i ∨ memN sk i = true) → ∀ j, j < nA → memN sk j = false → memN fs j = false → j ∈ cls.getD i []
  lt : ∀ i o, ops[i]? = some o → i < nA → ∀ j ∈ cls.getD i [], j < i
theorem clsLB_spec {ops : Array Oper} {nA : Nat} {sk : List Nat} {fs : List Nat} {cls : List (List Nat)} (h : clsLB ops nA sk fs cls = true) : ClsLOK ops nA sk fs cls := by
  unfold clsLB at h
  simp only [Bool.and_eq_true, Nat.ble_eq] at h
  obtain ⟨h0, h⟩ := h
  have key : ∀ i o, ops[i]? = some o → _ := fun i o ho => by
    have hi : i < ops.size := (Array.getElem?_eq_some_iff.1 ho).1
    have h1 := List.all_eq_true.1 h i (List.mem_range.2 hi)
    simp only [ho, Bool.and_eq_true, Bool.or_eq_true] at h1
    exact h1
  refine ⟨h0, fun i o ho hi hsk e he hb => ?_, fun i o ho j hj => ?_, fun i o ho hi j hj hsk hf => ?_, fun i o ho hi j hj => ?_⟩
  · rcases (key i o ho).1.1.1 with (h1 | h1) | h1
    · have := Nat.le_of_ble_eq_true h1; omega
    · rw [hsk] at h1; cases h1
    · have := Array.all_eq_true_iff_forall_mem.1 h1 e he
      simp [hb] at this; exact this
  · have := List.all_eq_true.1 (key i o ho).1.1.2 j hj
    obtain ⟨e, he, h2⟩ := Array.any_eq_true'.1 this
    simp only [Bool.and_eq_true, Bool.or_eq_true] at h2
    exact ⟨e, he, h2.1, h2.2.imp (fun h => beq_true h) (fun h => memN_iff.1 h)⟩
  · rcases (key i o ho).1.2 with h1 | h1
    · exfalso
      have h2 : i < nA := by simpa using h1.1
      have h3 : memN sk i = false := by simpa using h1.2
      rcases hi with h4 | h4
      · omega
      · rw [h3] at h4; cases h4
    · have h2 := List.all_eq_true.1 h1 j (List.mem_range.2 hj)
      simp only [Bool.or_eq_true, hsk, hf, Bool.false_eq_true, false_or] at h2
      exact memN_iff.1 h2
  · rcases (key i o ho).2 with h1 | h1
    · have := Nat.le_of_ble_eq_true h1; omega
    · exact (by have := List.all_eq_true.1 h1 j hj; simpa using this)

theorem draw_mainL {l : List Oper} {nA : Nat} {sk : List Nat} {cls : List (List Nat)} {ds nms : List Nat} {adds done : List Add} {fs : List Nat} (hfn : fs.Nodup) (hfs : ∀ f ∈ fs, f < nA ∧ memN sk f = false) (hcl : ClsLOK l.toArray nA sk fs cls) (hdr : Draw P nt (S.clear ds nms) cls sk (l.take nA) [] done) (hdn : done.reverse = adds) (ok : AddsOK adds cls ds nms)
    (hk : AllSubs fs fun ks => Rest P w0 ω0 nt l.toArray Q (l.length - missing (ks ++ sk) #[] nA) (doneL nA (ks ++ sk) l.length) ((S.clear ds nms).part (fun j => !memN (ks ++ sk) j) adds)) :
    ∀ (d : Nat) (L : Array Bool) (a : Act) (w : World), missing sk L nA = d → L.size = l.length → (∀ j, L.getD j false = true → j < nA ∧ memN sk j = false) → (∀ i, L.getD i false = true → ∀ j ∈ cls.getD i [], L.getD j false = true) →
      Sat w0 ω0 nt ((S.clear ds nms).part (fun j => L.getD j false) adds) a w → wpAny P .any l.toArray Q (l.length - missing sk #[] nA + d) L a w := by
  have hsz : nA ≤ l.length := by have := hcl.size; simpa using this
  obtain ⟨⟨r, hr, hrl⟩, hob⟩ := hdr.spec
  rw [hdn] at hr hob
  have hal : adds.length = nA := by rw [hr]; simp [hrl]; omega
  have hfull : ∀ (L : Array Bool) (i : Nat), i ∈ Region.ready .any l.toArray L → (∀ i, L.getD i false = true → ∀ j ∈ cls.getD i [], L.getD j false = true) → (∃ o, l.toArray[i]? = some o ∧ L.getD i true = false) ∧ ∀ j ∈ cls.getD i [], L.getD j false = true := by
    intro L i hi hclosed
    obtain ⟨h0, o, ho, he⟩ := mem_ready.1 hi
    refine ⟨⟨o, ho, h0⟩, fun j hj => ?_⟩
    obtain ⟨e, hem, hb, hje⟩ := hcl.dep i o ho j hj
    have h1 := he e hem hb
    rcases hje with rfl | hje
    · exact h1
    · exact hclosed e.on h1 j hje
  have stop : ∀ (L : Array Bool) (a : Act) (w : World), L.size = l.length → (∀ j, L.getD j false = true → j < nA ∧ memN sk j = false) → missing (fs ++ sk) L nA = 0 → Sat w0 ω0 nt ((S.clear ds nms).part (fun j => L.getD j false) adds) a w → wpAny P .any l.toArray Q (l.length - missing sk #[] nA + missing sk L nA) L a w := by
    intro L a w hs hsub h0 hsat
    have hall := missing_zero h0
    obtain ⟨ks, hks⟩ : ∃ ks, fs.filter (fun f => !L.getD f false) = ks := ⟨_, rfl⟩
    have hkn : ks.Nodup := by rw [← hks]; exact hfn.filter _
    have hkm : ∀ f, f ∈ ks ↔ f ∈ fs ∧ L.getD f false = false := fun f => by rw [← hks]; simp
    have hk1 : ∀ f ∈ ks, f < nA ∧ memN sk f = false ∧ L.getD f false = false := fun f hf => ⟨(hfs f ((hkm f).1 hf).1).1, (hfs f ((hkm f).1 hf).1).2, ((hkm f).1 hf).2⟩
    have hdone : ∀ j, j < nA → memN (ks ++ sk) j = false → L.getD j false = true := fun j hj hsk => by
      cases hb : L.getD j false with
      | true => rfl
      | false =>
        exfalso
        have h1 : memN (fs ++ sk) j = true := by
          cases h2 : memN (fs ++ sk) j with
          | true => rfl
          | false => rw [hall j hj h2] at hb; cases hb
        rcases List.mem_append.1 (memN_iff.1 h1) with h3 | h3
        · have : j ∈ ks ++ sk := List.mem_append.2 (.inl ((hkm j).2 ⟨h3, hb⟩))
          rw [memN_iff.2 this] at hsk; cases hsk
        · have : j ∈ ks ++ sk := List.mem_append.2 (.inr h3)
          rw [memN_iff.2 this] at hsk; cases hsk
    have hL : L = doneL nA (ks ++ sk) l.length := by
      apply Array.ext
      · simp [hs, doneL]
      · intro j h1 h2
        have h3 : L[j]? = some L[j] := Array.getElem?_eq_getElem h1
        have h4 := doneL_at (nA := nA) (sk := ks ++ sk) (n := l.length) (j := j) (by omega)
        rw [Array.getElem?_eq_getElem h2] at h4
        rw [Option.some.inj h4]
        cases hb : L[j] with
        | true =>
          have hb' : L.getD j false = true := by simp [h1, hb]
          have := hsub j hb'
          have hnk : memN (ks ++ sk) j = false := by
            cases h5 : memN (ks ++ sk) j with
            | false => rfl
            | true =>
              exfalso
              rcases List.mem_append.1 (memN_iff.1 h5) with h6 | h6
              · rw [((hkm j).1 h6).2] at hb'; cases hb'
              · rw [memN_iff.2 h6] at this; exact absurd this.2 (by simp)
          simp [this.1, hnk]
        | false =>
          by_cases hj : j < nA
          · cases hsk : memN (ks ++ sk) j with
            | true => simp
            | false =>
              have := hdone j hj hsk
              simp [h1, hb] at this
          · simp [hj]
    have hm1 := missing_apps (L := L) hkn hk1
    have hm2 := missing_apps (sk := sk) (L := #[]) (nA := nA) hkn fun f hf => ⟨(hk1 f hf).1, (hk1 f hf).2.1, rfl⟩
    have hm0 : missing (ks ++ sk) L nA = 0 := missing_full hdone
    have hmn := missing_le (sk := sk) (L := #[]) nA
    have e : l.length - missing (ks ++ sk) #[] nA = l.length - missing sk #[] nA + missing sk L nA := by omega
    rw [← e]
    have hkk := AllSubs.filter (q := fun f => !L.getD f false) hk
    rw [hks] at hkk
    refine hkk.go a w ((St.le.wk (part_le (ℓ1 := fun j => !memN (ks ++ sk) j) (ℓ2 := fun j => L.getD j false) ok (fun _ _ h => h) fun j A hj hsk => ?_) fun _ _ h => h).go _ _ _ a w hsat) |> fun h => by rw [← hL] at h; exact h
    have hjl : j < adds.length := (List.getElem?_eq_some_iff.1 hj).1
    exact hdone j (by omega) (by simpa using hsk)
  intro d
  induction d with
  | zero =>
    intro L a w hm hs hsub hclosed hsat
    have h0 : missing (fs ++ sk) L nA = 0 := missing_full fun j hj hsk => missing_zero hm j hj (by
      cases h5 : memN sk j with
      | false => rfl
      | true => rw [memN_iff.2 (List.mem_append.2 (.inr (memN_iff.1 h5)))] at hsk; cases hsk)
    have := stop L a w hs hsub h0 hsat
    rw [hm] at this; exact this
  | succ d ih =>
    intro L a w hm hs hsub hclosed hsat
    by_cases h0 : missing (fs ++ sk) L nA = 0
    · have := stop L a w hs hsub h0 hsat
      rw [hm] at this; exact this
    refine ⟨fun hnil => ?_, fun i hi => ?_⟩
    · exfalso
      obtain ⟨j, hj, hjs', hjf, hlo⟩ := missing_least (k := nA) (by omega : missing sk L nA ≠ 0)
      have hjl : j < l.length := by omega
      have hjs : j < L.size := by omega
      have : j ∈ Region.ready .any l.toArray L := by
        refine mem_ready.2 ⟨?_, l[j], by simp [hjl], fun e he hb => ?_⟩
        · simp [hjs] at hjf ⊢
          exact hjf
        · have h5 := hcl.less j l[j] (by simp [hjl]) hj hjs' e he hb
          exact hlo e.on h5.1 h5.2
      rw [hnil] at this; cases this
    · obtain ⟨⟨o, ho, hi0⟩, hdep⟩ := hfull L i hi hclosed
      have hil : i < l.length := by have := (Array.getElem?_eq_some_iff.1 ho).1; simpa using this
      have his : i < L.size := by omega
      have hif : L.getD i false = false := by simp [his] at hi0 ⊢; exact hi0
      have hnl : ¬ (nA ≤ i ∨ memN sk i = true) := fun h => by
        refine h0 (missing_full (sk := fs ++ sk) (L := L) (k := nA) fun j hj hsk => ?_)
        have h5 : memN fs j = false ∧ memN sk j = false := by
          constructor
          · cases h6 : memN fs j with
            | false => rfl
            | true => rw [memN_iff.2 (List.mem_append.2 (.inl (memN_iff.1 h6)))] at hsk; cases hsk
          · cases h6 : memN sk j with
            | false => rfl
            | true => rw [memN_iff.2 (List.mem_append.2 (.inr (memN_iff.1 h6)))] at hsk; cases hsk
        exact hdep j (hcl.late i o ho h j hj h5.2 h5.1)
      have hiA : i < nA := by
        rcases Nat.lt_or_ge i nA with h | h
        · exact h
        · exact absurd (.inl h) hnl
      have hisk : memN sk i = false := by
        cases hsk : memN sk i with
        | false => rfl
        | true => exact absurd (.inr hsk) hnl
      have hot : (l.take nA)[i]? = some o := by rw [List.getElem?_take, if_pos hiA]; simpa using ho
      obtain ⟨A, hA, hg, hstp⟩ := hob i o hot (by simpa using hisk)
      simp only [List.length_nil, Nat.zero_add] at hA hstp
      have hle : ((S.clear ds nms).partR (memN (cls.getD i [])) (adds.take i).reverse).le ((S.clear ds nms).part (fun j => L.getD j false) adds) := partR_le ok (fun j B hj => by
          rw [List.reverse_reverse] at hj
          rw [List.getElem?_take] at hj; split at hj
          · exact hj
          · cases hj) fun j B _ hj => hdep j (memN_iff.1 hj)
      have hst := (hstp _ hle).go w0 ω0 a w Q hsat
      unfold wpOp
      simp only [ho]
      rw [if_pos (by simp [Region.wanted, hg])]
      refine .inl (Oper.wp_mono (fun a' w' hsat' => ?_) hst)
      have hsat2 := (wk_add ok hA hif fun j hj hm' => by have := hclosed j hj i hm'; rw [hif] at this; cases this).go _ _ _ a' w' hsat'
      have hnew : ∀ j, (L.setIfInBounds i true).getD j false = (Nat.beq j i || L.getD j false) := fun j => by
        by_cases e : j = i
        · subst e; simp [his]
        · rw [getD_set_ne false (fun e' => e e'.symm), beq_ne e, Bool.false_or]
      refine ih (L.setIfInBounds i true) a' w' ?_ (by simp [hs]) (fun j hj => ?_) (fun j hj k hk' => ?_) ?_
      · have := missing_set his hif hisk nA hiA; omega
      · rw [hnew] at hj
        by_cases e : j = i
        · rw [e]; exact ⟨hiA, hisk⟩
        · rw [beq_ne e, Bool.false_or] at hj; exact hsub j hj
      · rw [hnew] at hj ⊢
        by_cases e : j = i
        · subst e; rw [hdep k hk']; simp
        · rw [beq_ne e, Bool.false_or] at hj; rw [hclosed j hj k hk']; simp
      · have : (fun j => (L.setIfInBounds i true).getD j false) = fun j => (Nat.beq j i || L.getD j false) := funext hnew
        rw [this]; exact hsat2

theorem goes_drawL {id : Nat} {l : List Oper} (nA : Nat) (sk : List Nat) (fs : List Nat) (cls : List (List Nat)) (ds nms : List Nat) {done : List Add} (hm : P.follows .mixedOrders = true) (hcl : clsLB l.toArray nA sk fs cls = true) (hf' : (nodupB fs && fs.all fun f => Nat.blt f nA && !memN sk f) = true) (hdr : Draw P nt (S.clear ds nms) cls sk (l.take nA) [] done) (ok : addsB done.reverse cls ds nms = true)
    (hk : AllSubs fs fun ks => Rest P w0 ω0 nt l.toArray Q (l.length - missing (ks ++ sk) #[] nA) (doneL nA (ks ++ sk) l.length) ((S.clear ds nms).partR (fun j => !memN (ks ++ sk) j) done)) : Goes P w0 ω0 nt S (.region id l.toArray true) Q := by
  have hc := clsLB_spec hcl
  have hsz : nA ≤ l.length := by have := hc.size; simpa using this
  have hk' := AllSubs.map (p' := fun ks => Rest P w0 ω0 nt l.toArray Q (l.length - missing (ks ++ sk) #[] nA) (doneL nA (ks ++ sk) l.length) ((S.clear ds nms).part (fun j => !memN (ks ++ sk) j) done.reverse)) (fun ks hk =>
    ⟨fun a w hs => hk.go a w ((St.le.wk (partR_le (addsB_spec ok) (fun _ _ h => h) fun _ _ _ h => h) fun _ _ h => h).go _ _ _ a w hs)⟩) hk
  have hfn : fs.Nodup := by simp only [Bool.and_eq_true] at hf'; exact nodupB_spec hf'.1
  have hfs : ∀ f ∈ fs, f < nA ∧ memN sk f = false := fun f hf => by
    simp only [Bool.and_eq_true] at hf'
    have := List.all_eq_true.1 hf'.2 f hf
    simpa using this
  have hle : ∀ k, missing sk #[] k ≤ k := fun k => by
    induction k with
    | zero => exact Nat.le_refl _
    | succ k ih => simp only [missing]; split <;> omega
  refine ⟨fun a w hs => wp_region_any hm ?_⟩
  have hfin := draw_mainL hfn hfs hc hdr rfl (addsB_spec ok) hk' (missing sk #[] nA) (Array.replicate l.length false) a { w with drawn := w.drawn + 1 } ?_ (by simp) (fun j hj => ?_) (fun i hi => ?_) ?_
  · have := hle nA
    rw [show l.length - missing sk #[] nA + missing sk #[] nA = l.length by omega] at hfin
    simpa using hfin
  · have : ∀ k, k ≤ l.length → missing sk (Array.replicate l.length false) k = missing sk #[] k := fun k => by
      induction k with
      | zero => intro _; rfl
      | succ k ih =>
        intro hk
        simp only [missing]
        rw [ih (by omega)]
        have : (Array.replicate l.length false).getD k false = false := by simp [show k < l.length by omega]
        rw [this]; rfl
    exact this nA hsz
  · exfalso
    by_cases h : j < l.length
    · simp [h] at hj
    · simp [h] at hj
  · exfalso
    by_cases h : i < l.length
    · simp [h] at hi
    · simp [h] at hi
  · have h1 := (wk_clear S ds nms).go _ _ _ a _ (sat_drew hs)
    have hf : ∀ j, (Array.replicate l.length false).getD j false = false := fun j => by
      by_cases h : j < l.length <;> simp [h]
    refine (Wk.less (S := S.clear ds nms) (S' := (S.clear ds nms).part (fun j => (Array.replicate l.length false).getD j false) done.reverse) (fun t av h => ?_) (fun x c h => ?_) fun _ _ h => h).go _ _ _ a _ h1
    · have h : (match lkT (fun j => (Array.replicate l.length false).getD j false) 0 done.reverse t with | some av => some av | none => (S.clear ds nms).sl t) = some av := h
      split at h
      · rename_i av' h2
        obtain ⟨j, A, _, h3, _⟩ := lkT_some h2
        rw [hf] at h3; cases h3
      · exact h
    · have h : (match lkN (fun j => (Array.replicate l.length false).getD j false) 0 done.reverse x with | some c => some c | none => (S.clear ds nms).ch x) = some c := h
      split at h
      · rename_i av' h2
        obtain ⟨j, A, _, h3, _⟩ := lkN_some h2
        rw [hf] at h3; cases h3
      · exact h


end
end Go.Proofs.Ytpognnifgcacnaa

/- From contracts in names to contracts in words (RdS, OwSS, ..), and back. No program in sight. -/
namespace Go.Proofs.Ytpognnifgcacnaa
open Go.RowKit

/-- nobody's blocks -/
def noOwn : Own? := fun _ => none
/-- a chunk that is only read lies at the head h, its rows at the heads r -/
def Hv (w : World) (x : Nm) (c : Ch) (h : Hd) (r : Nat → Hd) : Prop := ∀ η : Env, (∀ i, η.r x i = r i) → ChIs η noOwn w x h c
abbrev Lay := List (Nm × (Ch × Hd × (Nat → Hd)))
def envOf (l : Lay) : Env := { h := fun x => (lk x l).map fun q => q.2.1, r := fun x i => match lk x l with | some q => q.2.2 i | none => ⟨none, 0, 1⟩ }
theorem lk_map {α β : Type} (f : α → β) : ∀ (l : List (Nat × α)) (x : Nat), lk x (l.map fun p => (p.1, f p.2)) = (lk x l).map f
  | [], x => rfl
  | p :: r, x => by
    simp only [List.map_cons, lk]
    rw [lk_map f r x]
    cases Nat.beq x p.1 <;> rfl
theorem mem_of {w : World} {l : Lay} (h : ∀ p ∈ l, Hv w p.1 p.2.1 p.2.2.1 p.2.2.2) : Mem (envOf l) noOwn w (fun x => lk x (l.map fun p => (p.1, p.2.1))) := by
  have hl : ∀ x, lk x (l.map fun p => (p.1, p.2.1)) = (lk x l).map fun q => q.1 := fun x => lk_map (fun q => q.1) l x
  refine ⟨fun x c hx => ?_, fun x hx => ?_⟩
  · replace hx := (hl x).symm.trans hx
    obtain ⟨q, hq, rfl⟩ := Option.map_eq_some_iff.1 hx
    refine ⟨q.2.1, by simp [envOf, hq], h (x, q) (lk_mem hq) _ fun i => by simp [envOf, hq]⟩
  · replace hx := (hl x).symm.trans hx
    have : lk x l = none := by simpa using hx
    simp [envOf, this]
theorem den_sl {l : Lay} {x : Nm} {q : Ch × Hd × (Nat → Hd)} {n : Nat} (h : lk x l = some q) : Den1 (envOf l) (.sl x 0 n) (.slice q.2.1.ao n q.2.1.c) :=
  ⟨⟨_, _, rfl⟩, fun h' hh => by
    have hh : (lk x l).map (fun q => q.2.1) = some h' := hh
    rw [h] at hh; simp at hh; subst hh
    exact ⟨_, rfl, fun _ => rfl, fun h0 => absurd h0 (by omega)⟩⟩

theorem ofS {E : Nat} {w : World} {v : Value} {zs : List Int} (x E' : Nat) (h : OwS E w v zs) : ∃ hd r, v = .slice hd.ao zs.length hd.c ∧ Hv w x ⟨false, E', 1, .vals (ivals zs)⟩ hd r := by
  obtain ⟨ao, n, c, rfl, ho⟩ := h
  have hl := ho.len
  simp at hl
  subst hl
  refine ⟨⟨ao, c, 1⟩, fun _ => ⟨none, 0, 1⟩, rfl, fun η _ => ⟨rfl, ?_, fun j hj => ?_⟩⟩
  · show (ivals zs).length ≤ c * 1
    rw [ivals_len, Nat.mul_one]
    rcases Nat.eq_zero_or_pos zs.length with h0 | h0
    · omega
    · obtain ⟨g, _, _, _, h1, _⟩ := ho.form h0; exact h1
  · have hj : j < zs.length := by have : j < (ivals zs).length := hj; rwa [ivals_len] at this
    obtain ⟨g, rfl, _, hlt, _, hc, _⟩ := ho.form (by omega)
    refine ⟨g, 0, I6 (iget zs j), rfl, rfl, hlt, ?_, ivals_get hj⟩
    rw [Nat.zero_add, hc j hj]
    exact ivals_get hj
theorem ofSS {E1 E : Nat} {w : World} {lo hi : Nat} {v : Value} {zss : List (List Int)} (x E' E1' : Nat) (h : OwSS E1 E w lo hi v zss) : ∃ hd r, v = .slice hd.ao zss.length hd.c ∧ Hv w x ⟨false, E', 1, .rows E1' (irows zss) []⟩ hd r := by
  obtain ⟨ao, n, c, us, rfl, ho⟩ := h
  have hl := ho.len
  subst hl
  have hr : ∀ j, ∃ q : Hd, q.k = 1 ∧ ∀ u d, us[j]? = some u → zss[j]? = some d → u = Value.slice q.ao d.length q.c ∧ ∀ (η : Env), VecR noOwn w q (ivals d).length fun i u => (ivals d)[i]? = some u := fun j => by
    by_cases hj : j < zss.length
    · obtain ⟨u, d, hu, hd, ⟨a', n', c', rfl, h1⟩, _⟩ := ho.get hj
      have hl := h1.len
      simp at hl
      subst hl
      refine ⟨⟨a', c', 1⟩, rfl, fun u2 d2 hu2 hd2 => ?_⟩
      rw [hu] at hu2; rw [hd] at hd2
      obtain rfl := Option.some.inj hu2
      obtain rfl := Option.some.inj hd2
      obtain ⟨hd', r', e1, e2⟩ := ofS x E' (⟨a', _, c', rfl, h1⟩ : OwS E1 w _ d)
      injection e1 with f1 f2 f3
      refine ⟨rfl, fun η => ?_⟩
      have e3 := e2 { h := fun _ => none, r := fun _ => r' } (fun _ => rfl)
      obtain ⟨e4, e5⟩ := e3
      have e5 : VecR noOwn w hd' (ivals d).length _ := e5
      have : hd' = ⟨a', c', 1⟩ := by
        cases hd'; simp at f1 f3 e4; simp [f1, f3, e4]
      subst this
      exact e5
    · refine ⟨⟨none, 0, 1⟩, rfl, fun u d _ hd => ?_⟩
      rw [List.getElem?_eq_none (by omega)] at hd; cases hd
  refine ⟨⟨ao, c, 1⟩, fun j => Classical.choose (hr j), rfl, fun η he => ⟨rfl, ?_, fun j hj => ?_⟩⟩
  · show (irows zss).length ≤ c * 1
    rw [irows_len, Nat.mul_one]
    rcases Nat.eq_zero_or_pos zss.length with h0 | h0
    · omega
    · obtain ⟨g, _, _, _, h1, _⟩ := ho.own.form h0; exact h1
  · have hj : j < zss.length := by have : j < (irows zss).length := hj; rwa [irows_len] at this
    obtain ⟨g, rfl, _, hlt, _, hc, _⟩ := ho.own.form (by omega)
    obtain ⟨u, d, hu, hd, h1, _⟩ := ho.get hj
    have hs := Classical.choose_spec (hr j)
    obtain ⟨k1, k2⟩ := hs.2 u d hu hd
    refine ⟨g, 0, u, rfl, rfl, hlt, by rw [Nat.zero_add, hc j hj, hu], by rw [k1]; rfl, fun _ vs hvs => ?_⟩
    have hvd : vs = ivals d := by
      have : (irows zss)[j]? = some (ivals d) := by simp [irows, hd]
      rw [this] at hvs; exact (Option.some.inj hvs).symm
    subst hvd
    rw [he j]
    exact ⟨by rw [k1, ivals_len], hs.1, k2 η⟩

/-- what a contract in names says of a call whose arguments are only read -/
theorem FC.call {P : Program} {f : FuncId} {ins outs : List (Nm × Ch)} {args : List AV} {res : AV} {back : List (Nat × AV)} (h : FC P f ins args outs res back) {w : World} {l : Lay} {us : List Value} (hl : ∀ p ∈ l, Hv w p.1 p.2.1 p.2.2.1 p.2.2.2) (hi : (l.map fun p => (p.1, p.2.1)) = ins)
    (hd : DenL (envOf l) args us) : Calls P f us.toArray w fun e w' => ∃ v η ω, e = .returned v ∧ Den η res v ∧ Mem η ω w' (fun x => lk x outs) ∧ Below w.heap.size w w' ∧ ∀ b, b < w.heap.size → ω b = none := by
  subst hi
  refine (h w (envOf l) noOwn us (mem_of hl) hd).mono ?_
  rintro e w' ⟨v, η, ω, he, h1, h2, h3, _⟩
  exact ⟨v, η, ω, he, h1, h2, ⟨h3.os, h3.tape, h3.output, h3.size, fun b hb => (h3.block b hb rfl).1⟩, fun b hb => (h3.block b hb rfl).2⟩

section
variable {η : Env} {ω : Own?} {w' : World} {lo : Nat} {outs : List (Nm × Ch)}
/-- a vector of the call's own is a row of the words -/
theorem VecO.own {ow : Nm × Option Nat} {h : Hd} {E : Nat} {xs : List Value} {len : Nat} {cell : Nat → Value → Prop} (hk : h.k = 1) (hv : VecO ω w' ow h E len cell) (hlo : ∀ b, b < lo → ω b = none) (hn : len ≤ 4398046511104) (hx : xs.length = len)
    (hc : ∀ j u, j < len → (∃ b o, h.ao = some ⟨b, o, none⟩ ∧ w'.cell? ⟨b, o + j, none⟩ = some u) → xs[j]? = some u) :
    Own w' lo E h.ao len h.c xs ∧ ∀ g, bk h.ao = some g → g < w'.heap.size ∧ ω g = some ow := by
  rcases hv with ⟨h1, h2, h3⟩ | ⟨b, o, cs, h1, h2, h3, ⟨h4, h4'⟩, h5, h6, h7⟩
  · subst h3
    refine ⟨⟨⟨by simpa using hx, .inl ⟨by rw [h1, h2], rfl⟩⟩, hn⟩, fun g hg => by rw [h1] at hg; cases hg⟩
  · subst h4
    rw [hk, Nat.mul_one] at h4' h5
    have hb : lo ≤ b := by
      rcases Nat.lt_or_ge b lo with h8 | h8
      · rw [hlo b h8] at h2; cases h2
      · exact h8
    refine ⟨⟨⟨by simpa using hx, .inr ⟨b, h.c, cs, by rw [h1], hb, h3, h5, h6, by rw [h4', Nat.mul_one], ?_⟩⟩, hn⟩, fun g hg => ?_⟩
    · apply List.ext_getElem?
      intro j
      rw [Nat.mul_one, List.getElem?_take]
      by_cases hj : j < len
      · obtain ⟨u, hu, _⟩ := h7 j hj
        rw [Nat.zero_add] at hu
        rw [if_pos hj, hc j u hj ⟨b, 0, h1, by rw [Nat.zero_add, cell_of_row w' b j cs E (0, 0) h3]; exact hu⟩]
        simpa using hu
      · rw [if_neg hj, List.getElem?_eq_none (by omega)]
    · rw [h1] at hg
      simp [bk] at hg
      subst hg
      exact ⟨lt_of_heap h3, h2⟩
theorem toSS {x E F : Nat} {zss : List (List Int)} {v : Value} (hm : Mem η ω w' (fun x => lk x outs)) (hlo : ∀ b, b < lo → ω b = none) (hx : lk x outs = some ⟨true, E, 1, .rows F (irows zss) []⟩) (hv : Den1 η (.sl x 0 zss.length) v) (hn : zss.length ≤ 4398046511104) (hr : ∀ zs ∈ zss, zs.length ≤ 4398046511104) :
    OwSS F E w' lo w'.heap.size v zss := by
  obtain ⟨h, h1, h2, h3⟩ := hm.1 x _ hx
  obtain ⟨ao, rfl, h4, _⟩ := hv.2 h h1
  have h3 : VecO ω w' (x, none) h E (irows zss).length (cellsOK η ω w' true x (.rows F (irows zss) [])) := h3
  rw [h4 rfl, Nat.sub_zero]
  have hlen : (irows zss).length = zss.length := irows_len zss
  obtain ⟨us, hus, hul⟩ : ∃ us : List Value, (∀ j, j < zss.length → us[j]? = some (.slice (η.r x j).ao (lget zss j).length (η.r x j).c)) ∧ us.length = zss.length :=
    ⟨(List.range zss.length).map fun j => .slice (η.r x j).ao (lget zss j).length (η.r x j).c, fun j hj => by simp [hj], by simp⟩
  have cell : ∀ j, j < zss.length → ∃ b o, h.ao = some ⟨b, o, none⟩ ∧ w'.cell? ⟨b, o + j, none⟩ = some (.slice (η.r x j).ao (lget zss j).length (η.r x j).c) ∧ (η.r x j).k = 1 ∧ VecO ω w' (x, some j) (η.r x j) F (ivals (lget zss j)).length fun i u => (ivals (lget zss j))[i]? = some u := fun j hj => by
    obtain ⟨b', o', u', f1, f2, f3, f4⟩ := Vec.get (own := true) h3 (j := j) (by rw [hlen]; exact hj)
    obtain ⟨g1, g2, g3⟩ := f4 (by simp) (ivals (lget zss j)) (irows_get hj)
    rw [ivals_len] at g1
    exact ⟨b', o', f1, by rw [f2, g1], g2, g3⟩
  obtain ⟨k1, k2⟩ := VecO.own (xs := us) h2 h3 hlo (by rw [hlen]; exact hn) (by rw [hul, hlen]) fun j u hj ⟨b, o, e1, e2⟩ => by
    rw [hlen] at hj
    obtain ⟨b', o', f1, f2, _⟩ := cell j hj
    rw [e1] at f1; injection f1 with f1; injection f1 with f1 f1'; subst f1 f1'
    rw [e2] at f2
    rw [hus j hj, Option.some.inj f2]
  rw [hlen] at k1
  have row : ∀ j, j < zss.length → Own w' lo F (η.r x j).ao (lget zss j).length (η.r x j).c (ivals (lget zss j)) ∧ ∀ g, bk (η.r x j).ao = some g → g < w'.heap.size ∧ ω g = some (x, some j) := fun j hj => by
    obtain ⟨_, _, _, _, g2, g3⟩ := cell j hj
    have hb : (lget zss j).length ≤ 4398046511104 := hr _ (lget_mem hj)
    have := VecO.own (lo := lo) (xs := ivals (lget zss j)) g2 g3 hlo (by rw [ivals_len]; exact hb) rfl fun i u hi ⟨b, o, e1, e2⟩ => by
      obtain ⟨b', o', u', f1, f2, f3⟩ := Vec.get (own := true) g3 hi
      rw [e1] at f1; injection f1 with f1; injection f1 with f1 f1'; subst f1 f1'
      rw [e2] at f2
      obtain rfl := Option.some.inj f2
      exact f3
    rw [ivals_len] at this
    exact this
  have hlt : ∀ {j : Nat} {u : Value}, us[j]? = some u → j < zss.length ∧ u = .slice (η.r x j).ao (lget zss j).length (η.r x j).c := fun {j u} hu => by
    have hj : j < zss.length := by have := (List.getElem?_eq_some_iff.1 hu).1; omega
    rw [hus j hj] at hu
    exact ⟨hj, (Option.some.inj hu).symm⟩
  refine ⟨_, _, _, us, rfl, { own := k1, top := fun g hg => (k2 g hg).1, len := rfl, el := fun j u d hu hd => ?_, rng := fun j u hu g hg => ?_, out := fun j u g hu hg => ?_, apart := fun i j u u' g hij hu hu' hg => ?_ }⟩
  · obtain ⟨hj, rfl⟩ := hlt hu
    have : d = lget zss j := (lget_get? hd).symm
    subst this
    exact ⟨_, _, _, rfl, (row j hj).1.mono (Nat.zero_le _)⟩
  · obtain ⟨hj, rfl⟩ := hlt hu
    rw [ownBlock_slice] at hg
    exact ⟨((row j hj).1.lt g hg).1, ((row j hj).2 g hg).1⟩
  · obtain ⟨hj, rfl⟩ := hlt hu
    rw [ownBlock_slice] at hg
    intro e
    have h8 := ((row j hj).2 g hg).2
    rw [(k2 g e).2] at h8
    simp at h8
  · obtain ⟨hi, rfl⟩ := hlt hu
    obtain ⟨hj, rfl⟩ := hlt hu'
    rw [ownBlock_slice] at hg ⊢
    intro e
    have h8 := ((row i hi).2 g hg).2
    rw [((row j hj).2 g e).2] at h8
    simp at h8
    omega
end

theorem owSS_nil {E1 E : Nat} {w : World} {lo hi : Nat} : OwSS E1 E w lo hi (.slice none 0 0) [] :=
  ⟨none, 0, 0, [], rfl, OwR.empty_ (Own.nil_ _ _ _) (fun g hg => nomatch hg)⟩
/-- a contract in words of a function that reads, as a contract in names -/
theorem fc_of_calls {P : Program} {f : FuncId} {ins : List (Nm × Ch)} {args : List AV} {r : Value} (h : ∀ w η ω us, Mem η ω w (fun x => lk x ins) → DenL η args us → Calls P f us.toArray w fun e w' => e = .returned r ∧ Below w.heap.size w w') : FC P f ins args [] (vv r) [] := by
  intro w η ω us hm hd
  refine (h w η ω us hm hd).mono ?_
  rintro e w' ⟨rfl, hb⟩
  exact ⟨r, { h := fun _ => none, r := η.r }, ω, rfl, rfl, ⟨fun x c hx => (nomatch hx), fun x _ => rfl⟩, ⟨hb.os, hb.tape, hb.output, hb.size, fun b hlt hn => ⟨hb.block b hlt, hn⟩⟩, fun t av ht => (nomatch ht)⟩
section
variable {η : Env} {ω : Own?} {w : World} {ins : List (Nm × Ch)}
theorem rdS {x : Nat} {own : Bool} {E : Nat} {zs : List Int} {v : Value} (hm : Mem η ω w (fun x => lk x ins)) (hx : lk x ins = some ⟨own, E, 1, .vals (ivals zs)⟩) (hv : Den1 η (.sl x 0 zs.length) v) (hn : zs.length ≤ 17592186044416) : ∃ ao c, v = .slice ao zs.length c ∧ Ints w ao zs.length zs := by
  obtain ⟨h, h1, h2, h3⟩ := hm.1 x _ hx
  obtain ⟨ao, rfl, h4, _⟩ := hv.2 h h1
  have h3 : Vec own ω w (x, none) h E (ivals zs).length (cellsOK η ω w own x (.vals (ivals zs))) := h3
  rw [h4 rfl]
  refine ⟨_, _, rfl, rfl, hn, fun h0 => ?_⟩
  obtain ⟨b, o, u, f1, _, _⟩ := h3.get (j := 0) (by rw [ivals_len]; exact h0)
  refine ⟨b, o, f1, fun j hj => ?_⟩
  obtain ⟨b', o', u', g1, g2, g3⟩ := h3.get (j := j) (by rw [ivals_len]; exact hj)
  rw [f1] at g1; injection g1 with g1; injection g1 with g1 g1'; subst g1 g1'
  have g3 : (ivals zs)[j]? = some u' := g3
  rw [ivals_get hj] at g3
  rw [g2, ← g3]
theorem rdSS {x : Nat} {own : Bool} {E F : Nat} {zss : List (List Int)} {v : Value} (hm : Mem η ω w (fun x => lk x ins)) (hx : lk x ins = some ⟨own, E, 1, .rows F (irows zss) []⟩) (hv : Den1 η (.sl x 0 zss.length) v) (hn : zss.length ≤ 17592186044416) (hr : ∀ zs ∈ zss, zs.length ≤ 17592186044416) : ∃ ao c, v = .slice ao zss.length c ∧ Intss w ao zss.length zss := by
  obtain ⟨h, h1, h2, h3⟩ := hm.1 x _ hx
  obtain ⟨ao, rfl, h4, _⟩ := hv.2 h h1
  have h3 : Vec own ω w (x, none) h E (irows zss).length (cellsOK η ω w own x (.rows F (irows zss) [])) := h3
  rw [h4 rfl]
  refine ⟨_, _, rfl, rfl, hn, fun h0 => ?_⟩
  obtain ⟨b, o, u, f1, _, _⟩ := h3.get (j := 0) (by rw [irows_len]; exact h0)
  refine ⟨b, o, f1, fun j hj => ?_⟩
  obtain ⟨b', o', u', g1, g2, g3, g4⟩ := h3.get (j := j) (by rw [irows_len]; exact hj)
  rw [f1] at g1; injection g1 with g1; injection g1 with g1 g1'; subst g1 g1'
  obtain ⟨k1, k2, k3⟩ := g4 (by simp) (ivals (lget zss j)) (irows_get hj)
  rw [ivals_len] at k1
  refine ⟨u', g2, _, _, _, k1, rfl, hr _ (lget_mem hj), fun h0 => ?_⟩
  obtain ⟨b2, o2, u2, m1, _, _⟩ := k3.get (j := 0) (by rw [ivals_len]; exact h0)
  refine ⟨b2, o2, m1, fun i hi => ?_⟩
  obtain ⟨b3, o3, u3, n1, n2, n3⟩ := k3.get (j := i) (by rw [ivals_len]; exact hi)
  rw [m1] at n1; injection n1 with n1; injection n1 with n1 n1'; subst n1 n1'
  rw [ivals_get hi] at n3
  rw [n2, ← n3]
end
end Go.Proofs.Ytpognnifgcacnaa

/- The program's coset enumeration: find, image, link. guards: -/
namespace Go.Proofs.Ytpognnifgcacnaa
open Go.RowKit

abbrev coF (m n : Nat) (b : Bool) : List A1 := [.sl 1000 0 m, .sl 1001 0 n, .val (.bool b)]
abbrev coRo (m n : Nat) (b : Bool) : Ch := ⟨false, 179, 3, .flat (coF m n b)⟩
abbrev coOw (m n : Nat) (b : Bool) : Ch := ⟨true, 179, 3, .flat (coF m n b)⟩

theorem iFind_fc (im : List (List Int)) (less : List Int) (m n c : Nat) (b : Bool) (hn : less.length = n) (hd : Down less) (hc : c < less.length) :
    FC Try.prog 219 [(1010, coRo m n b), (1000, imRo im), (1001, leRo less)] [o1 (.ptr 1010 0), vv (I6 c)] [] (vv (I6 (root less c))) [] := by
  subst hn
  refine fc_enter (nt := 22) Try.func219 rfl rfl (by simp) fun w0 ω0 => ?_
  (refine goes_seq ?_; refine goes_region ?_; apply run_step rfl; (exact stp_assign rfl rfl); refine run_nil ?_; refine fin_seq ?_; refine goes_seq ?_; refine goes_block ?_)
  refine goes_loop (fun k : Nat => St.of [(0, o1 (.ptr 1010 0)), (1, vv (I6 k))] [(1010, coRo m less.length b), (1001, leRo less)]) (fun k => k < less.length ∧ root less k = root less c) (fun k => k) c ⟨hc, rfl⟩ (Wk.of ⟨rfl, rfl, trivial⟩ ⟨rfl, rfl, trivial⟩ trivial) ?_
  rintro k ⟨hk, hr⟩
  (refine goes_seq ?_; refine goes_seq ?_; refine goes_region ?_; apply run_step rfl; (exact stp_move rfl rfl); apply run_step rfl; (exact stp_nilCheck rfl rfl rfl); apply run_step rfl; (exact stp_fieldAddr (d := 1) rfl rfl rfl (by as_aux_lemma => kernel_rfl)); apply run_step rfl; (exact stp_loadF rfl (by as_aux_lemma => kernel_rfl) rfl rfl rfl rfl); apply run_step rfl; (exact stp_move rfl rfl); apply run_step rfl; (exact stp_ix rfl rfl rfl rfl rfl (by as_aux_lemma => kernel_rfl) (by first | rfl | exact (Int.toNat_of_nonneg (by omega)).symm) (by first | assumption | omega | (simp; omega)) (by first | exact Nat.le_refl _ | exact Nat.le_of_eq (ivals_len _).symm | exact Nat.le_of_eq (irows_len _).symm | (refine Nat.le_trans ?_ (Nat.le_of_eq (ivals_len _).symm); (first | omega | (simp; done) | (simp; omega))) | (refine Nat.le_trans ?_ (Nat.le_of_eq (irows_len _).symm); (first | omega | (simp; done) | (simp; omega))))); apply run_step rfl; (exact stp_loadV rfl (by as_aux_lemma => kernel_rfl) rfl rfl rfl (by first | assumption | exact ivals_get (by assumption) | exact irows_get (by assumption) | exact ivals_get (by omega) | exact irows_get (by omega) | rfl)); apply run_step rfl; (exact stp_move rfl rfl); apply run_step rfl; (exact stp_bin rfl rfl rfl rfl); refine run_nil ?_; refine fin_seq ?_)
  have hk2 := hd k hk
  refine goes_cond rfl (fun h => ?_) (fun h => ?_)
  · have hne : iget less k ≠ k := by simpa using h
    have hz : iget less k = (((iget less k).toNat : Nat) : Int) := (Int.toNat_of_nonneg hk2.1).symm
    (refine goes_skip ?_; refine fin_seq ?_; refine goes_block ?_; refine goes_region ?_; apply run_step rfl; (exact stp_move rfl rfl); apply run_step rfl; (exact stp_nilCheck rfl rfl rfl); apply run_step rfl; (exact stp_fieldAddr (d := 1) rfl rfl rfl (by as_aux_lemma => kernel_rfl)); apply run_step rfl; (exact stp_loadF rfl (by as_aux_lemma => kernel_rfl) rfl rfl rfl rfl); apply run_step rfl; (exact stp_move rfl rfl); apply run_step rfl; (exact stp_ix rfl rfl rfl rfl rfl (by as_aux_lemma => kernel_rfl) (by first | rfl | exact (Int.toNat_of_nonneg (by omega)).symm) (by first | assumption | omega | (simp; omega)) (by first | exact Nat.le_refl _ | exact Nat.le_of_eq (ivals_len _).symm | exact Nat.le_of_eq (irows_len _).symm | (refine Nat.le_trans ?_ (Nat.le_of_eq (ivals_len _).symm); (first | omega | (simp; done) | (simp; omega))) | (refine Nat.le_trans ?_ (Nat.le_of_eq (irows_len _).symm); (first | omega | (simp; done) | (simp; omega))))); apply run_step rfl; (exact stp_loadV rfl (by as_aux_lemma => kernel_rfl) rfl rfl rfl (by first | assumption | exact ivals_get (by assumption) | exact irows_get (by assumption) | exact ivals_get (by omega) | exact irows_get (by omega) | rfl)); apply run_step rfl; (exact stp_assign rfl rfl); refine run_nil ?_; refine fin_block ?_)
    exact fin_round (iget less k).toNat ⟨by omega, (root_step hd hk hne).symm.trans hr⟩ (by omega) (Wk.of ⟨rfl, congrArg (fun z => some (vv (I6 z))) hz, trivial⟩ ⟨rfl, rfl, trivial⟩ trivial)
  · have he : iget less k = k := by simpa using h
    have e : k = root less c := by rw [← hr, root_of he]
    (refine goes_exit ?_; refine fin_exit_then ?_; refine fin_exit_then ?_; refine fin_exit_eq ?_; refine fin_seq ?_; refine goes_seq ?_; refine goes_region ?_; apply run_step rfl; (exact stp_move rfl rfl); apply run_step rfl; (exact stp_assign rfl rfl); refine run_nil ?_; refine fin_seq ?_; refine goes_ret ?_)
    exact fin_ret1 (.inl rfl) rfl (.tmp (congrArg (fun z : Nat => some (vv (I6 z))) e)) trivial trivial

theorem iImage_fc (im : List (List Int)) (less : List Int) (m n c g : Nat) (b : Bool) (hm : im.length = m) (hn : less.length = n) (hd : Down less) (hc : c < im.length) (hg : g < (lget im c).length) (he : ent im c g < less.length) :
    FC Try.prog 195 [(1010, coRo m n b), (1000, imRo im), (1001, leRo less)] [o1 (.ptr 1010 0), vv (I6 c), vv (I6 g)] [] (vv (I6 (image im less c g))) [] := by
  subst hm hn
  refine fc_enter (nt := 23) Try.func195 rfl rfl (by simp) fun w0 ω0 => ?_
  (refine goes_seq ?_; refine goes_region ?_; apply run_step rfl; (exact stp_assign rfl rfl); refine run_nil ?_; refine fin_seq ?_; refine goes_seq ?_; refine goes_seq ?_; refine goes_region ?_; apply run_step rfl; (exact stp_move rfl rfl); apply run_step rfl; (exact stp_nilCheck rfl rfl rfl); apply run_step rfl; (exact stp_fieldAddr (d := 0) rfl rfl rfl (by as_aux_lemma => kernel_rfl)); apply run_step rfl; (exact stp_loadF rfl (by as_aux_lemma => kernel_rfl) rfl rfl rfl rfl); apply run_step rfl; (exact stp_move rfl rfl); apply run_step rfl; (exact stp_ix rfl rfl rfl rfl rfl (by as_aux_lemma => kernel_rfl) (by first | rfl | exact (Int.toNat_of_nonneg (by omega)).symm) (by first | assumption | omega | (simp; omega)) (by first | exact Nat.le_refl _ | exact Nat.le_of_eq (ivals_len _).symm | exact Nat.le_of_eq (irows_len _).symm | (refine Nat.le_trans ?_ (Nat.le_of_eq (ivals_len _).symm); (first | omega | (simp; done) | (simp; omega))) | (refine Nat.le_trans ?_ (Nat.le_of_eq (irows_len _).symm); (first | omega | (simp; done) | (simp; omega))))); apply run_step rfl; (exact stp_loadR rfl (by as_aux_lemma => kernel_rfl) rfl rfl rfl (by first | assumption | exact ivals_get (by assumption) | exact irows_get (by assumption) | exact ivals_get (by omega) | exact irows_get (by omega) | rfl) (by first | exact ivals_len _ | assumption | rfl)); apply run_step rfl; (exact stp_move rfl rfl); apply run_step rfl; (exact stp_ixE rfl rfl rfl rfl rfl (by as_aux_lemma => kernel_rfl) (by first | assumption | exact ivals_get (by assumption) | exact irows_get (by assumption) | exact ivals_get (by omega) | exact irows_get (by omega) | rfl) (by first | rfl | exact (Int.toNat_of_nonneg (by omega)).symm) (by first | assumption | omega | (simp; omega)) (by first | exact Nat.le_refl _ | exact Nat.le_of_eq (ivals_len _).symm | exact Nat.le_of_eq (irows_len _).symm | (refine Nat.le_trans ?_ (Nat.le_of_eq (ivals_len _).symm); (first | omega | (simp; done) | (simp; omega))) | (refine Nat.le_trans ?_ (Nat.le_of_eq (irows_len _).symm); (first | omega | (simp; done) | (simp; omega))))); apply run_step rfl; (exact stp_loadE' rfl (by as_aux_lemma => kernel_rfl) rfl rfl rfl (by first | assumption | exact ivals_get (by assumption) | exact irows_get (by assumption) | exact ivals_get (by omega) | exact irows_get (by omega) | rfl) (by first | assumption | exact ivals_get (by assumption) | exact irows_get (by assumption) | exact ivals_get (by omega) | exact irows_get (by omega) | rfl)); apply run_step rfl; (exact stp_assign rfl rfl); refine run_nil ?_; refine fin_seq ?_; refine goes_seq ?_; refine goes_region ?_; apply run_step rfl; (exact stp_move rfl rfl); apply run_step rfl; (exact stp_bin rfl rfl rfl rfl); refine run_nil ?_; refine fin_seq ?_)
  refine goes_cond rfl (fun h => ?_) (fun h => ?_)
  · have h : ¬ ent im c g < 0 := by unfold ent; simp at h; omega
    have e : image im less c g = root less (ent im c g).toNat := if_neg h
    have hF := iFind_fc im less im.length less.length (ent im c g).toNat b rfl hd (by omega)
    have hz : iget (lget im c) g = (((ent im c g).toNat : Nat) : Int) := (Int.toNat_of_nonneg (show 0 ≤ iget (lget im c) g from Int.not_lt.1 h)).symm
    (refine goes_seq ?_; refine goes_region ?_; apply run_step rfl; (exact stp_move rfl rfl); apply run_step rfl; (exact stp_move rfl rfl); apply run_step rfl; (apply call_gate 219; exact stp_callR hF (by as_aux_lemma => kernel_rfl) rfl rfl ⟨rfl, congrArg (fun z => vv (I6 z)) hz, trivial⟩ ⟨⟨_, rfl, .inl rfl⟩, ⟨_, rfl, .inl rfl⟩, ⟨_, rfl, .inl rfl⟩, trivial⟩ rfl rfl); apply run_step rfl; (exact stp_assign rfl rfl); refine run_nil ?_; refine fin_seq ?_; refine goes_ret ?_; refine fin_ret_then ?_)
    exact fin_ret1 (.inl rfl) rfl (.tmp (congrArg (fun z => some (vv (I6 z))) e.symm)) trivial trivial
  · have h : ent im c g < 0 := by unfold ent; simp at h; omega
    have e : image im less c g = -1 := if_pos h
    (refine goes_skip ?_; refine fin_seq ?_; refine goes_seq ?_; refine goes_region ?_; apply run_step rfl; (exact stp_assign rfl rfl); refine run_nil ?_; refine fin_seq ?_; refine goes_ret ?_)
    exact fin_ret1 (.inl rfl) rfl (.tmp (congrArg (fun z => some (vv (I6 z))) e.symm)) trivial trivial

set_option maxRecDepth 100000 in
set_option maxHeartbeats 2000000 in
theorem iLink_fc (im : List (List Int)) (less : List Int) (m n c d g : Nat) (b : Bool) (hm : im.length = m) (hc : c < im.length) (hg : g < (lget im c).length) (hdl : d < im.length) (hg2 : g < (lget im d).length) :
    FC Try.prog 218 [(1010, coOw m n b), (1000, imOw im), (1001, leOw less)] [o1 (.ptr 1010 0), vv (I6 c), vv (I6 d), vv (I6 g)] [(1010, coOw m n b), (1000, imOw (rset (rset im c g d) d g c)), (1001, leOw less)] (.tup []) [(0, o1 (.ptr 1010 0))] := by
  subst hm
  have hrr : (lget (rset im c g (d : Int)) d).length = (lget im d).length := rset_row _ _ _ _ _
  have hg3 : g < (lget (rset im c g (d : Int)) d).length := by rw [rset_row]; exact hg2
  have hd3 : d < (rset im c g (d : Int)).length := by rw [rset_len]; exact hdl
  refine fc_enter (nt := 28) Try.func218 rfl rfl (by simp) fun w0 ω0 => ?_
  (skip)
  refine goes_cut (St.of [] [(1010, coOw im.length n b), (1000, imOw (rset (rset im c g d) d g c)), (1001, leOw less)] [(0, o1 (.ptr 1010 0))]) ?_ ?_
  · apply goes_drawL 18 [] [15, 17] [[], [0], [0, 1], [0, 1, 2], [], [0, 1, 2, 3, 4], [0, 1, 2, 3, 4, 5], [], [], [8], [8, 9], [8, 9, 10], [], [8, 9, 10, 11, 12], [8, 9, 10, 11, 12, 13], [], [], [], [0, 1, 2, 3, 4, 5, 6, 7, 8, 9, 10, 11, 12, 13, 14, 16], [0, 1, 2, 3, 4, 5, 6, 7, 8, 9, 10, 11, 12, 13, 14, 16, 18], [0, 1, 2, 3, 4, 5, 6, 7, 8, 9, 10, 11, 12, 13, 14, 15, 16, 17, 18, 19], [0, 1, 2, 3, 4, 5, 6, 7, 8, 9, 10, 11, 12, 13, 14, 15, 16, 17, 18, 19, 20]] [8, 9, 10, 11, 12, 13, 14, 15, 16, 17, 18, 19, 20, 21, 22, 23, 24, 25] [] (by kernel_rfl) (by kernel_rfl) (by kernel_rfl)
    · (apply draw_put rfl; (intro S1 hS; exact stp_move rfl (hS.op rfl)); apply draw_put rfl; (intro S1 hS; exact stp_nilCheck rfl (hS.op rfl) (hS.ch _ _ rfl)); apply draw_put rfl; (intro S1 hS; exact stp_fieldAddr (d := 0) rfl (hS.op rfl) (hS.ch _ _ rfl) (by as_aux_lemma => kernel_rfl)); apply draw_put rfl; (intro S1 hS; exact stp_loadF rfl (by as_aux_lemma => kernel_rfl) (hS.op rfl) (hS.ch _ _ rfl) rfl rfl); apply draw_put rfl; (intro S1 hS; exact stp_move rfl (hS.op rfl)); apply draw_put rfl; (intro S1 hS; exact stp_ix rfl (hS.op rfl) (hS.op rfl) (hS.ch _ _ rfl) rfl (by as_aux_lemma => kernel_rfl) (by first | rfl | exact (Int.toNat_of_nonneg (by omega)).symm) (by first | assumption | omega | (simp; omega)) (by first | exact Nat.le_refl _ | exact Nat.le_of_eq (ivals_len _).symm | exact Nat.le_of_eq (irows_len _).symm | (refine Nat.le_trans ?_ (Nat.le_of_eq (ivals_len _).symm); (first | omega | (simp; done) | (simp; omega))) | (refine Nat.le_trans ?_ (Nat.le_of_eq (irows_len _).symm); (first | omega | (simp; done) | (simp; omega))))); apply draw_put rfl; (intro S1 hS; exact stp_loadR rfl (by as_aux_lemma => kernel_rfl) (hS.op rfl) (hS.ch _ _ rfl) rfl (by first | assumption | exact ivals_get (by assumption) | exact irows_get (by assumption) | exact ivals_get (by omega) | exact irows_get (by omega) | rfl) (by first | exact ivals_len _ | assumption | rfl)); apply draw_put rfl; (intro S1 hS; exact stp_move rfl (hS.op rfl)); apply draw_put rfl; (intro S1 hS; exact stp_move rfl (hS.op rfl)); apply draw_put rfl; (intro S1 hS; exact stp_nilCheck rfl (hS.op rfl) (hS.ch _ _ rfl)); apply draw_put rfl; (intro S1 hS; exact stp_fieldAddr (d := 0) rfl (hS.op rfl) (hS.ch _ _ rfl) (by as_aux_lemma => kernel_rfl)); apply draw_put rfl; (intro S1 hS; exact stp_loadF rfl (by as_aux_lemma => kernel_rfl) (hS.op rfl) (hS.ch _ _ rfl) rfl rfl); apply draw_put rfl; (intro S1 hS; exact stp_move rfl (hS.op rfl)); apply draw_put rfl; (intro S1 hS; exact stp_ix rfl (hS.op rfl) (hS.op rfl) (hS.ch _ _ rfl) rfl (by as_aux_lemma => kernel_rfl) (by first | rfl | exact (Int.toNat_of_nonneg (by omega)).symm) (by first | assumption | omega | (simp; omega)) (by first | exact Nat.le_refl _ | exact Nat.le_of_eq (ivals_len _).symm | exact Nat.le_of_eq (irows_len _).symm | (refine Nat.le_trans ?_ (Nat.le_of_eq (ivals_len _).symm); (first | omega | (simp; done) | (simp; omega))) | (refine Nat.le_trans ?_ (Nat.le_of_eq (irows_len _).symm); (first | omega | (simp; done) | (simp; omega))))); apply draw_put rfl; (intro S1 hS; exact stp_loadR rfl (by as_aux_lemma => kernel_rfl) (hS.op rfl) (hS.ch _ _ rfl) rfl (by first | assumption | exact ivals_get (by assumption) | exact irows_get (by assumption) | exact ivals_get (by omega) | exact irows_get (by omega) | rfl) (by first | exact ivals_len _ | assumption | rfl)); apply draw_put rfl; (intro S1 hS; exact stp_move rfl (hS.op rfl)); apply draw_put rfl; (intro S1 hS; exact stp_move rfl (hS.op rfl)); apply draw_put rfl; (intro S1 hS; exact stp_move rfl (hS.op rfl)); exact Draw.nil)
    · rfl
    refine ⟨⟨?_, ?_⟩, ?_, ?_⟩
    · ((apply rest_one 18 rfl (by as_aux_lemma => kernel_rfl) rfl rfl; (exact stp_ixE rfl rfl rfl rfl rfl (by as_aux_lemma => kernel_rfl) (by first | assumption | exact ivals_get (by assumption) | exact irows_get (by assumption) | exact ivals_get (by omega) | exact irows_get (by omega) | rfl) (by first | rfl | exact (Int.toNat_of_nonneg (by omega)).symm) (by first | assumption | omega | (simp; omega)) (by first | exact Nat.le_refl _ | exact Nat.le_of_eq (ivals_len _).symm | exact Nat.le_of_eq (irows_len _).symm | (refine Nat.le_trans ?_ (Nat.le_of_eq (ivals_len _).symm); (first | omega | (simp; done) | (simp; omega))) | (refine Nat.le_trans ?_ (Nat.le_of_eq (irows_len _).symm); (first | omega | (simp; done) | (simp; omega)))))); (apply rest_one 19 rfl (by as_aux_lemma => kernel_rfl) rfl rfl; (exact stp_stE rfl rfl rfl rfl rfl (by first | assumption | omega | (simp; omega)) (by first | assumption | omega | (simp; omega)) (by as_aux_lemma => kernel_rfl))); (apply rest_one 20 rfl (by as_aux_lemma => kernel_rfl) rfl rfl; (exact stp_ixE rfl rfl rfl rfl rfl (by as_aux_lemma => kernel_rfl) (by first | assumption | exact ivals_get (by assumption) | exact irows_get (by assumption) | exact ivals_get (by omega) | exact irows_get (by omega) | rfl) (by first | rfl | exact (Int.toNat_of_nonneg (by omega)).symm) (by first | assumption | omega | (simp; omega)) (by first | exact Nat.le_refl _ | exact Nat.le_of_eq (ivals_len _).symm | exact Nat.le_of_eq (irows_len _).symm | (refine Nat.le_trans ?_ (Nat.le_of_eq (ivals_len _).symm); (first | omega | (simp; done) | (simp; omega))) | (refine Nat.le_trans ?_ (Nat.le_of_eq (irows_len _).symm); (first | omega | (simp; done) | (simp; omega)))))); (apply rest_one 21 rfl (by as_aux_lemma => kernel_rfl) rfl rfl; (exact stp_stE rfl rfl rfl rfl rfl (by first | assumption | omega | (simp; omega)) (by first | assumption | omega | (simp; omega)) (by as_aux_lemma => kernel_rfl))); (refine rest_done (by as_aux_lemma => kernel_rfl) ?_; exact fin_join (Wk.of trivial ⟨rfl, rfl, rfl, trivial⟩ ⟨rfl, trivial⟩)))
    · ((apply rest_two 17 18 rfl (by as_aux_lemma => kernel_rfl) rfl rfl rfl rfl; (exact stp_move rfl rfl); (exact stp_ixE rfl rfl rfl rfl rfl (by as_aux_lemma => kernel_rfl) (by first | assumption | exact ivals_get (by assumption) | exact irows_get (by assumption) | exact ivals_get (by omega) | exact irows_get (by omega) | rfl) (by first | rfl | exact (Int.toNat_of_nonneg (by omega)).symm) (by first | assumption | omega | (simp; omega)) (by first | exact Nat.le_refl _ | exact Nat.le_of_eq (ivals_len _).symm | exact Nat.le_of_eq (irows_len _).symm | (refine Nat.le_trans ?_ (Nat.le_of_eq (ivals_len _).symm); (first | omega | (simp; done) | (simp; omega))) | (refine Nat.le_trans ?_ (Nat.le_of_eq (irows_len _).symm); (first | omega | (simp; done) | (simp; omega))))); (focus ((apply rest_one 18 rfl (by as_aux_lemma => kernel_rfl) rfl rfl; (exact stp_ixE rfl rfl rfl rfl rfl (by as_aux_lemma => kernel_rfl) (by first | assumption | exact ivals_get (by assumption) | exact irows_get (by assumption) | exact ivals_get (by omega) | exact irows_get (by omega) | rfl) (by first | rfl | exact (Int.toNat_of_nonneg (by omega)).symm) (by first | assumption | omega | (simp; omega)) (by first | exact Nat.le_refl _ | exact Nat.le_of_eq (ivals_len _).symm | exact Nat.le_of_eq (irows_len _).symm | (refine Nat.le_trans ?_ (Nat.le_of_eq (ivals_len _).symm); (first | omega | (simp; done) | (simp; omega))) | (refine Nat.le_trans ?_ (Nat.le_of_eq (irows_len _).symm); (first | omega | (simp; done) | (simp; omega)))))); (apply rest_one 19 rfl (by as_aux_lemma => kernel_rfl) rfl rfl; (exact stp_stE rfl rfl rfl rfl rfl (by first | assumption | omega | (simp; omega)) (by first | assumption | omega | (simp; omega)) (by as_aux_lemma => kernel_rfl))); (apply rest_one 20 rfl (by as_aux_lemma => kernel_rfl) rfl rfl; (exact stp_ixE rfl rfl rfl rfl rfl (by as_aux_lemma => kernel_rfl) (by first | assumption | exact ivals_get (by assumption) | exact irows_get (by assumption) | exact ivals_get (by omega) | exact irows_get (by omega) | rfl) (by first | rfl | exact (Int.toNat_of_nonneg (by omega)).symm) (by first | assumption | omega | (simp; omega)) (by first | exact Nat.le_refl _ | exact Nat.le_of_eq (ivals_len _).symm | exact Nat.le_of_eq (irows_len _).symm | (refine Nat.le_trans ?_ (Nat.le_of_eq (ivals_len _).symm); (first | omega | (simp; done) | (simp; omega))) | (refine Nat.le_trans ?_ (Nat.le_of_eq (irows_len _).symm); (first | omega | (simp; done) | (simp; omega)))))); (apply rest_one 21 rfl (by as_aux_lemma => kernel_rfl) rfl rfl; (exact stp_stE rfl rfl rfl rfl rfl (by first | assumption | omega | (simp; omega)) (by first | assumption | omega | (simp; omega)) (by as_aux_lemma => kernel_rfl))); (refine rest_done (by as_aux_lemma => kernel_rfl) ?_; exact fin_join (Wk.of trivial ⟨rfl, rfl, rfl, trivial⟩ ⟨rfl, trivial⟩)))); (focus ((apply rest_two 17 19 rfl (by as_aux_lemma => kernel_rfl) rfl rfl rfl rfl; (exact stp_move rfl rfl); (exact stp_stE rfl rfl rfl rfl rfl (by first | assumption | omega | (simp; omega)) (by first | assumption | omega | (simp; omega)) (by as_aux_lemma => kernel_rfl)); (focus ((apply rest_one 19 rfl (by as_aux_lemma => kernel_rfl) rfl rfl; (exact stp_stE rfl rfl rfl rfl rfl (by first | assumption | omega | (simp; omega)) (by first | assumption | omega | (simp; omega)) (by as_aux_lemma => kernel_rfl))); (apply rest_one 20 rfl (by as_aux_lemma => kernel_rfl) rfl rfl; (exact stp_ixE rfl rfl rfl rfl rfl (by as_aux_lemma => kernel_rfl) (by first | assumption | exact ivals_get (by assumption) | exact irows_get (by assumption) | exact ivals_get (by omega) | exact irows_get (by omega) | rfl) (by first | rfl | exact (Int.toNat_of_nonneg (by omega)).symm) (by first | assumption | omega | (simp; omega)) (by first | exact Nat.le_refl _ | exact Nat.le_of_eq (ivals_len _).symm | exact Nat.le_of_eq (irows_len _).symm | (refine Nat.le_trans ?_ (Nat.le_of_eq (ivals_len _).symm); (first | omega | (simp; done) | (simp; omega))) | (refine Nat.le_trans ?_ (Nat.le_of_eq (irows_len _).symm); (first | omega | (simp; done) | (simp; omega)))))); (apply rest_one 21 rfl (by as_aux_lemma => kernel_rfl) rfl rfl; (exact stp_stE rfl rfl rfl rfl rfl (by first | assumption | omega | (simp; omega)) (by first | assumption | omega | (simp; omega)) (by as_aux_lemma => kernel_rfl))); (refine rest_done (by as_aux_lemma => kernel_rfl) ?_; exact fin_join (Wk.of trivial ⟨rfl, rfl, rfl, trivial⟩ ⟨rfl, trivial⟩)))); (focus ((apply rest_one 17 rfl (by as_aux_lemma => kernel_rfl) rfl rfl; (exact stp_move rfl rfl)); (apply rest_one 20 rfl (by as_aux_lemma => kernel_rfl) rfl rfl; (exact stp_ixE rfl rfl rfl rfl rfl (by as_aux_lemma => kernel_rfl) (by first | assumption | exact ivals_get (by assumption) | exact irows_get (by assumption) | exact ivals_get (by omega) | exact irows_get (by omega) | rfl) (by first | rfl | exact (Int.toNat_of_nonneg (by omega)).symm) (by first | assumption | omega | (simp; omega)) (by first | exact Nat.le_refl _ | exact Nat.le_of_eq (ivals_len _).symm | exact Nat.le_of_eq (irows_len _).symm | (refine Nat.le_trans ?_ (Nat.le_of_eq (ivals_len _).symm); (first | omega | (simp; done) | (simp; omega))) | (refine Nat.le_trans ?_ (Nat.le_of_eq (irows_len _).symm); (first | omega | (simp; done) | (simp; omega)))))); (apply rest_one 21 rfl (by as_aux_lemma => kernel_rfl) rfl rfl; (exact stp_stE rfl rfl rfl rfl rfl (by first | assumption | omega | (simp; omega)) (by first | assumption | omega | (simp; omega)) (by as_aux_lemma => kernel_rfl))); (refine rest_done (by as_aux_lemma => kernel_rfl) ?_; exact fin_join (Wk.of trivial ⟨rfl, rfl, rfl, trivial⟩ ⟨rfl, trivial⟩)))))))))
    · ((apply rest_two 15 18 rfl (by as_aux_lemma => kernel_rfl) rfl rfl rfl rfl; (exact stp_move rfl rfl); (exact stp_ixE rfl rfl rfl rfl rfl (by as_aux_lemma => kernel_rfl) (by first | assumption | exact ivals_get (by assumption) | exact irows_get (by assumption) | exact ivals_get (by omega) | exact irows_get (by omega) | rfl) (by first | rfl | exact (Int.toNat_of_nonneg (by omega)).symm) (by first | assumption | omega | (simp; omega)) (by first | exact Nat.le_refl _ | exact Nat.le_of_eq (ivals_len _).symm | exact Nat.le_of_eq (irows_len _).symm | (refine Nat.le_trans ?_ (Nat.le_of_eq (ivals_len _).symm); (first | omega | (simp; done) | (simp; omega))) | (refine Nat.le_trans ?_ (Nat.le_of_eq (irows_len _).symm); (first | omega | (simp; done) | (simp; omega))))); (focus ((apply rest_one 18 rfl (by as_aux_lemma => kernel_rfl) rfl rfl; (exact stp_ixE rfl rfl rfl rfl rfl (by as_aux_lemma => kernel_rfl) (by first | assumption | exact ivals_get (by assumption) | exact irows_get (by assumption) | exact ivals_get (by omega) | exact irows_get (by omega) | rfl) (by first | rfl | exact (Int.toNat_of_nonneg (by omega)).symm) (by first | assumption | omega | (simp; omega)) (by first | exact Nat.le_refl _ | exact Nat.le_of_eq (ivals_len _).symm | exact Nat.le_of_eq (irows_len _).symm | (refine Nat.le_trans ?_ (Nat.le_of_eq (ivals_len _).symm); (first | omega | (simp; done) | (simp; omega))) | (refine Nat.le_trans ?_ (Nat.le_of_eq (irows_len _).symm); (first | omega | (simp; done) | (simp; omega)))))); (apply rest_one 19 rfl (by as_aux_lemma => kernel_rfl) rfl rfl; (exact stp_stE rfl rfl rfl rfl rfl (by first | assumption | omega | (simp; omega)) (by first | assumption | omega | (simp; omega)) (by as_aux_lemma => kernel_rfl))); (apply rest_one 20 rfl (by as_aux_lemma => kernel_rfl) rfl rfl; (exact stp_ixE rfl rfl rfl rfl rfl (by as_aux_lemma => kernel_rfl) (by first | assumption | exact ivals_get (by assumption) | exact irows_get (by assumption) | exact ivals_get (by omega) | exact irows_get (by omega) | rfl) (by first | rfl | exact (Int.toNat_of_nonneg (by omega)).symm) (by first | assumption | omega | (simp; omega)) (by first | exact Nat.le_refl _ | exact Nat.le_of_eq (ivals_len _).symm | exact Nat.le_of_eq (irows_len _).symm | (refine Nat.le_trans ?_ (Nat.le_of_eq (ivals_len _).symm); (first | omega | (simp; done) | (simp; omega))) | (refine Nat.le_trans ?_ (Nat.le_of_eq (irows_len _).symm); (first | omega | (simp; done) | (simp; omega)))))); (apply rest_one 21 rfl (by as_aux_lemma => kernel_rfl) rfl rfl; (exact stp_stE rfl rfl rfl rfl rfl (by first | assumption | omega | (simp; omega)) (by first | assumption | omega | (simp; omega)) (by as_aux_lemma => kernel_rfl))); (refine rest_done (by as_aux_lemma => kernel_rfl) ?_; exact fin_join (Wk.of trivial ⟨rfl, rfl, rfl, trivial⟩ ⟨rfl, trivial⟩)))); (focus ((apply rest_two 15 19 rfl (by as_aux_lemma => kernel_rfl) rfl rfl rfl rfl; (exact stp_move rfl rfl); (exact stp_stE rfl rfl rfl rfl rfl (by first | assumption | omega | (simp; omega)) (by first | assumption | omega | (simp; omega)) (by as_aux_lemma => kernel_rfl)); (focus ((apply rest_one 19 rfl (by as_aux_lemma => kernel_rfl) rfl rfl; (exact stp_stE rfl rfl rfl rfl rfl (by first | assumption | omega | (simp; omega)) (by first | assumption | omega | (simp; omega)) (by as_aux_lemma => kernel_rfl))); (apply rest_one 20 rfl (by as_aux_lemma => kernel_rfl) rfl rfl; (exact stp_ixE rfl rfl rfl rfl rfl (by as_aux_lemma => kernel_rfl) (by first | assumption | exact ivals_get (by assumption) | exact irows_get (by assumption) | exact ivals_get (by omega) | exact irows_get (by omega) | rfl) (by first | rfl | exact (Int.toNat_of_nonneg (by omega)).symm) (by first | assumption | omega | (simp; omega)) (by first | exact Nat.le_refl _ | exact Nat.le_of_eq (ivals_len _).symm | exact Nat.le_of_eq (irows_len _).symm | (refine Nat.le_trans ?_ (Nat.le_of_eq (ivals_len _).symm); (first | omega | (simp; done) | (simp; omega))) | (refine Nat.le_trans ?_ (Nat.le_of_eq (irows_len _).symm); (first | omega | (simp; done) | (simp; omega)))))); (apply rest_one 21 rfl (by as_aux_lemma => kernel_rfl) rfl rfl; (exact stp_stE rfl rfl rfl rfl rfl (by first | assumption | omega | (simp; omega)) (by first | assumption | omega | (simp; omega)) (by as_aux_lemma => kernel_rfl))); (refine rest_done (by as_aux_lemma => kernel_rfl) ?_; exact fin_join (Wk.of trivial ⟨rfl, rfl, rfl, trivial⟩ ⟨rfl, trivial⟩)))); (focus ((apply rest_one 15 rfl (by as_aux_lemma => kernel_rfl) rfl rfl; (exact stp_move rfl rfl)); (apply rest_one 20 rfl (by as_aux_lemma => kernel_rfl) rfl rfl; (exact stp_ixE rfl rfl rfl rfl rfl (by as_aux_lemma => kernel_rfl) (by first | assumption | exact ivals_get (by assumption) | exact irows_get (by assumption) | exact ivals_get (by omega) | exact irows_get (by omega) | rfl) (by first | rfl | exact (Int.toNat_of_nonneg (by omega)).symm) (by first | assumption | omega | (simp; omega)) (by first | exact Nat.le_refl _ | exact Nat.le_of_eq (ivals_len _).symm | exact Nat.le_of_eq (irows_len _).symm | (refine Nat.le_trans ?_ (Nat.le_of_eq (ivals_len _).symm); (first | omega | (simp; done) | (simp; omega))) | (refine Nat.le_trans ?_ (Nat.le_of_eq (irows_len _).symm); (first | omega | (simp; done) | (simp; omega)))))); (apply rest_one 21 rfl (by as_aux_lemma => kernel_rfl) rfl rfl; (exact stp_stE rfl rfl rfl rfl rfl (by first | assumption | omega | (simp; omega)) (by first | assumption | omega | (simp; omega)) (by as_aux_lemma => kernel_rfl))); (refine rest_done (by as_aux_lemma => kernel_rfl) ?_; exact fin_join (Wk.of trivial ⟨rfl, rfl, rfl, trivial⟩ ⟨rfl, trivial⟩)))))))))
    · ((apply rest_three 15 17 18 rfl (by as_aux_lemma => kernel_rfl) rfl rfl rfl rfl rfl rfl; (exact stp_move rfl rfl); (exact stp_move rfl rfl); (exact stp_ixE rfl rfl rfl rfl rfl (by as_aux_lemma => kernel_rfl) (by first | assumption | exact ivals_get (by assumption) | exact irows_get (by assumption) | exact ivals_get (by omega) | exact irows_get (by omega) | rfl) (by first | rfl | exact (Int.toNat_of_nonneg (by omega)).symm) (by first | assumption | omega | (simp; omega)) (by first | exact Nat.le_refl _ | exact Nat.le_of_eq (ivals_len _).symm | exact Nat.le_of_eq (irows_len _).symm | (refine Nat.le_trans ?_ (Nat.le_of_eq (ivals_len _).symm); (first | omega | (simp; done) | (simp; omega))) | (refine Nat.le_trans ?_ (Nat.le_of_eq (irows_len _).symm); (first | omega | (simp; done) | (simp; omega))))); (focus ((apply rest_two 17 18 rfl (by as_aux_lemma => kernel_rfl) rfl rfl rfl rfl; (exact stp_move rfl rfl); (exact stp_ixE rfl rfl rfl rfl rfl (by as_aux_lemma => kernel_rfl) (by first | assumption | exact ivals_get (by assumption) | exact irows_get (by assumption) | exact ivals_get (by omega) | exact irows_get (by omega) | rfl) (by first | rfl | exact (Int.toNat_of_nonneg (by omega)).symm) (by first | assumption | omega | (simp; omega)) (by first | exact Nat.le_refl _ | exact Nat.le_of_eq (ivals_len _).symm | exact Nat.le_of_eq (irows_len _).symm | (refine Nat.le_trans ?_ (Nat.le_of_eq (ivals_len _).symm); (first | omega | (simp; done) | (simp; omega))) | (refine Nat.le_trans ?_ (Nat.le_of_eq (irows_len _).symm); (first | omega | (simp; done) | (simp; omega))))); (focus ((apply rest_one 18 rfl (by as_aux_lemma => kernel_rfl) rfl rfl; (exact stp_ixE rfl rfl rfl rfl rfl (by as_aux_lemma => kernel_rfl) (by first | assumption | exact ivals_get (by assumption) | exact irows_get (by assumption) | exact ivals_get (by omega) | exact irows_get (by omega) | rfl) (by first | rfl | exact (Int.toNat_of_nonneg (by omega)).symm) (by first | assumption | omega | (simp; omega)) (by first | exact Nat.le_refl _ | exact Nat.le_of_eq (ivals_len _).symm | exact Nat.le_of_eq (irows_len _).symm | (refine Nat.le_trans ?_ (Nat.le_of_eq (ivals_len _).symm); (first | omega | (simp; done) | (simp; omega))) | (refine Nat.le_trans ?_ (Nat.le_of_eq (irows_len _).symm); (first | omega | (simp; done) | (simp; omega)))))); (apply rest_one 19 rfl (by as_aux_lemma => kernel_rfl) rfl rfl; (exact stp_stE rfl rfl rfl rfl rfl (by first | assumption | omega | (simp; omega)) (by first | assumption | omega | (simp; omega)) (by as_aux_lemma => kernel_rfl))); (apply rest_one 20 rfl (by as_aux_lemma => kernel_rfl) rfl rfl; (exact stp_ixE rfl rfl rfl rfl rfl (by as_aux_lemma => kernel_rfl) (by first | assumption | exact ivals_get (by assumption) | exact irows_get (by assumption) | exact ivals_get (by omega) | exact irows_get (by omega) | rfl) (by first | rfl | exact (Int.toNat_of_nonneg (by omega)).symm) (by first | assumption | omega | (simp; omega)) (by first | exact Nat.le_refl _ | exact Nat.le_of_eq (ivals_len _).symm | exact Nat.le_of_eq (irows_len _).symm | (refine Nat.le_trans ?_ (Nat.le_of_eq (ivals_len _).symm); (first | omega | (simp; done) | (simp; omega))) | (refine Nat.le_trans ?_ (Nat.le_of_eq (irows_len _).symm); (first | omega | (simp; done) | (simp; omega)))))); (apply rest_one 21 rfl (by as_aux_lemma => kernel_rfl) rfl rfl; (exact stp_stE rfl rfl rfl rfl rfl (by first | assumption | omega | (simp; omega)) (by first | assumption | omega | (simp; omega)) (by as_aux_lemma => kernel_rfl))); (refine rest_done (by as_aux_lemma => kernel_rfl) ?_; exact fin_join (Wk.of trivial ⟨rfl, rfl, rfl, trivial⟩ ⟨rfl, trivial⟩)))); (focus ((apply rest_two 17 19 rfl (by as_aux_lemma => kernel_rfl) rfl rfl rfl rfl; (exact stp_move rfl rfl); (exact stp_stE rfl rfl rfl rfl rfl (by first | assumption | omega | (simp; omega)) (by first | assumption | omega | (simp; omega)) (by as_aux_lemma => kernel_rfl)); (focus ((apply rest_one 19 rfl (by as_aux_lemma => kernel_rfl) rfl rfl; (exact stp_stE rfl rfl rfl rfl rfl (by first | assumption | omega | (simp; omega)) (by first | assumption | omega | (simp; omega)) (by as_aux_lemma => kernel_rfl))); (apply rest_one 20 rfl (by as_aux_lemma => kernel_rfl) rfl rfl; (exact stp_ixE rfl rfl rfl rfl rfl (by as_aux_lemma => kernel_rfl) (by first | assumption | exact ivals_get (by assumption) | exact irows_get (by assumption) | exact ivals_get (by omega) | exact irows_get (by omega) | rfl) (by first | rfl | exact (Int.toNat_of_nonneg (by omega)).symm) (by first | assumption | omega | (simp; omega)) (by first | exact Nat.le_refl _ | exact Nat.le_of_eq (ivals_len _).symm | exact Nat.le_of_eq (irows_len _).symm | (refine Nat.le_trans ?_ (Nat.le_of_eq (ivals_len _).symm); (first | omega | (simp; done) | (simp; omega))) | (refine Nat.le_trans ?_ (Nat.le_of_eq (irows_len _).symm); (first | omega | (simp; done) | (simp; omega)))))); (apply rest_one 21 rfl (by as_aux_lemma => kernel_rfl) rfl rfl; (exact stp_stE rfl rfl rfl rfl rfl (by first | assumption | omega | (simp; omega)) (by first | assumption | omega | (simp; omega)) (by as_aux_lemma => kernel_rfl))); (refine rest_done (by as_aux_lemma => kernel_rfl) ?_; exact fin_join (Wk.of trivial ⟨rfl, rfl, rfl, trivial⟩ ⟨rfl, trivial⟩)))); (focus ((apply rest_one 17 rfl (by as_aux_lemma => kernel_rfl) rfl rfl; (exact stp_move rfl rfl)); (apply rest_one 20 rfl (by as_aux_lemma => kernel_rfl) rfl rfl; (exact stp_ixE rfl rfl rfl rfl rfl (by as_aux_lemma => kernel_rfl) (by first | assumption | exact ivals_get (by assumption) | exact irows_get (by assumption) | exact ivals_get (by omega) | exact irows_get (by omega) | rfl) (by first | rfl | exact (Int.toNat_of_nonneg (by omega)).symm) (by first | assumption | omega | (simp; omega)) (by first | exact Nat.le_refl _ | exact Nat.le_of_eq (ivals_len _).symm | exact Nat.le_of_eq (irows_len _).symm | (refine Nat.le_trans ?_ (Nat.le_of_eq (ivals_len _).symm); (first | omega | (simp; done) | (simp; omega))) | (refine Nat.le_trans ?_ (Nat.le_of_eq (irows_len _).symm); (first | omega | (simp; done) | (simp; omega)))))); (apply rest_one 21 rfl (by as_aux_lemma => kernel_rfl) rfl rfl; (exact stp_stE rfl rfl rfl rfl rfl (by first | assumption | omega | (simp; omega)) (by first | assumption | omega | (simp; omega)) (by as_aux_lemma => kernel_rfl))); (refine rest_done (by as_aux_lemma => kernel_rfl) ?_; exact fin_join (Wk.of trivial ⟨rfl, rfl, rfl, trivial⟩ ⟨rfl, trivial⟩)))))))))); (focus ((apply rest_two 15 18 rfl (by as_aux_lemma => kernel_rfl) rfl rfl rfl rfl; (exact stp_move rfl rfl); (exact stp_ixE rfl rfl rfl rfl rfl (by as_aux_lemma => kernel_rfl) (by first | assumption | exact ivals_get (by assumption) | exact irows_get (by assumption) | exact ivals_get (by omega) | exact irows_get (by omega) | rfl) (by first | rfl | exact (Int.toNat_of_nonneg (by omega)).symm) (by first | assumption | omega | (simp; omega)) (by first | exact Nat.le_refl _ | exact Nat.le_of_eq (ivals_len _).symm | exact Nat.le_of_eq (irows_len _).symm | (refine Nat.le_trans ?_ (Nat.le_of_eq (ivals_len _).symm); (first | omega | (simp; done) | (simp; omega))) | (refine Nat.le_trans ?_ (Nat.le_of_eq (irows_len _).symm); (first | omega | (simp; done) | (simp; omega))))); (focus ((apply rest_one 18 rfl (by as_aux_lemma => kernel_rfl) rfl rfl; (exact stp_ixE rfl rfl rfl rfl rfl (by as_aux_lemma => kernel_rfl) (by first | assumption | exact ivals_get (by assumption) | exact irows_get (by assumption) | exact ivals_get (by omega) | exact irows_get (by omega) | rfl) (by first | rfl | exact (Int.toNat_of_nonneg (by omega)).symm) (by first | assumption | omega | (simp; omega)) (by first | exact Nat.le_refl _ | exact Nat.le_of_eq (ivals_len _).symm | exact Nat.le_of_eq (irows_len _).symm | (refine Nat.le_trans ?_ (Nat.le_of_eq (ivals_len _).symm); (first | omega | (simp; done) | (simp; omega))) | (refine Nat.le_trans ?_ (Nat.le_of_eq (irows_len _).symm); (first | omega | (simp; done) | (simp; omega)))))); (apply rest_one 19 rfl (by as_aux_lemma => kernel_rfl) rfl rfl; (exact stp_stE rfl rfl rfl rfl rfl (by first | assumption | omega | (simp; omega)) (by first | assumption | omega | (simp; omega)) (by as_aux_lemma => kernel_rfl))); (apply rest_one 20 rfl (by as_aux_lemma => kernel_rfl) rfl rfl; (exact stp_ixE rfl rfl rfl rfl rfl (by as_aux_lemma => kernel_rfl) (by first | assumption | exact ivals_get (by assumption) | exact irows_get (by assumption) | exact ivals_get (by omega) | exact irows_get (by omega) | rfl) (by first | rfl | exact (Int.toNat_of_nonneg (by omega)).symm) (by first | assumption | omega | (simp; omega)) (by first | exact Nat.le_refl _ | exact Nat.le_of_eq (ivals_len _).symm | exact Nat.le_of_eq (irows_len _).symm | (refine Nat.le_trans ?_ (Nat.le_of_eq (ivals_len _).symm); (first | omega | (simp; done) | (simp; omega))) | (refine Nat.le_trans ?_ (Nat.le_of_eq (irows_len _).symm); (first | omega | (simp; done) | (simp; omega)))))); (apply rest_one 21 rfl (by as_aux_lemma => kernel_rfl) rfl rfl; (exact stp_stE rfl rfl rfl rfl rfl (by first | assumption | omega | (simp; omega)) (by first | assumption | omega | (simp; omega)) (by as_aux_lemma => kernel_rfl))); (refine rest_done (by as_aux_lemma => kernel_rfl) ?_; exact fin_join (Wk.of trivial ⟨rfl, rfl, rfl, trivial⟩ ⟨rfl, trivial⟩)))); (focus ((apply rest_two 15 19 rfl (by as_aux_lemma => kernel_rfl) rfl rfl rfl rfl; (exact stp_move rfl rfl); (exact stp_stE rfl rfl rfl rfl rfl (by first | assumption | omega | (simp; omega)) (by first | assumption | omega | (simp; omega)) (by as_aux_lemma => kernel_rfl)); (focus ((apply rest_one 19 rfl (by as_aux_lemma => kernel_rfl) rfl rfl; (exact stp_stE rfl rfl rfl rfl rfl (by first | assumption | omega | (simp; omega)) (by first | assumption | omega | (simp; omega)) (by as_aux_lemma => kernel_rfl))); (apply rest_one 20 rfl (by as_aux_lemma => kernel_rfl) rfl rfl; (exact stp_ixE rfl rfl rfl rfl rfl (by as_aux_lemma => kernel_rfl) (by first | assumption | exact ivals_get (by assumption) | exact irows_get (by assumption) | exact ivals_get (by omega) | exact irows_get (by omega) | rfl) (by first | rfl | exact (Int.toNat_of_nonneg (by omega)).symm) (by first | assumption | omega | (simp; omega)) (by first | exact Nat.le_refl _ | exact Nat.le_of_eq (ivals_len _).symm | exact Nat.le_of_eq (irows_len _).symm | (refine Nat.le_trans ?_ (Nat.le_of_eq (ivals_len _).symm); (first | omega | (simp; done) | (simp; omega))) | (refine Nat.le_trans ?_ (Nat.le_of_eq (irows_len _).symm); (first | omega | (simp; done) | (simp; omega)))))); (apply rest_one 21 rfl (by as_aux_lemma => kernel_rfl) rfl rfl; (exact stp_stE rfl rfl rfl rfl rfl (by first | assumption | omega | (simp; omega)) (by first | assumption | omega | (simp; omega)) (by as_aux_lemma => kernel_rfl))); (refine rest_done (by as_aux_lemma => kernel_rfl) ?_; exact fin_join (Wk.of trivial ⟨rfl, rfl, rfl, trivial⟩ ⟨rfl, trivial⟩)))); (focus ((apply rest_one 15 rfl (by as_aux_lemma => kernel_rfl) rfl rfl; (exact stp_move rfl rfl)); (apply rest_one 20 rfl (by as_aux_lemma => kernel_rfl) rfl rfl; (exact stp_ixE rfl rfl rfl rfl rfl (by as_aux_lemma => kernel_rfl) (by first | assumption | exact ivals_get (by assumption) | exact irows_get (by assumption) | exact ivals_get (by omega) | exact irows_get (by omega) | rfl) (by first | rfl | exact (Int.toNat_of_nonneg (by omega)).symm) (by first | assumption | omega | (simp; omega)) (by first | exact Nat.le_refl _ | exact Nat.le_of_eq (ivals_len _).symm | exact Nat.le_of_eq (irows_len _).symm | (refine Nat.le_trans ?_ (Nat.le_of_eq (ivals_len _).symm); (first | omega | (simp; done) | (simp; omega))) | (refine Nat.le_trans ?_ (Nat.le_of_eq (irows_len _).symm); (first | omega | (simp; done) | (simp; omega)))))); (apply rest_one 21 rfl (by as_aux_lemma => kernel_rfl) rfl rfl; (exact stp_stE rfl rfl rfl rfl rfl (by first | assumption | omega | (simp; omega)) (by first | assumption | omega | (simp; omega)) (by as_aux_lemma => kernel_rfl))); (refine rest_done (by as_aux_lemma => kernel_rfl) ?_; exact fin_join (Wk.of trivial ⟨rfl, rfl, rfl, trivial⟩ ⟨rfl, trivial⟩)))))))))); (focus ((apply rest_three 15 17 19 rfl (by as_aux_lemma => kernel_rfl) rfl rfl rfl rfl rfl rfl; (exact stp_move rfl rfl); (exact stp_move rfl rfl); (exact stp_stE rfl rfl rfl rfl rfl (by first | assumption | omega | (simp; omega)) (by first | assumption | omega | (simp; omega)) (by as_aux_lemma => kernel_rfl)); (focus ((apply rest_two 17 19 rfl (by as_aux_lemma => kernel_rfl) rfl rfl rfl rfl; (exact stp_move rfl rfl); (exact stp_stE rfl rfl rfl rfl rfl (by first | assumption | omega | (simp; omega)) (by first | assumption | omega | (simp; omega)) (by as_aux_lemma => kernel_rfl)); (focus ((apply rest_one 19 rfl (by as_aux_lemma => kernel_rfl) rfl rfl; (exact stp_stE rfl rfl rfl rfl rfl (by first | assumption | omega | (simp; omega)) (by first | assumption | omega | (simp; omega)) (by as_aux_lemma => kernel_rfl))); (apply rest_one 20 rfl (by as_aux_lemma => kernel_rfl) rfl rfl; (exact stp_ixE rfl rfl rfl rfl rfl (by as_aux_lemma => kernel_rfl) (by first | assumption | exact ivals_get (by assumption) | exact irows_get (by assumption) | exact ivals_get (by omega) | exact irows_get (by omega) | rfl) (by first | rfl | exact (Int.toNat_of_nonneg (by omega)).symm) (by first | assumption | omega | (simp; omega)) (by first | exact Nat.le_refl _ | exact Nat.le_of_eq (ivals_len _).symm | exact Nat.le_of_eq (irows_len _).symm | (refine Nat.le_trans ?_ (Nat.le_of_eq (ivals_len _).symm); (first | omega | (simp; done) | (simp; omega))) | (refine Nat.le_trans ?_ (Nat.le_of_eq (irows_len _).symm); (first | omega | (simp; done) | (simp; omega)))))); (apply rest_one 21 rfl (by as_aux_lemma => kernel_rfl) rfl rfl; (exact stp_stE rfl rfl rfl rfl rfl (by first | assumption | omega | (simp; omega)) (by first | assumption | omega | (simp; omega)) (by as_aux_lemma => kernel_rfl))); (refine rest_done (by as_aux_lemma => kernel_rfl) ?_; exact fin_join (Wk.of trivial ⟨rfl, rfl, rfl, trivial⟩ ⟨rfl, trivial⟩)))); (focus ((apply rest_one 17 rfl (by as_aux_lemma => kernel_rfl) rfl rfl; (exact stp_move rfl rfl)); (apply rest_one 20 rfl (by as_aux_lemma => kernel_rfl) rfl rfl; (exact stp_ixE rfl rfl rfl rfl rfl (by as_aux_lemma => kernel_rfl) (by first | assumption | exact ivals_get (by assumption) | exact irows_get (by assumption) | exact ivals_get (by omega) | exact irows_get (by omega) | rfl) (by first | rfl | exact (Int.toNat_of_nonneg (by omega)).symm) (by first | assumption | omega | (simp; omega)) (by first | exact Nat.le_refl _ | exact Nat.le_of_eq (ivals_len _).symm | exact Nat.le_of_eq (irows_len _).symm | (refine Nat.le_trans ?_ (Nat.le_of_eq (ivals_len _).symm); (first | omega | (simp; done) | (simp; omega))) | (refine Nat.le_trans ?_ (Nat.le_of_eq (irows_len _).symm); (first | omega | (simp; done) | (simp; omega)))))); (apply rest_one 21 rfl (by as_aux_lemma => kernel_rfl) rfl rfl; (exact stp_stE rfl rfl rfl rfl rfl (by first | assumption | omega | (simp; omega)) (by first | assumption | omega | (simp; omega)) (by as_aux_lemma => kernel_rfl))); (refine rest_done (by as_aux_lemma => kernel_rfl) ?_; exact fin_join (Wk.of trivial ⟨rfl, rfl, rfl, trivial⟩ ⟨rfl, trivial⟩))))))); (focus ((apply rest_two 15 19 rfl (by as_aux_lemma => kernel_rfl) rfl rfl rfl rfl; (exact stp_move rfl rfl); (exact stp_stE rfl rfl rfl rfl rfl (by first | assumption | omega | (simp; omega)) (by first | assumption | omega | (simp; omega)) (by as_aux_lemma => kernel_rfl)); (focus ((apply rest_one 19 rfl (by as_aux_lemma => kernel_rfl) rfl rfl; (exact stp_stE rfl rfl rfl rfl rfl (by first | assumption | omega | (simp; omega)) (by first | assumption | omega | (simp; omega)) (by as_aux_lemma => kernel_rfl))); (apply rest_one 20 rfl (by as_aux_lemma => kernel_rfl) rfl rfl; (exact stp_ixE rfl rfl rfl rfl rfl (by as_aux_lemma => kernel_rfl) (by first | assumption | exact ivals_get (by assumption) | exact irows_get (by assumption) | exact ivals_get (by omega) | exact irows_get (by omega) | rfl) (by first | rfl | exact (Int.toNat_of_nonneg (by omega)).symm) (by first | assumption | omega | (simp; omega)) (by first | exact Nat.le_refl _ | exact Nat.le_of_eq (ivals_len _).symm | exact Nat.le_of_eq (irows_len _).symm | (refine Nat.le_trans ?_ (Nat.le_of_eq (ivals_len _).symm); (first | omega | (simp; done) | (simp; omega))) | (refine Nat.le_trans ?_ (Nat.le_of_eq (irows_len _).symm); (first | omega | (simp; done) | (simp; omega)))))); (apply rest_one 21 rfl (by as_aux_lemma => kernel_rfl) rfl rfl; (exact stp_stE rfl rfl rfl rfl rfl (by first | assumption | omega | (simp; omega)) (by first | assumption | omega | (simp; omega)) (by as_aux_lemma => kernel_rfl))); (refine rest_done (by as_aux_lemma => kernel_rfl) ?_; exact fin_join (Wk.of trivial ⟨rfl, rfl, rfl, trivial⟩ ⟨rfl, trivial⟩)))); (focus ((apply rest_one 15 rfl (by as_aux_lemma => kernel_rfl) rfl rfl; (exact stp_move rfl rfl)); (apply rest_one 20 rfl (by as_aux_lemma => kernel_rfl) rfl rfl; (exact stp_ixE rfl rfl rfl rfl rfl (by as_aux_lemma => kernel_rfl) (by first | assumption | exact ivals_get (by assumption) | exact irows_get (by assumption) | exact ivals_get (by omega) | exact irows_get (by omega) | rfl) (by first | rfl | exact (Int.toNat_of_nonneg (by omega)).symm) (by first | assumption | omega | (simp; omega)) (by first | exact Nat.le_refl _ | exact Nat.le_of_eq (ivals_len _).symm | exact Nat.le_of_eq (irows_len _).symm | (refine Nat.le_trans ?_ (Nat.le_of_eq (ivals_len _).symm); (first | omega | (simp; done) | (simp; omega))) | (refine Nat.le_trans ?_ (Nat.le_of_eq (irows_len _).symm); (first | omega | (simp; done) | (simp; omega)))))); (apply rest_one 21 rfl (by as_aux_lemma => kernel_rfl) rfl rfl; (exact stp_stE rfl rfl rfl rfl rfl (by first | assumption | omega | (simp; omega)) (by first | assumption | omega | (simp; omega)) (by as_aux_lemma => kernel_rfl))); (refine rest_done (by as_aux_lemma => kernel_rfl) ?_; exact fin_join (Wk.of trivial ⟨rfl, rfl, rfl, trivial⟩ ⟨rfl, trivial⟩))))))); (focus ((apply rest_two 15 17 rfl (by as_aux_lemma => kernel_rfl) rfl rfl rfl rfl; (exact stp_move rfl rfl); (exact stp_move rfl rfl); (focus ((apply rest_one 17 rfl (by as_aux_lemma => kernel_rfl) rfl rfl; (exact stp_move rfl rfl)); (apply rest_one 20 rfl (by as_aux_lemma => kernel_rfl) rfl rfl; (exact stp_ixE rfl rfl rfl rfl rfl (by as_aux_lemma => kernel_rfl) (by first | assumption | exact ivals_get (by assumption) | exact irows_get (by assumption) | exact ivals_get (by omega) | exact irows_get (by omega) | rfl) (by first | rfl | exact (Int.toNat_of_nonneg (by omega)).symm) (by first | assumption | omega | (simp; omega)) (by first | exact Nat.le_refl _ | exact Nat.le_of_eq (ivals_len _).symm | exact Nat.le_of_eq (irows_len _).symm | (refine Nat.le_trans ?_ (Nat.le_of_eq (ivals_len _).symm); (first | omega | (simp; done) | (simp; omega))) | (refine Nat.le_trans ?_ (Nat.le_of_eq (irows_len _).symm); (first | omega | (simp; done) | (simp; omega)))))); (apply rest_one 21 rfl (by as_aux_lemma => kernel_rfl) rfl rfl; (exact stp_stE rfl rfl rfl rfl rfl (by first | assumption | omega | (simp; omega)) (by first | assumption | omega | (simp; omega)) (by as_aux_lemma => kernel_rfl))); (refine rest_done (by as_aux_lemma => kernel_rfl) ?_; exact fin_join (Wk.of trivial ⟨rfl, rfl, rfl, trivial⟩ ⟨rfl, trivial⟩)))); (focus ((apply rest_one 15 rfl (by as_aux_lemma => kernel_rfl) rfl rfl; (exact stp_move rfl rfl)); (apply rest_one 20 rfl (by as_aux_lemma => kernel_rfl) rfl rfl; (exact stp_ixE rfl rfl rfl rfl rfl (by as_aux_lemma => kernel_rfl) (by first | assumption | exact ivals_get (by assumption) | exact irows_get (by assumption) | exact ivals_get (by omega) | exact irows_get (by omega) | rfl) (by first | rfl | exact (Int.toNat_of_nonneg (by omega)).symm) (by first | assumption | omega | (simp; omega)) (by first | exact Nat.le_refl _ | exact Nat.le_of_eq (ivals_len _).symm | exact Nat.le_of_eq (irows_len _).symm | (refine Nat.le_trans ?_ (Nat.le_of_eq (ivals_len _).symm); (first | omega | (simp; done) | (simp; omega))) | (refine Nat.le_trans ?_ (Nat.le_of_eq (irows_len _).symm); (first | omega | (simp; done) | (simp; omega)))))); (apply rest_one 21 rfl (by as_aux_lemma => kernel_rfl) rfl rfl; (exact stp_stE rfl rfl rfl rfl rfl (by first | assumption | omega | (simp; omega)) (by first | assumption | omega | (simp; omega)) (by as_aux_lemma => kernel_rfl))); (refine rest_done (by as_aux_lemma => kernel_rfl) ?_; exact fin_join (Wk.of trivial ⟨rfl, rfl, rfl, trivial⟩ ⟨rfl, trivial⟩))))))))))))
  · exact fin_ret0 (.inr rfl) rfl ⟨rfl, rfl, rfl, trivial⟩ ⟨rfl, trivial⟩
end Go.Proofs.Ytpognnifgcacnaa
