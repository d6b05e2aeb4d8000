/- The program's coset enumeration: enumerated. guards: -/
import Derived.Test.YtpognnifgcacnaaPart5
import Derived.Test.YtpognnifgcacnaaProg
import Derived.Test.YtpognnifgcacnaaPart1
import Derived.Test.YtpognnifgcacnaaPart2
import Derived.Test.YtpognnifgcacnaaPart4
import Derived.Test.YtpognnifgcacnaaPart3
namespace Go.Proofs.Ytpognnifgcacnaa
open Go.RowKit

abbrev cE (m n : Nat) (b : Bool) : Ch := ⟨true, 179, 3, .flat [.sl 25 0 m, .sl 26 0 n, .val (.bool b)]⟩
abbrev pE (ng R : Nat) : Ch := ⟨true, 72, 2, .flat [.val (I6 ng), .sl 1003 0 R]⟩

theorem wf_small {z : Int} (h0 : 0 ≤ z) (h : z ≤ 1000000000) : (Lit.int .i64 z).wf = true := by
  simp [Lit.wf, IntKind.min, IntKind.max, IntKind.signed, IntKind.bits]; omega

set_option maxRecDepth 100000 in
set_option maxHeartbeats 4000000 in
theorem enumerated_fc (ng : Nat) (rels words : List (List Int)) (R m : Nat) (hR : rels.length = R) (hm : words.length = m) (hr : ∀ w ∈ rels, Letters ng w) (hw : ∀ w ∈ words, Letters ng w) (hng0 : 0 < ng) (hng : ng ≤ 1000) (hrl : ∀ w ∈ rels, w.length ≤ 1000000000) (hwl : ∀ w ∈ words, w.length ≤ 1000000000) (hR2 : R ≤ 1000000000) (hm2 : m ≤ 1000000000) (X : CSt) (hX : runI ng rels words = X) :
    FC Try.prog 138 [(1002, rowsRo words), (1003, rowsRo rels)] [.s (.agg [.val (I6 ng), .sl 1003 0 R]), o1 (.sl 1002 0 m)] (if X.2.2 = true then [] else [(131, imOw (tableC ng X.1 X.2.1))])
      (if X.2.2 = true then .tup [.one (.val (.slice none 0 0)), .one (.val (.bool false))] else .tup [.one (.sl 131 0 ng), .one (.val (.bool true))]) [] := by
  have hRp : FC Try.prog 180 [(21, ⟨false, 2, 1, .vals (ivals [-1])⟩)] [o1 (.sl 21 0 1), vv (I6 ng)] [(24, ⟨true, 2, 1, .vals (ivals (List.replicate ng (-1)))⟩)] (o1 (.sl 24 0 ng)) [] := repeat1_fc 21 24 ng (-1) (by omega) hng0
  have hrep : (ivals (List.replicate ng (-1))).length = ng := by rw [ivals_len]; simp
  refine fc_enter (nt := 179) Try.func138 rfl rfl (by simp) fun w0 ω0 => ?_
  (refine goes_seq ?_; refine goes_region ?_; apply run_step rfl; (exact stp_box rfl rfl rfl rfl); apply run_step rfl; (exact stp_assign rfl rfl); apply run_step rfl; (exact stp_assign rfl rfl); refine run_nil ?_; refine fin_seq ?_; refine goes_seq ?_; refine goes_region ?_; apply run_step rfl; (exact stp_lit1I (E := 2) rfl (by as_aux_lemma => kernel_rfl) rfl); apply run_step rfl; (exact stp_fieldAddr (d := 0) rfl rfl rfl (by as_aux_lemma => kernel_rfl)); apply run_step rfl; (exact stp_loadF rfl (by as_aux_lemma => kernel_rfl) rfl rfl rfl rfl); apply run_step rfl; (first | (apply call_gate 180; exact stp_callN hRp (by as_aux_lemma => kernel_rfl) rfl rfl ⟨rfl, rfl, trivial⟩ ⟨⟨_, rfl, .inr rfl⟩, trivial⟩ rfl rfl rfl) | exact stp_lit1R (t := 25) (E := 49) (F := 2) rfl (by as_aux_lemma => kernel_rfl) rfl rfl hrep rfl | exact stp_buildSl (T := 179) (vs := [.bool false]) rfl rfl rfl rfl rfl (by as_aux_lemma => (intros; kernel_rfl))); apply run_step rfl; (first | (apply call_gate 180; exact stp_callN hRp (by as_aux_lemma => kernel_rfl) rfl rfl ⟨rfl, rfl, trivial⟩ ⟨⟨_, rfl, .inr rfl⟩, trivial⟩ rfl rfl rfl) | exact stp_lit1R (t := 25) (E := 49) (F := 2) rfl (by as_aux_lemma => kernel_rfl) rfl rfl hrep rfl | exact stp_buildSl (T := 179) (vs := [.bool false]) rfl rfl rfl rfl rfl (by as_aux_lemma => (intros; kernel_rfl))); apply run_step rfl; (exact stp_lit1I (E := 2) rfl (by as_aux_lemma => kernel_rfl) rfl); apply run_step rfl; (first | (apply call_gate 180; exact stp_callN hRp (by as_aux_lemma => kernel_rfl) rfl rfl ⟨rfl, rfl, trivial⟩ ⟨⟨_, rfl, .inr rfl⟩, trivial⟩ rfl rfl rfl) | exact stp_lit1R (t := 25) (E := 49) (F := 2) rfl (by as_aux_lemma => kernel_rfl) rfl rfl hrep rfl | exact stp_buildSl (T := 179) (vs := [.bool false]) rfl rfl rfl rfl rfl (by as_aux_lemma => (intros; kernel_rfl))); apply run_step rfl; (exact stp_box rfl rfl rfl rfl); apply run_step rfl; (exact stp_assign rfl rfl); refine run_nil ?_; refine fin_seq ?_; refine goes_seq ?_; refine goes_seq ?_; refine goes_region ?_; apply run_step rfl; (exact stp_move rfl rfl); apply run_step rfl; (exact stp_len rfl rfl rfl (by as_aux_lemma => kernel_rfl)); apply run_step rfl; (exact stp_move rfl rfl); refine run_nil ?_; refine fin_seq ?_; refine goes_block ?_)
  refine goes_loop (fun j : Nat × CSt => St.of [(2, o1 (.ptr 2 0)), (6, o1 (.ptr 28 0)), (29, o1 (.sl 1002 0 m)), (30, vv (I6 m)), (31, vv (I6 j.1))] [(28, cE j.2.2.1.length j.2.2.1.length j.2.2.2), (25, imOw j.2.1), (26, leOw j.2.2.1), (1002, rowsRo words), (1003, rowsRo rels), (2, pE ng R)])
    (fun j => j.1 ≤ m ∧ (words.take j.1).foldl (closeW ng) (startC ng) = j.2 ∧ IOK ng 1 j.2) (fun j => m - j.1) (0, startC ng) ⟨Nat.zero_le _, rfl, startC_iok ng⟩ (Wk.of ⟨rfl, rfl, rfl, rfl, rfl, trivial⟩ ⟨rfl, rfl, rfl, rfl, rfl, rfl, trivial⟩ trivial) ?_
  rintro ⟨j, M, N, b⟩ ⟨hj, hfo, hok⟩
  dsimp only at hj hfo ⊢
  (refine goes_seq ?_; refine goes_region ?_; apply run_step rfl; (exact stp_bin rfl rfl rfl rfl); refine run_nil ?_; refine fin_seq ?_; refine goes_seq ?_)
  refine goes_if rfl (fun hlt => ?_) (fun hlt => ?_)
  · have hjw : j < words.length := by omega
    obtain ⟨W, hW⟩ : ∃ W, lget words j = W := ⟨_, rfl⟩
    have hWm : W ∈ words := by rw [← hW]; exact lget_mem hjw
    obtain ⟨C, hC⟩ : ∃ C, closeI ng M N b 0 (W.map Int.toNat) = C := ⟨_, rfl⟩
    have hN0 : 0 < N.length := hok.ok.lo
    have hcl : FC Try.prog 193 [(28, cE N.length N.length b), (25, imOw M), (26, leOw N), (1002, rowsRo words)] [o1 (.ptr 28 0), o1 (.esl 1002 j 0 W.length), vv (I6 (0 : Nat))] [(28, cE C.2.1.length C.2.1.length C.2.2), (25, imOw C.1), (26, leOw C.2.1)] (.tup []) [(0, o1 (.ptr 28 0))] :=
      (iCloseAt_fc ng N.length M N b 0 words j W.length W rfl hok.ok.wf hok.full hN0 hok.ok.hi hng hjw hW rfl (hwl W hWm) (hw W hWm) C hC).nm [(1010, 28), (1000, 25), (1001, 26), (1002, 1002)] (by kernel_rfl)
    have hfo' : (words.take (j + 1)).foldl (closeW ng) (startC ng) = C := by
      rw [take_lget hjw, List.foldl_append, hfo, hW]; exact hC
    have hok' : IOK ng 1 C := by rw [← hC]; exact closeW_ok (w := W) hok (by omega) (hw W hWm)
    have hrow : (irows words)[j]? = some (ivals W) := by rw [← hW]; exact irows_get hjw
    (refine goes_skip ?_; refine fin_seq ?_; refine goes_seq ?_; refine goes_block ?_; refine goes_seq ?_; refine goes_region ?_; apply run_step rfl; (exact stp_ix rfl rfl rfl rfl rfl (by as_aux_lemma => kernel_rfl) (by first | rfl | exact (Int.toNat_of_nonneg (by omega)).symm) (by first | assumption | omega | (simp; omega)) (by first | exact Nat.le_refl _ | exact Nat.le_of_eq (ivals_len _).symm | exact Nat.le_of_eq (irows_len _).symm | (refine Nat.le_trans ?_ (Nat.le_of_eq (ivals_len _).symm); (first | omega | (simp; done) | (simp; omega))) | (refine Nat.le_trans ?_ (Nat.le_of_eq (irows_len _).symm); (first | omega | (simp; done) | (simp; omega))))); apply run_step rfl; (exact stp_loadR rfl (by as_aux_lemma => kernel_rfl) rfl rfl rfl (by first | assumption | exact ivals_get (by assumption) | exact irows_get (by assumption) | exact ivals_get (by omega) | exact irows_get (by omega) | rfl) (by first | exact ivals_len _ | assumption | rfl)); apply run_step rfl; (exact stp_assign rfl rfl); refine run_nil ?_; refine fin_seq ?_; refine goes_region ?_; apply run_step rfl; (exact stp_move rfl rfl); apply run_step rfl; (exact stp_move rfl rfl); apply run_step rfl; (apply call_gate 193; exact stp_call [(0, 28)] hcl (by as_aux_lemma => kernel_rfl) rfl rfl ⟨rfl, rfl, rfl, trivial⟩ ⟨⟨_, rfl, .inl rfl⟩, ⟨_, rfl, .inl rfl⟩, ⟨_, rfl, .inl rfl⟩, ⟨_, rfl, .inl rfl⟩, trivial⟩ ⟨rfl, rfl, rfl, trivial⟩ rfl rfl); refine run_nil ?_; refine fin_block ?_; refine fin_seq ?_; refine goes_region ?_; apply run_step rfl; (exact stp_add rfl rfl rfl (by first | exact IntWalk.i64_in _ (by omega) | rfl)); apply run_step rfl; (exact stp_move rfl rfl); refine run_nil ?_)
    exact fin_round (j + 1, C) ⟨by show j + 1 ≤ m; omega, hfo', hok'⟩ (by show m - (j + 1) < m - j; omega) (Wk.of ⟨rfl, rfl, rfl, rfl, rfl, trivial⟩ ⟨rfl, rfl, rfl, rfl, rfl, rfl, trivial⟩ trivial)
  · obtain rfl : j = m := by omega
    have hX0 : outer ng rels 2001 0 (M, N, b) = X := by rw [← hfo, ← hm, List.take_length]; exact hX
    clear hfo hlt hj
    (refine goes_exit ?_; refine fin_exit_then ?_; refine fin_exit_then ?_; refine fin_exit_eq ?_; refine fin_seq ?_; refine goes_seq ?_; refine goes_seq ?_; refine goes_region ?_; apply run_step rfl; (exact stp_assign rfl rfl); refine run_nil ?_; refine fin_seq ?_; refine goes_block ?_)
    refine goes_loop (fun c : Nat × CSt => St.of [(2, o1 (.ptr 2 0)), (6, o1 (.ptr 28 0)), (9, vv (I6 c.1))] [(28, cE c.2.2.1.length c.2.2.1.length c.2.2.2), (25, imOw c.2.1), (26, leOw c.2.2.1), (1002, rowsRo words), (1003, rowsRo rels), (2, pE ng R)])
      (fun c => outer ng rels (2001 - c.1) c.1 c.2 = X ∧ c.1 ≤ c.2.2.1.length ∧ IOK ng 1 c.2) (fun c => 2001 - c.1) (0, (M, N, b)) ⟨hX0, Nat.zero_le _, hok⟩ (Wk.of ⟨rfl, rfl, rfl, trivial⟩ ⟨rfl, rfl, rfl, rfl, rfl, rfl, trivial⟩ trivial) ?_
    clear hX0 hok
    clear M N b
    rintro ⟨c, M, N, b⟩ ⟨hout, hcl, hok⟩
    dsimp only at hout hcl ⊢
    have hNl : N.length ≤ 2000 := hok.ok.hi
    have hMN : M.length = N.length := hok.ok.wf.len
    have hS := sizeR_fc 25 N.length
    repeat refine goes_seq ?_
    refine goes_cut (St.of [(2, o1 (.ptr 2 0)), (6, o1 (.ptr 28 0)), (9, vv (I6 c)), (52, vv (.bool (decide ((c : Int) < N.length) && !b)))] [(28, cE N.length N.length b), (25, imOw M), (26, leOw N), (1002, rowsRo words), (1003, rowsRo rels), (2, pE ng R)]) ?_ ?_
    · (refine goes_region ?_; apply run_step rfl; (exact stp_move rfl rfl); apply run_step rfl; (exact stp_move rfl rfl); apply run_step rfl; (exact stp_nilCheck rfl rfl rfl); apply run_step rfl; (exact stp_fieldAddr (d := 0) rfl rfl rfl (by as_aux_lemma => kernel_rfl)); apply run_step rfl; (exact stp_loadF rfl (by as_aux_lemma => kernel_rfl) rfl rfl rfl rfl); apply run_step rfl; (apply call_gate 145; exact stp_callR hS (by as_aux_lemma => kernel_rfl) rfl rfl ⟨rfl, trivial⟩ trivial rfl rfl); apply run_step rfl; (exact stp_bin rfl rfl rfl rfl); apply run_step rfl; (exact stp_move rfl rfl))
      refine run_bool 46 rfl (fun h => ?_) (fun h => ?_)
      · (apply run_gYes rfl rfl rfl; (exact stp_move rfl rfl); apply run_gYes rfl rfl rfl; (exact stp_nilCheck rfl rfl rfl); apply run_gYes rfl rfl rfl; (exact stp_fieldAddr (d := 2) rfl rfl rfl (by as_aux_lemma => kernel_rfl)); apply run_gYes rfl rfl rfl; (exact stp_loadF rfl (by as_aux_lemma => kernel_rfl) rfl rfl rfl rfl); apply run_gYes rfl rfl rfl; (exact stp_not rfl rfl); apply run_step rfl; (exact stp_pickT rfl rfl rfl); refine run_nil ?_)
        exact fin_join (Wk.of ⟨rfl, rfl, rfl, by rw [h]; rfl, trivial⟩ ⟨rfl, rfl, rfl, rfl, rfl, rfl, trivial⟩ trivial)
      · (apply run_gNo rfl rfl rfl rfl rfl; apply run_gNo rfl rfl rfl rfl rfl; apply run_gNo rfl rfl rfl rfl rfl; apply run_gNo rfl rfl rfl rfl rfl; apply run_gNo rfl rfl rfl rfl rfl; apply run_step rfl; (exact stp_pickF rfl rfl rfl); refine run_nil ?_)
        exact fin_join (Wk.of ⟨rfl, rfl, rfl, by rw [h]; rfl, trivial⟩ ⟨rfl, rfl, rfl, rfl, rfl, rfl, trivial⟩ trivial)
    (refine fin_seq ?_)
    refine goes_cond rfl (fun hc => ?_) (fun hc => ?_)
    · obtain ⟨hlt, rfl⟩ : c < N.length ∧ b = false := by
        simp at hc; exact ⟨by omega, hc.2⟩
      obtain ⟨s0, hs0⟩ : ∃ s0 : CSt, s0 = (M, N, false) := ⟨_, rfl⟩
      have hok0 : IOK ng N.length s0 := by subst hs0; exact ⟨⟨hok.ok.wf, Nat.le_refl _, hok.ok.hi⟩, fun e => by cases e⟩
      have houts : outer ng rels (2000 - c) (c + 1) (coset1 ng rels c s0) = X := by
        rw [← hout, show 2001 - c = (2000 - c) + 1 by omega, outer, if_pos ⟨hlt, rfl⟩, hs0]
      (refine goes_skip ?_; refine fin_seq ?_; refine goes_seq ?_; refine goes_block ?_; refine goes_seq ?_; refine goes_seq ?_; refine goes_region ?_; apply run_step rfl; (exact stp_fieldAddr (d := 1) rfl rfl rfl (by as_aux_lemma => kernel_rfl)); apply run_step rfl; (exact stp_loadF rfl (by as_aux_lemma => kernel_rfl) rfl rfl rfl rfl); apply run_step rfl; (exact stp_len rfl rfl rfl (by as_aux_lemma => kernel_rfl)); apply run_step rfl; (exact stp_move rfl rfl); refine run_nil ?_; refine fin_seq ?_; refine goes_block ?_)
      refine goes_loop (fun j : Nat × CSt => St.of [(2, o1 (.ptr 2 0)), (6, o1 (.ptr 28 0)), (9, vv (I6 c)), (56, o1 (.sl 1003 0 R)), (57, vv (I6 R)), (58, vv (I6 j.1))] [(28, cE j.2.2.1.length j.2.2.1.length j.2.2.2), (25, imOw j.2.1), (26, leOw j.2.2.1), (1002, rowsRo words), (1003, rowsRo rels), (2, pE ng R)])
        (fun j => j.1 ≤ R ∧ (rels.take j.1).foldl (close1 ng c) s0 = j.2 ∧ IOK ng N.length j.2) (fun j => R - j.1) (0, s0) ⟨Nat.zero_le _, rfl, hok0⟩ (Wk.of (by rw [hs0]; exact ⟨rfl, rfl, rfl, rfl, rfl, rfl, trivial⟩) (by rw [hs0]; exact ⟨rfl, rfl, rfl, rfl, rfl, rfl, trivial⟩) trivial) ?_
      generalize hn0 : N.length = n0 at *
      have hn02 : n0 ≤ 2000 := hNl
      clear hout hok hc hs0 hS hMN
      clear hn0
      rintro ⟨j, M, N, b⟩ ⟨hj, hfo, hok⟩
      dsimp only at hj hfo ⊢
      have hNl : N.length ≤ 2000 := hok.ok.hi
      have hNn : n0 ≤ N.length := hok.ok.lo
      have hcN : c < N.length := by omega
      (refine goes_seq ?_; refine goes_region ?_; apply run_step rfl; (exact stp_bin rfl rfl rfl rfl); refine run_nil ?_; refine fin_seq ?_; refine goes_seq ?_)
      refine goes_if rfl (fun hjr => ?_) (fun hjr => ?_)
      · have hjw : j < rels.length := by omega
        obtain ⟨W, hW⟩ : ∃ W, lget rels j = W := ⟨_, rfl⟩
        have hWm : W ∈ rels := by rw [← hW]; exact lget_mem hjw
        have hrow : (irows rels)[j]? = some (ivals W) := by rw [← hW]; exact irows_get hjw
        have hfo' : (rels.take (j + 1)).foldl (close1 ng c) s0 = close1 ng c (M, N, b) W := by rw [take_lget hjw, List.foldl_append, hfo, hW]; rfl
        have hok' := close1_iok hok hlt (hr W hWm)
        (refine goes_skip ?_; refine fin_seq ?_; refine goes_seq ?_; refine goes_block ?_; refine goes_seq ?_; refine goes_region ?_; apply run_step rfl; (exact stp_ix rfl rfl rfl rfl rfl (by as_aux_lemma => kernel_rfl) (by first | rfl | exact (Int.toNat_of_nonneg (by omega)).symm) (by first | assumption | omega | (simp; omega)) (by first | exact Nat.le_refl _ | exact Nat.le_of_eq (ivals_len _).symm | exact Nat.le_of_eq (irows_len _).symm | (refine Nat.le_trans ?_ (Nat.le_of_eq (ivals_len _).symm); (first | omega | (simp; done) | (simp; omega))) | (refine Nat.le_trans ?_ (Nat.le_of_eq (irows_len _).symm); (first | omega | (simp; done) | (simp; omega))))); apply run_step rfl; (exact stp_loadR rfl (by as_aux_lemma => kernel_rfl) rfl rfl rfl (by first | assumption | exact ivals_get (by assumption) | exact irows_get (by assumption) | exact ivals_get (by omega) | exact irows_get (by omega) | rfl) (by first | exact ivals_len _ | assumption | rfl)); apply run_step rfl; (exact stp_assign rfl rfl); refine run_nil ?_; refine fin_seq ?_; refine goes_seq ?_; refine goes_region ?_; apply run_step rfl; (exact stp_move rfl rfl); apply run_step rfl; (exact stp_nilCheck rfl rfl rfl); apply run_step rfl; (exact stp_fieldAddr (d := 1) rfl rfl rfl (by as_aux_lemma => kernel_rfl)); apply run_step rfl; (exact stp_loadF rfl (by as_aux_lemma => kernel_rfl) rfl rfl rfl rfl); apply run_step rfl; (exact stp_move rfl rfl); apply run_step rfl; (exact stp_ix rfl rfl rfl rfl rfl (by as_aux_lemma => kernel_rfl) (by first | rfl | exact (Int.toNat_of_nonneg (by omega)).symm) (by first | assumption | omega | (simp; omega)) (by first | exact Nat.le_refl _ | exact Nat.le_of_eq (ivals_len _).symm | exact Nat.le_of_eq (irows_len _).symm | (refine Nat.le_trans ?_ (Nat.le_of_eq (ivals_len _).symm); (first | omega | (simp; done) | (simp; omega))) | (refine Nat.le_trans ?_ (Nat.le_of_eq (irows_len _).symm); (first | omega | (simp; done) | (simp; omega))))); apply run_step rfl; (exact stp_loadV rfl (by as_aux_lemma => kernel_rfl) rfl rfl rfl (by first | assumption | exact ivals_get (by assumption) | exact irows_get (by assumption) | exact ivals_get (by omega) | exact irows_get (by omega) | rfl)); apply run_step rfl; (exact stp_move rfl rfl); apply run_step rfl; (exact stp_bin rfl rfl rfl rfl); apply run_step rfl; (exact stp_move rfl rfl))
        refine run_bool 71 rfl (fun h => ?_) (fun h => ?_)
        · have hlv : iget N c = (c : Int) := by simpa using h
          (apply run_gYes rfl rfl rfl; (exact stp_move rfl rfl); apply run_gYes rfl rfl rfl; (exact stp_nilCheck rfl rfl rfl); apply run_gYes rfl rfl rfl; (exact stp_fieldAddr (d := 2) rfl rfl rfl (by as_aux_lemma => kernel_rfl)); apply run_gYes rfl rfl rfl; (exact stp_loadF rfl (by as_aux_lemma => kernel_rfl) rfl rfl rfl rfl); apply run_gYes rfl rfl rfl; (exact stp_not rfl rfl); apply run_step rfl; (exact stp_pickT rfl rfl rfl); refine run_nil ?_; refine fin_seq ?_)
          refine goes_cond rfl (fun hb => ?_) (fun hb => ?_)
          · obtain rfl : b = false := by simpa using hb
            obtain ⟨C, hC⟩ : ∃ C, closeI ng M N false c (W.map Int.toNat) = C := ⟨_, rfl⟩
            have hliv : liveC (M, N, false) c = true := by show (decide (iget N c = (c : Int)) && !false) = true; simp [hlv]
            have hst : close1 ng c (M, N, false) W = C := by unfold close1; rw [if_pos hliv]; rw [← hC]; unfold closeI; rw [if_neg (by simp)]
            rw [hst] at hfo' hok'
            have hcl : FC Try.prog 193 [(28, cE N.length N.length false), (25, imOw M), (26, leOw N), (1003, rowsRo rels)] [o1 (.ptr 28 0), o1 (.esl 1003 j 0 W.length), vv (I6 c)] [(28, cE C.2.1.length C.2.1.length C.2.2), (25, imOw C.1), (26, leOw C.2.1)] (.tup []) [(0, o1 (.ptr 28 0))] :=
              (iCloseAt_fc ng N.length M N false c rels j W.length W rfl hok.ok.wf (fun e => by cases e) hcN hok.ok.hi hng hjw hW rfl (hrl W hWm) (hr W hWm) C hC).nm [(1010, 28), (1000, 25), (1001, 26), (1002, 1003)] (by kernel_rfl)
            (refine goes_region ?_; apply run_step rfl; (exact stp_move rfl rfl); apply run_step rfl; (exact stp_move rfl rfl); apply run_step rfl; (exact stp_move rfl rfl); apply run_step rfl; (apply call_gate 193; exact stp_call [(0, 28)] hcl (by as_aux_lemma => kernel_rfl) rfl rfl ⟨rfl, rfl, rfl, trivial⟩ ⟨⟨_, rfl, .inl rfl⟩, ⟨_, rfl, .inl rfl⟩, ⟨_, rfl, .inl rfl⟩, ⟨_, rfl, .inl rfl⟩, trivial⟩ ⟨rfl, rfl, rfl, trivial⟩ rfl rfl); refine run_nil ?_; refine fin_block ?_; refine fin_seq ?_; refine goes_region ?_; apply run_step rfl; (exact stp_add rfl rfl rfl (by first | exact IntWalk.i64_in _ (by omega) | rfl)); apply run_step rfl; (exact stp_move rfl rfl); refine run_nil ?_)
            exact fin_round (j + 1, C) ⟨by show j + 1 ≤ R; omega, hfo', hok'⟩ (by show R - (j + 1) < R - j; omega) (Wk.of ⟨rfl, rfl, rfl, rfl, rfl, rfl, trivial⟩ ⟨rfl, rfl, rfl, rfl, rfl, rfl, trivial⟩ trivial)
          · obtain rfl : b = true := by simpa using hb
            have hst : close1 ng c (M, N, true) W = (M, N, true) := close1_dead (by unfold liveC; simp) W
            rw [hst] at hfo' hok'
            (refine goes_skip ?_; refine fin_block ?_; refine fin_seq ?_; refine goes_region ?_; apply run_step rfl; (exact stp_add rfl rfl rfl (by first | exact IntWalk.i64_in _ (by omega) | rfl)); apply run_step rfl; (exact stp_move rfl rfl); refine run_nil ?_)
            exact fin_round (j + 1, (M, N, true)) ⟨by show j + 1 ≤ R; omega, hfo', hok'⟩ (by show R - (j + 1) < R - j; omega) (Wk.of ⟨rfl, rfl, rfl, rfl, rfl, rfl, trivial⟩ ⟨rfl, rfl, rfl, rfl, rfl, rfl, trivial⟩ trivial)
        · have hlv : ¬ iget N c = (c : Int) := by simpa using h
          have hst : close1 ng c (M, N, b) W = (M, N, b) := close1_dead (by unfold liveC; simp [hlv]) W
          rw [hst] at hfo' hok'
          (apply run_gNo rfl rfl rfl rfl rfl; apply run_gNo rfl rfl rfl rfl rfl; apply run_gNo rfl rfl rfl rfl rfl; apply run_gNo rfl rfl rfl rfl rfl; apply run_gNo rfl rfl rfl rfl rfl; apply run_step rfl; (exact stp_pickF rfl rfl rfl); refine run_nil ?_; refine fin_seq ?_)
          refine goes_cond rfl (fun e => by cases e) (fun _ => ?_)
          (refine goes_skip ?_; refine fin_block ?_; refine fin_seq ?_; refine goes_region ?_; apply run_step rfl; (exact stp_add rfl rfl rfl (by first | exact IntWalk.i64_in _ (by omega) | rfl)); apply run_step rfl; (exact stp_move rfl rfl); refine run_nil ?_)
          exact fin_round (j + 1, (M, N, b)) ⟨by show j + 1 ≤ R; omega, hfo', hok'⟩ (by show R - (j + 1) < R - j; omega) (Wk.of ⟨rfl, rfl, rfl, rfl, rfl, rfl, trivial⟩ ⟨rfl, rfl, rfl, rfl, rfl, rfl, trivial⟩ trivial)
      · obtain rfl : j = R := by omega
        have hfull : rels.foldl (close1 ng c) s0 = (M, N, b) := by rw [← hfo, ← hR, List.take_length]
        obtain ⟨s1, hs1⟩ : ∃ s1 : CSt, s1 = (M, N, b) := ⟨_, rfl⟩
        have hok1 : IOK ng n0 s1 := by rw [hs1]; exact hok
        have hcos : (List.range ng).foldl (next1 ng c) s1 = coset1 ng rels c s0 := by unfold coset1; rw [hfull, hs1]
        (refine goes_exit ?_; refine fin_exit_then ?_; refine fin_exit_then ?_; refine fin_exit_eq ?_; refine fin_seq ?_; refine goes_seq ?_; refine goes_region ?_; apply run_step rfl; (exact stp_fieldAddr (d := 0) rfl rfl rfl (by as_aux_lemma => kernel_rfl)); apply run_step rfl; (exact stp_loadF rfl (by as_aux_lemma => kernel_rfl) rfl rfl rfl rfl); apply run_step rfl; (exact stp_move rfl rfl); refine run_nil ?_; refine fin_seq ?_; refine goes_block ?_)
        refine goes_loop (fun g : Nat × CSt => St.of [(2, o1 (.ptr 2 0)), (6, o1 (.ptr 28 0)), (9, vv (I6 c)), (84, vv (I6 ng)), (85, vv (I6 g.1))] [(28, cE g.2.2.1.length g.2.2.1.length g.2.2.2), (25, imOw g.2.1), (26, leOw g.2.2.1), (1002, rowsRo words), (1003, rowsRo rels), (2, pE ng j)])
          (fun g => g.1 ≤ ng ∧ (List.range g.1).foldl (next1 ng c) s1 = g.2 ∧ IOK ng n0 g.2) (fun g => ng - g.1) (0, s1) ⟨Nat.zero_le _, rfl, hok1⟩ (Wk.of (by rw [hs1]; exact ⟨rfl, rfl, rfl, rfl, rfl, trivial⟩) (by rw [hs1]; exact ⟨rfl, rfl, rfl, rfl, rfl, rfl, trivial⟩) trivial) ?_
        clear hok hs1 hfull hfo hcN hNl hNn
        rintro ⟨g, M, N, b⟩ ⟨hg, hfo, hok⟩
        dsimp only at hg hfo ⊢
        have hNl : N.length ≤ 2000 := hok.ok.hi
        have hNn : n0 ≤ N.length := hok.ok.lo
        have hcN : c < N.length := by omega
        have hMN : M.length = N.length := hok.ok.wf.len
        have hrc : (lget M c).length = ng := (show WF ng M N from hok.ok.wf).row c (by omega)
        (refine goes_seq ?_; refine goes_region ?_; apply run_step rfl; (exact stp_bin rfl rfl rfl rfl); refine run_nil ?_; refine fin_seq ?_; refine goes_seq ?_)
        refine goes_if rfl (fun hgl => ?_) (fun hgl => ?_)
        · have hgn : g < ng := by omega
          have hfo' : (List.range (g + 1)).foldl (next1 ng c) s1 = next1 ng c (M, N, b) g := by rw [List.range_succ, List.foldl_append, hfo]; rfl
          have hok' := next1_iok (g := g) hok hlt hgn
          (refine goes_skip ?_; refine fin_seq ?_; refine goes_seq ?_; refine goes_block ?_; refine goes_seq ?_; refine goes_region ?_; apply run_step rfl; (exact stp_move rfl rfl); apply run_step rfl; (exact stp_assign rfl rfl); refine run_nil ?_; refine fin_seq ?_; refine goes_seq ?_; refine goes_region ?_; apply run_step rfl; (exact stp_move rfl rfl); apply run_step rfl; (exact stp_nilCheck rfl rfl rfl); apply run_step rfl; (exact stp_fieldAddr (d := 1) rfl rfl rfl (by as_aux_lemma => kernel_rfl)); apply run_step rfl; (exact stp_loadF rfl (by as_aux_lemma => kernel_rfl) rfl rfl rfl rfl); apply run_step rfl; (exact stp_move rfl rfl); apply run_step rfl; (exact stp_ix rfl rfl rfl rfl rfl (by as_aux_lemma => kernel_rfl) (by first | rfl | exact (Int.toNat_of_nonneg (by omega)).symm) (by first | assumption | omega | (simp; omega)) (by first | exact Nat.le_refl _ | exact Nat.le_of_eq (ivals_len _).symm | exact Nat.le_of_eq (irows_len _).symm | (refine Nat.le_trans ?_ (Nat.le_of_eq (ivals_len _).symm); (first | omega | (simp; done) | (simp; omega))) | (refine Nat.le_trans ?_ (Nat.le_of_eq (irows_len _).symm); (first | omega | (simp; done) | (simp; omega))))); apply run_step rfl; (exact stp_loadV rfl (by as_aux_lemma => kernel_rfl) rfl rfl rfl (by first | assumption | exact ivals_get (by assumption) | exact irows_get (by assumption) | exact ivals_get (by omega) | exact irows_get (by omega) | rfl)); apply run_step rfl; (exact stp_move rfl rfl); apply run_step rfl; (exact stp_bin rfl rfl rfl rfl); apply run_step rfl; (exact stp_move rfl rfl))
          refine run_bool 97 rfl (fun h => ?_) (fun h => ?_)
          · have hlv : iget N c = (c : Int) := by simpa using h
            (apply run_gYes rfl rfl rfl; (exact stp_move rfl rfl); apply run_gYes rfl rfl rfl; (exact stp_nilCheck rfl rfl rfl); apply run_gYes rfl rfl rfl; (exact stp_fieldAddr (d := 2) rfl rfl rfl (by as_aux_lemma => kernel_rfl)); apply run_gYes rfl rfl rfl; (exact stp_loadF rfl (by as_aux_lemma => kernel_rfl) rfl rfl rfl rfl); apply run_gYes rfl rfl rfl; (exact stp_not rfl rfl); apply run_step rfl; (exact stp_pickT rfl rfl rfl); apply run_step rfl; (exact stp_move rfl rfl))
            refine run_bool 104 rfl (fun hb => ?_) (fun hb => ?_)
            · obtain rfl : b = false := by simpa using hb
              have hliv : liveC (M, N, false) c = true := by show (decide (iget N c = (c : Int)) && !false) = true; simp [hlv]
              have hst : next1 ng c (M, N, false) g = ((nextC ng M N c g).1, (nextC ng M N c g).2.1, (nextC ng M N c g).2.2.1) := by unfold next1; rw [if_pos hliv]
              rw [hst] at hfo' hok'
              (apply run_gYes rfl rfl rfl; (exact stp_move rfl rfl); apply run_gYes rfl rfl rfl; (exact stp_nilCheck rfl rfl rfl); apply run_gYes rfl rfl rfl; (exact stp_fieldAddr (d := 0) rfl rfl rfl (by as_aux_lemma => kernel_rfl)); apply run_gYes rfl rfl rfl; (exact stp_loadF rfl (by as_aux_lemma => kernel_rfl) rfl rfl rfl rfl); apply run_gYes rfl rfl rfl; (exact stp_move rfl rfl); apply run_gYes rfl rfl rfl; (exact stp_ix rfl rfl rfl rfl rfl (by as_aux_lemma => kernel_rfl) (by first | rfl | exact (Int.toNat_of_nonneg (by omega)).symm) (by first | assumption | omega | (simp; omega)) (by first | exact Nat.le_refl _ | exact Nat.le_of_eq (ivals_len _).symm | exact Nat.le_of_eq (irows_len _).symm | (refine Nat.le_trans ?_ (Nat.le_of_eq (ivals_len _).symm); (first | omega | (simp; done) | (simp; omega))) | (refine Nat.le_trans ?_ (Nat.le_of_eq (irows_len _).symm); (first | omega | (simp; done) | (simp; omega))))); apply run_gYes rfl rfl rfl; (exact stp_loadR rfl (by as_aux_lemma => kernel_rfl) rfl rfl rfl (by first | assumption | exact ivals_get (by assumption) | exact irows_get (by assumption) | exact ivals_get (by omega) | exact irows_get (by omega) | rfl) (by first | exact ivals_len _ | assumption | rfl)); apply run_gYes rfl rfl rfl; (exact stp_move rfl rfl); apply run_gYes rfl rfl rfl; (exact stp_ixE rfl rfl rfl rfl rfl (by as_aux_lemma => kernel_rfl) (by first | assumption | exact ivals_get (by assumption) | exact irows_get (by assumption) | exact ivals_get (by omega) | exact irows_get (by omega) | rfl) (by first | rfl | exact (Int.toNat_of_nonneg (by omega)).symm) (by first | assumption | omega | (simp; omega)) (by first | exact Nat.le_refl _ | exact Nat.le_of_eq (ivals_len _).symm | exact Nat.le_of_eq (irows_len _).symm | (refine Nat.le_trans ?_ (Nat.le_of_eq (ivals_len _).symm); (first | omega | (simp; done) | (simp; omega))) | (refine Nat.le_trans ?_ (Nat.le_of_eq (irows_len _).symm); (first | omega | (simp; done) | (simp; omega))))); apply run_gYes rfl rfl rfl; (exact stp_loadE' rfl (by as_aux_lemma => kernel_rfl) rfl rfl rfl (by first | assumption | exact ivals_get (by assumption) | exact irows_get (by assumption) | exact ivals_get (by omega) | exact irows_get (by omega) | rfl) (by first | assumption | exact ivals_get (by assumption) | exact irows_get (by assumption) | exact ivals_get (by omega) | exact irows_get (by omega) | rfl)); apply run_gYes rfl rfl rfl; (exact stp_bin rfl rfl rfl rfl); apply run_step rfl; (exact stp_pickT rfl rfl rfl); refine run_nil ?_; refine fin_seq ?_)
              refine goes_if rfl (fun he => ?_) (fun he => ?_)
              · have he : ent M c g < 0 := he
                by_cases hfull : N.length = 2000
                · have hnx : nextC ng M N c g = (M, N, true, 0) := by unfold nextC; rw [if_neg (by omega), if_pos hfull]
                  rw [hnx] at hfo' hok'
                  have hD : FC Try.prog 194 [(28, cE N.length N.length false), (25, imOw M), (26, leOw N)] [o1 (.ptr 28 0), vv (I6 c), vv (I6 g)] [(28, cE N.length N.length true), (25, imOw M), (26, leOw N)] (vv (I6 c)) [(0, o1 (.ptr 28 0))] := (iDefine_full M N N.length N.length c g false hMN (by omega)).nm [(1010, 28), (1000, 25), (1001, 26)] (by kernel_rfl)
                  (refine goes_region ?_; apply run_step rfl; (exact stp_move rfl rfl); apply run_step rfl; (exact stp_move rfl rfl); apply run_step rfl; (exact stp_move rfl rfl); apply run_step rfl; (apply call_gate 194; exact stp_call [(0, 28)] hD (by as_aux_lemma => kernel_rfl) rfl rfl ⟨rfl, rfl, rfl, trivial⟩ ⟨⟨_, rfl, .inl rfl⟩, ⟨_, rfl, .inl rfl⟩, ⟨_, rfl, .inl rfl⟩, trivial⟩ ⟨rfl, rfl, rfl, trivial⟩ rfl rfl); refine run_nil ?_; refine fin_block ?_; refine fin_seq ?_; refine goes_region ?_; apply run_step rfl; (exact stp_add rfl rfl rfl (by first | exact IntWalk.i64_in _ (by omega) | rfl)); apply run_step rfl; (exact stp_move rfl rfl); refine run_nil ?_)
                  exact fin_round (g + 1, (M, N, true)) ⟨hgn, hfo', hok'⟩ (by show ng - (g + 1) < ng - g; omega) (Wk.of ⟨rfl, rfl, rfl, rfl, rfl, trivial⟩ ⟨rfl, rfl, rfl, rfl, rfl, rfl, trivial⟩ trivial)
                · have hnx : nextC ng M N c g = (addC ng M N.length c g, N ++ [(N.length : Int)], false, N.length) := by unfold nextC; rw [if_neg (by omega), if_neg hfull]
                  rw [hnx] at hfo' hok'
                  have hsn : (N ++ [(N.length : Int)]).length = N.length + 1 := by simp
                  have hD : FC Try.prog 194 [(28, cE N.length N.length false), (25, imOw M), (26, leOw N)] [o1 (.ptr 28 0), vv (I6 c), vv (I6 g)] [(28, cE (N.length + 1) (N.length + 1) false), (25, imOw (addC ng M N.length c g)), (26, leOw (N ++ [(N.length : Int)]))] (vv (I6 N.length)) [(0, o1 (.ptr 28 0))] :=
                    (iDefine_fc ng M N N.length N.length c g false hMN rfl (by omega) hok.ok.wf hcN hgn hng).nm [(1010, 28), (1000, 25), (1001, 26)] (by kernel_rfl)
                  (refine goes_region ?_; apply run_step rfl; (exact stp_move rfl rfl); apply run_step rfl; (exact stp_move rfl rfl); apply run_step rfl; (exact stp_move rfl rfl); apply run_step rfl; (apply call_gate 194; exact stp_call [(0, 28)] hD (by as_aux_lemma => kernel_rfl) rfl rfl ⟨rfl, rfl, rfl, trivial⟩ ⟨⟨_, rfl, .inl rfl⟩, ⟨_, rfl, .inl rfl⟩, ⟨_, rfl, .inl rfl⟩, trivial⟩ ⟨rfl, rfl, rfl, trivial⟩ rfl rfl); refine run_nil ?_; refine fin_block ?_; refine fin_seq ?_; refine goes_region ?_; apply run_step rfl; (exact stp_add rfl rfl rfl (by first | exact IntWalk.i64_in _ (by omega) | rfl)); apply run_step rfl; (exact stp_move rfl rfl); refine run_nil ?_)
                  exact fin_round (g + 1, (addC ng M N.length c g, N ++ [(N.length : Int)], false)) ⟨hgn, hfo', hok'⟩ (by show ng - (g + 1) < ng - g; omega) (Wk.of ⟨rfl, rfl, rfl, rfl, rfl, trivial⟩ ⟨by dsimp only; rw [hsn]; rfl, rfl, rfl, rfl, rfl, rfl, trivial⟩ trivial)
              · have he : ¬ ent M c g < 0 := he
                have hnx : nextC ng M N c g = (M, N, false, root N (ent M c g).toNat) := by unfold nextC; rw [if_pos (by omega)]
                rw [hnx] at hfo' hok'
                (refine goes_skip ?_; refine fin_block ?_; refine fin_seq ?_; refine goes_region ?_; apply run_step rfl; (exact stp_add rfl rfl rfl (by first | exact IntWalk.i64_in _ (by omega) | rfl)); apply run_step rfl; (exact stp_move rfl rfl); refine run_nil ?_)
                exact fin_round (g + 1, (M, N, false)) ⟨hgn, hfo', hok'⟩ (by show ng - (g + 1) < ng - g; omega) (Wk.of ⟨rfl, rfl, rfl, rfl, rfl, trivial⟩ ⟨rfl, rfl, rfl, rfl, rfl, rfl, trivial⟩ trivial)
            · obtain rfl : b = true := by simpa using hb
              have hst : next1 ng c (M, N, true) g = (M, N, true) := next1_dead (by unfold liveC; simp) g
              rw [hst] at hfo' hok'
              (apply run_gNo rfl rfl rfl rfl rfl; apply run_gNo rfl rfl rfl rfl rfl; apply run_gNo rfl rfl rfl rfl rfl; apply run_gNo rfl rfl rfl rfl rfl; apply run_gNo rfl rfl rfl rfl rfl; apply run_gNo rfl rfl rfl rfl rfl; apply run_gNo rfl rfl rfl rfl rfl; apply run_gNo rfl rfl rfl rfl rfl; apply run_gNo rfl rfl rfl rfl rfl; apply run_gNo rfl rfl rfl rfl rfl; apply run_gNo rfl rfl rfl rfl rfl; apply run_step rfl; (exact stp_pickF rfl rfl rfl); refine run_nil ?_; refine fin_seq ?_)
              refine goes_cond rfl (fun e => by cases e) (fun _ => ?_)
              (refine goes_skip ?_; refine fin_block ?_; refine fin_seq ?_; refine goes_region ?_; apply run_step rfl; (exact stp_add rfl rfl rfl (by first | exact IntWalk.i64_in _ (by omega) | rfl)); apply run_step rfl; (exact stp_move rfl rfl); refine run_nil ?_)
              exact fin_round (g + 1, (M, N, true)) ⟨hgn, hfo', hok'⟩ (by show ng - (g + 1) < ng - g; omega) (Wk.of ⟨rfl, rfl, rfl, rfl, rfl, trivial⟩ ⟨rfl, rfl, rfl, rfl, rfl, rfl, trivial⟩ trivial)
          · have hlv : ¬ iget N c = (c : Int) := by simpa using h
            have hst : next1 ng c (M, N, b) g = (M, N, b) := next1_dead (by unfold liveC; simp [hlv]) g
            rw [hst] at hfo' hok'
            (apply run_gNo rfl rfl rfl rfl rfl; apply run_gNo rfl rfl rfl rfl rfl; apply run_gNo rfl rfl rfl rfl rfl; apply run_gNo rfl rfl rfl rfl rfl; apply run_gNo rfl rfl rfl rfl rfl; apply run_step rfl; (exact stp_pickF rfl rfl rfl); apply run_step rfl; (exact stp_move rfl rfl); apply run_gNo rfl rfl rfl rfl rfl; apply run_gNo rfl rfl rfl rfl rfl; apply run_gNo rfl rfl rfl rfl rfl; apply run_gNo rfl rfl rfl rfl rfl; apply run_gNo rfl rfl rfl rfl rfl; apply run_gNo rfl rfl rfl rfl rfl; apply run_gNo rfl rfl rfl rfl rfl; apply run_gNo rfl rfl rfl rfl rfl; apply run_gNo rfl rfl rfl rfl rfl; apply run_gNo rfl rfl rfl rfl rfl; apply run_gNo rfl rfl rfl rfl rfl; apply run_step rfl; (exact stp_pickF rfl rfl rfl); refine run_nil ?_; refine fin_seq ?_)
            refine goes_cond rfl (fun e => by cases e) (fun _ => ?_)
            (refine goes_skip ?_; refine fin_block ?_; refine fin_seq ?_; refine goes_region ?_; apply run_step rfl; (exact stp_add rfl rfl rfl (by first | exact IntWalk.i64_in _ (by omega) | rfl)); apply run_step rfl; (exact stp_move rfl rfl); refine run_nil ?_)
            exact fin_round (g + 1, (M, N, b)) ⟨hgn, hfo', hok'⟩ (by show ng - (g + 1) < ng - g; omega) (Wk.of ⟨rfl, rfl, rfl, rfl, rfl, trivial⟩ ⟨rfl, rfl, rfl, rfl, rfl, rfl, trivial⟩ trivial)
        · obtain rfl : g = ng := by omega
          have hfg : coset1 g rels c s0 = (M, N, b) := by rw [← hcos, ← hfo]
          (refine goes_exit ?_; refine fin_exit_then ?_; refine fin_exit_then ?_; refine fin_exit_eq ?_; refine fin_block ?_; refine fin_seq ?_; refine goes_region ?_; apply run_step rfl; (exact stp_move rfl rfl); apply run_step rfl; (exact stp_add rfl rfl rfl (by first | exact IntWalk.i64_in _ (by omega) | rfl)); apply run_step rfl; (exact stp_assign rfl rfl); refine run_nil ?_)
          exact fin_round (c + 1, (M, N, b)) ⟨by show outer g rels (2001 - (c + 1)) (c + 1) (M, N, b) = X; rw [show 2001 - (c + 1) = 2000 - c by omega, ← hfg]; exact houts, by show c + 1 ≤ N.length; omega, ⟨hok.ok.le (by omega), hok.full⟩⟩ (by show 2001 - (c + 1) < 2001 - c; omega) (Wk.of ⟨rfl, rfl, rfl, trivial⟩ ⟨rfl, rfl, rfl, rfl, rfl, rfl, trivial⟩ trivial)
    · have hXs : (M, N, b) = X := by
        rw [← hout]
        cases hk : 2001 - c with
        | zero => omega
        | succ f =>
          rw [outer, if_neg]
          rintro ⟨h1, h2⟩
          have h1 : c < N.length := h1
          have h2 : b = false := h2
          rw [decide_eq_true (show (c : Int) < N.length by omega), h2] at hc
          cases hc
      clear hout hc hS hcl
      (refine goes_exit ?_; refine fin_exit_then ?_; refine fin_exit_then ?_; refine fin_exit_eq ?_; refine fin_seq ?_; refine goes_seq ?_; refine goes_seq ?_; refine goes_region ?_; apply run_step rfl; (exact stp_move rfl rfl); apply run_step rfl; (exact stp_nilCheck rfl rfl rfl); apply run_step rfl; (exact stp_fieldAddr (d := 2) rfl rfl rfl (by as_aux_lemma => kernel_rfl)); apply run_step rfl; (exact stp_loadF rfl (by as_aux_lemma => kernel_rfl) rfl rfl rfl rfl); refine run_nil ?_; refine fin_seq ?_)
      refine goes_cond rfl (fun hb => ?_) (fun hb => ?_)
      · subst hb
        subst hXs
        (refine goes_seq ?_; refine goes_region ?_; apply run_step rfl; (exact stp_assign rfl rfl); apply run_step rfl; (exact stp_assign rfl rfl); refine run_nil ?_; refine fin_seq ?_; refine goes_ret ?_; refine fin_ret_then ?_)
        exact fin_ret2 (.inl rfl) rfl (.tmp rfl) (.tmp rfl) trivial trivial
      · subst hb
        have hsame : runC ng rels words = X := by
          rcases runI_same ng rels words with h | ⟨_, h⟩
          · exact h.trans hX
          · rw [hX, ← hXs] at h; cases h
        have hF := full_run hr hw (show (runC ng rels words).2.2 = false by rw [hsame, ← hXs])
        rw [hsame] at hF
        subst hXs
        clear hsame
        dsimp only at hF
        have hn0 := hF.pos
        have hts := tabStart_ok hF
        clear hX
        (refine goes_skip ?_; refine fin_seq ?_; refine goes_seq ?_; refine goes_region ?_; apply run_step rfl; (exact stp_lit1I (E := 2) rfl (by as_aux_lemma => kernel_rfl) rfl); apply run_step rfl; (exact stp_assign rfl rfl); refine run_nil ?_; refine fin_seq ?_; refine goes_seq ?_; refine goes_region ?_)
        refine run_makeMap (k := 2) (e := 2) rfl rfl rfl Try.underlying2 (by as_aux_lemma => kernel_rfl) fun b wB ωB hMB => ?_
        refine run_mapPut rfl (.inr rfl) rfl Try.underlying2 Try.underlying2 (by as_aux_lemma => kernel_rfl) hMB rfl rfl rfl (by decide) (by decide) (by omega) fun wB ωB hMB => ?_
        (apply run_step rfl; (exact stp_move rfl rfl); apply run_step rfl; (exact stp_assign rfl rfl); refine run_nil ?_; refine fin_seq ?_; refine goes_seq ?_; refine goes_region ?_; apply run_step rfl; (exact stp_fieldAddr (d := 0) rfl rfl rfl (by as_aux_lemma => kernel_rfl)); apply run_step rfl; (exact stp_loadF rfl (by as_aux_lemma => kernel_rfl) rfl rfl rfl rfl); apply run_step rfl; (exact stp_makeR (E := 49) (F := 2) rfl (by as_aux_lemma => kernel_rfl) (by as_aux_lemma => kernel_rfl) (by as_aux_lemma => kernel_rfl) rfl rfl rfl rfl (by omega)); apply run_step rfl; (exact stp_assign rfl rfl); refine run_nil ?_; refine fin_seq ?_; refine goes_seq ?_; refine goes_seq ?_; refine goes_region ?_; apply run_step rfl; (exact stp_assign rfl rfl); refine run_nil ?_; refine fin_seq ?_; refine goes_block ?_)
        have hf0 := fN_start hn0
        have htz := tabP_zero (ng := ng) (im := M) (less := N) (s := tabStart N.length)
        refine goes_loopB (fun q : Nat × NSt => St.of [(2, o1 (.ptr 2 0)), (6, o1 (.ptr 28 0)), (13, o1 (.sl 126 0 q.2.1.length)), (14, vv (.map (some b))), (15, o1 (.sl 131 0 ng)), (16, vv (I6 q.1))] [(28, cE N.length N.length false), (25, imOw M), (26, leOw N), (2, pE ng R), (126, leOw q.2.1), (131, imOw (tabP ng M N q.2 q.1 0))])
          (fun q wB ωB => q.1 ≤ q.2.1.length ∧ TOK N.length N q.2 ∧ SeenG ng M N q.2 q.1 0 ∧ tabLoop ng M N (N.length + 1 - q.1) q.1 q.2 = numbered ng M N ∧ MB Try.prog 2 2 w0 ω0.own b (fN q.2.2) q.2.1.length wB ωB) (fun q => N.length + 1 - q.1) (0, tabStart N.length) ⟨Nat.zero_le _, hts, SeenG.zero, rfl, by rw [← hf0]; exact hMB⟩ (Wk.of ⟨rfl, rfl, rfl, rfl, rfl, rfl, trivial⟩ ⟨rfl, rfl, rfl, rfl, rfl, by dsimp only; rw [htz]; rfl, trivial⟩ trivial) ?_
        clear hMB hf0 htz
        clear wB ωB
        rintro ⟨i, O, T⟩ wB ωB ⟨hi, htok, hseen, hnum, hMB⟩
        dsimp only at hi hnum hMB ⊢
        have hOl : O.length ≤ N.length := htok.le
        (refine goes_seq ?_; refine goes_seq ?_; refine goes_region ?_; apply run_step rfl; (exact stp_move rfl rfl); apply run_step rfl; (exact stp_move rfl rfl); apply run_step rfl; (exact stp_len rfl rfl rfl (by as_aux_lemma => kernel_rfl)); apply run_step rfl; (exact stp_bin rfl rfl rfl rfl); refine run_nil ?_; refine fin_seq ?_)
        refine goes_if rfl (fun hlt => ?_) (fun hlt => ?_)
        · have hlt' : i < O.length := by omega
          have hnum' : tabLoop ng M N (N.length - i) (i + 1) (tabRow ng M N i (O, T)) = numbered ng M N := by
            rw [← hnum, show N.length + 1 - i = (N.length - i) + 1 by omega]
            exact (tabLoop_step hlt').symm
          obtain ⟨s0, hs0⟩ : ∃ s0 : NSt, s0 = (O, T) := ⟨_, rfl⟩
          obtain ⟨d, hd1, hd2, hd3, -⟩ := htok.live i hlt'
          dsimp only at hd1
          have hrow : ∀ n, n ≤ ng → TOK N.length N ((List.range n).foldl (visitG M N i) s0) ∧ NGrow s0 ((List.range n).foldl (visitG M N i) s0) := fun n hn =>
            have := tabRow_ok hF (i := i) (s := s0) (by rw [hs0]; exact htok) (by rw [hs0]; exact hlt') n hn
            ⟨this.1, this.2.1⟩
          have hfin : tabLoop ng M N (N.length - i) (i + 1) ((List.range ng).foldl (visitG M N i) s0) = numbered ng M N := by rw [hs0]; exact hnum'
          have hO0 : s0.1.length = O.length := by rw [hs0]
          have hd0 : iget s0.1 i = (d : Int) := by rw [hs0]; exact hd1
          (refine goes_skip ?_; refine fin_seq ?_; refine goes_seq ?_; refine goes_block ?_; refine goes_seq ?_; refine goes_region ?_; apply run_step rfl; (exact stp_fieldAddr (d := 0) rfl rfl rfl (by as_aux_lemma => kernel_rfl)); apply run_step rfl; (exact stp_loadF rfl (by as_aux_lemma => kernel_rfl) rfl rfl rfl rfl); apply run_step rfl; (exact stp_move rfl rfl); refine run_nil ?_; refine fin_seq ?_; refine goes_block ?_)
          refine goes_loopB (fun q : Nat × NSt => St.of [(2, o1 (.ptr 2 0)), (6, o1 (.ptr 28 0)), (13, o1 (.sl 126 0 q.2.1.length)), (14, vv (.map (some b))), (15, o1 (.sl 131 0 ng)), (16, vv (I6 i)), (139, vv (I6 ng)), (140, vv (I6 q.1))] [(28, cE N.length N.length false), (25, imOw M), (26, leOw N), (2, pE ng R), (126, leOw q.2.1), (131, imOw (tabP ng M N q.2 i q.1))])
            (fun q wB ωB => q.1 ≤ ng ∧ (List.range q.1).foldl (visitG M N i) s0 = q.2 ∧ SeenG ng M N q.2 i q.1 ∧ MB Try.prog 2 2 w0 ω0.own b (fN q.2.2) q.2.1.length wB ωB) (fun q => ng - q.1) (0, (O, T)) ⟨Nat.zero_le _, hs0, hseen, hMB⟩ (Wk.of ⟨rfl, rfl, rfl, rfl, rfl, rfl, rfl, rfl, trivial⟩ ⟨rfl, rfl, rfl, rfl, rfl, rfl, trivial⟩ trivial) ?_
          clear hnum hnum' htok hs0 hd1 hMB hseen
          generalize O.length = on at *
          clear wB ωB
          rintro ⟨g, O, T⟩ wB ωB ⟨hg, hfo, hseen, hMB⟩
          dsimp only at hg hfo hMB ⊢
          obtain ⟨tok, grw⟩ := hrow g hg
          rw [hfo] at tok grw
          have hiO : i < O.length := Nat.lt_of_lt_of_le (by omega) grw.len
          have hOl' : O.length ≤ N.length := tok.le
          have hTl : T.length = N.length := tok.len
          have hdO : iget O i = (d : Int) := (grw.pre i (by omega)).trans hd0
          have hget : (ivals O)[i]? = some (I6 (d : Int)) := by rw [ivals_get hiO, hdO]
          (refine goes_seq ?_; refine goes_region ?_; apply run_step rfl; (exact stp_bin rfl rfl rfl rfl); refine run_nil ?_; refine fin_seq ?_; refine goes_seq ?_)
          refine goes_if rfl (fun h2 => ?_) (fun h2 => ?_)
          · have hgn : g < ng := by omega
            obtain ⟨e, he1, he2, _⟩ := hF.image hd2 hd3 hgn
            have hI : FC Try.prog 195 [(28, ⟨false, 179, 3, .flat [.sl 25 0 N.length, .sl 26 0 N.length, .val (.bool false)]⟩), (25, imRo M), (26, leRo N)] [o1 (.ptr 28 0), vv (I6 d), vv (I6 g)] [] (vv (I6 e)) [] := by
              have := (iImage_fc M N N.length N.length d g false hMN rfl hF.wf.down (by omega) (by rw [hF.wf.row d (by omega)]; exact hgn) (hF.wf.ent d g (by omega) hgn)).nm [(1010, 28), (1000, 25), (1001, 26)] (by kernel_rfl)
              rw [he1] at this
              exact this
            have hSz := sizeV_fc 126 O.length
            obtain ⟨V, hV⟩ : ∃ V : NSt, visit (O, T) e = V := ⟨_, rfl⟩
            have hst : (List.range (g + 1)).foldl (visitG M N i) s0 = V := by
              rw [List.range_succ, List.foldl_append, hfo, ← hV]
              show visit (O, T) (image M N (iget O i).toNat g).toNat = _
              rw [hdO, Int.toNat_natCast, he1, Int.toNat_natCast]
            have hseen' : SeenG ng M N V i (g + 1) := by rw [← hV]; exact hseen.visit tok hiO hdO he1 he2
            have hgr : tabP ng M N (O, T) i g = tabP ng M N V i g := by rw [← hV]; exact tabP_grow (visit_grow _ _) hseen
            have htc : tabC M N V g i = iget V.2 e := by rw [← hV]; exact tabC_visit hiO hdO he1
            have hset := tabP_set (im := M) (less := N) (s := V) (i := i) hgn
            rw [htc] at hset
            have hfs := fN_some (M := T) (e := e) (by omega)
            have hwe : (Lit.int .i64 (e : Int)).wf = true := wf_small (by omega) (by omega)
            (refine goes_skip ?_; refine fin_seq ?_; refine goes_seq ?_; refine goes_block ?_; refine goes_seq ?_; refine goes_region ?_; apply run_step rfl; (exact stp_move rfl rfl); apply run_step rfl; (exact stp_assign rfl rfl); refine run_nil ?_; refine fin_seq ?_; refine goes_seq ?_; refine goes_region ?_; apply run_step rfl; (exact stp_move rfl rfl); apply run_step rfl; (exact stp_move rfl rfl); apply run_step rfl; (exact stp_move rfl rfl); apply run_step rfl; (exact stp_ix rfl rfl rfl rfl rfl (by as_aux_lemma => kernel_rfl) (by first | rfl | exact (Int.toNat_of_nonneg (by omega)).symm) (by first | assumption | omega | (simp; omega)) (by first | exact Nat.le_refl _ | exact Nat.le_of_eq (ivals_len _).symm | exact Nat.le_of_eq (irows_len _).symm | (refine Nat.le_trans ?_ (Nat.le_of_eq (ivals_len _).symm); (first | omega | (simp; done) | (simp; omega))) | (refine Nat.le_trans ?_ (Nat.le_of_eq (irows_len _).symm); (first | omega | (simp; done) | (simp; omega))))); apply run_step rfl; (exact stp_loadV rfl (by as_aux_lemma => kernel_rfl) rfl rfl rfl (by first | assumption | exact ivals_get (by assumption) | exact irows_get (by assumption) | exact ivals_get (by omega) | exact irows_get (by omega) | rfl)); apply run_step rfl; (exact stp_move rfl rfl); apply run_step rfl; (apply call_gate 195; exact stp_callR hI (by as_aux_lemma => kernel_rfl) rfl rfl ⟨rfl, rfl, rfl, trivial⟩ ⟨⟨_, rfl, .inr rfl⟩, ⟨_, rfl, .inr rfl⟩, ⟨_, rfl, .inr rfl⟩, trivial⟩ rfl rfl); apply run_step rfl; (exact stp_assign rfl rfl); refine run_nil ?_; refine fin_seq ?_; refine goes_seq ?_; refine goes_region ?_; apply run_step rfl; (exact stp_move rfl rfl); apply run_step rfl; (exact stp_move rfl rfl))
            refine run_lookup (t := 153) rfl rfl rfl rfl Try.underlying2 Try.underlying2 (by as_aux_lemma => kernel_rfl) (by as_aux_lemma => kernel_rfl) hMB rfl rfl hwe ?_
            (apply run_step rfl; (exact stp_move rfl rfl); apply run_step rfl; (exact stp_extract rfl rfl rfl); apply run_step rfl; (exact stp_extract rfl rfl rfl); apply run_step rfl; (exact stp_assign rfl rfl); apply run_step rfl; (exact stp_assign rfl rfl); refine run_nil ?_; refine fin_seq ?_; refine goes_seq ?_; refine goes_seq ?_; refine goes_region ?_; apply run_step rfl; (exact stp_move rfl rfl); apply run_step rfl; (exact stp_not rfl rfl); refine run_nil ?_; refine fin_seq ?_)
            refine goes_joinB (St.of [(2, o1 (.ptr 2 0)), (6, o1 (.ptr 28 0)), (13, o1 (.sl 126 0 V.1.length)), (14, vv (.map (some b))), (15, o1 (.sl 131 0 ng)), (16, vv (I6 i)), (17, vv (I6 g)), (19, vv (I6 (iget V.2 e))), (139, vv (I6 ng)), (140, vv (I6 g))] [(28, cE N.length N.length false), (25, imOw M), (26, leOw N), (2, pE ng R), (126, leOw V.1), (131, imOw (tabP ng M N V i g))])
              (fun wB ωB => MB Try.prog 2 2 w0 ω0.own b (fN V.2) V.1.length wB ωB) rfl (fun hc => ?_) (fun hc => ?_) ?_
            · have hneg : iget T e < 0 := by
                rw [hfs.1] at hc; simp at hc; omega
              obtain rfl : V = (O ++ [(e : Int)], T.set e (O.length : Int)) := by rw [← hV]; exact if_pos hneg
              have hnum0 : iget (T.set e (O.length : Int)) e = (O.length : Int) := by rw [iget_set, if_pos ⟨rfl, by omega⟩]
              have hfset := fN_set (M := T) (e := e) (v := (O.length : Int)) (by omega) (by omega)
              (refine goes_seq ?_; refine goes_region ?_; apply run_step rfl; (exact stp_move rfl rfl); apply run_step rfl; (apply call_gate 139; exact stp_callR hSz (by as_aux_lemma => kernel_rfl) rfl rfl ⟨rfl, trivial⟩ trivial rfl rfl); apply run_step rfl; (exact stp_assign rfl rfl); refine run_nil ?_; refine fin_seq ?_; refine goes_seq ?_; refine goes_region ?_; apply run_step rfl; (exact stp_move rfl rfl); apply run_step rfl; (exact stp_move rfl rfl); apply run_step rfl; (exact stp_move rfl rfl))
              refine run_mapPut rfl (.inl rfl) rfl Try.underlying2 Try.underlying2 (by as_aux_lemma => kernel_rfl) hMB rfl rfl rfl hwe (wf_small (by omega) (by omega)) (by omega) fun wB ωB hMB => ?_
              (refine run_nil ?_; refine fin_seq ?_; refine goes_region ?_; apply run_step rfl; (exact stp_move rfl rfl); apply run_step rfl; (exact stp_move rfl rfl); apply run_step rfl; (exact stp_lit1I (E := 2) rfl (by as_aux_lemma => kernel_rfl) rfl); apply run_step rfl; (exact stp_appI rfl (by as_aux_lemma => kernel_rfl) rfl rfl rfl (by first | rfl | assumption | (simp; done)) rfl rfl (by omega)); apply run_step rfl; (exact stp_assign rfl rfl); refine run_nil ?_)
              exact fin_joinB (by dsimp only; rw [← hfset, List.length_append]; exact hMB) (Wk.of ⟨rfl, rfl, by simp; rfl, rfl, rfl, rfl, rfl, by rw [hnum0]; rfl, rfl, rfl, trivial⟩ ⟨rfl, rfl, rfl, rfl, rfl, by rw [← hgr]; rfl, trivial⟩ trivial)
            · have hneg : 0 ≤ iget T e := by
                rw [hfs.1] at hc; simpa using hc
              obtain rfl : V = (O, T) := by rw [← hV]; exact if_neg (by show ¬ iget T e < 0; omega)
              (refine goes_skip ?_)
              exact fin_joinB hMB (Wk.of ⟨rfl, rfl, rfl, rfl, rfl, rfl, rfl, by rw [← hfs.2 hneg]; rfl, rfl, rfl, trivial⟩ ⟨rfl, rfl, rfl, rfl, rfl, rfl, trivial⟩ trivial)
            clear hMB
            clear wB ωB
            intro wB ωB hMB
            have hrw0 : lget (tabP ng M N V i g) g = (List.range i).map (tabC M N V g) := tabP_row hgn
            have htl : (tabP ng M N V i g).length = ng := tabP_len
            obtain ⟨row, hrow1⟩ : ∃ row, (List.range i).map (tabC M N V g) = row := ⟨_, rfl⟩
            have hrl1 : row.length = i := by rw [← hrow1]; simp
            rw [hrow1] at hrw0 hset
            have hset2 : (irows (tabP ng M N V i g)).set g (ivals (row ++ [iget V.2 e])) = irows (tabP ng M N V i (g + 1)) := by rw [irows_set, hset]
            have hrg : (irows (tabP ng M N V i g))[g]? = some (ivals row) := by rw [irows_get (by omega), hrw0]
            (refine fin_seq ?_; refine goes_region ?_; apply run_step rfl; (exact stp_move rfl rfl); apply run_step rfl; (exact stp_move rfl rfl); apply run_step rfl; (exact stp_move rfl rfl); apply run_step rfl; (exact stp_move rfl rfl); apply run_step rfl; (exact stp_ix rfl rfl rfl rfl rfl (by as_aux_lemma => kernel_rfl) (by first | rfl | exact (Int.toNat_of_nonneg (by omega)).symm) (by first | assumption | omega | (simp; omega)) (by first | exact Nat.le_refl _ | exact Nat.le_of_eq (ivals_len _).symm | exact Nat.le_of_eq (irows_len _).symm | (refine Nat.le_trans ?_ (Nat.le_of_eq (ivals_len _).symm); (first | omega | (simp; done) | (simp; omega))) | (refine Nat.le_trans ?_ (Nat.le_of_eq (irows_len _).symm); (first | omega | (simp; done) | (simp; omega))))); apply run_step rfl; (exact stp_loadR rfl (by as_aux_lemma => kernel_rfl) rfl rfl rfl (by first | assumption | exact ivals_get (by assumption) | exact irows_get (by assumption) | exact ivals_get (by omega) | exact irows_get (by omega) | rfl) (by first | exact ivals_len _ | assumption | rfl)); apply run_step rfl; (exact stp_move rfl rfl); apply run_step rfl; (exact stp_lit1I (E := 2) rfl (by as_aux_lemma => kernel_rfl) rfl))
            refine run_wk (wk_takeRow (n := 131) (z := 172) (s := 172) rfl rfl hrg (ivals_len row) rfl) ?_
            (apply run_step rfl; (exact stp_appI rfl (by as_aux_lemma => kernel_rfl) rfl rfl rfl (by first | rfl | assumption | (simp; done)) rfl rfl (by omega)); apply run_step rfl; (exact stp_ix rfl rfl rfl rfl rfl (by as_aux_lemma => kernel_rfl) (by first | rfl | exact (Int.toNat_of_nonneg (by omega)).symm) (by first | assumption | omega | (simp; omega)) (by first | exact Nat.le_refl _ | exact Nat.le_of_eq (ivals_len _).symm | exact Nat.le_of_eq (irows_len _).symm | (refine Nat.le_trans ?_ (Nat.le_of_eq (ivals_len _).symm); (first | omega | (simp; done) | (simp; omega))) | (refine Nat.le_trans ?_ (Nat.le_of_eq (irows_len _).symm); (first | omega | (simp; done) | (simp; omega))))); apply run_step rfl; (exact stp_storeRow (n := 131) (z := 172) (i := g) rfl rfl (by simp) rfl rfl (by rw [ivals_len]; simp) rfl (by rw [irows_len]; omega) (by as_aux_lemma => kernel_rfl)); refine run_nil ?_; refine fin_block ?_; refine fin_seq ?_; refine goes_region ?_; apply run_step rfl; (exact stp_add rfl rfl rfl (by first | exact IntWalk.i64_in _ (by omega) | rfl)); apply run_step rfl; (exact stp_move rfl rfl); refine run_nil ?_)
            exact fin_roundB (g + 1, V) ⟨hgn, hst, hseen', hMB⟩ (by show ng - (g + 1) < ng - g; omega) (Wk.of ⟨rfl, rfl, rfl, rfl, rfl, rfl, rfl, rfl, trivial⟩ ⟨rfl, rfl, rfl, rfl, rfl, congrArg (fun l => some (⟨true, 49, 1, .rows 2 l []⟩ : Ch)) hset2, trivial⟩ trivial)
          · obtain rfl : g = ng := by omega
            (refine goes_exit ?_; refine fin_exit_then ?_; refine fin_exit_then ?_; refine fin_exit_eq ?_; refine fin_block ?_; refine fin_seq ?_; refine goes_region ?_; apply run_step rfl; (exact stp_move rfl rfl); apply run_step rfl; (exact stp_add rfl rfl rfl (by first | exact IntWalk.i64_in _ (by omega) | rfl)); apply run_step rfl; (exact stp_assign rfl rfl); refine run_nil ?_)
            exact fin_roundB (i + 1, (O, T)) ⟨hiO, tok, hseen.next, by rw [← hfin, hfo]; show tabLoop _ _ _ (N.length + 1 - (i + 1)) _ _ = _; rw [show N.length + 1 - (i + 1) = N.length - i by omega], hMB⟩ (by show N.length + 1 - (i + 1) < N.length + 1 - i; omega) (Wk.of ⟨rfl, rfl, rfl, rfl, rfl, rfl, trivial⟩ ⟨rfl, rfl, rfl, rfl, rfl, by dsimp only; rw [← tabP_next]; rfl, trivial⟩ trivial)
        · have hio : i = O.length := by omega
          have hOM : numbered ng M N = (O, T) := by
            rw [← hnum, show N.length + 1 - i = (N.length - i) + 1 by omega, tabLoop, if_neg (by show ¬ i < O.length; omega)]
          have htd := tabP_done hOM
          subst hio
          rw [htd]
          (refine goes_exit ?_; refine fin_exit_then ?_; refine fin_exit_then ?_; refine fin_exit_eq ?_; refine fin_seq ?_; refine goes_seq ?_; refine goes_region ?_; apply run_step rfl; (exact stp_move rfl rfl); apply run_step rfl; (exact stp_assign rfl rfl); apply run_step rfl; (exact stp_assign rfl rfl); refine run_nil ?_; refine fin_seq ?_; refine goes_ret ?_)
          refine fin_base hMB.fr ?_
          exact fin_ret2 (.inl rfl) rfl (.tmp rfl) (.tmp rfl) ⟨rfl, trivial⟩ trivial
end Go.Proofs.Ytpognnifgcacnaa

/- within and its twin in the reference; slices.IndexFunc and slices.ContainsFunc at []int64, over any predicate that only reads or makes memory. -/
namespace Go.Proofs.Ytpognnifgcacnaa
open Go.RowKit

/-- n lies between lo and hi -/
def inB (n lo hi : Int) : Bool := decide (lo ≤ n) && decide (n ≤ hi)
theorem inB_true {n lo hi : Int} : inB n lo hi = true ↔ lo ≤ n ∧ n ≤ hi := by simp [inB]
theorem within_any (n lo hi : Int) (w : World) : Calls Try.prog 97 #[.int .i64 n, .int .i64 lo, .int .i64 hi] w fun e w' => e = .returned (.bool (inB n lo hi)) ∧ w' = w := by
  by_cases h : lo ≤ n
  · have h1 : decide (lo ≤ n) = true := by simpa using h
    go_enter Try.func97, Try.ntmps97
    go_wp2
    go_ret
    exact ⟨ret_bool (by simp [inB, h]), rfl⟩
  · have h1 : decide (lo ≤ n) = false := by simpa using h
    have h2 : inB n lo hi = false := by simp [inB, h1]
    have H2 := Lib.hid h2
    clear h2
    go_enter Try.func97, Try.ntmps97
    go_wp2
    go_ret
    exact ⟨ret_bool H2.out.symm, rfl⟩

theorem specIn_any (n lo hi : Int) (w : World) : Calls Try.prog 95 #[.int .i64 n, .int .i64 lo, .int .i64 hi] w fun e w' => e = .returned (.bool (inB n lo hi)) ∧ w' = w := by
  by_cases h : lo ≤ n
  · have h1 : decide (lo ≤ n) = true := by simpa using h
    go_enter Try.func95, Try.ntmps95
    go_wp2
    go_ret
    exact ⟨ret_bool (by simp [inB, h]), rfl⟩
  · have h1 : decide (lo ≤ n) = false := by simpa using h
    have h2 : inB n lo hi = false := by simp [inB, h1]
    have H2 := Lib.hid h2
    clear h2
    go_enter Try.func95, Try.ntmps95
    go_wp2
    go_ret
    exact ⟨ret_bool H2.out.symm, rfl⟩

/-- the first index at which p holds, or -1 -/
def findI (p : Int → Bool) (zs : List Int) : Int := match zs.findIdx? p with | some i => i | none => -1
theorem findI_none {p : Int → Bool} {zs : List Int} (h : zs.any p = false) : findI p zs = -1 := by
  have : zs.findIdx? p = none := by rw [List.findIdx?_eq_none_iff]; intro x hx; have := (List.any_eq_false.1 h) x hx; simpa using this
  simp [findI, this]
theorem findI_some {p : Int → Bool} {zs : List Int} {k : Nat} (hk : k < zs.length) (hn : (zs.take k).any p = false) (hp : p (iget zs k) = true) : findI p zs = k := by
  have : zs.findIdx? p = some k := by
    rw [List.findIdx?_eq_some_iff_getElem]
    refine ⟨hk, by rw [← iget_lt hk]; exact hp, fun j hj => ?_⟩
    have hx : zs[j]'(by omega) ∈ zs.take k := by rw [List.mem_take_iff_getElem]; exact ⟨j, by omega, rfl⟩
    have := (List.any_eq_false.1 hn) _ hx
    simpa using this
  simp [findI, this]
theorem findI_any (p : Int → Bool) (zs : List Int) : decide (0 ≤ findI p zs) = zs.any p := by
  cases h : zs.any p with
  | false => rw [findI_none h]; rfl
  | true =>
    rw [decide_eq_true_iff]
    unfold findI
    cases h2 : zs.findIdx? p with
    | some i => exact Int.natCast_nonneg i
    | none =>
      rw [List.findIdx?_eq_none_iff] at h2
      obtain ⟨x, hx, hp⟩ := List.any_eq_true.1 h
      have := h2 x hx
      simp [hp] at this

set_option maxHeartbeats 400000 in
theorem indexFunc_any (fn : Nat) (cap : Array Value) (p : Int → Bool) (ao : Option Addr) (n c : Nat) (zs : List Int) (w : World) (h : Ints w ao n zs)
    (hcf : ∀ (args : Array Value) (w : World), (callFunc fn args).run Try.prog w = .ok (.enter fn args) w)
    (hf : ∀ j, j < n → ∀ w', Below w.heap.size w w' → Calls Try.prog fn (#[.int .i64 (iget zs j)] ++ cap) w' fun e w'' => e = .returned (.bool (p (iget zs j))) ∧ Below w'.heap.size w' w'') :
    Calls Try.prog 213 #[.slice ao n c, .func (.func fn) #[] cap] w fun e w' => e = .returned (.int .i64 (findI p zs)) ∧ Below w.heap.size w w' := by
  have hn := h.2.1
  have HF := Lib.hid hf
  clear hf
  go_enter Try.func213, Try.ntmps213
  go_wp2
  go_loopw [8] (fun i wr => ∃ k : Nat, k ≤ n ∧ i = .int .i64 k ∧ (zs.take k).any p = false ∧ Below w.heap.size w wr) (fun i _ => n - (intOf i).toNat)
  case atStart => exact ⟨0, Nat.zero_le _, rfl, by simp, Below.refl _ _⟩
  case round =>
    obtain ⟨k, hk, rfl, hpre, hb⟩ := hrel
    have HP := Lib.hid hpre
    clear hpre
    by_cases hlt : k < n
    · obtain ⟨b, off, rfl, hc⟩ := (h.below hb).at_ hlt
      have HH := Lib.hid h
      clear h
      cases hp : p (iget zs k) with
      | true =>
        have HX := Lib.hid hp
        clear hp
        go_wp2_with fail
        refine (HF.out k hlt _ hb).mono ?_
        rintro e w1 ⟨rfl, hb1⟩
        rw [HX.out]
        go_wp2
        go_ret
        exact ⟨ret_int (findI_some (by rw [HH.out.1]; exact hlt) HP.out HX.out).symm, hb.trans (hb1.mono hb.size)⟩
      | false =>
        have HX := Lib.hid hp
        clear hp
        go_wp2_with fail
        refine (HF.out k hlt _ hb).mono ?_
        rintro e w1 ⟨rfl, hb1⟩
        rw [HX.out]
        go_wp2
        go_roundw
        case rel => exact ⟨k + 1, by omega, by go_num, by rw [any_take_iget (by rw [HH.out.1]; exact hlt), HP.out, HX.out]; rfl, hb.trans (hb1.mono hb.size)⟩
        case measure => simp [intOf]; omega
    · obtain rfl : k = n := by omega
      have hl := h.1
      have HL := Lib.hid hl
      clear hl
      go_wp2
      go_ret
      exact ⟨ret_int (findI_none (by have := HP.out; rwa [List.take_of_length_le (Nat.le_of_eq HL.out)] at this)).symm, hb⟩

theorem containsFunc_any (fn : Nat) (cap : Array Value) (p : Int → Bool) (ao : Option Addr) (n c : Nat) (zs : List Int) (w : World) (h : Ints w ao n zs)
    (hcf : ∀ (args : Array Value) (w : World), (callFunc fn args).run Try.prog w = .ok (.enter fn args) w)
    (hf : ∀ j, j < n → ∀ w', Below w.heap.size w w' → Calls Try.prog fn (#[.int .i64 (iget zs j)] ++ cap) w' fun e w'' => e = .returned (.bool (p (iget zs j))) ∧ Below w'.heap.size w' w'') :
    Calls Try.prog 178 #[.slice ao n c, .func (.func fn) #[] cap] w fun e w' => e = .returned (.bool (zs.any p)) ∧ Below w.heap.size w w' := by
  have HF := Lib.hid hf
  clear hf
  go_enter Try.func178, Try.ntmps178
  go_wp2_with fail
  refine (indexFunc_any fn cap p ao n c zs w h hcf HF.out).mono ?_
  rintro e w1 ⟨rfl, hb1⟩
  go_wp2
  go_ret
  exact ⟨ret_bool (findI_any p zs), hb1⟩
end Go.Proofs.Ytpognnifgcacnaa

/- IsPresentation: words, presentations, the program's and the reference's. -/
namespace Go.Proofs.Ytpognnifgcacnaa
open Go.RowKit

/-- a word with letters 0 to hi: at most 64 of them -/
def isWordTo (hi : Int) (zs : List Int) : Bool := decide (zs.length ≤ 64) && zs.all (fun z => inB z 0 hi)
/-- a presentation -/
def isPres (d : PresD) : Bool := inB d.1 1 5 && decide (d.2.length ≤ 24) && d.2.all (fun zs => isWordTo (d.1 - 1) zs && decide (1 ≤ zs.length))

set_option maxHeartbeats 400000 in
theorem spec11Word_any (g : Int) (ao : Option Addr) (n c : Nat) (zs : List Int) (w : World) (h : Ints w ao n zs) (hg0 : 0 ≤ g) (hg1 : g ≤ 1000) :
    Calls Try.prog 191 #[.int .i64 g, .slice ao n c] w fun e w' => e = .returned (.bool (isWordTo (g - 1) zs)) ∧ w' = w := by
  have hn := h.2.1
  have hl := h.1
  have HL := Lib.hid hl
  clear hl
  go_enter Try.func191, Try.ntmps191
  go_wp2
  go_loop [5] (fun i => ∃ k : Nat, k ≤ n ∧ i = .int .i64 k ∧ (zs.take k).all (fun z => inB z 0 (g - 1)) = true) (fun i => n - (intOf i).toNat)
  case atStart => exact ⟨0, Nat.zero_le _, rfl, by simp⟩
  case round =>
    obtain ⟨k, hk, rfl, hpre⟩ := hrel
    have HP := Lib.hid hpre
    clear hpre
    by_cases hlt : k < n
    · obtain ⟨b, off, rfl, hc⟩ := h.at_ hlt
      have HH := Lib.hid h
      clear h
      cases hp : inB (iget zs k) 0 (g - 1) with
      | true =>
        have HX := Lib.hid hp
        clear hp
        go_wp2_with (go_at_call 95; refine (specIn_any _ _ _ _).mono ?_; rintro e w' ⟨rfl, rfl⟩; rw [HX.out])
        go_round
        case rel => exact ⟨k + 1, by omega, by go_num, by rw [all_take_iget (by rw [HL.out]; exact hlt), HP.out, HX.out]; rfl⟩
        case measure => simp [intOf]; omega
      | false =>
        have HX := Lib.hid hp
        clear hp
        go_wp2_with (go_at_call 95; refine (specIn_any _ _ _ _).mono ?_; rintro e w' ⟨rfl, rfl⟩; rw [HX.out])
        go_ret
        exact ⟨ret_bool (by unfold isWordTo; rw [all_false_at (by rw [HL.out]; exact hlt) HX.out]; simp), rfl⟩
    · obtain rfl : k = n := by omega
      go_wp2
      go_ret
      exact ⟨ret_bool (by have := HP.out; rw [List.take_of_length_le (Nat.le_of_eq HL.out)] at this; unfold isWordTo; rw [this, HL.out]; simp; omega), rfl⟩

theorem all_take_lget {zss : List (List Int)} {p : List Int → Bool} {k : Nat} (h : k < zss.length) : (zss.take (k + 1)).all p = ((zss.take k).all p && p (lget zss k)) := by
  rw [take_lget h, List.all_append]; simp
theorem any_take_lget {zss : List (List Int)} {p : List Int → Bool} {k : Nat} (h : k < zss.length) : (zss.take (k + 1)).any p = ((zss.take k).any p || p (lget zss k)) := by
  rw [take_lget h, List.any_append]; simp
theorem all_false_lget {zss : List (List Int)} {p : List Int → Bool} {k : Nat} (h : k < zss.length) (hp : p (lget zss k) = false) : zss.all p = false := by
  rw [List.all_eq_false]; exact ⟨_, lget_mem h, by simp [hp]⟩

/-- words with letters below g, each of at least a number of letters, at most 24 -/
def wordsTo (g : Int) (least : Nat) (zss : List (List Int)) : Bool := decide (zss.length ≤ 24) && zss.all (fun zs => isWordTo (g - 1) zs && decide (least ≤ zs.length))

set_option maxHeartbeats 800000 in
theorem spec11Words_any (g : Int) (least : Nat) (ao : Option Addr) (n c : Nat) (zss : List (List Int)) (w : World) (h : Intss w ao n zss) (hg0 : 0 ≤ g) (hg1 : g ≤ 1000) :
    Calls Try.prog 196 #[.int .i64 g, .slice ao n c, .int .i64 (least : Int)] w fun e w' => e = .returned (.bool (wordsTo g least zss)) ∧ w' = w := by
  have hn := h.2.1
  have hl := h.1
  have HL := Lib.hid hl
  clear hl
  go_enter Try.func196, Try.ntmps196
  go_wp2
  go_loop [7] (fun i => ∃ k : Nat, k ≤ n ∧ i = .int .i64 k ∧ (zss.take k).all (fun zs => isWordTo (g - 1) zs && decide (least ≤ zs.length)) = true) (fun i => n - (intOf i).toNat)
  case atStart => exact ⟨0, Nat.zero_le _, rfl, by simp⟩
  case round =>
    obtain ⟨k, hk, rfl, hpre⟩ := hrel
    have HP := Lib.hid hpre
    clear hpre
    by_cases hlt : k < n
    · obtain ⟨b, off, a1, n1, c1, rfl, hc, hin⟩ := h.at_ hlt
      have hn1 := hin.2.1
      have HN := Lib.hid hin.1
      have HH := Lib.hid h
      clear h
      cases hp : isWordTo (g - 1) (lget zss k) with
      | true =>
        have HX := Lib.hid hp
        clear hp
        by_cases hz : least ≤ n1
        · have hd : decide ((n1 : Int) < least) = false := by simp; omega
          go_wp2_with (go_at_call 191; refine (spec11Word_any g a1 n1 c1 _ _ hin hg0 hg1).mono ?_; rintro e w' ⟨rfl, rfl⟩; rw [HX.out])
          go_round
          case rel => exact ⟨k + 1, by omega, by go_num, by rw [all_take_lget (by rw [HL.out]; exact hlt), HP.out, HX.out, HN.out]; simp [hz]⟩
          case measure => simp [intOf]; omega
        · have hd : decide ((n1 : Int) < least) = true := by simp; omega
          go_wp2_with (go_at_call 191; refine (spec11Word_any g a1 n1 c1 _ _ hin hg0 hg1).mono ?_; rintro e w' ⟨rfl, rfl⟩; rw [HX.out])
          go_ret
          exact ⟨ret_bool (by unfold wordsTo; rw [all_false_lget (k := k) (by rw [HL.out]; exact hlt) (by rw [HX.out, HN.out]; simp; omega)]; simp), rfl⟩
      | false =>
        have HX := Lib.hid hp
        clear hp
        go_wp2_with (go_at_call 191; refine (spec11Word_any g a1 n1 c1 _ _ hin hg0 hg1).mono ?_; rintro e w' ⟨rfl, rfl⟩; rw [HX.out])
        go_ret
        exact ⟨ret_bool (by unfold wordsTo; rw [all_false_lget (k := k) (by rw [HL.out]; exact hlt) (by rw [HX.out]; rfl)]; simp), rfl⟩
    · obtain rfl : k = n := by omega
      go_wp2
      go_ret
      exact ⟨ret_bool (by have := HP.out; rw [List.take_of_length_le (Nat.le_of_eq HL.out)] at this; unfold wordsTo; rw [this, HL.out]; simp; omega), rfl⟩

theorem isPres_out {d : PresD} (h : inB d.1 1 5 = false) : isPres d = false := by unfold isPres; rw [h]; rfl
theorem isPres_in {d : PresD} (h : inB d.1 1 5 = true) : isPres d = wordsTo d.1 1 d.2 := by unfold isPres wordsTo; rw [h]; simp

set_option maxHeartbeats 400000 in
theorem spec11Is_any {v : Value} {d : PresD} (w : World) (h : RdP w v d) :
    Calls Try.prog 143 #[v] w fun e w' => e = .returned (.bool (isPres d)) ∧ Below w.heap.size w w' := by
  obtain ⟨ao, n, c, rfl, hi⟩ := h
  have hb := below_alloc1 w (.cells #[.int .i64 d.1, .slice ao n c] 72)
  cases hg : inB d.1 1 5 with
  | true =>
    have HX := Lib.hid hg
    have hg' := inB_true.1 hg
    clear hg
    go_enter Try.func143, Try.ntmps143
    go_wp2_with (go_at_call 95; refine (specIn_any _ _ _ _).mono ?_; rintro e w' ⟨rfl, rfl⟩; rw [HX.out])
    refine (spec11Words_any d.1 1 ao n c d.2 _ (hi.below hb) (by omega) (by omega)).mono ?_
    rintro e w1 ⟨rfl, rfl⟩
    go_wp2
    go_ret
    exact ⟨ret_bool (isPres_in HX.out).symm, hb⟩
  | false =>
    have HX := Lib.hid hg
    clear hg
    go_enter Try.func143, Try.ntmps143
    go_wp2_with (go_at_call 95; refine (specIn_any _ _ _ _).mono ?_; rintro e w' ⟨rfl, rfl⟩; rw [HX.out])
    go_ret
    exact ⟨ret_bool (isPres_out HX.out).symm, hb⟩
end Go.Proofs.Ytpognnifgcacnaa

/- isPresentation, the program's: areWithin, isLetters, slices.ContainsFunc at [][]int64. -/
namespace Go.Proofs.Ytpognnifgcacnaa
open Go.RowKit

theorem areWithinFn_any (z lo hi : Int) (b1 b2 : Nat) (w : World) (h1 : w.cell? ⟨b1, 0, none⟩ = some (.int .i64 lo)) (h2 : w.cell? ⟨b2, 0, none⟩ = some (.int .i64 hi)) :
    Calls Try.prog 216 #[.int .i64 z, .pointer (some ⟨b1, 0, none⟩), .pointer (some ⟨b2, 0, none⟩)] w fun e w' => e = .returned (.bool (!inB z lo hi)) ∧ w' = w := by
  go_enter Try.func216, Try.ntmps216
  go_wp2_with (go_at_call 97; refine (within_any _ _ _ _).mono ?_; rintro e w' ⟨rfl, rfl⟩)
  go_ret
  exact ⟨rfl, rfl⟩

set_option maxHeartbeats 400000 in
set_option maxRecDepth 100000 in
theorem areWithin_any (ao : Option Addr) (n c : Nat) (zs : List Int) (lo hi : Int) (w : World) (h : Ints w ao n zs) :
    Calls Try.prog 188 #[.slice ao n c, .int .i64 lo, .int .i64 hi] w fun e w' => e = .returned (.bool (zs.all (fun z => inB z lo hi))) ∧ Below w.heap.size w w' := by
  have hmf : ∀ (fn : Fn) (first cap : Array Value) (w : World), (Instr.makeFunc fn first cap).run Try.prog w = .ok (.func fn first cap) w := fun _ _ _ _ => rfl
  have hany : zs.any (fun z => !inB z lo hi) = !(zs.all (fun z => inB z lo hi)) := by rw [List.any_eq_not_all_not]; simp
  have HA := Lib.hid hany
  clear hany
  have hb := below_alloc2 w (.cells #[.int .i64 lo] 2) (.cells #[.int .i64 hi] 2)
  have k1 : Blk ((w.alloc (.cells #[.int .i64 lo] 2)).alloc (.cells #[.int .i64 hi] 2)) w.heap.size 2 #[.int .i64 lo] := (blk_at rfl).alloc _
  have k2 : Blk ((w.alloc (.cells #[.int .i64 lo] 2)).alloc (.cells #[.int .i64 hi] 2)) (w.heap.size + 1) 2 #[.int .i64 hi] := blk_at (by simp)
  go_enter Try.func188, Try.ntmps188
  go_wp2_with fail
  refine (containsFunc_any 216 #[.pointer (some ⟨w.heap.size, 0, none⟩), .pointer (some ⟨w.heap.size + 1, 0, none⟩)] (fun z => !inB z lo hi) ao n c zs _ (h.below hb) (fun _ _ => by rfl)
    (fun j hj w' hb' => (areWithinFn_any _ lo hi w.heap.size (w.heap.size + 1) w' ((k1.belowS hb').cell 0) ((k2.belowS hb').cell 0)).mono ?_)).mono ?_
  · rintro e w1 ⟨rfl, rfl⟩; exact ⟨rfl, Below.refl _ _⟩
  rintro e w1 ⟨rfl, hb1⟩
  go_wp2
  go_ret
  exact ⟨ret_bool (by rw [HA.out]; simp), hb.trans (hb1.mono hb.size)⟩

set_option maxHeartbeats 400000 in
theorem isLetters_any (g : Int) (ao : Option Addr) (n c : Nat) (zs : List Int) (w : World) (h : Ints w ao n zs) (hg0 : 0 ≤ g) (hg1 : g ≤ 1000) :
    Calls Try.prog 182 #[.slice ao n c, .int .i64 g] w fun e w' => e = .returned (.bool (isWordTo (g - 1) zs)) ∧ Below w.heap.size w w' := by
  have HL := Lib.hid h.1
  have hn := h.2.1
  by_cases hs : n ≤ 64
  · have h1 : decide ((n : Int) ≤ 64) = true := by simp; omega
    go_enter Try.func182, Try.ntmps182
    go_wp2_with fail
    refine (areWithin_any ao n c zs _ _ _ h).mono ?_
    rintro e w1 ⟨rfl, hb1⟩
    go_wp2
    go_ret
    exact ⟨ret_bool (by unfold isWordTo; rw [HL.out]; simp [hs]), hb1⟩
  · have h1 : decide ((n : Int) ≤ 64) = false := by simp; omega
    go_enter Try.func182, Try.ntmps182
    go_wp2
    go_ret
    exact ⟨ret_bool (by unfold isWordTo; rw [HL.out]; simp; intro; omega), Below.refl _ _⟩

/-- the first index at which p holds, or -1 -/
def findL (p : List Int → Bool) (zss : List (List Int)) : Int := match zss.findIdx? p with | some i => i | none => -1
theorem findL_none {p : List Int → Bool} {zss : List (List Int)} (h : zss.any p = false) : findL p zss = -1 := by
  have : zss.findIdx? p = none := by rw [List.findIdx?_eq_none_iff]; intro x hx; have := (List.any_eq_false.1 h) x hx; simpa using this
  simp [findL, this]
theorem findL_some {p : List Int → Bool} {zss : List (List Int)} {k : Nat} (hk : k < zss.length) (hn : (zss.take k).any p = false) (hp : p (lget zss k) = true) : findL p zss = k := by
  have : zss.findIdx? p = some k := by
    rw [List.findIdx?_eq_some_iff_getElem]
    refine ⟨hk, by rw [← lget_lt hk]; exact hp, fun j hj => ?_⟩
    have hx : zss[j]'(by omega) ∈ zss.take k := by rw [List.mem_take_iff_getElem]; exact ⟨j, by omega, rfl⟩
    have := (List.any_eq_false.1 hn) _ hx
    simpa using this
  simp [findL, this]
theorem findL_any (p : List Int → Bool) (zss : List (List Int)) : decide (0 ≤ findL p zss) = zss.any p := by
  cases h : zss.any p with
  | false => rw [findL_none h]; rfl
  | true =>
    rw [decide_eq_true_iff]
    unfold findL
    cases h2 : zss.findIdx? p with
    | some i => exact Int.natCast_nonneg i
    | none =>
      rw [List.findIdx?_eq_none_iff] at h2
      obtain ⟨x, hx, hp⟩ := List.any_eq_true.1 h
      have := h2 x hx
      simp [hp] at this

set_option maxHeartbeats 400000 in
theorem indexFuncL_any (fn : Nat) (cap : Array Value) (p : List Int → Bool) (ao : Option Addr) (n c : Nat) (zss : List (List Int)) (w : World) (h : Intss w ao n zss)
    (hcf : ∀ (args : Array Value) (w : World), (callFunc fn args).run Try.prog w = .ok (.enter fn args) w)
    (hf : ∀ j, j < n → ∀ w' a' n' c', Below w.heap.size w w' → Ints w' a' n' (lget zss j) → Calls Try.prog fn (#[.slice a' n' c'] ++ cap) w' fun e w'' => e = .returned (.bool (p (lget zss j))) ∧ Below w'.heap.size w' w'') :
    Calls Try.prog 199 #[.slice ao n c, .func (.func fn) #[] cap] w fun e w' => e = .returned (.int .i64 (findL p zss)) ∧ Below w.heap.size w w' := by
  have hn := h.2.1
  have HF := Lib.hid hf
  clear hf
  have HL := Lib.hid h.1
  go_enter Try.func199, Try.ntmps199
  go_wp2
  go_loopw [8] (fun i wr => ∃ k : Nat, k ≤ n ∧ i = .int .i64 k ∧ (zss.take k).any p = false ∧ Below w.heap.size w wr) (fun i _ => n - (intOf i).toNat)
  case atStart => exact ⟨0, Nat.zero_le _, rfl, by simp, Below.refl _ _⟩
  case round =>
    obtain ⟨k, hk, rfl, hpre, hb⟩ := hrel
    have HP := Lib.hid hpre
    clear hpre
    by_cases hlt : k < n
    · obtain ⟨b, off, a1, n1, c1, rfl, hc, hin⟩ := (h.below hb).at_ hlt
      have HI := Lib.hid hin
      clear h hin
      cases hp : p (lget zss k) with
      | true =>
        have HX := Lib.hid hp
        clear hp
        go_wp2_with fail
        refine (HF.out k hlt _ a1 n1 c1 hb HI.out).mono ?_
        rintro e w1 ⟨rfl, hb1⟩
        rw [HX.out]
        go_wp2
        go_ret
        exact ⟨ret_int (findL_some (by rw [HL.out]; exact hlt) HP.out HX.out).symm, hb.trans (hb1.mono hb.size)⟩
      | false =>
        have HX := Lib.hid hp
        clear hp
        go_wp2_with fail
        refine (HF.out k hlt _ a1 n1 c1 hb HI.out).mono ?_
        rintro e w1 ⟨rfl, hb1⟩
        rw [HX.out]
        go_wp2
        go_roundw
        case rel => exact ⟨k + 1, by omega, by go_num, by rw [any_take_lget (by rw [HL.out]; exact hlt), HP.out, HX.out]; rfl, hb.trans (hb1.mono hb.size)⟩
        case measure => simp [intOf]; omega
    · obtain rfl : k = n := by omega
      go_wp2
      go_ret
      exact ⟨ret_int (findL_none (by have := HP.out; rwa [List.take_of_length_le (Nat.le_of_eq HL.out)] at this)).symm, hb⟩

theorem containsFuncL_any (fn : Nat) (cap : Array Value) (p : List Int → Bool) (ao : Option Addr) (n c : Nat) (zss : List (List Int)) (w : World) (h : Intss w ao n zss)
    (hcf : ∀ (args : Array Value) (w : World), (callFunc fn args).run Try.prog w = .ok (.enter fn args) w)
    (hf : ∀ j, j < n → ∀ w' a' n' c', Below w.heap.size w w' → Ints w' a' n' (lget zss j) → Calls Try.prog fn (#[.slice a' n' c'] ++ cap) w' fun e w'' => e = .returned (.bool (p (lget zss j))) ∧ Below w'.heap.size w' w'') :
    Calls Try.prog 146 #[.slice ao n c, .func (.func fn) #[] cap] w fun e w' => e = .returned (.bool (zss.any p)) ∧ Below w.heap.size w w' := by
  have HF := Lib.hid hf
  clear hf
  go_enter Try.func146, Try.ntmps146
  go_wp2_with fail
  refine (indexFuncL_any fn cap p ao n c zss w h hcf HF.out).mono ?_
  rintro e w1 ⟨rfl, hb1⟩
  go_wp2
  go_ret
  exact ⟨ret_bool (findL_any p zss), hb1⟩

/-- no relator: not a word, or empty -/
def badRel (g : Int) (zs : List Int) : Bool := !(isWordTo (g - 1) zs && decide (1 ≤ zs.length))

set_option maxHeartbeats 400000 in
theorem isPresFn_any (g : Int) (b : Nat) (ao : Option Addr) (n c : Nat) (zs : List Int) (w : World) (h : Ints w ao n zs) (hg0 : 0 ≤ g) (hg1 : g ≤ 1000) (hc : w.cell? ⟨b, 0, none⟩ = some (.int .i64 g)) :
    Calls Try.prog 192 #[.slice ao n c, .pointer (some ⟨b, 0, none⟩)] w fun e w' => e = .returned (.bool (badRel g zs)) ∧ Below w.heap.size w w' := by
  have HL := Lib.hid h.1
  have hn := h.2.1
  by_cases h0 : n = 0
  · have e0 : ((n : Int) == 0) = true := by simp; omega
    have H0 := Lib.hid h0
    clear h0
    go_enter Try.func192, Try.ntmps192
    go_wp2
    go_ret
    exact ⟨ret_bool (by unfold badRel; rw [HL.out, H0.out]; simp), Below.refl _ _⟩
  · have e0 : ((n : Int) == 0) = false := by simp; omega
    have hz : decide (1 ≤ n) = true := by simp; omega
    have HZ := Lib.hid hz
    clear hz
    go_enter Try.func192, Try.ntmps192
    go_wp2_with fail
    refine (isLetters_any g ao n c zs _ h hg0 hg1).mono ?_
    rintro e w1 ⟨rfl, hb1⟩
    go_wp2
    go_ret
    exact ⟨ret_bool (by unfold badRel; rw [HL.out, HZ.out]; simp), hb1⟩

set_option maxHeartbeats 400000 in
set_option maxRecDepth 100000 in
theorem isPresentation_any {v : Value} {d : PresD} (w : World) (h : RdP w v d) :
    Calls Try.prog 137 #[v] w fun e w' => e = .returned (.bool (isPres d)) ∧ Below w.heap.size w w' := by
  obtain ⟨ao, n, c, rfl, hi⟩ := h
  have hmf : ∀ (fn : Fn) (first cap : Array Value) (w : World), (Instr.makeFunc fn first cap).run Try.prog w = .ok (.func fn first cap) w := fun _ _ _ _ => rfl
  have hn := hi.2.1
  have HL := Lib.hid hi.1
  have hb := below_alloc1 w (.cells #[.int .i64 d.1, .slice ao n c] 72)
  have kb : Blk (w.alloc (.cells #[.int .i64 d.1, .slice ao n c] 72)) w.heap.size 72 #[.int .i64 d.1, .slice ao n c] := blk_at rfl
  cases hg : inB d.1 1 5 with
  | true =>
    have HX := Lib.hid hg
    have hg' := inB_true.1 hg
    have hany : d.2.any (badRel d.1) = !(d.2.all (fun zs => isWordTo (d.1 - 1) zs && decide (1 ≤ zs.length))) := by
      rw [List.any_eq_not_all_not]; congr 2; funext zs; unfold badRel; exact Bool.not_not _
    have HA := Lib.hid hany
    clear hg hany
    by_cases hs : n ≤ 24
    · have h1 : decide ((n : Int) ≤ 24) = true := by simp; omega
      go_enter Try.func137, Try.ntmps137
      go_wp2_with (go_at_call 97; refine (within_any _ _ _ _).mono ?_; rintro e w' ⟨rfl, rfl⟩; rw [HX.out])
      refine (containsFuncL_any 192 #[.pointer (some ⟨w.heap.size, 0, none⟩)] (badRel d.1) ao n c d.2 _ (hi.below hb) (fun _ _ => by rfl)
        (fun j hj w' a' n' c' hb' hin => isPresFn_any d.1 w.heap.size a' n' c' _ w' hin (by omega) (by omega) ((kb.belowS hb').cell 0))).mono ?_
      rintro e w1 ⟨rfl, hb1⟩
      go_wp2
      go_ret
      exact ⟨ret_bool (by rw [HA.out, isPres_in HX.out]; unfold wordsTo; rw [HL.out]; simp [hs]), hb.trans (hb1.mono hb.size)⟩
    · have h1 : decide ((n : Int) ≤ 24) = false := by simp; omega
      go_enter Try.func137, Try.ntmps137
      go_wp2_with (go_at_call 97; refine (within_any _ _ _ _).mono ?_; rintro e w' ⟨rfl, rfl⟩; rw [HX.out])
      go_ret
      exact ⟨ret_bool (by rw [isPres_in HX.out]; unfold wordsTo; rw [HL.out]; simp; intro; omega), hb⟩
  | false =>
    have HX := Lib.hid hg
    clear hg
    go_enter Try.func137, Try.ntmps137
    go_wp2_with (go_at_call 97; refine (within_any _ _ _ _).mono ?_; rintro e w' ⟨rfl, rfl⟩; rw [HX.out])
    go_ret
    exact ⟨ret_bool (isPres_out HX.out).symm, hb⟩
end Go.Proofs.Ytpognnifgcacnaa

/- Words that lead points through a table: l11Lead, applied; what a presentation's words are. -/
namespace Go.Proofs.Ytpognnifgcacnaa
open Go.RowKit

theorem isPres_gens {d : PresD} (h : isPres d = true) : 1 ≤ d.1 ∧ d.1 ≤ 5 := by
  cases hg : inB d.1 1 5 with
  | false => rw [isPres_out hg] at h; cases h
  | true => exact inB_true.1 hg
end Go.Proofs.Ytpognnifgcacnaa

/- The code of WithRelators: l11Code, subgroupCode. -/
namespace Go.Proofs.Ytpognnifgcacnaa
open Go.RowKit

/-- a presentation and words in its letters -/
def withOk (d : PresD) (ws : List (List Int)) : Bool := isPres d && wordsTo d.1 0 ws
def withC (d : PresD) (ws : List (List Int)) : Int := if withOk d ws = true then 0 else 1

set_option maxRecDepth 100000 in
set_option maxHeartbeats 800000 in
theorem specCode_any {v : Value} {d : PresD} (ao : Option Addr) (n c : Nat) (ws : List (List Int)) (w : World) (h : RdP w v d) (h' : Intss w ao n ws) :
    Calls Try.prog 141 #[v, .slice ao n c] w fun e w' => e = .returned (.int .i64 (withC d ws)) ∧ Below w.heap.size w w' := by
  obtain ⟨ro, rn, rc, rfl, hr⟩ := h
  have hb := below_alloc1 w (.cells #[.int .i64 d.1, .slice ro rn rc] 72)
  have kb : Blk (w.alloc (.cells #[.int .i64 d.1, .slice ro rn rc] 72)) w.heap.size 72 #[.int .i64 d.1, .slice ro rn rc] := blk_at rfl
  have hp0 : RdP (w.alloc (.cells #[.int .i64 d.1, .slice ro rn rc] 72)) (.agg #[.int .i64 d.1, .slice ro rn rc]) d := ⟨ro, rn, rc, rfl, hr.below hb⟩
  cases hp : isPres d with
  | false =>
    have HP := Lib.hid hp
    have hC : withC d ws = 1 := by unfold withC withOk; rw [hp]; rfl
    rw [hC]
    clear hp hC
    go_enter Try.func141, Try.ntmps141
    go_wp2_with fail
    refine (spec11Is_any _ hp0).mono ?_
    rintro e w1 ⟨rfl, b1⟩
    rw [HP.out]
    go_wp2_with fail
    go_ret
    exact ⟨rfl, below_tr b1 hb⟩
  | true =>
    have hg := isPres_gens hp
    have HP := Lib.hid hp
    clear hp
    go_enter Try.func141, Try.ntmps141
    go_wp2_with fail
    refine (spec11Is_any _ hp0).mono ?_
    rintro e w1 ⟨rfl, b1⟩
    rw [HP.out]
    have B1 := below_tr b1 hb
    have y0 : w1.cell? ⟨w.heap.size, 0, none⟩ = some (.int .i64 d.1) := (kb.belowS b1).cell 0
    have h1 := h'.below B1
    clear hp0 kb hb b1 hr h'
    cases hw : wordsTo d.1 0 ws with
    | false =>
      have HW := Lib.hid hw
      have hC : withC d ws = 1 := by unfold withC withOk; rw [hw]; simp
      have HC := Lib.hid hC
      clear hw hC
      go_wp2_with (go_at_call 196; refine (spec11Words_any d.1 0 ao n c ws _ h1 (by omega) (by omega)).mono ?_; rintro e w' ⟨rfl, rfl⟩; rw [HW.out])
      go_ret
      exact ⟨ret_int HC.out.symm, B1⟩
    | true =>
      have HW := Lib.hid hw
      have hC : withC d ws = 0 := by unfold withC withOk; rw [hw, HP.out]; rfl
      have HC := Lib.hid hC
      clear hw hC
      go_wp2_with (go_at_call 196; refine (spec11Words_any d.1 0 ao n c ws _ h1 (by omega) (by omega)).mono ?_; rintro e w' ⟨rfl, rfl⟩; rw [HW.out])
      go_ret
      exact ⟨ret_int HC.out.symm, B1⟩

set_option maxHeartbeats 400000 in
theorem codeFn_any (b0 : Nat) (g : Int) (ap : Option Addr) (np cp : Nat) (q : List Int) (w : World) (hc : w.cell? ⟨b0, 0, none⟩ = some (.int .i64 g)) (hq : Ints w ap np q) (hg0 : 0 ≤ g) (hg1 : g ≤ 1000) :
    Calls Try.prog 181 #[.slice ap np cp, .pointer (some ⟨b0, 0, none⟩)] w fun e w' => e = .returned (.bool (!isWordTo (g - 1) q)) ∧ Below w.heap.size w w' := by
  go_enter Try.func181, Try.ntmps181
  go_wp2_with fail
  refine (isLetters_any g ap np cp q _ hq hg0 hg1).mono ?_
  rintro e w1 ⟨rfl, b1⟩
  go_wp2
  go_ret
  exact ⟨rfl, b1⟩

theorem words_any (g : Int) (ws : List (List Int)) : ws.any (fun q => !isWordTo (g - 1) q) = !(ws.all fun q => isWordTo (g - 1) q) := by
  rw [List.any_eq_not_all_not]; simp
theorem wordsTo_0 (g : Int) (ws : List (List Int)) (h : ws.length ≤ 24) : wordsTo g 0 ws = ws.all fun q => isWordTo (g - 1) q := by
  unfold wordsTo; simp [h]

set_option maxRecDepth 100000 in
set_option maxHeartbeats 3200000 in
theorem implCode_any {v : Value} {d : PresD} (ao : Option Addr) (n c : Nat) (ws : List (List Int)) (w : World) (h : RdP w v d) (h' : Intss w ao n ws) :
    Calls Try.prog 111 #[v, .slice ao n c] w fun e w' => e = .returned (.int .i64 (withC d ws)) ∧ Below w.heap.size w w' := by
  obtain ⟨ro, rn, rc, rfl, hr⟩ := h
  have hmf : ∀ (fn : Fn) (first cap : Array Value) (w : World), (Instr.makeFunc fn first cap).run Try.prog w = .ok (.func fn first cap) w := fun _ _ _ _ => rfl
  have HL := Lib.hid h'.1
  have hn1 := h'.2.1
  have hb := below_alloc1 w (.cells #[.int .i64 d.1, .slice ro rn rc] 72)
  have kb : Blk (w.alloc (.cells #[.int .i64 d.1, .slice ro rn rc] 72)) w.heap.size 72 #[.int .i64 d.1, .slice ro rn rc] := blk_at rfl
  have KB := Lib.hid kb
  have hr1 : RdP (w.alloc (.cells #[.int .i64 d.1, .slice ro rn rc] 72)) (.agg #[.int .i64 d.1, .slice ro rn rc]) d := ⟨ro, rn, rc, rfl, hr.below hb⟩
  have h1 := h'.below hb
  have HB := Lib.hid hb
  clear kb hb hr h'
  cases hp : isPres d with
  | false =>
    have HP := Lib.hid hp
    have hC : withC d ws = 1 := by unfold withC withOk; rw [hp]; rfl
    have HC := Lib.hid hC
    clear hp hC
    go_enter Try.func111, Try.ntmps111
    go_wp2_with fail
    refine (isPresentation_any _ hr1).mono ?_
    rintro e w1 ⟨rfl, b1⟩
    rw [HP.out]
    have bq := b1
    go_wp2_with fail
    go_ret
    exact ⟨ret_int HC.out.symm, below_tr bq HB.out⟩
  | true =>
    have hg := isPres_gens hp
    have HP := Lib.hid hp
    clear hp
    by_cases hs : n ≤ 24
    · have hs1 : decide ((24 : Int) < n) = false := by simp; omega
      have hwo := wordsTo_0 d.1 ws (by rw [HL.out]; exact hs)
      cases hw : wordsTo d.1 0 ws with
      | false =>
        have hC : withC d ws = 1 := by unfold withC withOk; rw [hw]; simp
        have HC := Lib.hid hC
        have HA : Hid ((ws.any fun q => !isWordTo (d.1 - 1) q) = true) := Lib.hid (by rw [words_any, ← hwo, hw]; rfl)
        clear hw hC hwo
        go_enter Try.func111, Try.ntmps111
        go_wp2_with fail
        refine (isPresentation_any _ hr1).mono ?_
        rintro e w1 ⟨rfl, b1⟩
        rw [HP.out]
        have hc1 := (KB.out.belowS b1)
        have h2 := h1.below b1
        go_wp2_with fail
        refine (containsFuncL_any 181 #[.pointer (some ⟨w.heap.size, 0, none⟩)] (fun q => !isWordTo (d.1 - 1) q) ao n c ws _ h2 (fun _ _ => by rfl) (fun j hj w' a' n' c' hb' hi => codeFn_any w.heap.size d.1 a' n' c' _ w' ((hc1.belowS hb').cell 0) hi (by omega) (by omega))).mono ?_
        rintro e wq ⟨rfl, b2⟩
        rw [HA.out]
        have bq := below_tr b2 b1
        go_wp2_with fail
        go_ret
        exact ⟨ret_int HC.out.symm, below_tr bq HB.out⟩
      | true =>
        have hC : withC d ws = 0 := by unfold withC withOk; rw [hw, HP.out]; rfl
        have HC := Lib.hid hC
        have HA : Hid ((ws.any fun q => !isWordTo (d.1 - 1) q) = false) := Lib.hid (by rw [words_any, ← hwo, hw]; rfl)
        clear hw hC hwo
        go_enter Try.func111, Try.ntmps111
        go_wp2_with fail
        refine (isPresentation_any _ hr1).mono ?_
        rintro e w1 ⟨rfl, b1⟩
        rw [HP.out]
        have hc1 := (KB.out.belowS b1)
        have h2 := h1.below b1
        go_wp2_with fail
        refine (containsFuncL_any 181 #[.pointer (some ⟨w.heap.size, 0, none⟩)] (fun q => !isWordTo (d.1 - 1) q) ao n c ws _ h2 (fun _ _ => by rfl) (fun j hj w' a' n' c' hb' hi => codeFn_any w.heap.size d.1 a' n' c' _ w' ((hc1.belowS hb').cell 0) hi (by omega) (by omega))).mono ?_
        rintro e wq ⟨rfl, b2⟩
        rw [HA.out]
        have bq := below_tr b2 b1
        go_wp2_with fail
        go_ret
        exact ⟨ret_int HC.out.symm, below_tr bq HB.out⟩
    · have hs1 : decide ((24 : Int) < n) = true := by simp; omega
      have hC : withC d ws = 1 := by unfold withC withOk wordsTo; rw [decide_eq_false (by rw [HL.out]; exact hs)]; simp
      have HC := Lib.hid hC
      clear hC
      go_enter Try.func111, Try.ntmps111
      go_wp2_with fail
      refine (isPresentation_any _ hr1).mono ?_
      rintro e w1 ⟨rfl, b1⟩
      rw [HP.out]
      have bq := b1
      go_wp2_with fail
      go_ret
      exact ⟨ret_int HC.out.symm, below_tr bq HB.out⟩
end Go.Proofs.Ytpognnifgcacnaa

/- From contracts in names to contracts in words: the doors of the functions that the laws call. -/
namespace Go.Proofs.Ytpognnifgcacnaa
open Go.RowKit

theorem rdP {η : Env} {ω : Own?} {w : World} {x : Nat} {own : Bool} {E F : Nat} {ins : List (Nm × Ch)} {g : Int} {zss : List (List Int)} {v : Value} (hm : Mem η ω w (fun x => lk x ins)) (hx : lk x ins = some ⟨own, E, 1, .rows F (irows zss) []⟩) (hv : Den2 η (.agg [.val (I6 g), .sl x 0 zss.length]) v) (hn : zss.length ≤ 17592186044416) (hr : ∀ zs ∈ zss, zs.length ≤ 17592186044416) : RdP w v (g, zss) := by
  obtain ⟨us, rfl, hl, ha⟩ := hv
  obtain ⟨u0, g0, d0⟩ := ha 0 _ rfl
  obtain ⟨u1, g1, d1⟩ := ha 1 _ rfl
  have d0 : u0 = I6 g := d0
  subst d0
  obtain ⟨ao, c, rfl, hi⟩ := rdSS hm hx d1 hn hr
  refine ⟨ao, zss.length, c, ?_, hi⟩
  match us, hl with
  | ⟨[p, q]⟩, _ => simp at g0 g1; rw [g0, g1]
abbrev pA (g : Int) (R : Nat) : AV := .s (.agg [.val (I6 g), .sl 1003 0 R])
def Fit (zss : List (List Int)) : Prop := zss.length ≤ 4398046511104 ∧ ∀ zs ∈ zss, zs.length ≤ 4398046511104
theorem two_of {us : List Value} {u0 u1 : Value} (hl : us.length = 2) (g0 : us[0]? = some u0) (g1 : us[1]? = some u1) : us = [u0, u1] := by
  match us, hl with
  | [p, q], _ => simp at g0 g1; rw [g0, g1]
theorem one_of {us : List Value} {u0 : Value} (hl : us.length = 1) (g0 : us[0]? = some u0) : us = [u0] := by
  match us, hl with
  | [p], _ => simp at g0; rw [g0]
theorem fit_of {E1 E : Nat} {w : World} {lo hi : Nat} {v : Value} {zss : List (List Int)} (h : OwSS E1 E w lo hi v zss) : Fit zss := by
  obtain ⟨ao, n, c, us, rfl, ho⟩ := h
  refine ⟨by have := ho.own.2; have := ho.len; omega, fun zs hz => ?_⟩
  obtain ⟨j, hj, rfl⟩ := List.getElem_of_mem hz
  obtain ⟨u, d, hu, hd, ⟨a', n', c', rfl, h1⟩, _⟩ := ho.get (j := j) (by have := ho.len; omega)
  rw [List.getElem?_eq_getElem hj] at hd
  have := h1.len
  have h2 := h1.2
  rw [Option.some.inj hd]
  simp at this; omega
theorem ofP {E1 E : Nat} {w : World} {lo hi : Nat} {v : Value} {d : PresD} (h : OwP E1 E w lo hi v d) : ∃ u, v = .agg #[I6 d.1, u] ∧ OwSS E1 E w lo hi u d.2 := by
  obtain ⟨ao, n, c, us, rfl, ho⟩ := h
  exact ⟨_, rfl, _, _, _, us, rfl, ho⟩
theorem denL2 {η : Env} {a b : AV} {u v : Value} (h : Den η a u) (h' : Den η b v) : DenL η [a, b] [u, v] := ⟨rfl, fun j av hj => by
  match j, hj with
  | 0, hj => simp at hj; subst hj; exact ⟨u, rfl, h⟩
  | 1, hj => simp at hj; subst hj; exact ⟨v, rfl, h'⟩⟩
theorem denP {η : Env} {g : Int} {R : Nat} {u : Value} (h : Den1 η (.sl 1003 0 R) u) : Den η (pA g R) (.agg #[I6 g, u]) := ⟨_, rfl, rfl, fun j b hb => by
  match j, hb with
  | 0, hb => simp at hb; subst hb; exact ⟨_, by simp, rfl⟩
  | 1, hb => simp at hb; subst hb; exact ⟨_, by simp, h⟩⟩
theorem den_tup2 {η : Env} {a b : A2} {v : Value} (h : Den η (.tup [a, b]) v) : ∃ u u', v = .tuple #[u, u'] ∧ Den2 η a u ∧ Den2 η b u' := by
  obtain ⟨us, rfl, hl, ha⟩ := h
  obtain ⟨u0, g0, d0⟩ := ha 0 _ rfl
  obtain ⟨u1, g1, d1⟩ := ha 1 _ rfl
  refine ⟨u0, u1, ?_, d0, d1⟩
  match us, hl with
  | ⟨[p, q]⟩, _ => simp at g0 g1; rw [g0, g1]
/-- a function of a presentation and words -/
theorem callPW {f : FuncId} {outs : List (Nm × Ch)} {res : AV} {d : PresD} {ws : List (List Int)} (hf : Fit d.2 → Fit ws → FC Try.prog f [(1002, rowsRo ws), (1003, rowsRo d.2)] [pA d.1 d.2.length, o1 (.sl 1002 0 ws.length)] outs res []) {E1 E E1' E' : Nat} {w : World} {lo hi lo' hi' : Nat} {v v' : Value} (h : OwP E1 E w lo hi v d) (h' : OwSS E1' E' w lo' hi' v' ws) :
    Calls Try.prog f #[v, v'] w fun e w' => ∃ v η ω, e = .returned v ∧ Den η res v ∧ Mem η ω w' (fun x => lk x outs) ∧ Below w.heap.size w w' ∧ ∀ b, b < w.heap.size → ω b = none := by
  obtain ⟨u, rfl, hs⟩ := ofP h
  obtain ⟨hd, r, rfl, hv⟩ := ofSS 1003 49 2 hs
  obtain ⟨hd', r', rfl, hv'⟩ := ofSS 1002 49 2 h'
  exact (hf (fit_of hs) (fit_of h')).call (l := [(1002, (rowsRo ws, hd', r')), (1003, (rowsRo d.2, hd, r))]) (us := [_, _]) (fun p hp => by simp at hp; rcases hp with rfl | rfl; exact hv'; exact hv) rfl
    (denL2 (denP (den_sl (q := (rowsRo d.2, hd, r)) rfl)) (den_sl (q := (rowsRo ws, hd', r')) rfl))
theorem two_vals {P : Program} {f : FuncId} {args : Array Value} {w : World} {a b : Value} {outs : List (Nm × Ch)} (h : Calls P f args w fun e w' => ∃ v η ω, e = .returned v ∧ Den η (.tup [.one (.val a), .one (.val b)]) v ∧ Mem η ω w' (fun x => lk x outs) ∧ Below w.heap.size w w' ∧ ∀ b, b < w.heap.size → ω b = none) :
    Calls P f args w fun e w' => e = .returned (.tuple #[a, b]) ∧ Below w.heap.size w w' := by
  refine h.mono ?_
  rintro e w' ⟨v, η, ω, rfl, hd, _, hb, _⟩
  obtain ⟨u, u', rfl, h1, h2⟩ := den_tup2 hd
  have h1 : u = a := h1
  have h2 : u' = b := h2
  subst h1 h2
  exact ⟨rfl, hb⟩

end Go.Proofs.Ytpognnifgcacnaa

/- GroupOrder, IndexOfSubgroup: the reference's and the program's functions. -/
namespace Go.Proofs.Ytpognnifgcacnaa
open Go.RowKit

section
variable {P : Program} {η : Env} {ω : Own?} {w : World}
end

theorem specCode_fc (g : Int) (rels ws : List (List Int)) (h1 : Fit rels) (h2 : Fit ws) :
    FC Try.prog 141 [(1002, rowsRo ws), (1003, rowsRo rels)] [pA g rels.length, o1 (.sl 1002 0 ws.length)] [] (vv (I6 (withC (g, rels) ws))) [] :=
  fc_of_calls fun w η ω us hm ⟨hl, ha⟩ => by
    obtain ⟨u0, g0, d0⟩ := ha 0 _ rfl
    obtain ⟨u1, g1, d1⟩ := ha 1 _ rfl
    have hp := rdP (x := 1003) (zss := rels) hm rfl d0 (by have := h1.1; omega) fun zs hz => by have := h1.2 zs hz; omega
    obtain ⟨ao, c, rfl, hi⟩ := rdSS (x := 1002) (zss := ws) hm rfl d1 (by have := h2.1; omega) fun zs hz => by have := h2.2 zs hz; omega
    rw [two_of hl g0 g1]
    exact specCode_any ao _ c ws w hp hi
theorem implCode_fc (g : Int) (rels ws : List (List Int)) (h1 : Fit rels) (h2 : Fit ws) :
    FC Try.prog 111 [(1002, rowsRo ws), (1003, rowsRo rels)] [pA g rels.length, o1 (.sl 1002 0 ws.length)] [] (vv (I6 (withC (g, rels) ws))) [] :=
  fc_of_calls fun w η ω us hm ⟨hl, ha⟩ => by
    obtain ⟨u0, g0, d0⟩ := ha 0 _ rfl
    obtain ⟨u1, g1, d1⟩ := ha 1 _ rfl
    have hp := rdP (x := 1003) (zss := rels) hm rfl d0 (by have := h1.1; omega) fun zs hz => by have := h1.2 zs hz; omega
    obtain ⟨ao, c, rfl, hi⟩ := rdSS (x := 1002) (zss := ws) hm rfl d1 (by have := h2.1; omega) fun zs hz => by have := h2.2 zs hz; omega
    rw [two_of hl g0 g1]
    exact implCode_any ao _ c ws w hp hi
/-- what a good presentation with words is -/
structure Good (ng : Nat) (rels ws : List (List Int)) : Prop where
  pos : 0 < ng
  hi : ng ≤ 5
  r : rels.length ≤ 24
  w : ws.length ≤ 24
  rl : ∀ w ∈ rels, Letters ng w
  wl : ∀ w ∈ ws, Letters ng w
  rn : ∀ w ∈ rels, w.length ≤ 1000000000
  wn : ∀ w ∈ ws, w.length ≤ 1000000000
theorem isWordTo_spec {g : Int} {ng : Nat} (hg : g = ng) {z : List Int} (h : isWordTo (g - 1) z = true) : Letters ng z ∧ z.length ≤ 64 := by
  unfold isWordTo at h
  rw [Bool.and_eq_true, List.all_eq_true] at h
  exact ⟨fun x hx => by have := inB_true.1 (h.2 x hx); omega, of_decide_eq_true h.1⟩
theorem good_of {g : Int} {rels ws : List (List Int)} (h : withOk (g, rels) ws = true) : ∃ ng : Nat, g = (ng : Int) ∧ Good ng rels ws := by
  unfold withOk at h
  rw [Bool.and_eq_true] at h
  obtain ⟨h1, h2⟩ := h
  have hg := isPres_gens h1
  have hge : g = ((g.toNat : Nat) : Int) := (Int.toNat_of_nonneg (by dsimp only at hg; omega)).symm
  unfold isPres at h1
  rw [Bool.and_eq_true, Bool.and_eq_true, List.all_eq_true] at h1
  unfold wordsTo at h2
  rw [Bool.and_eq_true, List.all_eq_true] at h2
  have hr : ∀ w ∈ rels, Letters g.toNat w ∧ w.length ≤ 64 := fun w hw => by
    have := h1.2 w hw
    rw [Bool.and_eq_true] at this
    exact isWordTo_spec hge this.1
  have hw : ∀ w ∈ ws, Letters g.toNat w ∧ w.length ≤ 64 := fun w hw => by
    have := h2.2 w hw
    rw [Bool.and_eq_true] at this
    exact isWordTo_spec hge this.1
  dsimp only at hg
  exact ⟨g.toNat, hge, by omega, by omega, of_decide_eq_true h1.1.2, of_decide_eq_true h2.1, fun w h => (hr w h).1, fun w h => (hw w h).1, fun w h => by have := (hr w h).2; omega, fun w h => by have := (hw w h).2; omega⟩

def cosX (d : PresD) (ws : List (List Int)) : CSt := runC d.1.toNat d.2 ws
def cosN (d : PresD) (ws : List (List Int)) : Nat := (numbered d.1.toNat (cosX d ws).1 (cosX d ws).2.1).1.length
def cosTab (d : PresD) (ws : List (List Int)) : List (List Int) := tableC d.1.toNat (cosX d ws).1 (cosX d ws).2.1
def idxR (d : PresD) (ws : List (List Int)) : Int := if withOk d ws = true then (if (cosX d ws).2.2 = true then 0 else (cosN d ws : Int)) else 0
def idxC (d : PresD) (ws : List (List Int)) : Int := if withOk d ws = true then (if (cosX d ws).2.2 = true then 3 else 0) else 1
theorem tableC_length (ng : Nat) (im : List (List Int)) (less : List Int) : (tableC ng im less).length = ng := by simp [tableC]
theorem tableC_rowlen {ng g : Nat} (im : List (List Int)) (less : List Int) (h : g < ng) : (lget (tableC ng im less) g).length = (numbered ng im less).1.length := by
  simp [tableC, lget, h]
theorem withC_ok {d : PresD} {ws : List (List Int)} (h : withOk d ws = true) : withC d ws = 0 := if_pos h
theorem withC_no {d : PresD} {ws : List (List Int)} (h : ¬ withOk d ws = true) : withC d ws = 1 := if_neg h
/-- the reference's and the program's tables: the same -/
theorem specTable_no {ng : Nat} {rels ws : List (List Int)} (h : Good ng rels ws) (hf : (runC ng rels ws).2.2 = true) :
    FC Try.prog 144 [(1002, rowsRo ws), (1003, rowsRo rels)] [pA ng rels.length, o1 (.sl 1002 0 ws.length)] [] (.tup [.one (.val (.slice none 0 0)), .one (.val (.bool false))]) [] :=
  l11Table_failed ng rels ws _ _ rfl rfl h.rl h.wl (by have := h.hi; omega) h.rn h.wn (by have := h.r; omega) (by have := h.w; omega) hf
theorem specTable_yes {ng : Nat} {rels ws : List (List Int)} (h : Good ng rels ws) (hf : (runC ng rels ws).2.2 = false) :
    FC Try.prog 144 [(1002, rowsRo ws), (1003, rowsRo rels)] [pA ng rels.length, o1 (.sl 1002 0 ws.length)] [(69, imOw (tableC ng (runC ng rels ws).1 (runC ng rels ws).2.1))] (.tup [.one (.sl 69 0 ng), .one (.val (.bool true))]) [] :=
  l11Table_done ng rels ws _ _ rfl rfl h.rl h.wl (by have := h.hi; omega) h.rn h.wn (by have := h.r; omega) (by have := h.w; omega) hf
theorem implTable_no {ng : Nat} {rels ws : List (List Int)} (h : Good ng rels ws) (hf : (runC ng rels ws).2.2 = true) :
    FC Try.prog 138 [(1002, rowsRo ws), (1003, rowsRo rels)] [pA ng rels.length, o1 (.sl 1002 0 ws.length)] [] (.tup [.one (.val (.slice none 0 0)), .one (.val (.bool false))]) [] := by
  have := enumerated_fc ng rels ws _ _ rfl rfl h.rl h.wl h.pos (by have := h.hi; omega) h.rn h.wn (by have := h.r; omega) (by have := h.w; omega) _ rfl
  have hf' : (runI ng rels ws).2.2 = true := by
    rcases runI_same ng rels ws with e | e
    · rw [← e]; exact hf
    · exact e.2
  rwa [if_pos hf', if_pos hf'] at this
theorem implTable_yes {ng : Nat} {rels ws : List (List Int)} (h : Good ng rels ws) (hf : (runC ng rels ws).2.2 = false) :
    FC Try.prog 138 [(1002, rowsRo ws), (1003, rowsRo rels)] [pA ng rels.length, o1 (.sl 1002 0 ws.length)] [(131, imOw (tableC ng (runC ng rels ws).1 (runC ng rels ws).2.1))] (.tup [.one (.sl 131 0 ng), .one (.val (.bool true))]) [] := by
  have := enumerated_fc ng rels ws _ _ rfl rfl h.rl h.wl h.pos (by have := h.hi; omega) h.rn h.wn (by have := h.r; omega) (by have := h.w; omega) _ rfl
  have he : runC ng rels ws = runI ng rels ws := by
    rcases runI_same ng rels ws with e | e
    · exact e
    · rw [hf] at e; exact absurd e.1 (by simp)
  rw [← he, if_neg (by rw [hf]; simp), if_neg (by rw [hf]; simp)] at this
  exact this

end Go.Proofs.Ytpognnifgcacnaa

/- GroupOrder, IndexOfSubgroup: the program's functions, and all four in words. -/
namespace Go.Proofs.Ytpognnifgcacnaa
open Go.RowKit

/-! in words -/
end Go.Proofs.Ytpognnifgcacnaa

/- The table of a subgroup: l11Small, cosetTable; CosetTable. guards: -/
namespace Go.Proofs.Ytpognnifgcacnaa
open Go.RowKit

def smallOk (d : PresD) (ws : List (List Int)) : Bool := !(cosX d ws).2.2 && decide (cosN d ws ≤ 400)
theorem cosX_nat (ng : Nat) (rels ws : List (List Int)) : cosX ((ng : Int), rels) ws = runC ng rels ws := by unfold cosX; rw [Int.toNat_natCast]
theorem cosN_nat (ng : Nat) (rels ws : List (List Int)) : cosN ((ng : Int), rels) ws = (numbered ng (runC ng rels ws).1 (runC ng rels ws).2.1).1.length := by unfold cosN; rw [cosX_nat, Int.toNat_natCast]
theorem cosTab_nat (ng : Nat) (rels ws : List (List Int)) : cosTab ((ng : Int), rels) ws = tableC ng (runC ng rels ws).1 (runC ng rels ws).2.1 := by unfold cosTab; rw [cosX_nat, Int.toNat_natCast]
theorem cosTab_row {ng : Nat} {rels ws : List (List Int)} {g : Nat} (h : g < ng) : (lget (cosTab ((ng : Int), rels) ws) g).length = cosN ((ng : Int), rels) ws := by rw [cosTab_nat, cosN_nat, tableC_rowlen _ _ h]
theorem cosTab_len (ng : Nat) (rels ws : List (List Int)) : (cosTab ((ng : Int), rels) ws).length = ng := by rw [cosTab_nat, tableC_length]
theorem cosN_le {ng : Nat} {rels ws : List (List Int)} (h : Good ng rels ws) (hf : (runC ng rels ws).2.2 = false) : cosN ((ng : Int), rels) ws ≤ 2000 := by
  rw [cosN_nat]
  have hF := full_run h.rl h.wl hf
  exact Nat.le_trans (numbered_ok hF).1.le (runC_ok h.rl h.wl).hi
def ctR (d : PresD) (ws : List (List Int)) : List (List Int) := if withOk d ws = true then (if smallOk d ws = true then cosTab d ws else []) else []
def ctC (d : PresD) (ws : List (List Int)) : Int := if withOk d ws = true then (if smallOk d ws = true then 0 else 3) else 1
theorem lenSS_le {zss : List (List Int)} {k : Nat} (h : ∀ zs ∈ zss, zs.length ≤ k) : lenSS zss ≤ zss.length * k := by
  unfold lenSS
  induction zss with
  | nil => simp
  | cons a r ih =>
    have h1 := h a (by simp)
    have h2 := ih fun z hz => h z (by simp [hz])
    simp only [List.map_cons, List.sum_cons, List.length_cons, Nat.add_mul]
    omega
theorem rows_of {zss : List (List Int)} {k : Nat} (h : ∀ g, g < zss.length → (lget zss g).length = k) : ∀ zs ∈ zss, zs.length = k := fun zs hz => by
  obtain ⟨j, hj, rfl⟩ := List.getElem_of_mem hz
  rw [← lget_lt hj]; exact h j hj
theorem ctR_small (d : PresD) (ws : List (List Int)) : (ctR d ws).length ≤ 5 ∧ lenSS (ctR d ws) ≤ 2000 := by
  unfold ctR
  split
  · rename_i h
    split
    · rename_i hs
      obtain ⟨g, rels⟩ := d
      obtain ⟨ng, rfl, hG⟩ := good_of h
      have h5 := hG.hi
      have hl := cosTab_len ng rels ws
      have hr := rows_of (zss := cosTab ((ng : Int), rels) ws) fun g hg => cosTab_row (rels := rels) (ws := ws) (g := g) (by omega)
      have hn : cosN ((ng : Int), rels) ws ≤ 400 := by unfold smallOk at hs; simp at hs; exact hs.2
      have := lenSS_le (zss := cosTab ((ng : Int), rels) ws) (k := 400) fun z hz => by rw [hr z hz]; exact hn
      rw [hl] at this
      have h6 : ng * 400 ≤ 5 * 400 := Nat.mul_le_mul_right _ h5
      omega
    · simp [lenSS]
  · simp [lenSS]

set_option maxRecDepth 100000 in
set_option maxHeartbeats 1000000 in
theorem specSmall_yes {ng : Nat} {rels ws : List (List Int)} (hG : Good ng rels ws) (hs : smallOk ((ng : Int), rels) ws = true) :
    FC Try.prog 107 [(1002, rowsRo ws), (1003, rowsRo rels)] [pA ng rels.length, o1 (.sl 1002 0 ws.length)] [(1005, imOw (cosTab ((ng : Int), rels) ws))] (.tup [.one (.sl 1005 0 ng), .one (.val (I6 0))]) [] := by
  have hs2 : (runC ng rels ws).2.2 = false ∧ cosN ((ng : Int), rels) ws ≤ 400 := by unfold smallOk at hs; rw [cosX_nat] at hs; simpa using hs
  have hT : FC Try.prog 144 [(1002, rowsRo ws), (1003, rowsRo rels)] [pA ng rels.length, o1 (.sl 1002 0 ws.length)] [(1005, imOw (cosTab ((ng : Int), rels) ws))] (.tup [.one (.sl 1005 0 ng), .one (.val (.bool true))]) [] := by
    rw [cosTab_nat]
    exact (specTable_yes hG hs2.1).nm [(69, 1005), (1002, 1002), (1003, 1003)] (by kernel_rfl)
  have hlen : (irows (cosTab ((ng : Int), rels) ws)).length = ng := by rw [irows_len, cosTab_len]
  have hpos := hG.pos
  have hr0 : (lget (cosTab ((ng : Int), rels) ws) 0).length ≤ 400 := by rw [cosTab_row hpos]; exact hs2.2
  have hrow : (irows (cosTab ((ng : Int), rels) ws))[0]? = some (ivals (lget (cosTab ((ng : Int), rels) ws) 0)) := irows_get (by rw [← irows_len, hlen]; exact hpos)
  generalize cosTab ((ng : Int), rels) ws = T at *
  refine fc_enter (nt := 24) Try.func107 rfl rfl (by simp) fun w0 ω0 => ?_
  (refine goes_seq ?_; refine goes_region ?_; apply run_step rfl; (exact stp_box rfl rfl rfl rfl); apply run_step rfl; (exact stp_assign rfl rfl); apply run_step rfl; (exact stp_assign rfl rfl); refine run_nil ?_; refine fin_seq ?_; refine goes_seq ?_; refine goes_region ?_; apply run_step rfl; (exact stp_loadAgg rfl rfl rfl rfl rfl rfl (by as_aux_lemma => kernel_rfl)); apply run_step rfl; (exact stp_move rfl rfl); apply run_step rfl; (first | (apply call_gate 144; exact stp_callN hT (by as_aux_lemma => kernel_rfl) rfl rfl ⟨⟨.inl rfl, .inl rfl, trivial⟩, rfl, trivial⟩ ⟨⟨_, rfl, .inl rfl⟩, ⟨_, rfl, .inl rfl⟩, trivial⟩ rfl rfl rfl) | exact stp_ix (j := 0) rfl rfl rfl rfl rfl (by as_aux_lemma => kernel_rfl) rfl hpos (Nat.le_of_eq hlen.symm)); apply run_step rfl; (exact stp_move rfl rfl); apply run_step rfl; (exact stp_extract rfl rfl rfl); apply run_step rfl; (exact stp_extract rfl rfl rfl); apply run_step rfl; (exact stp_assign rfl rfl); apply run_step rfl; (exact stp_assign rfl rfl); refine run_nil ?_; refine fin_seq ?_; refine goes_seq ?_; refine goes_seq ?_; refine goes_region ?_; apply run_step rfl; (exact stp_move rfl rfl); apply run_step rfl; (exact stp_not rfl rfl); apply run_step rfl; (exact stp_move rfl rfl); apply run_gYes rfl rfl rfl; (exact stp_move rfl rfl); apply run_gYes rfl rfl rfl; (first | (apply call_gate 144; exact stp_callN hT (by as_aux_lemma => kernel_rfl) rfl rfl ⟨⟨.inl rfl, .inl rfl, trivial⟩, rfl, trivial⟩ ⟨⟨_, rfl, .inl rfl⟩, ⟨_, rfl, .inl rfl⟩, trivial⟩ rfl rfl rfl) | exact stp_ix (j := 0) rfl rfl rfl rfl rfl (by as_aux_lemma => kernel_rfl) rfl hpos (Nat.le_of_eq hlen.symm)); apply run_gYes rfl rfl rfl; (exact stp_loadR rfl (by as_aux_lemma => kernel_rfl) rfl rfl rfl (by first | assumption | exact ivals_get (by assumption) | exact irows_get (by assumption) | exact ivals_get (by omega) | exact irows_get (by omega) | rfl) (by first | exact ivals_len _ | assumption | rfl)); apply run_gYes rfl rfl rfl; (exact stp_len rfl rfl rfl (by as_aux_lemma => kernel_rfl)); apply run_gYes rfl rfl rfl; (exact stp_bin rfl rfl rfl rfl); apply run_step rfl; (exact stp_pickF rfl rfl rfl); refine run_nil ?_; refine fin_seq ?_)
  refine goes_cond rfl (fun e => ?_) (fun _ => ?_)
  · exfalso; simp at e; omega
  · (refine goes_skip ?_; refine fin_seq ?_; refine goes_seq ?_; refine goes_region ?_; apply run_step rfl; (exact stp_move rfl rfl); apply run_step rfl; (exact stp_assign rfl rfl); apply run_step rfl; (exact stp_assign rfl rfl); refine run_nil ?_; refine fin_seq ?_; refine goes_ret ?_)
    exact fin_ret2 (.inl rfl) rfl (.tmp rfl) (.tmp rfl) ⟨rfl, trivial⟩ trivial
set_option maxRecDepth 100000 in
set_option maxHeartbeats 1000000 in
theorem specSmall_no {ng : Nat} {rels ws : List (List Int)} (hG : Good ng rels ws) (hs : ¬ smallOk ((ng : Int), rels) ws = true) :
    FC Try.prog 107 [(1002, rowsRo ws), (1003, rowsRo rels)] [pA ng rels.length, o1 (.sl 1002 0 ws.length)] [] (.tup [.one (.val (.slice none 0 0)), .one (.val (I6 3))]) [] := by
  unfold smallOk at hs; rw [cosX_nat] at hs
  refine fc_enter (nt := 24) Try.func107 rfl rfl (by simp) fun w0 ω0 => ?_
  cases hf : (runC ng rels ws).2.2 with
  | true =>
    have hT := specTable_no hG hf
    (refine goes_seq ?_; refine goes_region ?_; apply run_step rfl; (exact stp_box rfl rfl rfl rfl); apply run_step rfl; (exact stp_assign rfl rfl); apply run_step rfl; (exact stp_assign rfl rfl); refine run_nil ?_; refine fin_seq ?_; refine goes_seq ?_; refine goes_region ?_; apply run_step rfl; (exact stp_loadAgg rfl rfl rfl rfl rfl rfl (by as_aux_lemma => kernel_rfl)); apply run_step rfl; (exact stp_move rfl rfl); apply run_step rfl; (apply call_gate 144; exact stp_callR hT (by as_aux_lemma => kernel_rfl) rfl rfl ⟨⟨.inl rfl, .inl rfl, trivial⟩, rfl, trivial⟩ ⟨⟨_, rfl, .inl rfl⟩, ⟨_, rfl, .inl rfl⟩, trivial⟩ rfl rfl); apply run_step rfl; (exact stp_move rfl rfl); apply run_step rfl; (exact stp_extract rfl rfl rfl); apply run_step rfl; (exact stp_extract rfl rfl rfl); apply run_step rfl; (exact stp_assign rfl rfl); apply run_step rfl; (exact stp_assign rfl rfl); refine run_nil ?_; refine fin_seq ?_; refine goes_seq ?_; refine goes_seq ?_; refine goes_region ?_; apply run_step rfl; (exact stp_move rfl rfl); apply run_step rfl; (exact stp_not rfl rfl); apply run_step rfl; (exact stp_move rfl rfl); apply run_gNo rfl rfl rfl rfl rfl; apply run_gNo rfl rfl rfl rfl rfl; apply run_gNo rfl rfl rfl rfl rfl; apply run_gNo rfl rfl rfl rfl rfl; apply run_gNo rfl rfl rfl rfl rfl; apply run_step rfl; (exact stp_pickT rfl rfl rfl); refine run_nil ?_; refine fin_seq ?_)
    refine goes_cond rfl (fun _ => ?_) (fun e => by cases e)
    (refine goes_seq ?_; refine goes_region ?_; apply run_step rfl; (exact stp_assign rfl rfl); apply run_step rfl; (exact stp_assign rfl rfl); refine run_nil ?_; refine fin_seq ?_; refine goes_ret ?_; refine fin_ret_then ?_)
    exact fin_ret2 (.inl rfl) rfl (.tmp rfl) (.tmp rfl) trivial trivial
  | false =>
    have hn : 400 < cosN ((ng : Int), rels) ws := by rw [hf] at hs; simpa using hs
    have hT : FC Try.prog 144 [(1002, rowsRo ws), (1003, rowsRo rels)] [pA ng rels.length, o1 (.sl 1002 0 ws.length)] [(1005, imOw (cosTab ((ng : Int), rels) ws))] (.tup [.one (.sl 1005 0 ng), .one (.val (.bool true))]) [] := by
      rw [cosTab_nat]
      exact (specTable_yes hG hf).nm [(69, 1005), (1002, 1002), (1003, 1003)] (by kernel_rfl)
    have hlen : (irows (cosTab ((ng : Int), rels) ws)).length = ng := by rw [irows_len, cosTab_len]
    have hpos := hG.pos
    have hr0 : 400 < (lget (cosTab ((ng : Int), rels) ws) 0).length := by rw [cosTab_row hpos]; exact hn
    have hrow : (irows (cosTab ((ng : Int), rels) ws))[0]? = some (ivals (lget (cosTab ((ng : Int), rels) ws) 0)) := irows_get (by rw [← irows_len, hlen]; exact hpos)
    clear hs hn
    generalize cosTab ((ng : Int), rels) ws = T at *
    (refine goes_seq ?_; refine goes_region ?_; apply run_step rfl; (exact stp_box rfl rfl rfl rfl); apply run_step rfl; (exact stp_assign rfl rfl); apply run_step rfl; (exact stp_assign rfl rfl); refine run_nil ?_; refine fin_seq ?_; refine goes_seq ?_; refine goes_region ?_; apply run_step rfl; (exact stp_loadAgg rfl rfl rfl rfl rfl rfl (by as_aux_lemma => kernel_rfl)); apply run_step rfl; (exact stp_move rfl rfl); apply run_step rfl; (first | (apply call_gate 144; exact stp_callN hT (by as_aux_lemma => kernel_rfl) rfl rfl ⟨⟨.inl rfl, .inl rfl, trivial⟩, rfl, trivial⟩ ⟨⟨_, rfl, .inl rfl⟩, ⟨_, rfl, .inl rfl⟩, trivial⟩ rfl rfl rfl) | exact stp_ix (j := 0) rfl rfl rfl rfl rfl (by as_aux_lemma => kernel_rfl) rfl hpos (Nat.le_of_eq hlen.symm)); apply run_step rfl; (exact stp_move rfl rfl); apply run_step rfl; (exact stp_extract rfl rfl rfl); apply run_step rfl; (exact stp_extract rfl rfl rfl); apply run_step rfl; (exact stp_assign rfl rfl); apply run_step rfl; (exact stp_assign rfl rfl); refine run_nil ?_; refine fin_seq ?_; refine goes_seq ?_; refine goes_seq ?_; refine goes_region ?_; apply run_step rfl; (exact stp_move rfl rfl); apply run_step rfl; (exact stp_not rfl rfl); apply run_step rfl; (exact stp_move rfl rfl); apply run_gYes rfl rfl rfl; (exact stp_move rfl rfl); apply run_gYes rfl rfl rfl; (first | (apply call_gate 144; exact stp_callN hT (by as_aux_lemma => kernel_rfl) rfl rfl ⟨⟨.inl rfl, .inl rfl, trivial⟩, rfl, trivial⟩ ⟨⟨_, rfl, .inl rfl⟩, ⟨_, rfl, .inl rfl⟩, trivial⟩ rfl rfl rfl) | exact stp_ix (j := 0) rfl rfl rfl rfl rfl (by as_aux_lemma => kernel_rfl) rfl hpos (Nat.le_of_eq hlen.symm)); apply run_gYes rfl rfl rfl; (exact stp_loadR rfl (by as_aux_lemma => kernel_rfl) rfl rfl rfl (by first | assumption | exact ivals_get (by assumption) | exact irows_get (by assumption) | exact ivals_get (by omega) | exact irows_get (by omega) | rfl) (by first | exact ivals_len _ | assumption | rfl)); apply run_gYes rfl rfl rfl; (exact stp_len rfl rfl rfl (by as_aux_lemma => kernel_rfl)); apply run_gYes rfl rfl rfl; (exact stp_bin rfl rfl rfl rfl); apply run_step rfl; (exact stp_pickF rfl rfl rfl); refine run_nil ?_; refine fin_seq ?_)
    refine goes_cond rfl (fun _ => ?_) (fun e => ?_)
    · (refine goes_seq ?_; refine goes_region ?_; apply run_step rfl; (exact stp_assign rfl rfl); apply run_step rfl; (exact stp_assign rfl rfl); refine run_nil ?_; refine fin_seq ?_; refine goes_ret ?_; refine fin_ret_then ?_)
      exact fin_ret2 (.inl rfl) rfl (.tmp rfl) (.tmp rfl) trivial trivial
    · exfalso; simp at e; omega

set_option maxRecDepth 100000 in
set_option maxHeartbeats 1000000 in
theorem implSmall_yes {ng : Nat} {rels ws : List (List Int)} (hG : Good ng rels ws) (hs : smallOk ((ng : Int), rels) ws = true) :
    FC Try.prog 113 [(1002, rowsRo ws), (1003, rowsRo rels)] [pA ng rels.length, o1 (.sl 1002 0 ws.length)] [(1005, imOw (cosTab ((ng : Int), rels) ws))] (.tup [.one (.sl 1005 0 ng), .one (.val (I6 0))]) [] := by
  have hs2 : (runC ng rels ws).2.2 = false ∧ cosN ((ng : Int), rels) ws ≤ 400 := by unfold smallOk at hs; rw [cosX_nat] at hs; simpa using hs
  have hT : FC Try.prog 138 [(1002, rowsRo ws), (1003, rowsRo rels)] [pA ng rels.length, o1 (.sl 1002 0 ws.length)] [(1005, imOw (cosTab ((ng : Int), rels) ws))] (.tup [.one (.sl 1005 0 ng), .one (.val (.bool true))]) [] := by
    rw [cosTab_nat]
    exact (implTable_yes hG hs2.1).nm [(131, 1005), (1002, 1002), (1003, 1003)] (by kernel_rfl)
  have hlen : (irows (cosTab ((ng : Int), rels) ws)).length = ng := by rw [irows_len, cosTab_len]
  have hpos := hG.pos
  have hr0 : (lget (cosTab ((ng : Int), rels) ws) 0).length ≤ 400 := by rw [cosTab_row hpos]; exact hs2.2
  have hrow : (irows (cosTab ((ng : Int), rels) ws))[0]? = some (ivals (lget (cosTab ((ng : Int), rels) ws) 0)) := irows_get (by rw [← irows_len, hlen]; exact hpos)
  generalize cosTab ((ng : Int), rels) ws = T at *
  refine fc_enter (nt := 24) Try.func113 rfl rfl (by simp) fun w0 ω0 => ?_
  (refine goes_seq ?_; refine goes_region ?_; apply run_step rfl; (exact stp_box rfl rfl rfl rfl); apply run_step rfl; (exact stp_assign rfl rfl); apply run_step rfl; (exact stp_assign rfl rfl); refine run_nil ?_; refine fin_seq ?_; refine goes_seq ?_; refine goes_region ?_; apply run_step rfl; (exact stp_loadAgg rfl rfl rfl rfl rfl rfl (by as_aux_lemma => kernel_rfl)); apply run_step rfl; (exact stp_move rfl rfl); apply run_step rfl; (first | (apply call_gate 138; exact stp_callN hT (by as_aux_lemma => kernel_rfl) rfl rfl ⟨⟨.inl rfl, .inl rfl, trivial⟩, rfl, trivial⟩ ⟨⟨_, rfl, .inl rfl⟩, ⟨_, rfl, .inl rfl⟩, trivial⟩ rfl rfl rfl) | exact stp_ix (j := 0) rfl rfl rfl rfl rfl (by as_aux_lemma => kernel_rfl) rfl hpos (Nat.le_of_eq hlen.symm)); apply run_step rfl; (exact stp_move rfl rfl); apply run_step rfl; (exact stp_extract rfl rfl rfl); apply run_step rfl; (exact stp_extract rfl rfl rfl); apply run_step rfl; (exact stp_assign rfl rfl); apply run_step rfl; (exact stp_assign rfl rfl); refine run_nil ?_; refine fin_seq ?_; refine goes_seq ?_; refine goes_seq ?_; refine goes_region ?_; apply run_step rfl; (exact stp_move rfl rfl); apply run_step rfl; (exact stp_not rfl rfl); apply run_step rfl; (exact stp_move rfl rfl); apply run_gYes rfl rfl rfl; (exact stp_move rfl rfl); apply run_gYes rfl rfl rfl; (first | (apply call_gate 138; exact stp_callN hT (by as_aux_lemma => kernel_rfl) rfl rfl ⟨⟨.inl rfl, .inl rfl, trivial⟩, rfl, trivial⟩ ⟨⟨_, rfl, .inl rfl⟩, ⟨_, rfl, .inl rfl⟩, trivial⟩ rfl rfl rfl) | exact stp_ix (j := 0) rfl rfl rfl rfl rfl (by as_aux_lemma => kernel_rfl) rfl hpos (Nat.le_of_eq hlen.symm)); apply run_gYes rfl rfl rfl; (exact stp_loadR rfl (by as_aux_lemma => kernel_rfl) rfl rfl rfl (by first | assumption | exact ivals_get (by assumption) | exact irows_get (by assumption) | exact ivals_get (by omega) | exact irows_get (by omega) | rfl) (by first | exact ivals_len _ | assumption | rfl)); apply run_gYes rfl rfl rfl; (exact stp_len rfl rfl rfl (by as_aux_lemma => kernel_rfl)); apply run_gYes rfl rfl rfl; (exact stp_bin rfl rfl rfl rfl); apply run_step rfl; (exact stp_pickF rfl rfl rfl); refine run_nil ?_; refine fin_seq ?_)
  refine goes_cond rfl (fun e => ?_) (fun _ => ?_)
  · exfalso; simp at e; omega
  · (refine goes_skip ?_; refine fin_seq ?_; refine goes_seq ?_; refine goes_region ?_; apply run_step rfl; (exact stp_move rfl rfl); apply run_step rfl; (exact stp_assign rfl rfl); apply run_step rfl; (exact stp_assign rfl rfl); refine run_nil ?_; refine fin_seq ?_; refine goes_ret ?_)
    exact fin_ret2 (.inl rfl) rfl (.tmp rfl) (.tmp rfl) ⟨rfl, trivial⟩ trivial
set_option maxRecDepth 100000 in
set_option maxHeartbeats 1000000 in
theorem implSmall_no {ng : Nat} {rels ws : List (List Int)} (hG : Good ng rels ws) (hs : ¬ smallOk ((ng : Int), rels) ws = true) :
    FC Try.prog 113 [(1002, rowsRo ws), (1003, rowsRo rels)] [pA ng rels.length, o1 (.sl 1002 0 ws.length)] [] (.tup [.one (.val (.slice none 0 0)), .one (.val (I6 3))]) [] := by
  unfold smallOk at hs; rw [cosX_nat] at hs
  refine fc_enter (nt := 24) Try.func113 rfl rfl (by simp) fun w0 ω0 => ?_
  cases hf : (runC ng rels ws).2.2 with
  | true =>
    have hT := implTable_no hG hf
    (refine goes_seq ?_; refine goes_region ?_; apply run_step rfl; (exact stp_box rfl rfl rfl rfl); apply run_step rfl; (exact stp_assign rfl rfl); apply run_step rfl; (exact stp_assign rfl rfl); refine run_nil ?_; refine fin_seq ?_; refine goes_seq ?_; refine goes_region ?_; apply run_step rfl; (exact stp_loadAgg rfl rfl rfl rfl rfl rfl (by as_aux_lemma => kernel_rfl)); apply run_step rfl; (exact stp_move rfl rfl); apply run_step rfl; (apply call_gate 138; exact stp_callR hT (by as_aux_lemma => kernel_rfl) rfl rfl ⟨⟨.inl rfl, .inl rfl, trivial⟩, rfl, trivial⟩ ⟨⟨_, rfl, .inl rfl⟩, ⟨_, rfl, .inl rfl⟩, trivial⟩ rfl rfl); apply run_step rfl; (exact stp_move rfl rfl); apply run_step rfl; (exact stp_extract rfl rfl rfl); apply run_step rfl; (exact stp_extract rfl rfl rfl); apply run_step rfl; (exact stp_assign rfl rfl); apply run_step rfl; (exact stp_assign rfl rfl); refine run_nil ?_; refine fin_seq ?_; refine goes_seq ?_; refine goes_seq ?_; refine goes_region ?_; apply run_step rfl; (exact stp_move rfl rfl); apply run_step rfl; (exact stp_not rfl rfl); apply run_step rfl; (exact stp_move rfl rfl); apply run_gNo rfl rfl rfl rfl rfl; apply run_gNo rfl rfl rfl rfl rfl; apply run_gNo rfl rfl rfl rfl rfl; apply run_gNo rfl rfl rfl rfl rfl; apply run_gNo rfl rfl rfl rfl rfl; apply run_step rfl; (exact stp_pickT rfl rfl rfl); refine run_nil ?_; refine fin_seq ?_)
    refine goes_cond rfl (fun _ => ?_) (fun e => by cases e)
    (refine goes_seq ?_; refine goes_region ?_; apply run_step rfl; (exact stp_assign rfl rfl); apply run_step rfl; (exact stp_assign rfl rfl); refine run_nil ?_; refine fin_seq ?_; refine goes_ret ?_; refine fin_ret_then ?_)
    exact fin_ret2 (.inl rfl) rfl (.tmp rfl) (.tmp rfl) trivial trivial
  | false =>
    have hn : 400 < cosN ((ng : Int), rels) ws := by rw [hf] at hs; simpa using hs
    have hT : FC Try.prog 138 [(1002, rowsRo ws), (1003, rowsRo rels)] [pA ng rels.length, o1 (.sl 1002 0 ws.length)] [(1005, imOw (cosTab ((ng : Int), rels) ws))] (.tup [.one (.sl 1005 0 ng), .one (.val (.bool true))]) [] := by
      rw [cosTab_nat]
      exact (implTable_yes hG hf).nm [(131, 1005), (1002, 1002), (1003, 1003)] (by kernel_rfl)
    have hlen : (irows (cosTab ((ng : Int), rels) ws)).length = ng := by rw [irows_len, cosTab_len]
    have hpos := hG.pos
    have hr0 : 400 < (lget (cosTab ((ng : Int), rels) ws) 0).length := by rw [cosTab_row hpos]; exact hn
    have hrow : (irows (cosTab ((ng : Int), rels) ws))[0]? = some (ivals (lget (cosTab ((ng : Int), rels) ws) 0)) := irows_get (by rw [← irows_len, hlen]; exact hpos)
    clear hs hn
    generalize cosTab ((ng : Int), rels) ws = T at *
    (refine goes_seq ?_; refine goes_region ?_; apply run_step rfl; (exact stp_box rfl rfl rfl rfl); apply run_step rfl; (exact stp_assign rfl rfl); apply run_step rfl; (exact stp_assign rfl rfl); refine run_nil ?_; refine fin_seq ?_; refine goes_seq ?_; refine goes_region ?_; apply run_step rfl; (exact stp_loadAgg rfl rfl rfl rfl rfl rfl (by as_aux_lemma => kernel_rfl)); apply run_step rfl; (exact stp_move rfl rfl); apply run_step rfl; (first | (apply call_gate 138; exact stp_callN hT (by as_aux_lemma => kernel_rfl) rfl rfl ⟨⟨.inl rfl, .inl rfl, trivial⟩, rfl, trivial⟩ ⟨⟨_, rfl, .inl rfl⟩, ⟨_, rfl, .inl rfl⟩, trivial⟩ rfl rfl rfl) | exact stp_ix (j := 0) rfl rfl rfl rfl rfl (by as_aux_lemma => kernel_rfl) rfl hpos (Nat.le_of_eq hlen.symm)); apply run_step rfl; (exact stp_move rfl rfl); apply run_step rfl; (exact stp_extract rfl rfl rfl); apply run_step rfl; (exact stp_extract rfl rfl rfl); apply run_step rfl; (exact stp_assign rfl rfl); apply run_step rfl; (exact stp_assign rfl rfl); refine run_nil ?_; refine fin_seq ?_; refine goes_seq ?_; refine goes_seq ?_; refine goes_region ?_; apply run_step rfl; (exact stp_move rfl rfl); apply run_step rfl; (exact stp_not rfl rfl); apply run_step rfl; (exact stp_move rfl rfl); apply run_gYes rfl rfl rfl; (exact stp_move rfl rfl); apply run_gYes rfl rfl rfl; (first | (apply call_gate 138; exact stp_callN hT (by as_aux_lemma => kernel_rfl) rfl rfl ⟨⟨.inl rfl, .inl rfl, trivial⟩, rfl, trivial⟩ ⟨⟨_, rfl, .inl rfl⟩, ⟨_, rfl, .inl rfl⟩, trivial⟩ rfl rfl rfl) | exact stp_ix (j := 0) rfl rfl rfl rfl rfl (by as_aux_lemma => kernel_rfl) rfl hpos (Nat.le_of_eq hlen.symm)); apply run_gYes rfl rfl rfl; (exact stp_loadR rfl (by as_aux_lemma => kernel_rfl) rfl rfl rfl (by first | assumption | exact ivals_get (by assumption) | exact irows_get (by assumption) | exact ivals_get (by omega) | exact irows_get (by omega) | rfl) (by first | exact ivals_len _ | assumption | rfl)); apply run_gYes rfl rfl rfl; (exact stp_len rfl rfl rfl (by as_aux_lemma => kernel_rfl)); apply run_gYes rfl rfl rfl; (exact stp_bin rfl rfl rfl rfl); apply run_step rfl; (exact stp_pickF rfl rfl rfl); refine run_nil ?_; refine fin_seq ?_)
    refine goes_cond rfl (fun _ => ?_) (fun e => ?_)
    · (refine goes_seq ?_; refine goes_region ?_; apply run_step rfl; (exact stp_assign rfl rfl); apply run_step rfl; (exact stp_assign rfl rfl); refine run_nil ?_; refine fin_seq ?_; refine goes_ret ?_; refine fin_ret_then ?_)
      exact fin_ret2 (.inl rfl) rfl (.tmp rfl) (.tmp rfl) trivial trivial
    · exfalso; simp at e; omega

set_option maxRecDepth 100000 in
set_option maxHeartbeats 1000000 in
theorem specCT_no (g : Int) (rels ws : List (List Int)) (h1 : Fit rels) (h2 : Fit ws) (hn : ¬ (withOk (g, rels) ws = true ∧ smallOk (g, rels) ws = true)) :
    FC Try.prog 61 [(1002, rowsRo ws), (1003, rowsRo rels)] [pA g rels.length, o1 (.sl 1002 0 ws.length)] [] (.tup [.one (.val (.slice none 0 0)), .one (.val (I6 (ctC (g, rels) ws)))]) [] := by
  have hC := specCode_fc g rels ws h1 h2
  refine fc_enter (nt := 18) Try.func61 rfl rfl (by simp) fun w0 ω0 => ?_
  unfold ctC
  by_cases hok : withOk (g, rels) ws = true
  · obtain ⟨ng, rfl, hG⟩ := good_of hok
    have hs : ¬ smallOk ((ng : Int), rels) ws = true := fun h => hn ⟨hok, h⟩
    have hT := specSmall_no hG hs
    rw [withC_ok hok] at hC
    rw [if_pos hok, if_neg hs]
    (refine goes_seq ?_; refine goes_region ?_; apply run_step rfl; (exact stp_box rfl rfl rfl rfl); apply run_step rfl; (exact stp_assign rfl rfl); apply run_step rfl; (exact stp_assign rfl rfl); refine run_nil ?_; refine fin_seq ?_; refine goes_seq ?_; refine goes_seq ?_; refine goes_region ?_; apply run_step rfl; (exact stp_loadAgg rfl rfl rfl rfl rfl rfl (by as_aux_lemma => kernel_rfl)); apply run_step rfl; (exact stp_move rfl rfl); apply run_step rfl; (apply call_gate 141; exact stp_callR hC (by as_aux_lemma => kernel_rfl) rfl rfl ⟨⟨.inl rfl, .inl rfl, trivial⟩, rfl, trivial⟩ ⟨⟨_, rfl, .inl rfl⟩, ⟨_, rfl, .inl rfl⟩, trivial⟩ rfl rfl); apply run_step rfl; (exact stp_assign rfl rfl); refine run_nil ?_; refine fin_seq ?_; refine goes_seq ?_; refine goes_region ?_; apply run_step rfl; (exact stp_move rfl rfl); apply run_step rfl; (exact stp_bin rfl rfl rfl rfl); refine run_nil ?_; refine fin_seq ?_)
    refine goes_cond rfl (fun e => by cases e) (fun _ => ?_)
    (refine goes_skip ?_; refine fin_seq ?_; refine goes_seq ?_; refine goes_region ?_; apply run_step rfl; (exact stp_loadAgg rfl rfl rfl rfl rfl rfl (by as_aux_lemma => kernel_rfl)); apply run_step rfl; (exact stp_move rfl rfl); apply run_step rfl; (apply call_gate 107; exact stp_callR hT (by as_aux_lemma => kernel_rfl) rfl rfl ⟨⟨.inl rfl, .inl rfl, trivial⟩, rfl, trivial⟩ ⟨⟨_, rfl, .inl rfl⟩, ⟨_, rfl, .inl rfl⟩, trivial⟩ rfl rfl); apply run_step rfl; (exact stp_extract rfl rfl rfl); apply run_step rfl; (exact stp_extract rfl rfl rfl); apply run_step rfl; (exact stp_assign rfl rfl); apply run_step rfl; (exact stp_assign rfl rfl); refine run_nil ?_; refine fin_seq ?_; refine goes_ret ?_)
    exact fin_ret2 (.inl rfl) rfl (.tmp rfl) (.tmp rfl) trivial trivial
  · rw [withC_no hok] at hC
    rw [if_neg hok]
    (refine goes_seq ?_; refine goes_region ?_; apply run_step rfl; (exact stp_box rfl rfl rfl rfl); apply run_step rfl; (exact stp_assign rfl rfl); apply run_step rfl; (exact stp_assign rfl rfl); refine run_nil ?_; refine fin_seq ?_; refine goes_seq ?_; refine goes_seq ?_; refine goes_region ?_; apply run_step rfl; (exact stp_loadAgg rfl rfl rfl rfl rfl rfl (by as_aux_lemma => kernel_rfl)); apply run_step rfl; (exact stp_move rfl rfl); apply run_step rfl; (apply call_gate 141; exact stp_callR hC (by as_aux_lemma => kernel_rfl) rfl rfl ⟨⟨.inl rfl, .inl rfl, trivial⟩, rfl, trivial⟩ ⟨⟨_, rfl, .inl rfl⟩, ⟨_, rfl, .inl rfl⟩, trivial⟩ rfl rfl); apply run_step rfl; (exact stp_assign rfl rfl); refine run_nil ?_; refine fin_seq ?_; refine goes_seq ?_; refine goes_region ?_; apply run_step rfl; (exact stp_move rfl rfl); apply run_step rfl; (exact stp_bin rfl rfl rfl rfl); refine run_nil ?_; refine fin_seq ?_)
    refine goes_cond rfl (fun _ => ?_) (fun e => by cases e)
    (refine goes_seq ?_; refine goes_region ?_; apply run_step rfl; (exact stp_move rfl rfl); apply run_step rfl; (exact stp_assign rfl rfl); apply run_step rfl; (exact stp_assign rfl rfl); refine run_nil ?_; refine fin_seq ?_; refine goes_ret ?_; refine fin_ret_then ?_)
    exact fin_ret2 (.inl rfl) rfl (.tmp rfl) (.tmp rfl) trivial trivial
set_option maxRecDepth 100000 in
set_option maxHeartbeats 1000000 in
theorem specCT_yes (ng : Nat) (rels ws : List (List Int)) (h1 : Fit rels) (h2 : Fit ws) (hok : withOk ((ng : Int), rels) ws = true) (hG : Good ng rels ws) (hs : smallOk ((ng : Int), rels) ws = true) :
    FC Try.prog 61 [(1002, rowsRo ws), (1003, rowsRo rels)] [pA ng rels.length, o1 (.sl 1002 0 ws.length)] [(1005, imOw (cosTab ((ng : Int), rels) ws))] (.tup [.one (.sl 1005 0 ng), .one (.val (I6 0))]) [] := by
  have hC := specCode_fc ng rels ws h1 h2
  refine fc_enter (nt := 18) Try.func61 rfl rfl (by simp) fun w0 ω0 => ?_
  have hT := specSmall_yes hG hs
  rw [withC_ok hok] at hC
  (refine goes_seq ?_; refine goes_region ?_; apply run_step rfl; (exact stp_box rfl rfl rfl rfl); apply run_step rfl; (exact stp_assign rfl rfl); apply run_step rfl; (exact stp_assign rfl rfl); refine run_nil ?_; refine fin_seq ?_; refine goes_seq ?_; refine goes_seq ?_; refine goes_region ?_; apply run_step rfl; (exact stp_loadAgg rfl rfl rfl rfl rfl rfl (by as_aux_lemma => kernel_rfl)); apply run_step rfl; (exact stp_move rfl rfl); apply run_step rfl; (apply call_gate 141; exact stp_callR hC (by as_aux_lemma => kernel_rfl) rfl rfl ⟨⟨.inl rfl, .inl rfl, trivial⟩, rfl, trivial⟩ ⟨⟨_, rfl, .inl rfl⟩, ⟨_, rfl, .inl rfl⟩, trivial⟩ rfl rfl); apply run_step rfl; (exact stp_assign rfl rfl); refine run_nil ?_; refine fin_seq ?_; refine goes_seq ?_; refine goes_region ?_; apply run_step rfl; (exact stp_move rfl rfl); apply run_step rfl; (exact stp_bin rfl rfl rfl rfl); refine run_nil ?_; refine fin_seq ?_)
  refine goes_cond rfl (fun e => by cases e) (fun _ => ?_)
  (refine goes_skip ?_; refine fin_seq ?_; refine goes_seq ?_; refine goes_region ?_; apply run_step rfl; (exact stp_loadAgg rfl rfl rfl rfl rfl rfl (by as_aux_lemma => kernel_rfl)); apply run_step rfl; (exact stp_move rfl rfl); apply run_step rfl; (apply call_gate 107; exact stp_callN hT (by as_aux_lemma => kernel_rfl) rfl rfl ⟨⟨.inl rfl, .inl rfl, trivial⟩, rfl, trivial⟩ ⟨⟨_, rfl, .inl rfl⟩, ⟨_, rfl, .inl rfl⟩, trivial⟩ rfl rfl rfl); apply run_step rfl; (exact stp_extract rfl rfl rfl); apply run_step rfl; (exact stp_extract rfl rfl rfl); apply run_step rfl; (exact stp_assign rfl rfl); apply run_step rfl; (exact stp_assign rfl rfl); refine run_nil ?_; refine fin_seq ?_; refine goes_ret ?_)
  exact fin_ret2 (.inl rfl) rfl (.tmp rfl) (.tmp rfl) ⟨rfl, trivial⟩ trivial
set_option maxRecDepth 100000 in
set_option maxHeartbeats 1000000 in
theorem implCT_no (g : Int) (rels ws : List (List Int)) (h1 : Fit rels) (h2 : Fit ws) (hn : ¬ (withOk (g, rels) ws = true ∧ smallOk (g, rels) ws = true)) :
    FC Try.prog 60 [(1002, rowsRo ws), (1003, rowsRo rels)] [pA g rels.length, o1 (.sl 1002 0 ws.length)] [] (.tup [.one (.val (.slice none 0 0)), .one (.val (I6 (ctC (g, rels) ws)))]) [] := by
  have hC := implCode_fc g rels ws h1 h2
  refine fc_enter (nt := 18) Try.func60 rfl rfl (by simp) fun w0 ω0 => ?_
  unfold ctC
  by_cases hok : withOk (g, rels) ws = true
  · obtain ⟨ng, rfl, hG⟩ := good_of hok
    have hs : ¬ smallOk ((ng : Int), rels) ws = true := fun h => hn ⟨hok, h⟩
    have hT := implSmall_no hG hs
    rw [withC_ok hok] at hC
    rw [if_pos hok, if_neg hs]
    (refine goes_seq ?_; refine goes_region ?_; apply run_step rfl; (exact stp_box rfl rfl rfl rfl); apply run_step rfl; (exact stp_assign rfl rfl); apply run_step rfl; (exact stp_assign rfl rfl); refine run_nil ?_; refine fin_seq ?_; refine goes_seq ?_; refine goes_seq ?_; refine goes_region ?_; apply run_step rfl; (exact stp_loadAgg rfl rfl rfl rfl rfl rfl (by as_aux_lemma => kernel_rfl)); apply run_step rfl; (exact stp_move rfl rfl); apply run_step rfl; (apply call_gate 111; exact stp_callR hC (by as_aux_lemma => kernel_rfl) rfl rfl ⟨⟨.inl rfl, .inl rfl, trivial⟩, rfl, trivial⟩ ⟨⟨_, rfl, .inl rfl⟩, ⟨_, rfl, .inl rfl⟩, trivial⟩ rfl rfl); apply run_step rfl; (exact stp_assign rfl rfl); refine run_nil ?_; refine fin_seq ?_; refine goes_seq ?_; refine goes_region ?_; apply run_step rfl; (exact stp_move rfl rfl); apply run_step rfl; (exact stp_bin rfl rfl rfl rfl); refine run_nil ?_; refine fin_seq ?_)
    refine goes_cond rfl (fun e => by cases e) (fun _ => ?_)
    (refine goes_skip ?_; refine fin_seq ?_; refine goes_seq ?_; refine goes_region ?_; apply run_step rfl; (exact stp_loadAgg rfl rfl rfl rfl rfl rfl (by as_aux_lemma => kernel_rfl)); apply run_step rfl; (exact stp_move rfl rfl); apply run_step rfl; (apply call_gate 113; exact stp_callR hT (by as_aux_lemma => kernel_rfl) rfl rfl ⟨⟨.inl rfl, .inl rfl, trivial⟩, rfl, trivial⟩ ⟨⟨_, rfl, .inl rfl⟩, ⟨_, rfl, .inl rfl⟩, trivial⟩ rfl rfl); apply run_step rfl; (exact stp_extract rfl rfl rfl); apply run_step rfl; (exact stp_extract rfl rfl rfl); apply run_step rfl; (exact stp_assign rfl rfl); apply run_step rfl; (exact stp_assign rfl rfl); refine run_nil ?_; refine fin_seq ?_; refine goes_ret ?_)
    exact fin_ret2 (.inl rfl) rfl (.tmp rfl) (.tmp rfl) trivial trivial
  · rw [withC_no hok] at hC
    rw [if_neg hok]
    (refine goes_seq ?_; refine goes_region ?_; apply run_step rfl; (exact stp_box rfl rfl rfl rfl); apply run_step rfl; (exact stp_assign rfl rfl); apply run_step rfl; (exact stp_assign rfl rfl); refine run_nil ?_; refine fin_seq ?_; refine goes_seq ?_; refine goes_seq ?_; refine goes_region ?_; apply run_step rfl; (exact stp_loadAgg rfl rfl rfl rfl rfl rfl (by as_aux_lemma => kernel_rfl)); apply run_step rfl; (exact stp_move rfl rfl); apply run_step rfl; (apply call_gate 111; exact stp_callR hC (by as_aux_lemma => kernel_rfl) rfl rfl ⟨⟨.inl rfl, .inl rfl, trivial⟩, rfl, trivial⟩ ⟨⟨_, rfl, .inl rfl⟩, ⟨_, rfl, .inl rfl⟩, trivial⟩ rfl rfl); apply run_step rfl; (exact stp_assign rfl rfl); refine run_nil ?_; refine fin_seq ?_; refine goes_seq ?_; refine goes_region ?_; apply run_step rfl; (exact stp_move rfl rfl); apply run_step rfl; (exact stp_bin rfl rfl rfl rfl); refine run_nil ?_; refine fin_seq ?_)
    refine goes_cond rfl (fun _ => ?_) (fun e => by cases e)
    (refine goes_seq ?_; refine goes_region ?_; apply run_step rfl; (exact stp_move rfl rfl); apply run_step rfl; (exact stp_assign rfl rfl); apply run_step rfl; (exact stp_assign rfl rfl); refine run_nil ?_; refine fin_seq ?_; refine goes_ret ?_; refine fin_ret_then ?_)
    exact fin_ret2 (.inl rfl) rfl (.tmp rfl) (.tmp rfl) trivial trivial
set_option maxRecDepth 100000 in
set_option maxHeartbeats 1000000 in
theorem implCT_yes (ng : Nat) (rels ws : List (List Int)) (h1 : Fit rels) (h2 : Fit ws) (hok : withOk ((ng : Int), rels) ws = true) (hG : Good ng rels ws) (hs : smallOk ((ng : Int), rels) ws = true) :
    FC Try.prog 60 [(1002, rowsRo ws), (1003, rowsRo rels)] [pA ng rels.length, o1 (.sl 1002 0 ws.length)] [(1005, imOw (cosTab ((ng : Int), rels) ws))] (.tup [.one (.sl 1005 0 ng), .one (.val (I6 0))]) [] := by
  have hC := implCode_fc ng rels ws h1 h2
  refine fc_enter (nt := 18) Try.func60 rfl rfl (by simp) fun w0 ω0 => ?_
  have hT := implSmall_yes hG hs
  rw [withC_ok hok] at hC
  (refine goes_seq ?_; refine goes_region ?_; apply run_step rfl; (exact stp_box rfl rfl rfl rfl); apply run_step rfl; (exact stp_assign rfl rfl); apply run_step rfl; (exact stp_assign rfl rfl); refine run_nil ?_; refine fin_seq ?_; refine goes_seq ?_; refine goes_seq ?_; refine goes_region ?_; apply run_step rfl; (exact stp_loadAgg rfl rfl rfl rfl rfl rfl (by as_aux_lemma => kernel_rfl)); apply run_step rfl; (exact stp_move rfl rfl); apply run_step rfl; (apply call_gate 111; exact stp_callR hC (by as_aux_lemma => kernel_rfl) rfl rfl ⟨⟨.inl rfl, .inl rfl, trivial⟩, rfl, trivial⟩ ⟨⟨_, rfl, .inl rfl⟩, ⟨_, rfl, .inl rfl⟩, trivial⟩ rfl rfl); apply run_step rfl; (exact stp_assign rfl rfl); refine run_nil ?_; refine fin_seq ?_; refine goes_seq ?_; refine goes_region ?_; apply run_step rfl; (exact stp_move rfl rfl); apply run_step rfl; (exact stp_bin rfl rfl rfl rfl); refine run_nil ?_; refine fin_seq ?_)
  refine goes_cond rfl (fun e => by cases e) (fun _ => ?_)
  (refine goes_skip ?_; refine fin_seq ?_; refine goes_seq ?_; refine goes_region ?_; apply run_step rfl; (exact stp_loadAgg rfl rfl rfl rfl rfl rfl (by as_aux_lemma => kernel_rfl)); apply run_step rfl; (exact stp_move rfl rfl); apply run_step rfl; (apply call_gate 113; exact stp_callN hT (by as_aux_lemma => kernel_rfl) rfl rfl ⟨⟨.inl rfl, .inl rfl, trivial⟩, rfl, trivial⟩ ⟨⟨_, rfl, .inl rfl⟩, ⟨_, rfl, .inl rfl⟩, trivial⟩ rfl rfl rfl); apply run_step rfl; (exact stp_extract rfl rfl rfl); apply run_step rfl; (exact stp_extract rfl rfl rfl); apply run_step rfl; (exact stp_assign rfl rfl); apply run_step rfl; (exact stp_assign rfl rfl); refine run_nil ?_; refine fin_seq ?_; refine goes_ret ?_)
  exact fin_ret2 (.inl rfl) rfl (.tmp rfl) (.tmp rfl) ⟨rfl, trivial⟩ trivial
/-- in words -/
theorem api_implCT {E1 E E1' E' : Nat} {lo hi lo' hi' : Nat} {v v' : Value} {d : PresD} {ws : List (List Int)} (w : World) (h : OwP E1 E w lo hi v d) (h' : OwSS E1' E' w lo' hi' v' ws) :
    Calls Try.prog 60 #[v, v'] w fun e w' => ∃ r, e = .returned (.tuple #[r, .int .i64 (ctC d ws)]) ∧ OwSS 2 49 w' w.heap.size w'.heap.size r (ctR d ws) ∧ Below w.heap.size w w' := by
  obtain ⟨g, rels⟩ := d
  by_cases hok : withOk (g, rels) ws = true ∧ smallOk (g, rels) ws = true
  · obtain ⟨hok, hs⟩ := hok
    obtain ⟨ng, rfl, hG⟩ := good_of hok
    have hr : ctR ((ng : Int), rels) ws = cosTab ((ng : Int), rels) ws := by unfold ctR; rw [if_pos hok, if_pos hs]
    have hc : ctC ((ng : Int), rels) ws = 0 := by unfold ctC; rw [if_pos hok, if_pos hs]
    have hsm := ctR_small ((ng : Int), rels) ws
    rw [hr] at hsm ⊢
    rw [hc]
    have hl := cosTab_len ng rels ws
    refine (callPW (d := ((ng : Int), rels)) (fun k1 k2 => implCT_yes ng rels ws k1 k2 hok hG hs) h h').mono ?_
    rintro e w' ⟨v, η, ω, rfl, hd, hm, hb, hn⟩
    obtain ⟨u, u', rfl, h1, h2⟩ := den_tup2 hd
    have h2 : u' = I6 0 := h2
    subst h2
    refine ⟨u, rfl, toSS (x := 1005) hm hn rfl (by rw [hl]; exact h1) (by omega) (fun zs hz => ?_), hb⟩
    obtain ⟨j, hj, rfl⟩ := List.getElem_of_mem hz
    have := len_le_lenSS hj
    rw [lget_lt hj] at this
    omega
  · have hr : ctR (g, rels) ws = [] := by
      unfold ctR; split
      · split
        · exact absurd ⟨by assumption, by assumption⟩ hok
        · rfl
      · rfl
    rw [hr]
    refine (two_vals (callPW (d := (g, rels)) (fun k1 k2 => implCT_no g rels ws k1 k2 hok) h h')).mono ?_
    rintro e w' ⟨rfl, hb⟩
    exact ⟨_, rfl, owSS_nil, hb⟩
end Go.Proofs.Ytpognnifgcacnaa

/- Words in a table: l11Elements, elementTable, l11Lead, applied; IsIdentityWord. guards: -/
namespace Go.Proofs.Ytpognnifgcacnaa
open Go.RowKit

theorem cosTab_leads {ng : Nat} {rels ws : List (List Int)} (h : Good ng rels ws) (hf : (runC ng rels ws).2.2 = false) : Leads (cosTab ((ng : Int), rels) ws) (cosN ((ng : Int), rels) ws) := by
  refine ⟨fun k hk => cosTab_row (by rw [cosTab_len] at hk; exact hk), fun k hk x hx => ?_⟩
  rw [cosTab_len] at hk
  have hF := full_run h.rl h.wl hf
  rw [cosTab_nat]
  rw [cosN_nat] at hx ⊢
  have := tableC_entry hF hx hk
  have he : iget (lget (tableC ng (runC ng rels ws).1 (runC ng rels ws).2.1) k) x = tabC (runC ng rels ws).1 (runC ng rels ws).2.1 (numbered ng (runC ng rels ws).1 (runC ng rels ws).2.1) k x := by
    simp [tableC, lget, iget, hk, hx, tabC]
  rw [he]
  exact this
theorem smallOk_run {ng : Nat} {rels ws : List (List Int)} (hs : smallOk ((ng : Int), rels) ws = true) : (runC ng rels ws).2.2 = false ∧ cosN ((ng : Int), rels) ws ≤ 400 := by
  unfold smallOk at hs; rw [cosX_nat] at hs; simpa using hs
theorem tabLoop_grow {ng : Nat} {im : List (List Int)} {less : List Int} (hF : Full ng im less) : ∀ (f i : Nat) (s : NSt), TOK less.length less s → NGrow s (tabLoop ng im less f i s)
  | 0, _, s, _ => NGrow.refl s
  | f + 1, i, s, h => by
    unfold tabLoop
    split
    · rename_i hlt
      obtain ⟨h1, h2, _⟩ := tabRow_ok hF h hlt ng (Nat.le_refl _)
      exact NGrow.trans h2 (tabLoop_grow hF f (i + 1) _ h1)
    · exact NGrow.refl s
theorem numbered_grow {ng : Nat} {im : List (List Int)} {less : List Int} (hF : Full ng im less) : NGrow (tabStart less.length) (numbered ng im less) := tabLoop_grow hF _ _ _ (tabStart_ok hF)
theorem cosN_pos {ng : Nat} {rels ws : List (List Int)} (h : Good ng rels ws) (hf : (runC ng rels ws).2.2 = false) : 0 < cosN ((ng : Int), rels) ws := by
  rw [cosN_nat]
  have hF := full_run h.rl h.wl hf
  obtain ⟨hk, _⟩ := numbered_ok hF
  have hF0 := hF.pos
  rcases Nat.eq_zero_or_pos (numbered ng (runC ng rels ws).1 (runC ng rels ws).2.1).1.length with h0 | h0
  · exfalso
    have g1 : NGrow (tabStart (runC ng rels ws).2.1.length) (numbered ng (runC ng rels ws).1 (runC ng rels ws).2.1) := numbered_grow hF
    have := g1.len
    simp [tabStart] at this
    omega
  · exact h0

section
variable {η : Env} {ω : Own?} {w : World} {ins : List (Nm × Ch)}
theorem rdE {x i : Nat} {own : Bool} {E F : Nat} {zss : List (List Int)} {v : Value} (hm : Mem η ω w (fun x => lk x ins)) (hx : lk x ins = some ⟨own, E, 1, .rows F (irows zss) []⟩) (hi : i < zss.length) (hv : Den1 η (.esl x i 0 (lget zss i).length) v) (hn : (lget zss i).length ≤ 17592186044416) : ∃ ao c, v = .slice ao (lget zss i).length c ∧ Ints w ao (lget zss i).length (lget zss i) := by
  obtain ⟨h, h1, h2, h3⟩ := hm.1 x _ hx
  obtain ⟨ao, rfl, h4, _⟩ := hv.2 h h1
  have h3 : Vec own ω w (x, none) h E (irows zss).length (cellsOK η ω w own x (.rows F (irows zss) [])) := h3
  obtain ⟨b', o', u', g1, g2, g3, g4⟩ := h3.get (j := i) (by rw [irows_len]; exact hi)
  obtain ⟨k1, k2, k3⟩ := g4 (by simp) (ivals (lget zss i)) (irows_get hi)
  rw [h4 rfl]
  refine ⟨_, _, rfl, rfl, hn, fun h0 => ?_⟩
  obtain ⟨b2, o2, u2, m1, _, _⟩ := k3.get (j := 0) (by rw [ivals_len]; exact h0)
  refine ⟨b2, o2, m1, fun j hj => ?_⟩
  obtain ⟨b3, o3, u3, n1, n2, n3⟩ := k3.get (j := j) (by rw [ivals_len]; exact hj)
  rw [m1] at n1; injection n1 with n1; injection n1 with n1 n1'; subst n1 n1'
  rw [ivals_get hj] at n3
  rw [n2, ← n3]
end
/-! in words -/
end Go.Proofs.Ytpognnifgcacnaa

/- IsNormalSubgroup. -/
namespace Go.Proofs.Ytpognnifgcacnaa
open Go.RowKit

theorem ctC_ok {d : PresD} {ws : List (List Int)} (h : withOk d ws = true ∧ smallOk d ws = true) : ctC d ws = 0 := by unfold ctC; rw [if_pos h.1, if_pos h.2]
theorem ctC_no {d : PresD} {ws : List (List Int)} (h : ¬ (withOk d ws = true ∧ smallOk d ws = true)) : ctC d ws ≠ 0 := by
  unfold ctC
  split
  · split
    · exact fun _ => h ⟨by assumption, by assumption⟩
    · decide
  · decide

end Go.Proofs.Ytpognnifgcacnaa

/- Shortest words to all cosets, on lists. No program in sight. -/
namespace Go.Proofs.Ytpognnifgcacnaa

/-- the words, which cosets are met, the queue -/
abbrev BSt := List (List Int) × List Bool × List Int
def bVisit (s : BSt) (c g d : Nat) : BSt := if bat s.2.1 d = true then s else (s.1.set d (lget s.1 c ++ [(g : Int)]), s.2.1.set d true, s.2.2 ++ [(d : Int)])
def bStep (T : List (List Int)) (c : Nat) (s : BSt) (g : Nat) : BSt := bVisit s c g (bTo T c g)
def bRow (T : List (List Int)) (ng c : Nat) (s : BSt) : BSt := (List.range ng).foldl (bStep T c) s
def bLoop (T : List (List Int)) (ng : Nat) : Nat → Nat → BSt → BSt
  | 0, _, s => s
  | f + 1, i, s => if i < s.2.2.length then bLoop T ng f (i + 1) (bRow T ng (iget s.2.2 i).toNat s) else s
def bStart (n : Nat) : BSt := (List.replicate n [], (List.replicate n false).set 0 true, [0])
def bfs (T : List (List Int)) (ng n : Nat) : BSt := bLoop T ng (n + 1) 0 (bStart n)

structure BOK (n : Nat) (s : BSt) : Prop where
  l1 : s.1.length = n
  l2 : s.2.1.length = n
  q : ∀ k, k < s.2.2.length → ∃ d : Nat, iget s.2.2 k = (d : Int) ∧ d < n ∧ bat s.2.1 d = true
  cnt : bcnt s.2.1 = s.2.2.length
  cov : ∀ d, d < n → bat s.2.1 d = true → ∃ k, k < s.2.2.length ∧ iget s.2.2 k = (d : Int)
  emp : ∀ d, d < n → bat s.2.1 d = false → lget s.1 d = []
  len : ∀ d, (lget s.1 d).length < s.2.2.length
theorem BOK.le {n : Nat} {s : BSt} (h : BOK n s) : s.2.2.length ≤ n := by
  have := bcnt_le s.2.1; rw [h.cnt, h.l2] at this; exact this
structure BGrow (n : Nat) (s s' : BSt) : Prop where
  len : s.2.2.length ≤ s'.2.2.length
  pre : ∀ k, k < s.2.2.length → iget s'.2.2 k = iget s.2.2 k
  met : ∀ d, d < n → bat s.2.1 d = true → bat s'.2.1 d = true ∧ lget s'.1 d = lget s.1 d
theorem BGrow.refl (n : Nat) (s : BSt) : BGrow n s s := ⟨Nat.le_refl _, fun _ _ => rfl, fun _ _ h => ⟨h, rfl⟩⟩
theorem BGrow.trans {n : Nat} {a b c : BSt} (h : BGrow n a b) (k : BGrow n b c) : BGrow n a c :=
  ⟨Nat.le_trans h.len k.len, fun i hi => (k.pre i (Nat.lt_of_lt_of_le hi h.len)).trans (h.pre i hi), fun d hd hm =>
    have h1 := h.met d hd hm
    have h2 := k.met d hd h1.1
    ⟨h2.1, h2.2.trans h1.2⟩⟩
theorem bVisit_ok {n c g d : Nat} {s : BSt} (h : BOK n s) (hd : d < n) : BOK n (bVisit s c g d) := by
  unfold bVisit
  split
  · exact h
  · rename_i hm
    have hm : bat s.2.1 d = false := by simpa using hm
    refine ⟨by rw [List.length_set]; exact h.l1, by rw [List.length_set]; exact h.l2, fun k hk => ?_, ?_, fun e he hb => ?_, fun e he hb => ?_, fun e => ?_⟩
    · dsimp only at hk ⊢
      by_cases e : k < s.2.2.length
      · obtain ⟨d', h1, h2, h3⟩ := h.q k e
        refine ⟨d', by rw [iget_app_lt e]; exact h1, h2, ?_⟩
        rw [bat_set]; split
        · rfl
        · exact h3
      · obtain rfl : k = s.2.2.length := by simp at hk; omega
        exact ⟨d, iget_app_eq, hd, by rw [bat_set, if_pos ⟨rfl, by rw [h.l2]; exact hd⟩]⟩
    · dsimp only; rw [bcnt_set _ _ (by rw [h.l2]; exact hd) hm, h.cnt]; simp
    · dsimp only at hb ⊢
      by_cases e2 : d = e
      · subst e2; exact ⟨s.2.2.length, by simp, iget_app_eq⟩
      · rw [bat_set, if_neg (fun h => e2 h.1)] at hb
        obtain ⟨k, h1, h2⟩ := h.cov e he hb
        exact ⟨k, by rw [List.length_append]; omega, by rw [iget_app_lt h1]; exact h2⟩
    · dsimp only at hb ⊢
      rw [bat_set] at hb
      split at hb
      · cases hb
      · rename_i hne
        rw [lget_set, if_neg (fun h' => hne ⟨h'.1, by rw [h.l2]; exact hd⟩)]
        exact h.emp e he hb
    · dsimp only
      rw [lget_set, List.length_append]
      have h1 := h.len c
      have h2 := h.len e
      split
      · simp; omega
      · simp; omega
theorem bVisit_grow {n c g d : Nat} {s : BSt} (h : BOK n s) : BGrow n s (bVisit s c g d) := by
  unfold bVisit
  split
  · exact BGrow.refl n s
  · rename_i hm
    refine ⟨by simp, fun k hk => iget_app_lt hk, fun e he hb => ?_⟩
    have hne : d ≠ e := fun e' => by subst e'; exact hm hb
    dsimp only
    rw [bat_set, if_neg (fun h => hne h.1), lget_set, if_neg (fun h => hne h.1)]
    exact ⟨hb, rfl⟩
section
variable {T : List (List Int)} {ng n : Nat}
theorem bRow_ok (hT : Leads T n) (hng : T.length = ng) {c : Nat} (hc : c < n) {s : BSt} (h : BOK n s) : ∀ m, m ≤ ng → BOK n ((List.range m).foldl (bStep T c) s) ∧ BGrow n s ((List.range m).foldl (bStep T c) s)
  | 0, _ => ⟨h, BGrow.refl n s⟩
  | m + 1, hm => by
    obtain ⟨h1, h2⟩ := bRow_ok hT hng hc h m (by omega)
    rw [List.range_succ, List.foldl_append]
    exact ⟨bVisit_ok h1 (bTo_lt hT hc (by omega)).1, h2.trans (bVisit_grow h1)⟩
theorem bLoop_ok (hT : Leads T n) (hng : T.length = ng) : ∀ (f i : Nat) (s : BSt), BOK n s → BOK n (bLoop T ng f i s) ∧ BGrow n s (bLoop T ng f i s)
  | 0, _, s, h => ⟨h, BGrow.refl n s⟩
  | f + 1, i, s, h => by
    unfold bLoop
    split
    · rename_i hi
      obtain ⟨d, h1, h2, _⟩ := h.q i hi
      obtain ⟨k1, k2⟩ := bRow_ok hT hng (c := (iget s.2.2 i).toNat) (by omega) h ng (Nat.le_refl _)
      obtain ⟨m1, m2⟩ := bLoop_ok hT hng f (i + 1) _ k1
      exact ⟨m1, k2.trans m2⟩
    · exact ⟨h, BGrow.refl n s⟩
theorem bLoop_step {f i : Nat} {s : BSt} (h : i < s.2.2.length) : bLoop T ng (f + 1) i s = bLoop T ng f (i + 1) (bRow T ng (iget s.2.2 i).toNat s) := by rw [bLoop, if_pos h]
theorem bStart_ok (hn : 0 < n) : BOK n (bStart n) := by
  refine ⟨by simp [bStart], by simp [bStart], fun k hk => ?_, ?_, fun d hd hb => ?_, fun d hd _ => ?_, fun d => ?_⟩
  · obtain rfl : k = 0 := by simp [bStart] at hk; omega
    exact ⟨0, rfl, hn, by show bat ((List.replicate n false).set 0 true) 0 = true; rw [bat_set, if_pos ⟨rfl, by simpa using hn⟩]⟩
  · show bcnt ((List.replicate n false).set 0 true) = 1
    rw [bcnt_set _ _ (by simpa using hn) (by unfold bat; cases n <;> rfl)]
    simp [bcnt]
  · have hb : bat ((List.replicate n false).set 0 true) d = true := hb
    rw [bat_set] at hb
    split at hb
    · rename_i e; exact ⟨0, by simp [bStart], by rw [← e.1]; rfl⟩
    · simp [bat, hd] at hb
  · show lget (List.replicate n []) d = []
    simp [lget, hd]
  · show (lget (List.replicate n ([] : List Int)) d).length < 1
    by_cases h : d < n
    · simp [lget, h]
    · simp [lget, h]
end
/-- whether a word is too long -/
def tooLong (W : List (List Int)) : Bool := W.any fun w => decide (64 < w.length)
theorem tooLong_at {n : Nat} {s : BSt} (h : BOK n s) (hl : tooLong s.1 = true) : ∃ i, i < s.2.2.length ∧ 64 < (lget s.1 (iget s.2.2 i).toNat).length := by
  unfold tooLong at hl
  rw [List.any_eq_true] at hl
  obtain ⟨w, hw, hlen⟩ := hl
  have hlen : 64 < w.length := of_decide_eq_true hlen
  obtain ⟨d, hd, rfl⟩ := List.getElem_of_mem hw
  have hdn : d < n := by rw [← h.l1]; exact hd
  have hw2 : lget s.1 d = s.1[d] := lget_lt hd
  cases hb : bat s.2.1 d with
  | false =>
    have := h.emp d hdn hb
    rw [hw2] at this; rw [this] at hlen; simp at hlen
  | true =>
    obtain ⟨k, k1, k2⟩ := h.cov d hdn hb
    exact ⟨k, k1, by rw [k2, Int.toNat_natCast, hw2]; exact hlen⟩
theorem tooLong_of {W : List (List Int)} {d : Nat} (h : 64 < (lget W d).length) : tooLong W = true := by
  unfold tooLong
  rw [List.any_eq_true]
  have hd : d < W.length := by
    rcases Nat.lt_or_ge d W.length with h1 | h1
    · exact h1
    · simp [lget, h1] at h
  exact ⟨lget W d, lget_mem hd, by simpa using h⟩
end Go.Proofs.Ytpognnifgcacnaa
