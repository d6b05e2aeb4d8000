/- The program's coset enumeration: enumerated. guards: -/
import Derived.Test.YtpognnifgcacnaaPart5
import Derived.Test.YtpognnifgcacnaaProg
import Derived.Test.YtpognnifgcacnaaPart1
import Derived.Test.YtpognnifgcacnaaPart3
import Derived.Test.YtpognnifgcacnaaPart4
import Derived.Lib.AppendZeros
import Derived.Deep.AppendLies
import Derived.RegionTactic
namespace Go.Proofs.Ytpognnifgcacnaa
open Go.RowKit

abbrev cE (m n : Nat) (b : Bool) : Ch := ⟨true, 179, 3, .flat [.sl 25 0 m, .sl 26 0 n, .val (.bool b)]⟩
abbrev pE (ng R : Nat) : Ch := ⟨true, 72, 2, .flat [.val (I6 ng), .sl 1003 0 R]⟩

theorem wf_small {z : Int} (h0 : 0 ≤ z) (h : z ≤ 1000000000) : (Lit.int .i64 z).wf = true := by
  simp [Lit.wf, IntKind.min, IntKind.max, IntKind.signed, IntKind.bits]; omega

set_option maxRecDepth 100000 in
set_option maxHeartbeats 4000000 in
theorem enumerated_fc (ng : Nat) (rels words : List (List Int)) (R m : Nat) (hR : rels.length = R) (hm : words.length = m) (hr : ∀ w ∈ rels, Letters ng w) (hw : ∀ w ∈ words, Letters ng w) (hng0 : 0 < ng) (hng : ng ≤ 1000) (hrl : ∀ w ∈ rels, w.length ≤ 1000000000) (hwl : ∀ w ∈ words, w.length ≤ 1000000000) (hR2 : R ≤ 1000000000) (hm2 : m ≤ 1000000000) (X : CSt) (hX : runI ng rels words = X) :
    FC Try.prog 138 [(1002, rowsRo words), (1003, rowsRo rels)] [.s (.agg [.val (I6 ng), .sl 1003 0 R]), o1 (.sl 1002 0 m)] (if X.2.2 = true then [] else [(131, imOw (tableC ng X.1 X.2.1))])
      (if X.2.2 = true then .tup [.one (.val (.slice none 0 0)), .one (.val (.bool false))] else .tup [.one (.sl 131 0 ng), .one (.val (.bool true))]) [] := by
  have hRp : FC Try.prog 180 [(21, ⟨false, 2, 1, .vals (ivals [-1])⟩)] [o1 (.sl 21 0 1), vv (I6 ng)] [(24, ⟨true, 2, 1, .vals (ivals (List.replicate ng (-1)))⟩)] (o1 (.sl 24 0 ng)) [] := repeat1_fc 21 24 ng (-1) (by omega) hng0
  have hrep : (ivals (List.replicate ng (-1))).length = ng := by rw [ivals_len]; simp
  refine fc_enter (nt := 179) Try.func138 rfl rfl (by simp) fun w0 ω0 => ?_
  (refine goes_seq ?_; refine goes_region ?_; apply run_step rfl; (exact stp_box rfl rfl rfl rfl); apply run_step rfl; (exact stp_assign rfl rfl); apply run_step rfl; (exact stp_assign rfl rfl); refine run_nil ?_; refine fin_seq ?_; refine goes_seq ?_; refine goes_region ?_; apply run_step rfl; (exact stp_lit1I (E := 2) rfl (by as_aux_lemma => kernel_rfl) rfl); apply run_step rfl; (exact stp_fieldAddr (d := 0) rfl rfl rfl (by as_aux_lemma => kernel_rfl)); apply run_step rfl; (exact stp_loadF rfl (by as_aux_lemma => kernel_rfl) rfl rfl rfl rfl); apply run_step rfl; (first | (apply call_gate 180; exact stp_callN hRp (by as_aux_lemma => kernel_rfl) rfl rfl ⟨rfl, rfl, trivial⟩ ⟨⟨_, rfl, .inr rfl⟩, trivial⟩ rfl rfl rfl) | exact stp_lit1R (t := 25) (E := 49) (F := 2) rfl (by as_aux_lemma => kernel_rfl) rfl rfl hrep rfl | exact stp_buildSl (T := 179) (vs := [.bool false]) rfl rfl rfl rfl rfl (by as_aux_lemma => (intros; kernel_rfl))); apply run_step rfl; (first | (apply call_gate 180; exact stp_callN hRp (by as_aux_lemma => kernel_rfl) rfl rfl ⟨rfl, rfl, trivial⟩ ⟨⟨_, rfl, .inr rfl⟩, trivial⟩ rfl rfl rfl) | exact stp_lit1R (t := 25) (E := 49) (F := 2) rfl (by as_aux_lemma => kernel_rfl) rfl rfl hrep rfl | exact stp_buildSl (T := 179) (vs := [.bool false]) rfl rfl rfl rfl rfl (by as_aux_lemma => (intros; kernel_rfl))); apply run_step rfl; (exact stp_lit1I (E := 2) rfl (by as_aux_lemma => kernel_rfl) rfl); apply run_step rfl; (first | (apply call_gate 180; exact stp_callN hRp (by as_aux_lemma => kernel_rfl) rfl rfl ⟨rfl, rfl, trivial⟩ ⟨⟨_, rfl, .inr rfl⟩, trivial⟩ rfl rfl rfl) | exact stp_lit1R (t := 25) (E := 49) (F := 2) rfl (by as_aux_lemma => kernel_rfl) rfl rfl hrep rfl | exact stp_buildSl (T := 179) (vs := [.bool false]) rfl rfl rfl rfl rfl (by as_aux_lemma => (intros; kernel_rfl))); apply run_step rfl; (exact stp_box rfl rfl rfl rfl); apply run_step rfl; (exact stp_assign rfl rfl); refine run_nil ?_; refine fin_seq ?_; refine goes_seq ?_; refine goes_seq ?_; refine goes_region ?_; apply run_step rfl; (exact stp_move rfl rfl); apply run_step rfl; (exact stp_len rfl rfl rfl (by as_aux_lemma => kernel_rfl)); apply run_step rfl; (exact stp_move rfl rfl); refine run_nil ?_; refine fin_seq ?_; refine goes_block ?_)
  refine goes_loop (fun j : Nat × CSt => St.of [(2, o1 (.ptr 2 0)), (6, o1 (.ptr 28 0)), (29, o1 (.sl 1002 0 m)), (30, vv (I6 m)), (31, vv (I6 j.1))] [(28, cE j.2.2.1.length j.2.2.1.length j.2.2.2), (25, imOw j.2.1), (26, leOw j.2.2.1), (1002, rowsRo words), (1003, rowsRo rels), (2, pE ng R)])
    (fun j => j.1 ≤ m ∧ (words.take j.1).foldl (closeW ng) (startC ng) = j.2 ∧ IOK ng 1 j.2) (fun j => m - j.1) (0, startC ng) ⟨Nat.zero_le _, rfl, startC_iok ng⟩ (Wk.of ⟨rfl, rfl, rfl, rfl, rfl, trivial⟩ ⟨rfl, rfl, rfl, rfl, rfl, rfl, trivial⟩ trivial) ?_
  rintro ⟨j, M, N, b⟩ ⟨hj, hfo, hok⟩
  dsimp only at hj hfo ⊢
  (refine goes_seq ?_; refine goes_region ?_; apply run_step rfl; (exact stp_bin rfl rfl rfl rfl); refine run_nil ?_; refine fin_seq ?_; refine goes_seq ?_)
  refine goes_if rfl (fun hlt => ?_) (fun hlt => ?_)
  · have hjw : j < words.length := by omega
    obtain ⟨W, hW⟩ : ∃ W, lget words j = W := ⟨_, rfl⟩
    have hWm : W ∈ words := by rw [← hW]; exact lget_mem hjw
    obtain ⟨C, hC⟩ : ∃ C, closeI ng M N b 0 (W.map Int.toNat) = C := ⟨_, rfl⟩
    have hN0 : 0 < N.length := hok.ok.lo
    have hcl : FC Try.prog 193 [(28, cE N.length N.length b), (25, imOw M), (26, leOw N), (1002, rowsRo words)] [o1 (.ptr 28 0), o1 (.esl 1002 j 0 W.length), vv (I6 (0 : Nat))] [(28, cE C.2.1.length C.2.1.length C.2.2), (25, imOw C.1), (26, leOw C.2.1)] (.tup []) [(0, o1 (.ptr 28 0))] :=
      (iCloseAt_fc ng N.length M N b 0 words j W.length W rfl hok.ok.wf hok.full hN0 hok.ok.hi hng hjw hW rfl (hwl W hWm) (hw W hWm) C hC).nm [(1010, 28), (1000, 25), (1001, 26), (1002, 1002)] (by kernel_rfl)
    have hfo' : (words.take (j + 1)).foldl (closeW ng) (startC ng) = C := by
      rw [take_lget hjw, List.foldl_append, hfo, hW]; exact hC
    have hok' : IOK ng 1 C := by rw [← hC]; exact closeW_ok (w := W) hok (by omega) (hw W hWm)
    have hrow : (irows words)[j]? = some (ivals W) := by rw [← hW]; exact irows_get hjw
    (refine goes_skip ?_; refine fin_seq ?_; refine goes_seq ?_; refine goes_block ?_; refine goes_seq ?_; refine goes_region ?_; apply run_step rfl; (exact stp_ix rfl rfl rfl rfl rfl (by as_aux_lemma => kernel_rfl) (by first | rfl | exact (Int.toNat_of_nonneg (by omega)).symm) (by first | assumption | omega | (simp; omega)) (by first | exact Nat.le_refl _ | exact Nat.le_of_eq (ivals_len _).symm | exact Nat.le_of_eq (irows_len _).symm | (refine Nat.le_trans ?_ (Nat.le_of_eq (ivals_len _).symm); (first | omega | (simp; done) | (simp; omega))) | (refine Nat.le_trans ?_ (Nat.le_of_eq (irows_len _).symm); (first | omega | (simp; done) | (simp; omega))))); apply run_step rfl; (exact stp_loadR rfl (by as_aux_lemma => kernel_rfl) rfl rfl rfl (by first | assumption | exact ivals_get (by assumption) | exact irows_get (by assumption) | exact ivals_get (by omega) | exact irows_get (by omega) | rfl) (by first | exact ivals_len _ | assumption | rfl)); apply run_step rfl; (exact stp_assign rfl rfl); refine run_nil ?_; refine fin_seq ?_; refine goes_region ?_; apply run_step rfl; (exact stp_move rfl rfl); apply run_step rfl; (exact stp_move rfl rfl); apply run_step rfl; (apply call_gate 193; exact stp_call [(0, 28)] hcl (by as_aux_lemma => kernel_rfl) rfl rfl ⟨rfl, rfl, rfl, trivial⟩ ⟨⟨_, rfl, .inl rfl⟩, ⟨_, rfl, .inl rfl⟩, ⟨_, rfl, .inl rfl⟩, ⟨_, rfl, .inl rfl⟩, trivial⟩ ⟨rfl, rfl, rfl, trivial⟩ rfl rfl); refine run_nil ?_; refine fin_block ?_; refine fin_seq ?_; refine goes_region ?_; apply run_step rfl; (exact stp_add rfl rfl rfl (by first | exact IntWalk.i64_in _ (by omega) | rfl)); apply run_step rfl; (exact stp_move rfl rfl); refine run_nil ?_)
    exact fin_round (j + 1, C) ⟨by show j + 1 ≤ m; omega, hfo', hok'⟩ (by show m - (j + 1) < m - j; omega) (Wk.of ⟨rfl, rfl, rfl, rfl, rfl, trivial⟩ ⟨rfl, rfl, rfl, rfl, rfl, rfl, trivial⟩ trivial)
  · obtain rfl : j = m := by omega
    have hX0 : outer ng rels 2001 0 (M, N, b) = X := by rw [← hfo, ← hm, List.take_length]; exact hX
    clear hfo hlt hj
    (refine goes_exit ?_; refine fin_exit_then ?_; refine fin_exit_then ?_; refine fin_exit_eq ?_; refine fin_seq ?_; refine goes_seq ?_; refine goes_seq ?_; refine goes_region ?_; apply run_step rfl; (exact stp_assign rfl rfl); refine run_nil ?_; refine fin_seq ?_; refine goes_block ?_)
    refine goes_loop (fun c : Nat × CSt => St.of [(2, o1 (.ptr 2 0)), (6, o1 (.ptr 28 0)), (9, vv (I6 c.1))] [(28, cE c.2.2.1.length c.2.2.1.length c.2.2.2), (25, imOw c.2.1), (26, leOw c.2.2.1), (1002, rowsRo words), (1003, rowsRo rels), (2, pE ng R)])
      (fun c => outer ng rels (2001 - c.1) c.1 c.2 = X ∧ c.1 ≤ c.2.2.1.length ∧ IOK ng 1 c.2) (fun c => 2001 - c.1) (0, (M, N, b)) ⟨hX0, Nat.zero_le _, hok⟩ (Wk.of ⟨rfl, rfl, rfl, trivial⟩ ⟨rfl, rfl, rfl, rfl, rfl, rfl, trivial⟩ trivial) ?_
    clear hX0 hok
    clear M N b
    rintro ⟨c, M, N, b⟩ ⟨hout, hcl, hok⟩
    dsimp only at hout hcl ⊢
    have hNl : N.length ≤ 2000 := hok.ok.hi
    have hMN : M.length = N.length := hok.ok.wf.len
    have hS := sizeR_fc 25 N.length
    repeat refine goes_seq ?_
    refine goes_cut (St.of [(2, o1 (.ptr 2 0)), (6, o1 (.ptr 28 0)), (9, vv (I6 c)), (52, vv (.bool (decide ((c : Int) < N.length) && !b)))] [(28, cE N.length N.length b), (25, imOw M), (26, leOw N), (1002, rowsRo words), (1003, rowsRo rels), (2, pE ng R)]) ?_ ?_
    · (refine goes_region ?_; apply run_step rfl; (exact stp_move rfl rfl); apply run_step rfl; (exact stp_move rfl rfl); apply run_step rfl; (exact stp_nilCheck rfl rfl rfl); apply run_step rfl; (exact stp_fieldAddr (d := 0) rfl rfl rfl (by as_aux_lemma => kernel_rfl)); apply run_step rfl; (exact stp_loadF rfl (by as_aux_lemma => kernel_rfl) rfl rfl rfl rfl); apply run_step rfl; (apply call_gate 145; exact stp_callR hS (by as_aux_lemma => kernel_rfl) rfl rfl ⟨rfl, trivial⟩ trivial rfl rfl); apply run_step rfl; (exact stp_bin rfl rfl rfl rfl); apply run_step rfl; (exact stp_move rfl rfl))
      refine run_bool 46 rfl (fun h => ?_) (fun h => ?_)
      · (apply run_gYes rfl rfl rfl; (exact stp_move rfl rfl); apply run_gYes rfl rfl rfl; (exact stp_nilCheck rfl rfl rfl); apply run_gYes rfl rfl rfl; (exact stp_fieldAddr (d := 2) rfl rfl rfl (by as_aux_lemma => kernel_rfl)); apply run_gYes rfl rfl rfl; (exact stp_loadF rfl (by as_aux_lemma => kernel_rfl) rfl rfl rfl rfl); apply run_gYes rfl rfl rfl; (exact stp_not rfl rfl); apply run_step rfl; (exact stp_pickT rfl rfl rfl); refine run_nil ?_)
        exact fin_join (Wk.of ⟨rfl, rfl, rfl, by rw [h]; rfl, trivial⟩ ⟨rfl, rfl, rfl, rfl, rfl, rfl, trivial⟩ trivial)
      · (apply run_gNo rfl rfl rfl rfl rfl; apply run_gNo rfl rfl rfl rfl rfl; apply run_gNo rfl rfl rfl rfl rfl; apply run_gNo rfl rfl rfl rfl rfl; apply run_gNo rfl rfl rfl rfl rfl; apply run_step rfl; (exact stp_pickF rfl rfl rfl); refine run_nil ?_)
        exact fin_join (Wk.of ⟨rfl, rfl, rfl, by rw [h]; rfl, trivial⟩ ⟨rfl, rfl, rfl, rfl, rfl, rfl, trivial⟩ trivial)
    (refine fin_seq ?_)
    refine goes_cond rfl (fun hc => ?_) (fun hc => ?_)
    · obtain ⟨hlt, rfl⟩ : c < N.length ∧ b = false := by
        simp at hc; exact ⟨by omega, hc.2⟩
      obtain ⟨s0, hs0⟩ : ∃ s0 : CSt, s0 = (M, N, false) := ⟨_, rfl⟩
      have hok0 : IOK ng N.length s0 := by subst hs0; exact ⟨⟨hok.ok.wf, Nat.le_refl _, hok.ok.hi⟩, fun e => by cases e⟩
      have houts : outer ng rels (2000 - c) (c + 1) (coset1 ng rels c s0) = X := by
        rw [← hout, show 2001 - c = (2000 - c) + 1 by omega, outer, if_pos ⟨hlt, rfl⟩, hs0]
      (refine goes_skip ?_; refine fin_seq ?_; refine goes_seq ?_; refine goes_block ?_; refine goes_seq ?_; refine goes_seq ?_; refine goes_region ?_; apply run_step rfl; (exact stp_fieldAddr (d := 1) rfl rfl rfl (by as_aux_lemma => kernel_rfl)); apply run_step rfl; (exact stp_loadF rfl (by as_aux_lemma => kernel_rfl) rfl rfl rfl rfl); apply run_step rfl; (exact stp_len rfl rfl rfl (by as_aux_lemma => kernel_rfl)); apply run_step rfl; (exact stp_move rfl rfl); refine run_nil ?_; refine fin_seq ?_; refine goes_block ?_)
      refine goes_loop (fun j : Nat × CSt => St.of [(2, o1 (.ptr 2 0)), (6, o1 (.ptr 28 0)), (9, vv (I6 c)), (56, o1 (.sl 1003 0 R)), (57, vv (I6 R)), (58, vv (I6 j.1))] [(28, cE j.2.2.1.length j.2.2.1.length j.2.2.2), (25, imOw j.2.1), (26, leOw j.2.2.1), (1002, rowsRo words), (1003, rowsRo rels), (2, pE ng R)])
        (fun j => j.1 ≤ R ∧ (rels.take j.1).foldl (close1 ng c) s0 = j.2 ∧ IOK ng N.length j.2) (fun j => R - j.1) (0, s0) ⟨Nat.zero_le _, rfl, hok0⟩ (Wk.of (by rw [hs0]; exact ⟨rfl, rfl, rfl, rfl, rfl, rfl, trivial⟩) (by rw [hs0]; exact ⟨rfl, rfl, rfl, rfl, rfl, rfl, trivial⟩) trivial) ?_
      generalize hn0 : N.length = n0 at *
      have hn02 : n0 ≤ 2000 := hNl
      clear hout hok hc hs0 hS hMN
      clear hn0
      rintro ⟨j, M, N, b⟩ ⟨hj, hfo, hok⟩
      dsimp only at hj hfo ⊢
      have hNl : N.length ≤ 2000 := hok.ok.hi
      have hNn : n0 ≤ N.length := hok.ok.lo
      have hcN : c < N.length := by omega
      (refine goes_seq ?_; refine goes_region ?_; apply run_step rfl; (exact stp_bin rfl rfl rfl rfl); refine run_nil ?_; refine fin_seq ?_; refine goes_seq ?_)
      refine goes_if rfl (fun hjr => ?_) (fun hjr => ?_)
      · have hjw : j < rels.length := by omega
        obtain ⟨W, hW⟩ : ∃ W, lget rels j = W := ⟨_, rfl⟩
        have hWm : W ∈ rels := by rw [← hW]; exact lget_mem hjw
        have hrow : (irows rels)[j]? = some (ivals W) := by rw [← hW]; exact irows_get hjw
        have hfo' : (rels.take (j + 1)).foldl (close1 ng c) s0 = close1 ng c (M, N, b) W := by rw [take_lget hjw, List.foldl_append, hfo, hW]; rfl
        have hok' := close1_iok hok hlt (hr W hWm)
        (refine goes_skip ?_; refine fin_seq ?_; refine goes_seq ?_; refine goes_block ?_; refine goes_seq ?_; refine goes_region ?_; apply run_step rfl; (exact stp_ix rfl rfl rfl rfl rfl (by as_aux_lemma => kernel_rfl) (by first | rfl | exact (Int.toNat_of_nonneg (by omega)).symm) (by first | assumption | omega | (simp; omega)) (by first | exact Nat.le_refl _ | exact Nat.le_of_eq (ivals_len _).symm | exact Nat.le_of_eq (irows_len _).symm | (refine Nat.le_trans ?_ (Nat.le_of_eq (ivals_len _).symm); (first | omega | (simp; done) | (simp; omega))) | (refine Nat.le_trans ?_ (Nat.le_of_eq (irows_len _).symm); (first | omega | (simp; done) | (simp; omega))))); apply run_step rfl; (exact stp_loadR rfl (by as_aux_lemma => kernel_rfl) rfl rfl rfl (by first | assumption | exact ivals_get (by assumption) | exact irows_get (by assumption) | exact ivals_get (by omega) | exact irows_get (by omega) | rfl) (by first | exact ivals_len _ | assumption | rfl)); apply run_step rfl; (exact stp_assign rfl rfl); refine run_nil ?_; refine fin_seq ?_; refine goes_seq ?_; refine goes_region ?_; apply run_step rfl; (exact stp_move rfl rfl); apply run_step rfl; (exact stp_nilCheck rfl rfl rfl); apply run_step rfl; (exact stp_fieldAddr (d := 1) rfl rfl rfl (by as_aux_lemma => kernel_rfl)); apply run_step rfl; (exact stp_loadF rfl (by as_aux_lemma => kernel_rfl) rfl rfl rfl rfl); apply run_step rfl; (exact stp_move rfl rfl); apply run_step rfl; (exact stp_ix rfl rfl rfl rfl rfl (by as_aux_lemma => kernel_rfl) (by first | rfl | exact (Int.toNat_of_nonneg (by omega)).symm) (by first | assumption | omega | (simp; omega)) (by first | exact Nat.le_refl _ | exact Nat.le_of_eq (ivals_len _).symm | exact Nat.le_of_eq (irows_len _).symm | (refine Nat.le_trans ?_ (Nat.le_of_eq (ivals_len _).symm); (first | omega | (simp; done) | (simp; omega))) | (refine Nat.le_trans ?_ (Nat.le_of_eq (irows_len _).symm); (first | omega | (simp; done) | (simp; omega))))); apply run_step rfl; (exact stp_loadV rfl (by as_aux_lemma => kernel_rfl) rfl rfl rfl (by first | assumption | exact ivals_get (by assumption) | exact irows_get (by assumption) | exact ivals_get (by omega) | exact irows_get (by omega) | rfl)); apply run_step rfl; (exact stp_move rfl rfl); apply run_step rfl; (exact stp_bin rfl rfl rfl rfl); apply run_step rfl; (exact stp_move rfl rfl))
        refine run_bool 71 rfl (fun h => ?_) (fun h => ?_)
        · have hlv : iget N c = (c : Int) := by simpa using h
          (apply run_gYes rfl rfl rfl; (exact stp_move rfl rfl); apply run_gYes rfl rfl rfl; (exact stp_nilCheck rfl rfl rfl); apply run_gYes rfl rfl rfl; (exact stp_fieldAddr (d := 2) rfl rfl rfl (by as_aux_lemma => kernel_rfl)); apply run_gYes rfl rfl rfl; (exact stp_loadF rfl (by as_aux_lemma => kernel_rfl) rfl rfl rfl rfl); apply run_gYes rfl rfl rfl; (exact stp_not rfl rfl); apply run_step rfl; (exact stp_pickT rfl rfl rfl); refine run_nil ?_; refine fin_seq ?_)
          refine goes_cond rfl (fun hb => ?_) (fun hb => ?_)
          · obtain rfl : b = false := by simpa using hb
            obtain ⟨C, hC⟩ : ∃ C, closeI ng M N false c (W.map Int.toNat) = C := ⟨_, rfl⟩
            have hliv : liveC (M, N, false) c = true := by show (decide (iget N c = (c : Int)) && !false) = true; simp [hlv]
            have hst : close1 ng c (M, N, false) W = C := by unfold close1; rw [if_pos hliv]; rw [← hC]; unfold closeI; rw [if_neg (by simp)]
            rw [hst] at hfo' hok'
            have hcl : FC Try.prog 193 [(28, cE N.length N.length false), (25, imOw M), (26, leOw N), (1003, rowsRo rels)] [o1 (.ptr 28 0), o1 (.esl 1003 j 0 W.length), vv (I6 c)] [(28, cE C.2.1.length C.2.1.length C.2.2), (25, imOw C.1), (26, leOw C.2.1)] (.tup []) [(0, o1 (.ptr 28 0))] :=
              (iCloseAt_fc ng N.length M N false c rels j W.length W rfl hok.ok.wf (fun e => by cases e) hcN hok.ok.hi hng hjw hW rfl (hrl W hWm) (hr W hWm) C hC).nm [(1010, 28), (1000, 25), (1001, 26), (1002, 1003)] (by kernel_rfl)
            (refine goes_region ?_; apply run_step rfl; (exact stp_move rfl rfl); apply run_step rfl; (exact stp_move rfl rfl); apply run_step rfl; (exact stp_move rfl rfl); apply run_step rfl; (apply call_gate 193; exact stp_call [(0, 28)] hcl (by as_aux_lemma => kernel_rfl) rfl rfl ⟨rfl, rfl, rfl, trivial⟩ ⟨⟨_, rfl, .inl rfl⟩, ⟨_, rfl, .inl rfl⟩, ⟨_, rfl, .inl rfl⟩, ⟨_, rfl, .inl rfl⟩, trivial⟩ ⟨rfl, rfl, rfl, trivial⟩ rfl rfl); refine run_nil ?_; refine fin_block ?_; refine fin_seq ?_; refine goes_region ?_; apply run_step rfl; (exact stp_add rfl rfl rfl (by first | exact IntWalk.i64_in _ (by omega) | rfl)); apply run_step rfl; (exact stp_move rfl rfl); refine run_nil ?_)
            exact fin_round (j + 1, C) ⟨by show j + 1 ≤ R; omega, hfo', hok'⟩ (by show R - (j + 1) < R - j; omega) (Wk.of ⟨rfl, rfl, rfl, rfl, rfl, rfl, trivial⟩ ⟨rfl, rfl, rfl, rfl, rfl, rfl, trivial⟩ trivial)
          · obtain rfl : b = true := by simpa using hb
            have hst : close1 ng c (M, N, true) W = (M, N, true) := close1_dead (by unfold liveC; simp) W
            rw [hst] at hfo' hok'
            (refine goes_skip ?_; refine fin_block ?_; refine fin_seq ?_; refine goes_region ?_; apply run_step rfl; (exact stp_add rfl rfl rfl (by first | exact IntWalk.i64_in _ (by omega) | rfl)); apply run_step rfl; (exact stp_move rfl rfl); refine run_nil ?_)
            exact fin_round (j + 1, (M, N, true)) ⟨by show j + 1 ≤ R; omega, hfo', hok'⟩ (by show R - (j + 1) < R - j; omega) (Wk.of ⟨rfl, rfl, rfl, rfl, rfl, rfl, trivial⟩ ⟨rfl, rfl, rfl, rfl, rfl, rfl, trivial⟩ trivial)
        · have hlv : ¬ iget N c = (c : Int) := by simpa using h
          have hst : close1 ng c (M, N, b) W = (M, N, b) := close1_dead (by unfold liveC; simp [hlv]) W
          rw [hst] at hfo' hok'
          (apply run_gNo rfl rfl rfl rfl rfl; apply run_gNo rfl rfl rfl rfl rfl; apply run_gNo rfl rfl rfl rfl rfl; apply run_gNo rfl rfl rfl rfl rfl; apply run_gNo rfl rfl rfl rfl rfl; apply run_step rfl; (exact stp_pickF rfl rfl rfl); refine run_nil ?_; refine fin_seq ?_)
          refine goes_cond rfl (fun e => by cases e) (fun _ => ?_)
          (refine goes_skip ?_; refine fin_block ?_; refine fin_seq ?_; refine goes_region ?_; apply run_step rfl; (exact stp_add rfl rfl rfl (by first | exact IntWalk.i64_in _ (by omega) | rfl)); apply run_step rfl; (exact stp_move rfl rfl); refine run_nil ?_)
          exact fin_round (j + 1, (M, N, b)) ⟨by show j + 1 ≤ R; omega, hfo', hok'⟩ (by show R - (j + 1) < R - j; omega) (Wk.of ⟨rfl, rfl, rfl, rfl, rfl, rfl, trivial⟩ ⟨rfl, rfl, rfl, rfl, rfl, rfl, trivial⟩ trivial)
      · obtain rfl : j = R := by omega
        have hfull : rels.foldl (close1 ng c) s0 = (M, N, b) := by rw [← hfo, ← hR, List.take_length]
        obtain ⟨s1, hs1⟩ : ∃ s1 : CSt, s1 = (M, N, b) := ⟨_, rfl⟩
        have hok1 : IOK ng n0 s1 := by rw [hs1]; exact hok
        have hcos : (List.range ng).foldl (next1 ng c) s1 = coset1 ng rels c s0 := by unfold coset1; rw [hfull, hs1]
        (refine goes_exit ?_; refine fin_exit_then ?_; refine fin_exit_then ?_; refine fin_exit_eq ?_; refine fin_seq ?_; refine goes_seq ?_; refine goes_region ?_; apply run_step rfl; (exact stp_fieldAddr (d := 0) rfl rfl rfl (by as_aux_lemma => kernel_rfl)); apply run_step rfl; (exact stp_loadF rfl (by as_aux_lemma => kernel_rfl) rfl rfl rfl rfl); apply run_step rfl; (exact stp_move rfl rfl); refine run_nil ?_; refine fin_seq ?_; refine goes_block ?_)
        refine goes_loop (fun g : Nat × CSt => St.of [(2, o1 (.ptr 2 0)), (6, o1 (.ptr 28 0)), (9, vv (I6 c)), (84, vv (I6 ng)), (85, vv (I6 g.1))] [(28, cE g.2.2.1.length g.2.2.1.length g.2.2.2), (25, imOw g.2.1), (26, leOw g.2.2.1), (1002, rowsRo words), (1003, rowsRo rels), (2, pE ng j)])
          (fun g => g.1 ≤ ng ∧ (List.range g.1).foldl (next1 ng c) s1 = g.2 ∧ IOK ng n0 g.2) (fun g => ng - g.1) (0, s1) ⟨Nat.zero_le _, rfl, hok1⟩ (Wk.of (by rw [hs1]; exact ⟨rfl, rfl, rfl, rfl, rfl, trivial⟩) (by rw [hs1]; exact ⟨rfl, rfl, rfl, rfl, rfl, rfl, trivial⟩) trivial) ?_
        clear hok hs1 hfull hfo hcN hNl hNn
        rintro ⟨g, M, N, b⟩ ⟨hg, hfo, hok⟩
        dsimp only at hg hfo ⊢
        have hNl : N.length ≤ 2000 := hok.ok.hi
        have hNn : n0 ≤ N.length := hok.ok.lo
        have hcN : c < N.length := by omega
        have hMN : M.length = N.length := hok.ok.wf.len
        have hrc : (lget M c).length = ng := (show WF ng M N from hok.ok.wf).row c (by omega)
        (refine goes_seq ?_; refine goes_region ?_; apply run_step rfl; (exact stp_bin rfl rfl rfl rfl); refine run_nil ?_; refine fin_seq ?_; refine goes_seq ?_)
        refine goes_if rfl (fun hgl => ?_) (fun hgl => ?_)
        · have hgn : g < ng := by omega
          have hfo' : (List.range (g + 1)).foldl (next1 ng c) s1 = next1 ng c (M, N, b) g := by rw [List.range_succ, List.foldl_append, hfo]; rfl
          have hok' := next1_iok (g := g) hok hlt hgn
          (refine goes_skip ?_; refine fin_seq ?_; refine goes_seq ?_; refine goes_block ?_; refine goes_seq ?_; refine goes_region ?_; apply run_step rfl; (exact stp_move rfl rfl); apply run_step rfl; (exact stp_assign rfl rfl); refine run_nil ?_; refine fin_seq ?_; refine goes_seq ?_; refine goes_region ?_; apply run_step rfl; (exact stp_move rfl rfl); apply run_step rfl; (exact stp_nilCheck rfl rfl rfl); apply run_step rfl; (exact stp_fieldAddr (d := 1) rfl rfl rfl (by as_aux_lemma => kernel_rfl)); apply run_step rfl; (exact stp_loadF rfl (by as_aux_lemma => kernel_rfl) rfl rfl rfl rfl); apply run_step rfl; (exact stp_move rfl rfl); apply run_step rfl; (exact stp_ix rfl rfl rfl rfl rfl (by as_aux_lemma => kernel_rfl) (by first | rfl | exact (Int.toNat_of_nonneg (by omega)).symm) (by first | assumption | omega | (simp; omega)) (by first | exact Nat.le_refl _ | exact Nat.le_of_eq (ivals_len _).symm | exact Nat.le_of_eq (irows_len _).symm | (refine Nat.le_trans ?_ (Nat.le_of_eq (ivals_len _).symm); (first | omega | (simp; done) | (simp; omega))) | (refine Nat.le_trans ?_ (Nat.le_of_eq (irows_len _).symm); (first | omega | (simp; done) | (simp; omega))))); apply run_step rfl; (exact stp_loadV rfl (by as_aux_lemma => kernel_rfl) rfl rfl rfl (by first | assumption | exact ivals_get (by assumption) | exact irows_get (by assumption) | exact ivals_get (by omega) | exact irows_get (by omega) | rfl)); apply run_step rfl; (exact stp_move rfl rfl); apply run_step rfl; (exact stp_bin rfl rfl rfl rfl); apply run_step rfl; (exact stp_move rfl rfl))
          refine run_bool 97 rfl (fun h => ?_) (fun h => ?_)
          · have hlv : iget N c = (c : Int) := by simpa using h
            (apply run_gYes rfl rfl rfl; (exact stp_move rfl rfl); apply run_gYes rfl rfl rfl; (exact stp_nilCheck rfl rfl rfl); apply run_gYes rfl rfl rfl; (exact stp_fieldAddr (d := 2) rfl rfl rfl (by as_aux_lemma => kernel_rfl)); apply run_gYes rfl rfl rfl; (exact stp_loadF rfl (by as_aux_lemma => kernel_rfl) rfl rfl rfl rfl); apply run_gYes rfl rfl rfl; (exact stp_not rfl rfl); apply run_step rfl; (exact stp_pickT rfl rfl rfl); apply run_step rfl; (exact stp_move rfl rfl))
            refine run_bool 104 rfl (fun hb => ?_) (fun hb => ?_)
            · obtain rfl : b = false := by simpa using hb
              have hliv : liveC (M, N, false) c = true := by show (decide (iget N c = (c : Int)) && !false) = true; simp [hlv]
              have hst : next1 ng c (M, N, false) g = ((nextC ng M N c g).1, (nextC ng M N c g).2.1, (nextC ng M N c g).2.2.1) := by unfold next1; rw [if_pos hliv]
              rw [hst] at hfo' hok'
              (apply run_gYes rfl rfl rfl; (exact stp_move rfl rfl); apply run_gYes rfl rfl rfl; (exact stp_nilCheck rfl rfl rfl); apply run_gYes rfl rfl rfl; (exact stp_fieldAddr (d := 0) rfl rfl rfl (by as_aux_lemma => kernel_rfl)); apply run_gYes rfl rfl rfl; (exact stp_loadF rfl (by as_aux_lemma => kernel_rfl) rfl rfl rfl rfl); apply run_gYes rfl rfl rfl; (exact stp_move rfl rfl); apply run_gYes rfl rfl rfl; (exact stp_ix rfl rfl rfl rfl rfl (by as_aux_lemma => kernel_rfl) (by first | rfl | exact (Int.toNat_of_nonneg (by omega)).symm) (by first | assumption | omega | (simp; omega)) (by first | exact Nat.le_refl _ | exact Nat.le_of_eq (ivals_len _).symm | exact Nat.le_of_eq (irows_len _).symm | (refine Nat.le_trans ?_ (Nat.le_of_eq (ivals_len _).symm); (first | omega | (simp; done) | (simp; omega))) | (refine Nat.le_trans ?_ (Nat.le_of_eq (irows_len _).symm); (first | omega | (simp; done) | (simp; omega))))); apply run_gYes rfl rfl rfl; (exact stp_loadR rfl (by as_aux_lemma => kernel_rfl) rfl rfl rfl (by first | assumption | exact ivals_get (by assumption) | exact irows_get (by assumption) | exact ivals_get (by omega) | exact irows_get (by omega) | rfl) (by first | exact ivals_len _ | assumption | rfl)); apply run_gYes rfl rfl rfl; (exact stp_move rfl rfl); apply run_gYes rfl rfl rfl; (exact stp_ixE rfl rfl rfl rfl rfl (by as_aux_lemma => kernel_rfl) (by first | assumption | exact ivals_get (by assumption) | exact irows_get (by assumption) | exact ivals_get (by omega) | exact irows_get (by omega) | rfl) (by first | rfl | exact (Int.toNat_of_nonneg (by omega)).symm) (by first | assumption | omega | (simp; omega)) (by first | exact Nat.le_refl _ | exact Nat.le_of_eq (ivals_len _).symm | exact Nat.le_of_eq (irows_len _).symm | (refine Nat.le_trans ?_ (Nat.le_of_eq (ivals_len _).symm); (first | omega | (simp; done) | (simp; omega))) | (refine Nat.le_trans ?_ (Nat.le_of_eq (irows_len _).symm); (first | omega | (simp; done) | (simp; omega))))); apply run_gYes rfl rfl rfl; (exact stp_loadE' rfl (by as_aux_lemma => kernel_rfl) rfl rfl rfl (by first | assumption | exact ivals_get (by assumption) | exact irows_get (by assumption) | exact ivals_get (by omega) | exact irows_get (by omega) | rfl) (by first | assumption | exact ivals_get (by assumption) | exact irows_get (by assumption) | exact ivals_get (by omega) | exact irows_get (by omega) | rfl)); apply run_gYes rfl rfl rfl; (exact stp_bin rfl rfl rfl rfl); apply run_step rfl; (exact stp_pickT rfl rfl rfl); refine run_nil ?_; refine fin_seq ?_)
              refine goes_if rfl (fun he => ?_) (fun he => ?_)
              · have he : ent M c g < 0 := he
                by_cases hfull : N.length = 2000
                · have hnx : nextC ng M N c g = (M, N, true, 0) := by unfold nextC; rw [if_neg (by omega), if_pos hfull]
                  rw [hnx] at hfo' hok'
                  have hD : FC Try.prog 194 [(28, cE N.length N.length false), (25, imOw M), (26, leOw N)] [o1 (.ptr 28 0), vv (I6 c), vv (I6 g)] [(28, cE N.length N.length true), (25, imOw M), (26, leOw N)] (vv (I6 c)) [(0, o1 (.ptr 28 0))] := (iDefine_full M N N.length N.length c g false hMN (by omega)).nm [(1010, 28), (1000, 25), (1001, 26)] (by kernel_rfl)
                  (refine goes_region ?_; apply run_step rfl; (exact stp_move rfl rfl); apply run_step rfl; (exact stp_move rfl rfl); apply run_step rfl; (exact stp_move rfl rfl); apply run_step rfl; (apply call_gate 194; exact stp_call [(0, 28)] hD (by as_aux_lemma => kernel_rfl) rfl rfl ⟨rfl, rfl, rfl, trivial⟩ ⟨⟨_, rfl, .inl rfl⟩, ⟨_, rfl, .inl rfl⟩, ⟨_, rfl, .inl rfl⟩, trivial⟩ ⟨rfl, rfl, rfl, trivial⟩ rfl rfl); refine run_nil ?_; refine fin_block ?_; refine fin_seq ?_; refine goes_region ?_; apply run_step rfl; (exact stp_add rfl rfl rfl (by first | exact IntWalk.i64_in _ (by omega) | rfl)); apply run_step rfl; (exact stp_move rfl rfl); refine run_nil ?_)
                  exact fin_round (g + 1, (M, N, true)) ⟨hgn, hfo', hok'⟩ (by show ng - (g + 1) < ng - g; omega) (Wk.of ⟨rfl, rfl, rfl, rfl, rfl, trivial⟩ ⟨rfl, rfl, rfl, rfl, rfl, rfl, trivial⟩ trivial)
                · have hnx : nextC ng M N c g = (addC ng M N.length c g, N ++ [(N.length : Int)], false, N.length) := by unfold nextC; rw [if_neg (by omega), if_neg hfull]
                  rw [hnx] at hfo' hok'
                  have hsn : (N ++ [(N.length : Int)]).length = N.length + 1 := by simp
                  have hD : FC Try.prog 194 [(28, cE N.length N.length false), (25, imOw M), (26, leOw N)] [o1 (.ptr 28 0), vv (I6 c), vv (I6 g)] [(28, cE (N.length + 1) (N.length + 1) false), (25, imOw (addC ng M N.length c g)), (26, leOw (N ++ [(N.length : Int)]))] (vv (I6 N.length)) [(0, o1 (.ptr 28 0))] :=
                    (iDefine_fc ng M N N.length N.length c g false hMN rfl (by omega) hok.ok.wf hcN hgn hng).nm [(1010, 28), (1000, 25), (1001, 26)] (by kernel_rfl)
                  (refine goes_region ?_; apply run_step rfl; (exact stp_move rfl rfl); apply run_step rfl; (exact stp_move rfl rfl); apply run_step rfl; (exact stp_move rfl rfl); apply run_step rfl; (apply call_gate 194; exact stp_call [(0, 28)] hD (by as_aux_lemma => kernel_rfl) rfl rfl ⟨rfl, rfl, rfl, trivial⟩ ⟨⟨_, rfl, .inl rfl⟩, ⟨_, rfl, .inl rfl⟩, ⟨_, rfl, .inl rfl⟩, trivial⟩ ⟨rfl, rfl, rfl, trivial⟩ rfl rfl); refine run_nil ?_; refine fin_block ?_; refine fin_seq ?_; refine goes_region ?_; apply run_step rfl; (exact stp_add rfl rfl rfl (by first | exact IntWalk.i64_in _ (by omega) | rfl)); apply run_step rfl; (exact stp_move rfl rfl); refine run_nil ?_)
                  exact fin_round (g + 1, (addC ng M N.length c g, N ++ [(N.length : Int)], false)) ⟨hgn, hfo', hok'⟩ (by show ng - (g + 1) < ng - g; omega) (Wk.of ⟨rfl, rfl, rfl, rfl, rfl, trivial⟩ ⟨by dsimp only; rw [hsn]; rfl, rfl, rfl, rfl, rfl, rfl, trivial⟩ trivial)
              · have he : ¬ ent M c g < 0 := he
                have hnx : nextC ng M N c g = (M, N, false, root N (ent M c g).toNat) := by unfold nextC; rw [if_pos (by omega)]
                rw [hnx] at hfo' hok'
                (refine goes_skip ?_; refine fin_block ?_; refine fin_seq ?_; refine goes_region ?_; apply run_step rfl; (exact stp_add rfl rfl rfl (by first | exact IntWalk.i64_in _ (by omega) | rfl)); apply run_step rfl; (exact stp_move rfl rfl); refine run_nil ?_)
                exact fin_round (g + 1, (M, N, false)) ⟨hgn, hfo', hok'⟩ (by show ng - (g + 1) < ng - g; omega) (Wk.of ⟨rfl, rfl, rfl, rfl, rfl, trivial⟩ ⟨rfl, rfl, rfl, rfl, rfl, rfl, trivial⟩ trivial)
            · obtain rfl : b = true := by simpa using hb
              have hst : next1 ng c (M, N, true) g = (M, N, true) := next1_dead (by unfold liveC; simp) g
              rw [hst] at hfo' hok'
              (apply run_gNo rfl rfl rfl rfl rfl; apply run_gNo rfl rfl rfl rfl rfl; apply run_gNo rfl rfl rfl rfl rfl; apply run_gNo rfl rfl rfl rfl rfl; apply run_gNo rfl rfl rfl rfl rfl; apply run_gNo rfl rfl rfl rfl rfl; apply run_gNo rfl rfl rfl rfl rfl; apply run_gNo rfl rfl rfl rfl rfl; apply run_gNo rfl rfl rfl rfl rfl; apply run_gNo rfl rfl rfl rfl rfl; apply run_gNo rfl rfl rfl rfl rfl; apply run_step rfl; (exact stp_pickF rfl rfl rfl); refine run_nil ?_; refine fin_seq ?_)
              refine goes_cond rfl (fun e => by cases e) (fun _ => ?_)
              (refine goes_skip ?_; refine fin_block ?_; refine fin_seq ?_; refine goes_region ?_; apply run_step rfl; (exact stp_add rfl rfl rfl (by first | exact IntWalk.i64_in _ (by omega) | rfl)); apply run_step rfl; (exact stp_move rfl rfl); refine run_nil ?_)
              exact fin_round (g + 1, (M, N, true)) ⟨hgn, hfo', hok'⟩ (by show ng - (g + 1) < ng - g; omega) (Wk.of ⟨rfl, rfl, rfl, rfl, rfl, trivial⟩ ⟨rfl, rfl, rfl, rfl, rfl, rfl, trivial⟩ trivial)
          · have hlv : ¬ iget N c = (c : Int) := by simpa using h
            have hst : next1 ng c (M, N, b) g = (M, N, b) := next1_dead (by unfold liveC; simp [hlv]) g
            rw [hst] at hfo' hok'
            (apply run_gNo rfl rfl rfl rfl rfl; apply run_gNo rfl rfl rfl rfl rfl; apply run_gNo rfl rfl rfl rfl rfl; apply run_gNo rfl rfl rfl rfl rfl; apply run_gNo rfl rfl rfl rfl rfl; apply run_step rfl; (exact stp_pickF rfl rfl rfl); apply run_step rfl; (exact stp_move rfl rfl); apply run_gNo rfl rfl rfl rfl rfl; apply run_gNo rfl rfl rfl rfl rfl; apply run_gNo rfl rfl rfl rfl rfl; apply run_gNo rfl rfl rfl rfl rfl; apply run_gNo rfl rfl rfl rfl rfl; apply run_gNo rfl rfl rfl rfl rfl; apply run_gNo rfl rfl rfl rfl rfl; apply run_gNo rfl rfl rfl rfl rfl; apply run_gNo rfl rfl rfl rfl rfl; apply run_gNo rfl rfl rfl rfl rfl; apply run_gNo rfl rfl rfl rfl rfl; apply run_step rfl; (exact stp_pickF rfl rfl rfl); refine run_nil ?_; refine fin_seq ?_)
            refine goes_cond rfl (fun e => by cases e) (fun _ => ?_)
            (refine goes_skip ?_; refine fin_block ?_; refine fin_seq ?_; refine goes_region ?_; apply run_step rfl; (exact stp_add rfl rfl rfl (by first | exact IntWalk.i64_in _ (by omega) | rfl)); apply run_step rfl; (exact stp_move rfl rfl); refine run_nil ?_)
            exact fin_round (g + 1, (M, N, b)) ⟨hgn, hfo', hok'⟩ (by show ng - (g + 1) < ng - g; omega) (Wk.of ⟨rfl, rfl, rfl, rfl, rfl, trivial⟩ ⟨rfl, rfl, rfl, rfl, rfl, rfl, trivial⟩ trivial)
        · obtain rfl : g = ng := by omega
          have hfg : coset1 g rels c s0 = (M, N, b) := by rw [← hcos, ← hfo]
          (refine goes_exit ?_; refine fin_exit_then ?_; refine fin_exit_then ?_; refine fin_exit_eq ?_; refine fin_block ?_; refine fin_seq ?_; refine goes_region ?_; apply run_step rfl; (exact stp_move rfl rfl); apply run_step rfl; (exact stp_add rfl rfl rfl (by first | exact IntWalk.i64_in _ (by omega) | rfl)); apply run_step rfl; (exact stp_assign rfl rfl); refine run_nil ?_)
          exact fin_round (c + 1, (M, N, b)) ⟨by show outer g rels (2001 - (c + 1)) (c + 1) (M, N, b) = X; rw [show 2001 - (c + 1) = 2000 - c by omega, ← hfg]; exact houts, by show c + 1 ≤ N.length; omega, ⟨hok.ok.le (by omega), hok.full⟩⟩ (by show 2001 - (c + 1) < 2001 - c; omega) (Wk.of ⟨rfl, rfl, rfl, trivial⟩ ⟨rfl, rfl, rfl, rfl, rfl, rfl, trivial⟩ trivial)
    · have hXs : (M, N, b) = X := by
        rw [← hout]
        cases hk : 2001 - c with
        | zero => omega
        | succ f =>
          rw [outer, if_neg]
          rintro ⟨h1, h2⟩
          have h1 : c < N.length := h1
          have h2 : b = false := h2
          rw [decide_eq_true (show (c : Int) < N.length by omega), h2] at hc
          cases hc
      clear hout hc hS hcl
      (refine goes_exit ?_; refine fin_exit_then ?_; refine fin_exit_then ?_; refine fin_exit_eq ?_; refine fin_seq ?_; refine goes_seq ?_; refine goes_seq ?_; refine goes_region ?_; apply run_step rfl; (exact stp_move rfl rfl); apply run_step rfl; (exact stp_nilCheck rfl rfl rfl); apply run_step rfl; (exact stp_fieldAddr (d := 2) rfl rfl rfl (by as_aux_lemma => kernel_rfl)); apply run_step rfl; (exact stp_loadF rfl (by as_aux_lemma => kernel_rfl) rfl rfl rfl rfl); refine run_nil ?_; refine fin_seq ?_)
      refine goes_cond rfl (fun hb => ?_) (fun hb => ?_)
      · subst hb
        subst hXs
        (refine goes_seq ?_; refine goes_region ?_; apply run_step rfl; (exact stp_assign rfl rfl); apply run_step rfl; (exact stp_assign rfl rfl); refine run_nil ?_; refine fin_seq ?_; refine goes_ret ?_; refine fin_ret_then ?_)
        exact fin_ret2 (.inl rfl) rfl (.tmp rfl) (.tmp rfl) trivial trivial
      · subst hb
        have hsame : runC ng rels words = X := by
          rcases runI_same ng rels words with h | ⟨_, h⟩
          · exact h.trans hX
          · rw [hX, ← hXs] at h; cases h
        have hF := full_run hr hw (show (runC ng rels words).2.2 = false by rw [hsame, ← hXs])
        rw [hsame] at hF
        subst hXs
        clear hsame
        dsimp only at hF
        have hn0 := hF.pos
        have hts := tabStart_ok hF
        clear hX
        (refine goes_skip ?_; refine fin_seq ?_; refine goes_seq ?_; refine goes_region ?_; apply run_step rfl; (exact stp_lit1I (E := 2) rfl (by as_aux_lemma => kernel_rfl) rfl); apply run_step rfl; (exact stp_assign rfl rfl); refine run_nil ?_; refine fin_seq ?_; refine goes_seq ?_; refine goes_region ?_)
        refine run_makeMap (k := 2) (e := 2) rfl rfl rfl Try.underlying2 (by as_aux_lemma => kernel_rfl) fun b wB ωB hMB => ?_
        refine run_mapPut rfl (.inr rfl) rfl Try.underlying2 Try.underlying2 (by as_aux_lemma => kernel_rfl) hMB rfl rfl rfl (by decide) (by decide) (by omega) fun wB ωB hMB => ?_
        (apply run_step rfl; (exact stp_move rfl rfl); apply run_step rfl; (exact stp_assign rfl rfl); refine run_nil ?_; refine fin_seq ?_; refine goes_seq ?_; refine goes_region ?_; apply run_step rfl; (exact stp_fieldAddr (d := 0) rfl rfl rfl (by as_aux_lemma => kernel_rfl)); apply run_step rfl; (exact stp_loadF rfl (by as_aux_lemma => kernel_rfl) rfl rfl rfl rfl); apply run_step rfl; (exact stp_makeR (E := 49) (F := 2) rfl (by as_aux_lemma => kernel_rfl) (by as_aux_lemma => kernel_rfl) (by as_aux_lemma => kernel_rfl) rfl rfl rfl rfl (by omega)); apply run_step rfl; (exact stp_assign rfl rfl); refine run_nil ?_; refine fin_seq ?_; refine goes_seq ?_; refine goes_seq ?_; refine goes_region ?_; apply run_step rfl; (exact stp_assign rfl rfl); refine run_nil ?_; refine fin_seq ?_; refine goes_block ?_)
        have hf0 := fN_start hn0
        have htz := tabP_zero (ng := ng) (im := M) (less := N) (s := tabStart N.length)
        refine goes_loopB (fun q : Nat × NSt => St.of [(2, o1 (.ptr 2 0)), (6, o1 (.ptr 28 0)), (13, o1 (.sl 126 0 q.2.1.length)), (14, vv (.map (some b))), (15, o1 (.sl 131 0 ng)), (16, vv (I6 q.1))] [(28, cE N.length N.length false), (25, imOw M), (26, leOw N), (2, pE ng R), (126, leOw q.2.1), (131, imOw (tabP ng M N q.2 q.1 0))])
          (fun q wB ωB => q.1 ≤ q.2.1.length ∧ TOK N.length N q.2 ∧ SeenG ng M N q.2 q.1 0 ∧ tabLoop ng M N (N.length + 1 - q.1) q.1 q.2 = numbered ng M N ∧ MB Try.prog 2 2 w0 ω0.own b (fN q.2.2) q.2.1.length wB ωB) (fun q => N.length + 1 - q.1) (0, tabStart N.length) ⟨Nat.zero_le _, hts, SeenG.zero, rfl, by rw [← hf0]; exact hMB⟩ (Wk.of ⟨rfl, rfl, rfl, rfl, rfl, rfl, trivial⟩ ⟨rfl, rfl, rfl, rfl, rfl, by dsimp only; rw [htz]; rfl, trivial⟩ trivial) ?_
        clear hMB hf0 htz
        clear wB ωB
        rintro ⟨i, O, T⟩ wB ωB ⟨hi, htok, hseen, hnum, hMB⟩
        dsimp only at hi hnum hMB ⊢
        have hOl : O.length ≤ N.length := htok.le
        (refine goes_seq ?_; refine goes_seq ?_; refine goes_region ?_; apply run_step rfl; (exact stp_move rfl rfl); apply run_step rfl; (exact stp_move rfl rfl); apply run_step rfl; (exact stp_len rfl rfl rfl (by as_aux_lemma => kernel_rfl)); apply run_step rfl; (exact stp_bin rfl rfl rfl rfl); refine run_nil ?_; refine fin_seq ?_)
        refine goes_if rfl (fun hlt => ?_) (fun hlt => ?_)
        · have hlt' : i < O.length := by omega
          have hnum' : tabLoop ng M N (N.length - i) (i + 1) (tabRow ng M N i (O, T)) = numbered ng M N := by
            rw [← hnum, show N.length + 1 - i = (N.length - i) + 1 by omega]
            exact (tabLoop_step hlt').symm
          obtain ⟨s0, hs0⟩ : ∃ s0 : NSt, s0 = (O, T) := ⟨_, rfl⟩
          obtain ⟨d, hd1, hd2, hd3, -⟩ := htok.live i hlt'
          dsimp only at hd1
          have hrow : ∀ n, n ≤ ng → TOK N.length N ((List.range n).foldl (visitG M N i) s0) ∧ NGrow s0 ((List.range n).foldl (visitG M N i) s0) := fun n hn =>
            have := tabRow_ok hF (i := i) (s := s0) (by rw [hs0]; exact htok) (by rw [hs0]; exact hlt') n hn
            ⟨this.1, this.2.1⟩
          have hfin : tabLoop ng M N (N.length - i) (i + 1) ((List.range ng).foldl (visitG M N i) s0) = numbered ng M N := by rw [hs0]; exact hnum'
          have hO0 : s0.1.length = O.length := by rw [hs0]
          have hd0 : iget s0.1 i = (d : Int) := by rw [hs0]; exact hd1
          (refine goes_skip ?_; refine fin_seq ?_; refine goes_seq ?_; refine goes_block ?_; refine goes_seq ?_; refine goes_region ?_; apply run_step rfl; (exact stp_fieldAddr (d := 0) rfl rfl rfl (by as_aux_lemma => kernel_rfl)); apply run_step rfl; (exact stp_loadF rfl (by as_aux_lemma => kernel_rfl) rfl rfl rfl rfl); apply run_step rfl; (exact stp_move rfl rfl); refine run_nil ?_; refine fin_seq ?_; refine goes_block ?_)
          refine goes_loopB (fun q : Nat × NSt => St.of [(2, o1 (.ptr 2 0)), (6, o1 (.ptr 28 0)), (13, o1 (.sl 126 0 q.2.1.length)), (14, vv (.map (some b))), (15, o1 (.sl 131 0 ng)), (16, vv (I6 i)), (139, vv (I6 ng)), (140, vv (I6 q.1))] [(28, cE N.length N.length false), (25, imOw M), (26, leOw N), (2, pE ng R), (126, leOw q.2.1), (131, imOw (tabP ng M N q.2 i q.1))])
            (fun q wB ωB => q.1 ≤ ng ∧ (List.range q.1).foldl (visitG M N i) s0 = q.2 ∧ SeenG ng M N q.2 i q.1 ∧ MB Try.prog 2 2 w0 ω0.own b (fN q.2.2) q.2.1.length wB ωB) (fun q => ng - q.1) (0, (O, T)) ⟨Nat.zero_le _, hs0, hseen, hMB⟩ (Wk.of ⟨rfl, rfl, rfl, rfl, rfl, rfl, rfl, rfl, trivial⟩ ⟨rfl, rfl, rfl, rfl, rfl, rfl, trivial⟩ trivial) ?_
          clear hnum hnum' htok hs0 hd1 hMB hseen
          generalize O.length = on at *
          clear wB ωB
          rintro ⟨g, O, T⟩ wB ωB ⟨hg, hfo, hseen, hMB⟩
          dsimp only at hg hfo hMB ⊢
          obtain ⟨tok, grw⟩ := hrow g hg
          rw [hfo] at tok grw
          have hiO : i < O.length := Nat.lt_of_lt_of_le (by omega) grw.len
          have hOl' : O.length ≤ N.length := tok.le
          have hTl : T.length = N.length := tok.len
          have hdO : iget O i = (d : Int) := (grw.pre i (by omega)).trans hd0
          have hget : (ivals O)[i]? = some (I6 (d : Int)) := by rw [ivals_get hiO, hdO]
          (refine goes_seq ?_; refine goes_region ?_; apply run_step rfl; (exact stp_bin rfl rfl rfl rfl); refine run_nil ?_; refine fin_seq ?_; refine goes_seq ?_)
          refine goes_if rfl (fun h2 => ?_) (fun h2 => ?_)
          · have hgn : g < ng := by omega
            obtain ⟨e, he1, he2, _⟩ := hF.image hd2 hd3 hgn
            have hI : FC Try.prog 195 [(28, ⟨false, 179, 3, .flat [.sl 25 0 N.length, .sl 26 0 N.length, .val (.bool false)]⟩), (25, imRo M), (26, leRo N)] [o1 (.ptr 28 0), vv (I6 d), vv (I6 g)] [] (vv (I6 e)) [] := by
              have := (iImage_fc M N N.length N.length d g false hMN rfl hF.wf.down (by omega) (by rw [hF.wf.row d (by omega)]; exact hgn) (hF.wf.ent d g (by omega) hgn)).nm [(1010, 28), (1000, 25), (1001, 26)] (by kernel_rfl)
              rw [he1] at this
              exact this
            have hSz := sizeV_fc 126 O.length
            obtain ⟨V, hV⟩ : ∃ V : NSt, visit (O, T) e = V := ⟨_, rfl⟩
            have hst : (List.range (g + 1)).foldl (visitG M N i) s0 = V := by
              rw [List.range_succ, List.foldl_append, hfo, ← hV]
              show visit (O, T) (image M N (iget O i).toNat g).toNat = _
              rw [hdO, Int.toNat_natCast, he1, Int.toNat_natCast]
            have hseen' : SeenG ng M N V i (g + 1) := by rw [← hV]; exact hseen.visit tok hiO hdO he1 he2
            have hgr : tabP ng M N (O, T) i g = tabP ng M N V i g := by rw [← hV]; exact tabP_grow (visit_grow _ _) hseen
            have htc : tabC M N V g i = iget V.2 e := by rw [← hV]; exact tabC_visit hiO hdO he1
            have hset := tabP_set (im := M) (less := N) (s := V) (i := i) hgn
            rw [htc] at hset
            have hfs := fN_some (M := T) (e := e) (by omega)
            have hwe : (Lit.int .i64 (e : Int)).wf = true := wf_small (by omega) (by omega)
            (refine goes_skip ?_; refine fin_seq ?_; refine goes_seq ?_; refine goes_block ?_; refine goes_seq ?_; refine goes_region ?_; apply run_step rfl; (exact stp_move rfl rfl); apply run_step rfl; (exact stp_assign rfl rfl); refine run_nil ?_; refine fin_seq ?_; refine goes_seq ?_; refine goes_region ?_; apply run_step rfl; (exact stp_move rfl rfl); apply run_step rfl; (exact stp_move rfl rfl); apply run_step rfl; (exact stp_move rfl rfl); apply run_step rfl; (exact stp_ix rfl rfl rfl rfl rfl (by as_aux_lemma => kernel_rfl) (by first | rfl | exact (Int.toNat_of_nonneg (by omega)).symm) (by first | assumption | omega | (simp; omega)) (by first | exact Nat.le_refl _ | exact Nat.le_of_eq (ivals_len _).symm | exact Nat.le_of_eq (irows_len _).symm | (refine Nat.le_trans ?_ (Nat.le_of_eq (ivals_len _).symm); (first | omega | (simp; done) | (simp; omega))) | (refine Nat.le_trans ?_ (Nat.le_of_eq (irows_len _).symm); (first | omega | (simp; done) | (simp; omega))))); apply run_step rfl; (exact stp_loadV rfl (by as_aux_lemma => kernel_rfl) rfl rfl rfl (by first | assumption | exact ivals_get (by assumption) | exact irows_get (by assumption) | exact ivals_get (by omega) | exact irows_get (by omega) | rfl)); apply run_step rfl; (exact stp_move rfl rfl); apply run_step rfl; (apply call_gate 195; exact stp_callR hI (by as_aux_lemma => kernel_rfl) rfl rfl ⟨rfl, rfl, rfl, trivial⟩ ⟨⟨_, rfl, .inr rfl⟩, ⟨_, rfl, .inr rfl⟩, ⟨_, rfl, .inr rfl⟩, trivial⟩ rfl rfl); apply run_step rfl; (exact stp_assign rfl rfl); refine run_nil ?_; refine fin_seq ?_; refine goes_seq ?_; refine goes_region ?_; apply run_step rfl; (exact stp_move rfl rfl); apply run_step rfl; (exact stp_move rfl rfl))
            refine run_lookup (t := 153) rfl rfl rfl rfl Try.underlying2 Try.underlying2 (by as_aux_lemma => kernel_rfl) (by as_aux_lemma => kernel_rfl) hMB rfl rfl hwe ?_
            (apply run_step rfl; (exact stp_move rfl rfl); apply run_step rfl; (exact stp_extract rfl rfl rfl); apply run_step rfl; (exact stp_extract rfl rfl rfl); apply run_step rfl; (exact stp_assign rfl rfl); apply run_step rfl; (exact stp_assign rfl rfl); refine run_nil ?_; refine fin_seq ?_; refine goes_seq ?_; refine goes_seq ?_; refine goes_region ?_; apply run_step rfl; (exact stp_move rfl rfl); apply run_step rfl; (exact stp_not rfl rfl); refine run_nil ?_; refine fin_seq ?_)
            refine goes_joinB (St.of [(2, o1 (.ptr 2 0)), (6, o1 (.ptr 28 0)), (13, o1 (.sl 126 0 V.1.length)), (14, vv (.map (some b))), (15, o1 (.sl 131 0 ng)), (16, vv (I6 i)), (17, vv (I6 g)), (19, vv (I6 (iget V.2 e))), (139, vv (I6 ng)), (140, vv (I6 g))] [(28, cE N.length N.length false), (25, imOw M), (26, leOw N), (2, pE ng R), (126, leOw V.1), (131, imOw (tabP ng M N V i g))])
              (fun wB ωB => MB Try.prog 2 2 w0 ω0.own b (fN V.2) V.1.length wB ωB) rfl (fun hc => ?_) (fun hc => ?_) ?_
            · have hneg : iget T e < 0 := by
                rw [hfs.1] at hc; simp at hc; omega
              obtain rfl : V = (O ++ [(e : Int)], T.set e (O.length : Int)) := by rw [← hV]; exact if_pos hneg
              have hnum0 : iget (T.set e (O.length : Int)) e = (O.length : Int) := by rw [iget_set, if_pos ⟨rfl, by omega⟩]
              have hfset := fN_set (M := T) (e := e) (v := (O.length : Int)) (by omega) (by omega)
              (refine goes_seq ?_; refine goes_region ?_; apply run_step rfl; (exact stp_move rfl rfl); apply run_step rfl; (apply call_gate 139; exact stp_callR hSz (by as_aux_lemma => kernel_rfl) rfl rfl ⟨rfl, trivial⟩ trivial rfl rfl); apply run_step rfl; (exact stp_assign rfl rfl); refine run_nil ?_; refine fin_seq ?_; refine goes_seq ?_; refine goes_region ?_; apply run_step rfl; (exact stp_move rfl rfl); apply run_step rfl; (exact stp_move rfl rfl); apply run_step rfl; (exact stp_move rfl rfl))
              refine run_mapPut rfl (.inl rfl) rfl Try.underlying2 Try.underlying2 (by as_aux_lemma => kernel_rfl) hMB rfl rfl rfl hwe (wf_small (by omega) (by omega)) (by omega) fun wB ωB hMB => ?_
              (refine run_nil ?_; refine fin_seq ?_; refine goes_region ?_; apply run_step rfl; (exact stp_move rfl rfl); apply run_step rfl; (exact stp_move rfl rfl); apply run_step rfl; (exact stp_lit1I (E := 2) rfl (by as_aux_lemma => kernel_rfl) rfl); apply run_step rfl; (exact stp_appI rfl (by as_aux_lemma => kernel_rfl) rfl rfl rfl (by first | rfl | assumption | (simp; done)) rfl rfl (by omega)); apply run_step rfl; (exact stp_assign rfl rfl); refine run_nil ?_)
              exact fin_joinB (by dsimp only; rw [← hfset, List.length_append]; exact hMB) (Wk.of ⟨rfl, rfl, by simp; rfl, rfl, rfl, rfl, rfl, by rw [hnum0]; rfl, rfl, rfl, trivial⟩ ⟨rfl, rfl, rfl, rfl, rfl, by rw [← hgr]; rfl, trivial⟩ trivial)
            · have hneg : 0 ≤ iget T e := by
                rw [hfs.1] at hc; simpa using hc
              obtain rfl : V = (O, T) := by rw [← hV]; exact if_neg (by show ¬ iget T e < 0; omega)
              (refine goes_skip ?_)
              exact fin_joinB hMB (Wk.of ⟨rfl, rfl, rfl, rfl, rfl, rfl, rfl, by rw [← hfs.2 hneg]; rfl, rfl, rfl, trivial⟩ ⟨rfl, rfl, rfl, rfl, rfl, rfl, trivial⟩ trivial)
            clear hMB
            clear wB ωB
            intro wB ωB hMB
            have hrw0 : lget (tabP ng M N V i g) g = (List.range i).map (tabC M N V g) := tabP_row hgn
            have htl : (tabP ng M N V i g).length = ng := tabP_len
            obtain ⟨row, hrow1⟩ : ∃ row, (List.range i).map (tabC M N V g) = row := ⟨_, rfl⟩
            have hrl1 : row.length = i := by rw [← hrow1]; simp
            rw [hrow1] at hrw0 hset
            have hset2 : (irows (tabP ng M N V i g)).set g (ivals (row ++ [iget V.2 e])) = irows (tabP ng M N V i (g + 1)) := by rw [irows_set, hset]
            have hrg : (irows (tabP ng M N V i g))[g]? = some (ivals row) := by rw [irows_get (by omega), hrw0]
            (refine fin_seq ?_; refine goes_region ?_; apply run_step rfl; (exact stp_move rfl rfl); apply run_step rfl; (exact stp_move rfl rfl); apply run_step rfl; (exact stp_move rfl rfl); apply run_step rfl; (exact stp_move rfl rfl); apply run_step rfl; (exact stp_ix rfl rfl rfl rfl rfl (by as_aux_lemma => kernel_rfl) (by first | rfl | exact (Int.toNat_of_nonneg (by omega)).symm) (by first | assumption | omega | (simp; omega)) (by first | exact Nat.le_refl _ | exact Nat.le_of_eq (ivals_len _).symm | exact Nat.le_of_eq (irows_len _).symm | (refine Nat.le_trans ?_ (Nat.le_of_eq (ivals_len _).symm); (first | omega | (simp; done) | (simp; omega))) | (refine Nat.le_trans ?_ (Nat.le_of_eq (irows_len _).symm); (first | omega | (simp; done) | (simp; omega))))); apply run_step rfl; (exact stp_loadR rfl (by as_aux_lemma => kernel_rfl) rfl rfl rfl (by first | assumption | exact ivals_get (by assumption) | exact irows_get (by assumption) | exact ivals_get (by omega) | exact irows_get (by omega) | rfl) (by first | exact ivals_len _ | assumption | rfl)); apply run_step rfl; (exact stp_move rfl rfl); apply run_step rfl; (exact stp_lit1I (E := 2) rfl (by as_aux_lemma => kernel_rfl) rfl))
            refine run_wk (wk_takeRow (n := 131) (z := 172) (s := 172) rfl rfl hrg (ivals_len row) rfl) ?_
            (apply run_step rfl; (exact stp_appI rfl (by as_aux_lemma => kernel_rfl) rfl rfl rfl (by first | rfl | assumption | (simp; done)) rfl rfl (by omega)); apply run_step rfl; (exact stp_ix rfl rfl rfl rfl rfl (by as_aux_lemma => kernel_rfl) (by first | rfl | exact (Int.toNat_of_nonneg (by omega)).symm) (by first | assumption | omega | (simp; omega)) (by first | exact Nat.le_refl _ | exact Nat.le_of_eq (ivals_len _).symm | exact Nat.le_of_eq (irows_len _).symm | (refine Nat.le_trans ?_ (Nat.le_of_eq (ivals_len _).symm); (first | omega | (simp; done) | (simp; omega))) | (refine Nat.le_trans ?_ (Nat.le_of_eq (irows_len _).symm); (first | omega | (simp; done) | (simp; omega))))); apply run_step rfl; (exact stp_storeRow (n := 131) (z := 172) (i := g) rfl rfl (by simp) rfl rfl (by rw [ivals_len]; simp) rfl (by rw [irows_len]; omega) (by as_aux_lemma => kernel_rfl)); refine run_nil ?_; refine fin_block ?_; refine fin_seq ?_; refine goes_region ?_; apply run_step rfl; (exact stp_add rfl rfl rfl (by first | exact IntWalk.i64_in _ (by omega) | rfl)); apply run_step rfl; (exact stp_move rfl rfl); refine run_nil ?_)
            exact fin_roundB (g + 1, V) ⟨hgn, hst, hseen', hMB⟩ (by show ng - (g + 1) < ng - g; omega) (Wk.of ⟨rfl, rfl, rfl, rfl, rfl, rfl, rfl, rfl, trivial⟩ ⟨rfl, rfl, rfl, rfl, rfl, congrArg (fun l => some (⟨true, 49, 1, .rows 2 l []⟩ : Ch)) hset2, trivial⟩ trivial)
          · obtain rfl : g = ng := by omega
            (refine goes_exit ?_; refine fin_exit_then ?_; refine fin_exit_then ?_; refine fin_exit_eq ?_; refine fin_block ?_; refine fin_seq ?_; refine goes_region ?_; apply run_step rfl; (exact stp_move rfl rfl); apply run_step rfl; (exact stp_add rfl rfl rfl (by first | exact IntWalk.i64_in _ (by omega) | rfl)); apply run_step rfl; (exact stp_assign rfl rfl); refine run_nil ?_)
            exact fin_roundB (i + 1, (O, T)) ⟨hiO, tok, hseen.next, by rw [← hfin, hfo]; show tabLoop _ _ _ (N.length + 1 - (i + 1)) _ _ = _; rw [show N.length + 1 - (i + 1) = N.length - i by omega], hMB⟩ (by show N.length + 1 - (i + 1) < N.length + 1 - i; omega) (Wk.of ⟨rfl, rfl, rfl, rfl, rfl, rfl, trivial⟩ ⟨rfl, rfl, rfl, rfl, rfl, by dsimp only; rw [← tabP_next]; rfl, trivial⟩ trivial)
        · have hio : i = O.length := by omega
          have hOM : numbered ng M N = (O, T) := by
            rw [← hnum, show N.length + 1 - i = (N.length - i) + 1 by omega, tabLoop, if_neg (by show ¬ i < O.length; omega)]
          have htd := tabP_done hOM
          subst hio
          rw [htd]
          (refine goes_exit ?_; refine fin_exit_then ?_; refine fin_exit_then ?_; refine fin_exit_eq ?_; refine fin_seq ?_; refine goes_seq ?_; refine goes_region ?_; apply run_step rfl; (exact stp_move rfl rfl); apply run_step rfl; (exact stp_assign rfl rfl); apply run_step rfl; (exact stp_assign rfl rfl); refine run_nil ?_; refine fin_seq ?_; refine goes_ret ?_)
          refine fin_base hMB.fr ?_
          exact fin_ret2 (.inl rfl) rfl (.tmp rfl) (.tmp rfl) ⟨rfl, trivial⟩ trivial
end Go.Proofs.Ytpognnifgcacnaa

/- within and its twin in the reference; slices.IndexFunc and slices.ContainsFunc at []int64, over any predicate that only reads or makes memory. -/
namespace Go.Proofs.Ytpognnifgcacnaa
open Go.RowKit

/-- n lies between lo and hi -/
def inB (n lo hi : Int) : Bool := decide (lo ≤ n) && decide (n ≤ hi)
theorem inB_true {n lo hi : Int} : inB n lo hi = true ↔ lo ≤ n ∧ n ≤ hi := by simp [inB]
theorem within_any (n lo hi : Int) (w : World) : Calls Try.prog 97 #[.int .i64 n, .int .i64 lo, .int .i64 hi] w fun e w' => e = .returned (.bool (inB n lo hi)) ∧ w' = w := by
  by_cases h : lo ≤ n
  · have h1 : decide (lo ≤ n) = true := by simpa using h
    go_enter Try.func97, Try.ntmps97
    go_wp2
    go_ret
    exact ⟨ret_bool (by simp [inB, h]), rfl⟩
  · have h1 : decide (lo ≤ n) = false := by simpa using h
    have h2 : inB n lo hi = false := by simp [inB, h1]
    have H2 := Lib.hid h2
    clear h2
    go_enter Try.func97, Try.ntmps97
    go_wp2
    go_ret
    exact ⟨ret_bool H2.out.symm, rfl⟩

theorem specIn_any (n lo hi : Int) (w : World) : Calls Try.prog 95 #[.int .i64 n, .int .i64 lo, .int .i64 hi] w fun e w' => e = .returned (.bool (inB n lo hi)) ∧ w' = w := by
  by_cases h : lo ≤ n
  · have h1 : decide (lo ≤ n) = true := by simpa using h
    go_enter Try.func95, Try.ntmps95
    go_wp2
    go_ret
    exact ⟨ret_bool (by simp [inB, h]), rfl⟩
  · have h1 : decide (lo ≤ n) = false := by simpa using h
    have h2 : inB n lo hi = false := by simp [inB, h1]
    have H2 := Lib.hid h2
    clear h2
    go_enter Try.func95, Try.ntmps95
    go_wp2
    go_ret
    exact ⟨ret_bool H2.out.symm, rfl⟩

/-- the first index at which p holds, or -1 -/
def findI (p : Int → Bool) (zs : List Int) : Int := match zs.findIdx? p with | some i => i | none => -1
theorem findI_none {p : Int → Bool} {zs : List Int} (h : zs.any p = false) : findI p zs = -1 := by
  have : zs.findIdx? p = none := by rw [List.findIdx?_eq_none_iff]; intro x hx; have := (List.any_eq_false.1 h) x hx; simpa using this
  simp [findI, this]
theorem findI_some {p : Int → Bool} {zs : List Int} {k : Nat} (hk : k < zs.length) (hn : (zs.take k).any p = false) (hp : p (iget zs k) = true) : findI p zs = k := by
  have : zs.findIdx? p = some k := by
    rw [List.findIdx?_eq_some_iff_getElem]
    refine ⟨hk, by rw [← iget_lt hk]; exact hp, fun j hj => ?_⟩
    have hx : zs[j]'(by omega) ∈ zs.take k := by rw [List.mem_take_iff_getElem]; exact ⟨j, by omega, rfl⟩
    have := (List.any_eq_false.1 hn) _ hx
    simpa using this
  simp [findI, this]
theorem findI_any (p : Int → Bool) (zs : List Int) : decide (0 ≤ findI p zs) = zs.any p := by
  cases h : zs.any p with
  | false => rw [findI_none h]; rfl
  | true =>
    rw [decide_eq_true_iff]
    unfold findI
    cases h2 : zs.findIdx? p with
    | some i => exact Int.natCast_nonneg i
    | none =>
      rw [List.findIdx?_eq_none_iff] at h2
      obtain ⟨x, hx, hp⟩ := List.any_eq_true.1 h
      have := h2 x hx
      simp [hp] at this

set_option maxHeartbeats 400000 in
theorem indexFunc_any (fn : Nat) (cap : Array Value) (p : Int → Bool) (ao : Option Addr) (n c : Nat) (zs : List Int) (w : World) (h : Ints w ao n zs)
    (hcf : ∀ (args : Array Value) (w : World), (callFunc fn args).run Try.prog w = .ok (.enter fn args) w)
    (hf : ∀ j, j < n → ∀ w', Below w.heap.size w w' → Calls Try.prog fn (#[.int .i64 (iget zs j)] ++ cap) w' fun e w'' => e = .returned (.bool (p (iget zs j))) ∧ Below w'.heap.size w' w'') :
    Calls Try.prog 213 #[.slice ao n c, .func (.func fn) #[] cap] w fun e w' => e = .returned (.int .i64 (findI p zs)) ∧ Below w.heap.size w w' := by
  have hn := h.2.1
  have HF := Lib.hid hf
  clear hf
  go_enter Try.func213, Try.ntmps213
  go_wp2
  go_loopw [8] (fun i wr => ∃ k : Nat, k ≤ n ∧ i = .int .i64 k ∧ (zs.take k).any p = false ∧ Below w.heap.size w wr) (fun i _ => n - (intOf i).toNat)
  case atStart => exact ⟨0, Nat.zero_le _, rfl, by simp, Below.refl _ _⟩
  case round =>
    obtain ⟨k, hk, rfl, hpre, hb⟩ := hrel
    have HP := Lib.hid hpre
    clear hpre
    by_cases hlt : k < n
    · obtain ⟨b, off, rfl, hc⟩ := (h.below hb).at_ hlt
      have HH := Lib.hid h
      clear h
      cases hp : p (iget zs k) with
      | true =>
        have HX := Lib.hid hp
        clear hp
        go_wp2_with fail
        refine (HF.out k hlt _ hb).mono ?_
        rintro e w1 ⟨rfl, hb1⟩
        rw [HX.out]
        go_wp2
        go_ret
        exact ⟨ret_int (findI_some (by rw [HH.out.1]; exact hlt) HP.out HX.out).symm, hb.trans (hb1.mono hb.size)⟩
      | false =>
        have HX := Lib.hid hp
        clear hp
        go_wp2_with fail
        refine (HF.out k hlt _ hb).mono ?_
        rintro e w1 ⟨rfl, hb1⟩
        rw [HX.out]
        go_wp2
        go_roundw
        case rel => exact ⟨k + 1, by omega, by go_num, by rw [any_take_iget (by rw [HH.out.1]; exact hlt), HP.out, HX.out]; rfl, hb.trans (hb1.mono hb.size)⟩
        case measure => simp [intOf]; omega
    · obtain rfl : k = n := by omega
      have hl := h.1
      have HL := Lib.hid hl
      clear hl
      go_wp2
      go_ret
      exact ⟨ret_int (findI_none (by have := HP.out; rwa [List.take_of_length_le (Nat.le_of_eq HL.out)] at this)).symm, hb⟩

theorem containsFunc_any (fn : Nat) (cap : Array Value) (p : Int → Bool) (ao : Option Addr) (n c : Nat) (zs : List Int) (w : World) (h : Ints w ao n zs)
    (hcf : ∀ (args : Array Value) (w : World), (callFunc fn args).run Try.prog w = .ok (.enter fn args) w)
    (hf : ∀ j, j < n → ∀ w', Below w.heap.size w w' → Calls Try.prog fn (#[.int .i64 (iget zs j)] ++ cap) w' fun e w'' => e = .returned (.bool (p (iget zs j))) ∧ Below w'.heap.size w' w'') :
    Calls Try.prog 178 #[.slice ao n c, .func (.func fn) #[] cap] w fun e w' => e = .returned (.bool (zs.any p)) ∧ Below w.heap.size w w' := by
  have HF := Lib.hid hf
  clear hf
  go_enter Try.func178, Try.ntmps178
  go_wp2_with fail
  refine (indexFunc_any fn cap p ao n c zs w h hcf HF.out).mono ?_
  rintro e w1 ⟨rfl, hb1⟩
  go_wp2
  go_ret
  exact ⟨ret_bool (findI_any p zs), hb1⟩
end Go.Proofs.Ytpognnifgcacnaa

/- IsPresentation: words, presentations, the program's and the reference's. -/
namespace Go.Proofs.Ytpognnifgcacnaa
open Go.RowKit

/-- a word with letters 0 to hi: at most 64 of them -/
def isWordTo (hi : Int) (zs : List Int) : Bool := decide (zs.length ≤ 64) && zs.all (fun z => inB z 0 hi)
/-- a presentation -/
def isPres (d : PresD) : Bool := inB d.1 1 5 && decide (d.2.length ≤ 24) && d.2.all (fun zs => isWordTo (d.1 - 1) zs && decide (1 ≤ zs.length))

set_option maxHeartbeats 400000 in
theorem spec11Word_any (g : Int) (ao : Option Addr) (n c : Nat) (zs : List Int) (w : World) (h : Ints w ao n zs) (hg0 : 0 ≤ g) (hg1 : g ≤ 1000) :
    Calls Try.prog 191 #[.int .i64 g, .slice ao n c] w fun e w' => e = .returned (.bool (isWordTo (g - 1) zs)) ∧ w' = w := by
  have hn := h.2.1
  have hl := h.1
  have HL := Lib.hid hl
  clear hl
  go_enter Try.func191, Try.ntmps191
  go_wp2
  go_loop [5] (fun i => ∃ k : Nat, k ≤ n ∧ i = .int .i64 k ∧ (zs.take k).all (fun z => inB z 0 (g - 1)) = true) (fun i => n - (intOf i).toNat)
  case atStart => exact ⟨0, Nat.zero_le _, rfl, by simp⟩
  case round =>
    obtain ⟨k, hk, rfl, hpre⟩ := hrel
    have HP := Lib.hid hpre
    clear hpre
    by_cases hlt : k < n
    · obtain ⟨b, off, rfl, hc⟩ := h.at_ hlt
      have HH := Lib.hid h
      clear h
      cases hp : inB (iget zs k) 0 (g - 1) with
      | true =>
        have HX := Lib.hid hp
        clear hp
        go_wp2_with (go_at_call 95; refine (specIn_any _ _ _ _).mono ?_; rintro e w' ⟨rfl, rfl⟩; rw [HX.out])
        go_round
        case rel => exact ⟨k + 1, by omega, by go_num, by rw [all_take_iget (by rw [HL.out]; exact hlt), HP.out, HX.out]; rfl⟩
        case measure => simp [intOf]; omega
      | false =>
        have HX := Lib.hid hp
        clear hp
        go_wp2_with (go_at_call 95; refine (specIn_any _ _ _ _).mono ?_; rintro e w' ⟨rfl, rfl⟩; rw [HX.out])
        go_ret
        exact ⟨ret_bool (by unfold isWordTo; rw [all_false_at (by rw [HL.out]; exact hlt) HX.out]; simp), rfl⟩
    · obtain rfl : k = n := by omega
      go_wp2
      go_ret
      exact ⟨ret_bool (by have := HP.out; rw [List.take_of_length_le (Nat.le_of_eq HL.out)] at this; unfold isWordTo; rw [this, HL.out]; simp; omega), rfl⟩

theorem all_take_lget {zss : List (List Int)} {p : List Int → Bool} {k : Nat} (h : k < zss.length) : (zss.take (k + 1)).all p = ((zss.take k).all p && p (lget zss k)) := by
  rw [take_lget h, List.all_append]; simp
theorem any_take_lget {zss : List (List Int)} {p : List Int → Bool} {k : Nat} (h : k < zss.length) : (zss.take (k + 1)).any p = ((zss.take k).any p || p (lget zss k)) := by
  rw [take_lget h, List.any_append]; simp
theorem all_false_lget {zss : List (List Int)} {p : List Int → Bool} {k : Nat} (h : k < zss.length) (hp : p (lget zss k) = false) : zss.all p = false := by
  rw [List.all_eq_false]; exact ⟨_, lget_mem h, by simp [hp]⟩

/-- words with letters below g, each of at least a number of letters, at most 24 -/
def wordsTo (g : Int) (least : Nat) (zss : List (List Int)) : Bool := decide (zss.length ≤ 24) && zss.all (fun zs => isWordTo (g - 1) zs && decide (least ≤ zs.length))

set_option maxHeartbeats 800000 in
theorem spec11Words_any (g : Int) (least : Nat) (ao : Option Addr) (n c : Nat) (zss : List (List Int)) (w : World) (h : Intss w ao n zss) (hg0 : 0 ≤ g) (hg1 : g ≤ 1000) :
    Calls Try.prog 196 #[.int .i64 g, .slice ao n c, .int .i64 (least : Int)] w fun e w' => e = .returned (.bool (wordsTo g least zss)) ∧ w' = w := by
  have hn := h.2.1
  have hl := h.1
  have HL := Lib.hid hl
  clear hl
  go_enter Try.func196, Try.ntmps196
  go_wp2
  go_loop [7] (fun i => ∃ k : Nat, k ≤ n ∧ i = .int .i64 k ∧ (zss.take k).all (fun zs => isWordTo (g - 1) zs && decide (least ≤ zs.length)) = true) (fun i => n - (intOf i).toNat)
  case atStart => exact ⟨0, Nat.zero_le _, rfl, by simp⟩
  case round =>
    obtain ⟨k, hk, rfl, hpre⟩ := hrel
    have HP := Lib.hid hpre
    clear hpre
    by_cases hlt : k < n
    · obtain ⟨b, off, a1, n1, c1, rfl, hc, hin⟩ := h.at_ hlt
      have hn1 := hin.2.1
      have HN := Lib.hid hin.1
      have HH := Lib.hid h
      clear h
      cases hp : isWordTo (g - 1) (lget zss k) with
      | true =>
        have HX := Lib.hid hp
        clear hp
        by_cases hz : least ≤ n1
        · have hd : decide ((n1 : Int) < least) = false := by simp; omega
          go_wp2_with (go_at_call 191; refine (spec11Word_any g a1 n1 c1 _ _ hin hg0 hg1).mono ?_; rintro e w' ⟨rfl, rfl⟩; rw [HX.out])
          go_round
          case rel => exact ⟨k + 1, by omega, by go_num, by rw [all_take_lget (by rw [HL.out]; exact hlt), HP.out, HX.out, HN.out]; simp [hz]⟩
          case measure => simp [intOf]; omega
        · have hd : decide ((n1 : Int) < least) = true := by simp; omega
          go_wp2_with (go_at_call 191; refine (spec11Word_any g a1 n1 c1 _ _ hin hg0 hg1).mono ?_; rintro e w' ⟨rfl, rfl⟩; rw [HX.out])
          go_ret
          exact ⟨ret_bool (by unfold wordsTo; rw [all_false_lget (k := k) (by rw [HL.out]; exact hlt) (by rw [HX.out, HN.out]; simp; omega)]; simp), rfl⟩
      | false =>
        have HX := Lib.hid hp
        clear hp
        go_wp2_with (go_at_call 191; refine (spec11Word_any g a1 n1 c1 _ _ hin hg0 hg1).mono ?_; rintro e w' ⟨rfl, rfl⟩; rw [HX.out])
        go_ret
        exact ⟨ret_bool (by unfold wordsTo; rw [all_false_lget (k := k) (by rw [HL.out]; exact hlt) (by rw [HX.out]; rfl)]; simp), rfl⟩
    · obtain rfl : k = n := by omega
      go_wp2
      go_ret
      exact ⟨ret_bool (by have := HP.out; rw [List.take_of_length_le (Nat.le_of_eq HL.out)] at this; unfold wordsTo; rw [this, HL.out]; simp; omega), rfl⟩

theorem isPres_out {d : PresD} (h : inB d.1 1 5 = false) : isPres d = false := by unfold isPres; rw [h]; rfl
theorem isPres_in {d : PresD} (h : inB d.1 1 5 = true) : isPres d = wordsTo d.1 1 d.2 := by unfold isPres wordsTo; rw [h]; simp

set_option maxHeartbeats 400000 in
theorem spec11Is_any {v : Value} {d : PresD} (w : World) (h : RdP w v d) :
    Calls Try.prog 143 #[v] w fun e w' => e = .returned (.bool (isPres d)) ∧ Below w.heap.size w w' := by
  obtain ⟨ao, n, c, rfl, hi⟩ := h
  have hb := below_alloc1 w (.cells #[.int .i64 d.1, .slice ao n c] 72)
  cases hg : inB d.1 1 5 with
  | true =>
    have HX := Lib.hid hg
    have hg' := inB_true.1 hg
    clear hg
    go_enter Try.func143, Try.ntmps143
    go_wp2_with (go_at_call 95; refine (specIn_any _ _ _ _).mono ?_; rintro e w' ⟨rfl, rfl⟩; rw [HX.out])
    refine (spec11Words_any d.1 1 ao n c d.2 _ (hi.below hb) (by omega) (by omega)).mono ?_
    rintro e w1 ⟨rfl, rfl⟩
    go_wp2
    go_ret
    exact ⟨ret_bool (isPres_in HX.out).symm, hb⟩
  | false =>
    have HX := Lib.hid hg
    clear hg
    go_enter Try.func143, Try.ntmps143
    go_wp2_with (go_at_call 95; refine (specIn_any _ _ _ _).mono ?_; rintro e w' ⟨rfl, rfl⟩; rw [HX.out])
    go_ret
    exact ⟨ret_bool (isPres_out HX.out).symm, hb⟩
end Go.Proofs.Ytpognnifgcacnaa

/- isPresentation, the program's: areWithin, isLetters, slices.ContainsFunc at [][]int64. -/
namespace Go.Proofs.Ytpognnifgcacnaa
open Go.RowKit

theorem areWithinFn_any (z lo hi : Int) (b1 b2 : Nat) (w : World) (h1 : w.cell? ⟨b1, 0, none⟩ = some (.int .i64 lo)) (h2 : w.cell? ⟨b2, 0, none⟩ = some (.int .i64 hi)) :
    Calls Try.prog 216 #[.int .i64 z, .pointer (some ⟨b1, 0, none⟩), .pointer (some ⟨b2, 0, none⟩)] w fun e w' => e = .returned (.bool (!inB z lo hi)) ∧ w' = w := by
  go_enter Try.func216, Try.ntmps216
  go_wp2_with (go_at_call 97; refine (within_any _ _ _ _).mono ?_; rintro e w' ⟨rfl, rfl⟩)
  go_ret
  exact ⟨rfl, rfl⟩

set_option maxHeartbeats 400000 in
set_option maxRecDepth 100000 in
theorem areWithin_any (ao : Option Addr) (n c : Nat) (zs : List Int) (lo hi : Int) (w : World) (h : Ints w ao n zs) :
    Calls Try.prog 188 #[.slice ao n c, .int .i64 lo, .int .i64 hi] w fun e w' => e = .returned (.bool (zs.all (fun z => inB z lo hi))) ∧ Below w.heap.size w w' := by
  have hmf : ∀ (fn : Fn) (first cap : Array Value) (w : World), (Instr.makeFunc fn first cap).run Try.prog w = .ok (.func fn first cap) w := fun _ _ _ _ => rfl
  have hany : zs.any (fun z => !inB z lo hi) = !(zs.all (fun z => inB z lo hi)) := by rw [List.any_eq_not_all_not]; simp
  have HA := Lib.hid hany
  clear hany
  have hb := below_alloc2 w (.cells #[.int .i64 lo] 2) (.cells #[.int .i64 hi] 2)
  have k1 : Blk ((w.alloc (.cells #[.int .i64 lo] 2)).alloc (.cells #[.int .i64 hi] 2)) w.heap.size 2 #[.int .i64 lo] := (blk_at rfl).alloc _
  have k2 : Blk ((w.alloc (.cells #[.int .i64 lo] 2)).alloc (.cells #[.int .i64 hi] 2)) (w.heap.size + 1) 2 #[.int .i64 hi] := blk_at (by simp)
  go_enter Try.func188, Try.ntmps188
  go_wp2_with fail
  refine (containsFunc_any 216 #[.pointer (some ⟨w.heap.size, 0, none⟩), .pointer (some ⟨w.heap.size + 1, 0, none⟩)] (fun z => !inB z lo hi) ao n c zs _ (h.below hb) (fun _ _ => by rfl)
    (fun j hj w' hb' => (areWithinFn_any _ lo hi w.heap.size (w.heap.size + 1) w' ((k1.belowS hb').cell 0) ((k2.belowS hb').cell 0)).mono ?_)).mono ?_
  · rintro e w1 ⟨rfl, rfl⟩; exact ⟨rfl, Below.refl _ _⟩
  rintro e w1 ⟨rfl, hb1⟩
  go_wp2
  go_ret
  exact ⟨ret_bool (by rw [HA.out]; simp), hb.trans (hb1.mono hb.size)⟩

set_option maxHeartbeats 400000 in
theorem isLetters_any (g : Int) (ao : Option Addr) (n c : Nat) (zs : List Int) (w : World) (h : Ints w ao n zs) (hg0 : 0 ≤ g) (hg1 : g ≤ 1000) :
    Calls Try.prog 182 #[.slice ao n c, .int .i64 g] w fun e w' => e = .returned (.bool (isWordTo (g - 1) zs)) ∧ Below w.heap.size w w' := by
  have HL := Lib.hid h.1
  have hn := h.2.1
  by_cases hs : n ≤ 64
  · have h1 : decide ((n : Int) ≤ 64) = true := by simp; omega
    go_enter Try.func182, Try.ntmps182
    go_wp2_with fail
    refine (areWithin_any ao n c zs _ _ _ h).mono ?_
    rintro e w1 ⟨rfl, hb1⟩
    go_wp2
    go_ret
    exact ⟨ret_bool (by unfold isWordTo; rw [HL.out]; simp [hs]), hb1⟩
  · have h1 : decide ((n : Int) ≤ 64) = false := by simp; omega
    go_enter Try.func182, Try.ntmps182
    go_wp2
    go_ret
    exact ⟨ret_bool (by unfold isWordTo; rw [HL.out]; simp; intro; omega), Below.refl _ _⟩

/-- the first index at which p holds, or -1 -/
def findL (p : List Int → Bool) (zss : List (List Int)) : Int := match zss.findIdx? p with | some i => i | none => -1
theorem findL_none {p : List Int → Bool} {zss : List (List Int)} (h : zss.any p = false) : findL p zss = -1 := by
  have : zss.findIdx? p = none := by rw [List.findIdx?_eq_none_iff]; intro x hx; have := (List.any_eq_false.1 h) x hx; simpa using this
  simp [findL, this]
theorem findL_some {p : List Int → Bool} {zss : List (List Int)} {k : Nat} (hk : k < zss.length) (hn : (zss.take k).any p = false) (hp : p (lget zss k) = true) : findL p zss = k := by
  have : zss.findIdx? p = some k := by
    rw [List.findIdx?_eq_some_iff_getElem]
    refine ⟨hk, by rw [← lget_lt hk]; exact hp, fun j hj => ?_⟩
    have hx : zss[j]'(by omega) ∈ zss.take k := by rw [List.mem_take_iff_getElem]; exact ⟨j, by omega, rfl⟩
    have := (List.any_eq_false.1 hn) _ hx
    simpa using this
  simp [findL, this]
theorem findL_any (p : List Int → Bool) (zss : List (List Int)) : decide (0 ≤ findL p zss) = zss.any p := by
  cases h : zss.any p with
  | false => rw [findL_none h]; rfl
  | true =>
    rw [decide_eq_true_iff]
    unfold findL
    cases h2 : zss.findIdx? p with
    | some i => exact Int.natCast_nonneg i
    | none =>
      rw [List.findIdx?_eq_none_iff] at h2
      obtain ⟨x, hx, hp⟩ := List.any_eq_true.1 h
      have := h2 x hx
      simp [hp] at this

set_option maxHeartbeats 400000 in
theorem indexFuncL_any (fn : Nat) (cap : Array Value) (p : List Int → Bool) (ao : Option Addr) (n c : Nat) (zss : List (List Int)) (w : World) (h : Intss w ao n zss)
    (hcf : ∀ (args : Array Value) (w : World), (callFunc fn args).run Try.prog w = .ok (.enter fn args) w)
    (hf : ∀ j, j < n → ∀ w' a' n' c', Below w.heap.size w w' → Ints w' a' n' (lget zss j) → Calls Try.prog fn (#[.slice a' n' c'] ++ cap) w' fun e w'' => e = .returned (.bool (p (lget zss j))) ∧ Below w'.heap.size w' w'') :
    Calls Try.prog 199 #[.slice ao n c, .func (.func fn) #[] cap] w fun e w' => e = .returned (.int .i64 (findL p zss)) ∧ Below w.heap.size w w' := by
  have hn := h.2.1
  have HF := Lib.hid hf
  clear hf
  have HL := Lib.hid h.1
  go_enter Try.func199, Try.ntmps199
  go_wp2
  go_loopw [8] (fun i wr => ∃ k : Nat, k ≤ n ∧ i = .int .i64 k ∧ (zss.take k).any p = false ∧ Below w.heap.size w wr) (fun i _ => n - (intOf i).toNat)
  case atStart => exact ⟨0, Nat.zero_le _, rfl, by simp, Below.refl _ _⟩
  case round =>
    obtain ⟨k, hk, rfl, hpre, hb⟩ := hrel
    have HP := Lib.hid hpre
    clear hpre
    by_cases hlt : k < n
    · obtain ⟨b, off, a1, n1, c1, rfl, hc, hin⟩ := (h.below hb).at_ hlt
      have HI := Lib.hid hin
      clear h hin
      cases hp : p (lget zss k) with
      | true =>
        have HX := Lib.hid hp
        clear hp
        go_wp2_with fail
        refine (HF.out k hlt _ a1 n1 c1 hb HI.out).mono ?_
        rintro e w1 ⟨rfl, hb1⟩
        rw [HX.out]
        go_wp2
        go_ret
        exact ⟨ret_int (findL_some (by rw [HL.out]; exact hlt) HP.out HX.out).symm, hb.trans (hb1.mono hb.size)⟩
      | false =>
        have HX := Lib.hid hp
        clear hp
        go_wp2_with fail
        refine (HF.out k hlt _ a1 n1 c1 hb HI.out).mono ?_
        rintro e w1 ⟨rfl, hb1⟩
        rw [HX.out]
        go_wp2
        go_roundw
        case rel => exact ⟨k + 1, by omega, by go_num, by rw [any_take_lget (by rw [HL.out]; exact hlt), HP.out, HX.out]; rfl, hb.trans (hb1.mono hb.size)⟩
        case measure => simp [intOf]; omega
    · obtain rfl : k = n := by omega
      go_wp2
      go_ret
      exact ⟨ret_int (findL_none (by have := HP.out; rwa [List.take_of_length_le (Nat.le_of_eq HL.out)] at this)).symm, hb⟩

theorem containsFuncL_any (fn : Nat) (cap : Array Value) (p : List Int → Bool) (ao : Option Addr) (n c : Nat) (zss : List (List Int)) (w : World) (h : Intss w ao n zss)
    (hcf : ∀ (args : Array Value) (w : World), (callFunc fn args).run Try.prog w = .ok (.enter fn args) w)
    (hf : ∀ j, j < n → ∀ w' a' n' c', Below w.heap.size w w' → Ints w' a' n' (lget zss j) → Calls Try.prog fn (#[.slice a' n' c'] ++ cap) w' fun e w'' => e = .returned (.bool (p (lget zss j))) ∧ Below w'.heap.size w' w'') :
    Calls Try.prog 146 #[.slice ao n c, .func (.func fn) #[] cap] w fun e w' => e = .returned (.bool (zss.any p)) ∧ Below w.heap.size w w' := by
  have HF := Lib.hid hf
  clear hf
  go_enter Try.func146, Try.ntmps146
  go_wp2_with fail
  refine (indexFuncL_any fn cap p ao n c zss w h hcf HF.out).mono ?_
  rintro e w1 ⟨rfl, hb1⟩
  go_wp2
  go_ret
  exact ⟨ret_bool (findL_any p zss), hb1⟩

/-- no relator: not a word, or empty -/
def badRel (g : Int) (zs : List Int) : Bool := !(isWordTo (g - 1) zs && decide (1 ≤ zs.length))

set_option maxHeartbeats 400000 in
theorem isPresFn_any (g : Int) (b : Nat) (ao : Option Addr) (n c : Nat) (zs : List Int) (w : World) (h : Ints w ao n zs) (hg0 : 0 ≤ g) (hg1 : g ≤ 1000) (hc : w.cell? ⟨b, 0, none⟩ = some (.int .i64 g)) :
    Calls Try.prog 192 #[.slice ao n c, .pointer (some ⟨b, 0, none⟩)] w fun e w' => e = .returned (.bool (badRel g zs)) ∧ Below w.heap.size w w' := by
  have HL := Lib.hid h.1
  have hn := h.2.1
  by_cases h0 : n = 0
  · have e0 : ((n : Int) == 0) = true := by simp; omega
    have H0 := Lib.hid h0
    clear h0
    go_enter Try.func192, Try.ntmps192
    go_wp2
    go_ret
    exact ⟨ret_bool (by unfold badRel; rw [HL.out, H0.out]; simp), Below.refl _ _⟩
  · have e0 : ((n : Int) == 0) = false := by simp; omega
    have hz : decide (1 ≤ n) = true := by simp; omega
    have HZ := Lib.hid hz
    clear hz
    go_enter Try.func192, Try.ntmps192
    go_wp2_with fail
    refine (isLetters_any g ao n c zs _ h hg0 hg1).mono ?_
    rintro e w1 ⟨rfl, hb1⟩
    go_wp2
    go_ret
    exact ⟨ret_bool (by unfold badRel; rw [HL.out, HZ.out]; simp), hb1⟩

set_option maxHeartbeats 400000 in
set_option maxRecDepth 100000 in
theorem isPresentation_any {v : Value} {d : PresD} (w : World) (h : RdP w v d) :
    Calls Try.prog 137 #[v] w fun e w' => e = .returned (.bool (isPres d)) ∧ Below w.heap.size w w' := by
  obtain ⟨ao, n, c, rfl, hi⟩ := h
  have hmf : ∀ (fn : Fn) (first cap : Array Value) (w : World), (Instr.makeFunc fn first cap).run Try.prog w = .ok (.func fn first cap) w := fun _ _ _ _ => rfl
  have hn := hi.2.1
  have HL := Lib.hid hi.1
  have hb := below_alloc1 w (.cells #[.int .i64 d.1, .slice ao n c] 72)
  have kb : Blk (w.alloc (.cells #[.int .i64 d.1, .slice ao n c] 72)) w.heap.size 72 #[.int .i64 d.1, .slice ao n c] := blk_at rfl
  cases hg : inB d.1 1 5 with
  | true =>
    have HX := Lib.hid hg
    have hg' := inB_true.1 hg
    have hany : d.2.any (badRel d.1) = !(d.2.all (fun zs => isWordTo (d.1 - 1) zs && decide (1 ≤ zs.length))) := by
      rw [List.any_eq_not_all_not]; congr 2; funext zs; unfold badRel; exact Bool.not_not _
    have HA := Lib.hid hany
    clear hg hany
    by_cases hs : n ≤ 24
    · have h1 : decide ((n : Int) ≤ 24) = true := by simp; omega
      go_enter Try.func137, Try.ntmps137
      go_wp2_with (go_at_call 97; refine (within_any _ _ _ _).mono ?_; rintro e w' ⟨rfl, rfl⟩; rw [HX.out])
      refine (containsFuncL_any 192 #[.pointer (some ⟨w.heap.size, 0, none⟩)] (badRel d.1) ao n c d.2 _ (hi.below hb) (fun _ _ => by rfl)
        (fun j hj w' a' n' c' hb' hin => isPresFn_any d.1 w.heap.size a' n' c' _ w' hin (by omega) (by omega) ((kb.belowS hb').cell 0))).mono ?_
      rintro e w1 ⟨rfl, hb1⟩
      go_wp2
      go_ret
      exact ⟨ret_bool (by rw [HA.out, isPres_in HX.out]; unfold wordsTo; rw [HL.out]; simp [hs]), hb.trans (hb1.mono hb.size)⟩
    · have h1 : decide ((n : Int) ≤ 24) = false := by simp; omega
      go_enter Try.func137, Try.ntmps137
      go_wp2_with (go_at_call 97; refine (within_any _ _ _ _).mono ?_; rintro e w' ⟨rfl, rfl⟩; rw [HX.out])
      go_ret
      exact ⟨ret_bool (by rw [isPres_in HX.out]; unfold wordsTo; rw [HL.out]; simp; intro; omega), hb⟩
  | false =>
    have HX := Lib.hid hg
    clear hg
    go_enter Try.func137, Try.ntmps137
    go_wp2_with (go_at_call 97; refine (within_any _ _ _ _).mono ?_; rintro e w' ⟨rfl, rfl⟩; rw [HX.out])
    go_ret
    exact ⟨ret_bool (isPres_out HX.out).symm, hb⟩
end Go.Proofs.Ytpognnifgcacnaa

/- Words that lead points through a table: l11Lead, applied; what a presentation's words are. -/
namespace Go.Proofs.Ytpognnifgcacnaa
open Go.RowKit

theorem isPres_gens {d : PresD} (h : isPres d = true) : 1 ≤ d.1 ∧ d.1 ≤ 5 := by
  cases hg : inB d.1 1 5 with
  | false => rw [isPres_out hg] at h; cases h
  | true => exact inB_true.1 hg
end Go.Proofs.Ytpognnifgcacnaa

/- The code of WithRelators: l11Code, subgroupCode. -/
namespace Go.Proofs.Ytpognnifgcacnaa
open Go.RowKit

/-- a presentation and words in its letters -/
def withOk (d : PresD) (ws : List (List Int)) : Bool := isPres d && wordsTo d.1 0 ws
def withC (d : PresD) (ws : List (List Int)) : Int := if withOk d ws = true then 0 else 1

set_option maxRecDepth 100000 in
set_option maxHeartbeats 800000 in
theorem specCode_any {v : Value} {d : PresD} (ao : Option Addr) (n c : Nat) (ws : List (List Int)) (w : World) (h : RdP w v d) (h' : Intss w ao n ws) :
    Calls Try.prog 141 #[v, .slice ao n c] w fun e w' => e = .returned (.int .i64 (withC d ws)) ∧ Below w.heap.size w w' := by
  obtain ⟨ro, rn, rc, rfl, hr⟩ := h
  have hb := below_alloc1 w (.cells #[.int .i64 d.1, .slice ro rn rc] 72)
  have kb : Blk (w.alloc (.cells #[.int .i64 d.1, .slice ro rn rc] 72)) w.heap.size 72 #[.int .i64 d.1, .slice ro rn rc] := blk_at rfl
  have hp0 : RdP (w.alloc (.cells #[.int .i64 d.1, .slice ro rn rc] 72)) (.agg #[.int .i64 d.1, .slice ro rn rc]) d := ⟨ro, rn, rc, rfl, hr.below hb⟩
  cases hp : isPres d with
  | false =>
    have HP := Lib.hid hp
    have hC : withC d ws = 1 := by unfold withC withOk; rw [hp]; rfl
    rw [hC]
    clear hp hC
    go_enter Try.func141, Try.ntmps141
    go_wp2_with fail
    refine (spec11Is_any _ hp0).mono ?_
    rintro e w1 ⟨rfl, b1⟩
    rw [HP.out]
    go_wp2_with fail
    go_ret
    exact ⟨rfl, below_tr b1 hb⟩
  | true =>
    have hg := isPres_gens hp
    have HP := Lib.hid hp
    clear hp
    go_enter Try.func141, Try.ntmps141
    go_wp2_with fail
    refine (spec11Is_any _ hp0).mono ?_
    rintro e w1 ⟨rfl, b1⟩
    rw [HP.out]
    have B1 := below_tr b1 hb
    have y0 : w1.cell? ⟨w.heap.size, 0, none⟩ = some (.int .i64 d.1) := (kb.belowS b1).cell 0
    have h1 := h'.below B1
    clear hp0 kb hb b1 hr h'
    cases hw : wordsTo d.1 0 ws with
    | false =>
      have HW := Lib.hid hw
      have hC : withC d ws = 1 := by unfold withC withOk; rw [hw]; simp
      have HC := Lib.hid hC
      clear hw hC
      go_wp2_with (go_at_call 196; refine (spec11Words_any d.1 0 ao n c ws _ h1 (by omega) (by omega)).mono ?_; rintro e w' ⟨rfl, rfl⟩; rw [HW.out])
      go_ret
      exact ⟨ret_int HC.out.symm, B1⟩
    | true =>
      have HW := Lib.hid hw
      have hC : withC d ws = 0 := by unfold withC withOk; rw [hw, HP.out]; rfl
      have HC := Lib.hid hC
      clear hw hC
      go_wp2_with (go_at_call 196; refine (spec11Words_any d.1 0 ao n c ws _ h1 (by omega) (by omega)).mono ?_; rintro e w' ⟨rfl, rfl⟩; rw [HW.out])
      go_ret
      exact ⟨ret_int HC.out.symm, B1⟩

set_option maxHeartbeats 400000 in
theorem codeFn_any (b0 : Nat) (g : Int) (ap : Option Addr) (np cp : Nat) (q : List Int) (w : World) (hc : w.cell? ⟨b0, 0, none⟩ = some (.int .i64 g)) (hq : Ints w ap np q) (hg0 : 0 ≤ g) (hg1 : g ≤ 1000) :
    Calls Try.prog 181 #[.slice ap np cp, .pointer (some ⟨b0, 0, none⟩)] w fun e w' => e = .returned (.bool (!isWordTo (g - 1) q)) ∧ Below w.heap.size w w' := by
  go_enter Try.func181, Try.ntmps181
  go_wp2_with fail
  refine (isLetters_any g ap np cp q _ hq hg0 hg1).mono ?_
  rintro e w1 ⟨rfl, b1⟩
  go_wp2
  go_ret
  exact ⟨rfl, b1⟩

theorem words_any (g : Int) (ws : List (List Int)) : ws.any (fun q => !isWordTo (g - 1) q) = !(ws.all fun q => isWordTo (g - 1) q) := by
  rw [List.any_eq_not_all_not]; simp
theorem wordsTo_0 (g : Int) (ws : List (List Int)) (h : ws.length ≤ 24) : wordsTo g 0 ws = ws.all fun q => isWordTo (g - 1) q := by
  unfold wordsTo; simp [h]

set_option maxRecDepth 100000 in
set_option maxHeartbeats 3200000 in
theorem implCode_any {v : Value} {d : PresD} (ao : Option Addr) (n c : Nat) (ws : List (List Int)) (w : World) (h : RdP w v d) (h' : Intss w ao n ws) :
    Calls Try.prog 111 #[v, .slice ao n c] w fun e w' => e = .returned (.int .i64 (withC d ws)) ∧ Below w.heap.size w w' := by
  obtain ⟨ro, rn, rc, rfl, hr⟩ := h
  have hmf : ∀ (fn : Fn) (first cap : Array Value) (w : World), (Instr.makeFunc fn first cap).run Try.prog w = .ok (.func fn first cap) w := fun _ _ _ _ => rfl
  have HL := Lib.hid h'.1
  have hn1 := h'.2.1
  have hb := below_alloc1 w (.cells #[.int .i64 d.1, .slice ro rn rc] 72)
  have kb : Blk (w.alloc (.cells #[.int .i64 d.1, .slice ro rn rc] 72)) w.heap.size 72 #[.int .i64 d.1, .slice ro rn rc] := blk_at rfl
  have KB := Lib.hid kb
  have hr1 : RdP (w.alloc (.cells #[.int .i64 d.1, .slice ro rn rc] 72)) (.agg #[.int .i64 d.1, .slice ro rn rc]) d := ⟨ro, rn, rc, rfl, hr.below hb⟩
  have h1 := h'.below hb
  have HB := Lib.hid hb
  clear kb hb hr h'
  cases hp : isPres d with
  | false =>
    have HP := Lib.hid hp
    have hC : withC d ws = 1 := by unfold withC withOk; rw [hp]; rfl
    have HC := Lib.hid hC
    clear hp hC
    go_enter Try.func111, Try.ntmps111
    go_wp2_with fail
    refine (isPresentation_any _ hr1).mono ?_
    rintro e w1 ⟨rfl, b1⟩
    rw [HP.out]
    have bq := b1
    go_wp2_with fail
    go_ret
    exact ⟨ret_int HC.out.symm, below_tr bq HB.out⟩
  | true =>
    have hg := isPres_gens hp
    have HP := Lib.hid hp
    clear hp
    by_cases hs : n ≤ 24
    · have hs1 : decide ((24 : Int) < n) = false := by simp; omega
      have hwo := wordsTo_0 d.1 ws (by rw [HL.out]; exact hs)
      cases hw : wordsTo d.1 0 ws with
      | false =>
        have hC : withC d ws = 1 := by unfold withC withOk; rw [hw]; simp
        have HC := Lib.hid hC
        have HA : Hid ((ws.any fun q => !isWordTo (d.1 - 1) q) = true) := Lib.hid (by rw [words_any, ← hwo, hw]; rfl)
        clear hw hC hwo
        go_enter Try.func111, Try.ntmps111
        go_wp2_with fail
        refine (isPresentation_any _ hr1).mono ?_
        rintro e w1 ⟨rfl, b1⟩
        rw [HP.out]
        have hc1 := (KB.out.belowS b1)
        have h2 := h1.below b1
        go_wp2_with fail
        refine (containsFuncL_any 181 #[.pointer (some ⟨w.heap.size, 0, none⟩)] (fun q => !isWordTo (d.1 - 1) q) ao n c ws _ h2 (fun _ _ => by rfl) (fun j hj w' a' n' c' hb' hi => codeFn_any w.heap.size d.1 a' n' c' _ w' ((hc1.belowS hb').cell 0) hi (by omega) (by omega))).mono ?_
        rintro e wq ⟨rfl, b2⟩
        rw [HA.out]
        have bq := below_tr b2 b1
        go_wp2_with fail
        go_ret
        exact ⟨ret_int HC.out.symm, below_tr bq HB.out⟩
      | true =>
        have hC : withC d ws = 0 := by unfold withC withOk; rw [hw, HP.out]; rfl
        have HC := Lib.hid hC
        have HA : Hid ((ws.any fun q => !isWordTo (d.1 - 1) q) = false) := Lib.hid (by rw [words_any, ← hwo, hw]; rfl)
        clear hw hC hwo
        go_enter Try.func111, Try.ntmps111
        go_wp2_with fail
        refine (isPresentation_any _ hr1).mono ?_
        rintro e w1 ⟨rfl, b1⟩
        rw [HP.out]
        have hc1 := (KB.out.belowS b1)
        have h2 := h1.below b1
        go_wp2_with fail
        refine (containsFuncL_any 181 #[.pointer (some ⟨w.heap.size, 0, none⟩)] (fun q => !isWordTo (d.1 - 1) q) ao n c ws _ h2 (fun _ _ => by rfl) (fun j hj w' a' n' c' hb' hi => codeFn_any w.heap.size d.1 a' n' c' _ w' ((hc1.belowS hb').cell 0) hi (by omega) (by omega))).mono ?_
        rintro e wq ⟨rfl, b2⟩
        rw [HA.out]
        have bq := below_tr b2 b1
        go_wp2_with fail
        go_ret
        exact ⟨ret_int HC.out.symm, below_tr bq HB.out⟩
    · have hs1 : decide ((24 : Int) < n) = true := by simp; omega
      have hC : withC d ws = 1 := by unfold withC withOk wordsTo; rw [decide_eq_false (by rw [HL.out]; exact hs)]; simp
      have HC := Lib.hid hC
      clear hC
      go_enter Try.func111, Try.ntmps111
      go_wp2_with fail
      refine (isPresentation_any _ hr1).mono ?_
      rintro e w1 ⟨rfl, b1⟩
      rw [HP.out]
      have bq := b1
      go_wp2_with fail
      go_ret
      exact ⟨ret_int HC.out.symm, below_tr bq HB.out⟩
end Go.Proofs.Ytpognnifgcacnaa

/- From contracts in names to contracts in words: the doors of the functions that the laws call. -/
namespace Go.Proofs.Ytpognnifgcacnaa
open Go.RowKit

abbrev pA (g : Int) (R : Nat) : AV := .s (.agg [.val (I6 g), .sl 1003 0 R])
def Fit (zss : List (List Int)) : Prop := zss.length ≤ 4398046511104 ∧ ∀ zs ∈ zss, zs.length ≤ 4398046511104
theorem fit_of {E1 E : Nat} {w : World} {lo hi : Nat} {v : Value} {zss : List (List Int)} (h : OwSS E1 E w lo hi v zss) : Fit zss := by
  obtain ⟨ao, n, c, us, rfl, ho⟩ := h
  refine ⟨by have := ho.own.2; have := ho.len; omega, fun zs hz => ?_⟩
  obtain ⟨j, hj, rfl⟩ := List.getElem_of_mem hz
  obtain ⟨u, d, hu, hd, ⟨a', n', c', rfl, h1⟩, _⟩ := ho.get (j := j) (by have := ho.len; omega)
  rw [List.getElem?_eq_getElem hj] at hd
  have := h1.len
  have h2 := h1.2
  rw [Option.some.inj hd]
  simp at this; omega
theorem ofP {E1 E : Nat} {w : World} {lo hi : Nat} {v : Value} {d : PresD} (h : OwP E1 E w lo hi v d) : ∃ u, v = .agg #[I6 d.1, u] ∧ OwSS E1 E w lo hi u d.2 := by
  obtain ⟨ao, n, c, us, rfl, ho⟩ := h
  exact ⟨_, rfl, _, _, _, us, rfl, ho⟩
theorem denL1 {η : Env} {a : AV} {u : Value} (h : Den η a u) : DenL η [a] [u] := ⟨rfl, fun j av hj => by
  match j, hj with
  | 0, hj => simp at hj; subst hj; exact ⟨u, rfl, h⟩⟩
theorem denL2 {η : Env} {a b : AV} {u v : Value} (h : Den η a u) (h' : Den η b v) : DenL η [a, b] [u, v] := ⟨rfl, fun j av hj => by
  match j, hj with
  | 0, hj => simp at hj; subst hj; exact ⟨u, rfl, h⟩
  | 1, hj => simp at hj; subst hj; exact ⟨v, rfl, h'⟩⟩
theorem denP {η : Env} {g : Int} {R : Nat} {u : Value} (h : Den1 η (.sl 1003 0 R) u) : Den η (pA g R) (.agg #[I6 g, u]) := ⟨_, rfl, rfl, fun j b hb => by
  match j, hb with
  | 0, hb => simp at hb; subst hb; exact ⟨_, by simp, rfl⟩
  | 1, hb => simp at hb; subst hb; exact ⟨_, by simp, h⟩⟩
theorem den_tup2 {η : Env} {a b : A2} {v : Value} (h : Den η (.tup [a, b]) v) : ∃ u u', v = .tuple #[u, u'] ∧ Den2 η a u ∧ Den2 η b u' := by
  obtain ⟨us, rfl, hl, ha⟩ := h
  obtain ⟨u0, g0, d0⟩ := ha 0 _ rfl
  obtain ⟨u1, g1, d1⟩ := ha 1 _ rfl
  refine ⟨u0, u1, ?_, d0, d1⟩
  match us, hl with
  | ⟨[p, q]⟩, _ => simp at g0 g1; rw [g0, g1]
theorem two_vals {P : Program} {f : FuncId} {args : Array Value} {w : World} {a b : Value} {outs : List (Nm × Ch)} (h : Calls P f args w fun e w' => ∃ v η ω, e = .returned v ∧ Den η (.tup [.one (.val a), .one (.val b)]) v ∧ Mem η ω w' (fun x => lk x outs) ∧ Below w.heap.size w w' ∧ ∀ b, b < w.heap.size → ω b = none) :
    Calls P f args w fun e w' => e = .returned (.tuple #[a, b]) ∧ Below w.heap.size w w' := by
  refine h.mono ?_
  rintro e w' ⟨v, η, ω, rfl, hd, _, hb, _⟩
  obtain ⟨u, u', rfl, h1, h2⟩ := den_tup2 hd
  have h1 : u = a := h1
  have h2 : u' = b := h2
  subst h1 h2
  exact ⟨rfl, hb⟩

theorem one_val {P : Program} {f : FuncId} {args : Array Value} {w : World} {a : Value} {outs : List (Nm × Ch)} (h : Calls P f args w fun e w' => ∃ v η ω, e = .returned v ∧ Den η (vv a) v ∧ Mem η ω w' (fun x => lk x outs) ∧ Below w.heap.size w w' ∧ ∀ b, b < w.heap.size → ω b = none) :
    Calls P f args w fun e w' => e = .returned a ∧ Below w.heap.size w w' := by
  refine h.mono ?_
  rintro e w' ⟨v, η, ω, rfl, hd, _, hb, _⟩
  have hd : v = a := hd
  subst hd
  exact ⟨rfl, hb⟩
/-- a maniplex -/
abbrev mA (R : Nat) : AV := .s (.agg [.sl 1003 0 R])
theorem ofM {E1 E : Nat} {w : World} {lo hi : Nat} {v : Value} {d : List (List Int)} (h : OwM E1 E w lo hi v d) : ∃ u, v = .agg #[u] ∧ OwSS E1 E w lo hi u d := by
  obtain ⟨ao, n, c, us, rfl, ho⟩ := h
  exact ⟨_, rfl, _, _, _, us, rfl, ho⟩
theorem denM {η : Env} {R : Nat} {u : Value} (h : Den1 η (.sl 1003 0 R) u) : Den η (mA R) (.agg #[u]) := ⟨_, rfl, rfl, fun j b hb => by
  match j, hb with
  | 0, hb => simp at hb; subst hb; exact ⟨_, by simp, h⟩⟩
theorem callM {f : FuncId} {outs : List (Nm × Ch)} {res : AV} {d : List (List Int)} (hf : Fit d → FC Try.prog f [(1003, rowsRo d)] [mA d.length] outs res []) {E1 E : Nat} {w : World} {lo hi : Nat} {v : Value} (h : OwM E1 E w lo hi v d) :
    Calls Try.prog f #[v] w fun e w' => ∃ v η ω, e = .returned v ∧ Den η res v ∧ Mem η ω w' (fun x => lk x outs) ∧ Below w.heap.size w w' ∧ ∀ b, b < w.heap.size → ω b = none := by
  obtain ⟨u, rfl, hs⟩ := ofM h
  obtain ⟨hd, r, rfl, hv⟩ := ofSS 1003 49 2 hs
  exact (hf (fit_of hs)).call (l := [(1003, (rowsRo d, hd, r))]) (us := [_]) (fun p hp => by simp at hp; subst hp; exact hv) rfl (denL1 (denM (den_sl (q := (rowsRo d, hd, r)) rfl)))
end Go.Proofs.Ytpognnifgcacnaa

/- GroupOrder, IndexOfSubgroup: the reference's and the program's functions. -/
namespace Go.Proofs.Ytpognnifgcacnaa
open Go.RowKit

section
variable {P : Program} {η : Env} {ω : Own?} {w : World}
theorem Env.new_mono {x : Nm} {hd : Hd} {r : Nat → Hd} {av : AV} (h : av.has x = false) : av.mono η (η.new x hd r) := fun y hy => Env.new_ne η hd r y fun e => by rw [e, h] at hy; cases hy
/-- nil for the last argument -/
theorem FC.nil2 {f : FuncId} {ins outs : List (Nm × Ch)} {a0 res : AV} {back : List (Nat × AV)} {x : Nm} {E : TypeId} {d : Dat} (h : FC P f ((x, ⟨false, E, 1, d⟩) :: ins) [a0, o1 (.sl x 0 0)] outs res back) (hd : d.len = 0) (hx : lk x ins = none) (h0 : a0.has x = false) (hb : ∀ t av, lk t back = some av → t ≠ 1)
    (hq : ∀ y c, lk y ins = some c → ∀ l, c.d ≠ .flat l) : FC P f ins [a0, vv (.slice none 0 0)] outs res back := by
  intro w η ω us hm hdl
  obtain ⟨hl, ha⟩ := hdl
  obtain ⟨u0, g0, d0⟩ := ha 0 _ rfl
  obtain ⟨u1, g1, d1⟩ := ha 1 _ rfl
  have d1 : u1 = .slice none 0 0 := d1
  subst d1
  refine h w (η.new x ⟨none, 0, 1⟩ fun _ => ⟨none, 0, 1⟩) ω us ⟨fun y c hy => ?_, fun y hy => ?_⟩ ⟨hl, fun j av hj => ?_⟩
  · by_cases e : y = x
    · subst e
      simp [lk] at hy
      subst hy
      refine ⟨⟨none, 0, 1⟩, by simp [Env.new], rfl, ?_⟩
      show VecR ω w _ d.len _
      rw [hd]
      exact ⟨Nat.zero_le _, fun j hj => absurd hj (by omega)⟩
    · have hy : lk y ins = some c := by simpa [lk, beq_ne e] using hy
      obtain ⟨h', k1, k2⟩ := hm.1 y c hy
      exact ⟨h', by simp [Env.new, e, k1], k2.same (Same.refl ω w fun _ => True) trivial (fun _ => trivial) (fun i => by simp [Env.new, e]) fun l hl => absurd hl (hq y c hy l)⟩
  · have e : y ≠ x := fun e => by subst e; simp [lk] at hy
    have hy : lk y ins = none := by simpa [lk, beq_ne e] using hy
    simp [Env.new, e, hm.2 y hy]
  · match j, hj with
    | 0, hj => simp at hj; subst hj; exact ⟨u0, g0, d0.mono (Env.new_mono h0)⟩
    | 1, hj =>
      simp at hj; subst hj
      refine ⟨_, g1, ⟨_, _, rfl⟩, fun hd' he => ?_⟩
      simp [Env.new] at he; subst he
      exact ⟨_, rfl, fun _ => rfl, fun h0 => absurd h0 (by omega)⟩
end

/-- what a good presentation with words is -/
structure Good (ng : Nat) (rels ws : List (List Int)) : Prop where
  pos : 0 < ng
  hi : ng ≤ 5
  r : rels.length ≤ 24
  w : ws.length ≤ 24
  rl : ∀ w ∈ rels, Letters ng w
  wl : ∀ w ∈ ws, Letters ng w
  rn : ∀ w ∈ rels, w.length ≤ 1000000000
  wn : ∀ w ∈ ws, w.length ≤ 1000000000
theorem isWordTo_spec {g : Int} {ng : Nat} (hg : g = ng) {z : List Int} (h : isWordTo (g - 1) z = true) : Letters ng z ∧ z.length ≤ 64 := by
  unfold isWordTo at h
  rw [Bool.and_eq_true, List.all_eq_true] at h
  exact ⟨fun x hx => by have := inB_true.1 (h.2 x hx); omega, of_decide_eq_true h.1⟩
theorem good_of {g : Int} {rels ws : List (List Int)} (h : withOk (g, rels) ws = true) : ∃ ng : Nat, g = (ng : Int) ∧ Good ng rels ws := by
  unfold withOk at h
  rw [Bool.and_eq_true] at h
  obtain ⟨h1, h2⟩ := h
  have hg := isPres_gens h1
  have hge : g = ((g.toNat : Nat) : Int) := (Int.toNat_of_nonneg (by dsimp only at hg; omega)).symm
  unfold isPres at h1
  rw [Bool.and_eq_true, Bool.and_eq_true, List.all_eq_true] at h1
  unfold wordsTo at h2
  rw [Bool.and_eq_true, List.all_eq_true] at h2
  have hr : ∀ w ∈ rels, Letters g.toNat w ∧ w.length ≤ 64 := fun w hw => by
    have := h1.2 w hw
    rw [Bool.and_eq_true] at this
    exact isWordTo_spec hge this.1
  have hw : ∀ w ∈ ws, Letters g.toNat w ∧ w.length ≤ 64 := fun w hw => by
    have := h2.2 w hw
    rw [Bool.and_eq_true] at this
    exact isWordTo_spec hge this.1
  dsimp only at hg
  exact ⟨g.toNat, hge, by omega, by omega, of_decide_eq_true h1.1.2, of_decide_eq_true h2.1, fun w h => (hr w h).1, fun w h => (hw w h).1, fun w h => by have := (hr w h).2; omega, fun w h => by have := (hw w h).2; omega⟩

def cosX (d : PresD) (ws : List (List Int)) : CSt := runC d.1.toNat d.2 ws
def cosN (d : PresD) (ws : List (List Int)) : Nat := (numbered d.1.toNat (cosX d ws).1 (cosX d ws).2.1).1.length
def cosTab (d : PresD) (ws : List (List Int)) : List (List Int) := tableC d.1.toNat (cosX d ws).1 (cosX d ws).2.1
theorem tableC_length (ng : Nat) (im : List (List Int)) (less : List Int) : (tableC ng im less).length = ng := by simp [tableC]
theorem tableC_rowlen {ng g : Nat} (im : List (List Int)) (less : List Int) (h : g < ng) : (lget (tableC ng im less) g).length = (numbered ng im less).1.length := by
  simp [tableC, lget, h]
/-- the reference's and the program's tables: the same -/
theorem specTable_no {ng : Nat} {rels ws : List (List Int)} (h : Good ng rels ws) (hf : (runC ng rels ws).2.2 = true) :
    FC Try.prog 144 [(1002, rowsRo ws), (1003, rowsRo rels)] [pA ng rels.length, o1 (.sl 1002 0 ws.length)] [] (.tup [.one (.val (.slice none 0 0)), .one (.val (.bool false))]) [] :=
  l11Table_failed ng rels ws _ _ rfl rfl h.rl h.wl (by have := h.hi; omega) h.rn h.wn (by have := h.r; omega) (by have := h.w; omega) hf
theorem specTable_yes {ng : Nat} {rels ws : List (List Int)} (h : Good ng rels ws) (hf : (runC ng rels ws).2.2 = false) :
    FC Try.prog 144 [(1002, rowsRo ws), (1003, rowsRo rels)] [pA ng rels.length, o1 (.sl 1002 0 ws.length)] [(69, imOw (tableC ng (runC ng rels ws).1 (runC ng rels ws).2.1))] (.tup [.one (.sl 69 0 ng), .one (.val (.bool true))]) [] :=
  l11Table_done ng rels ws _ _ rfl rfl h.rl h.wl (by have := h.hi; omega) h.rn h.wn (by have := h.r; omega) (by have := h.w; omega) hf
theorem implTable_no {ng : Nat} {rels ws : List (List Int)} (h : Good ng rels ws) (hf : (runC ng rels ws).2.2 = true) :
    FC Try.prog 138 [(1002, rowsRo ws), (1003, rowsRo rels)] [pA ng rels.length, o1 (.sl 1002 0 ws.length)] [] (.tup [.one (.val (.slice none 0 0)), .one (.val (.bool false))]) [] := by
  have := enumerated_fc ng rels ws _ _ rfl rfl h.rl h.wl h.pos (by have := h.hi; omega) h.rn h.wn (by have := h.r; omega) (by have := h.w; omega) _ rfl
  have hf' : (runI ng rels ws).2.2 = true := by
    rcases runI_same ng rels ws with e | e
    · rw [← e]; exact hf
    · exact e.2
  rwa [if_pos hf', if_pos hf'] at this
theorem implTable_yes {ng : Nat} {rels ws : List (List Int)} (h : Good ng rels ws) (hf : (runC ng rels ws).2.2 = false) :
    FC Try.prog 138 [(1002, rowsRo ws), (1003, rowsRo rels)] [pA ng rels.length, o1 (.sl 1002 0 ws.length)] [(131, imOw (tableC ng (runC ng rels ws).1 (runC ng rels ws).2.1))] (.tup [.one (.sl 131 0 ng), .one (.val (.bool true))]) [] := by
  have := enumerated_fc ng rels ws _ _ rfl rfl h.rl h.wl h.pos (by have := h.hi; omega) h.rn h.wn (by have := h.r; omega) (by have := h.w; omega) _ rfl
  have he : runC ng rels ws = runI ng rels ws := by
    rcases runI_same ng rels ws with e | e
    · exact e
    · rw [hf] at e; exact absurd e.1 (by simp)
  rw [← he, if_neg (by rw [hf]; simp), if_neg (by rw [hf]; simp)] at this
  exact this

end Go.Proofs.Ytpognnifgcacnaa

/- GroupOrder, IndexOfSubgroup: the program's functions, and all four in words. -/
namespace Go.Proofs.Ytpognnifgcacnaa
open Go.RowKit

theorem lk_one {α : Type} {x y : Nat} {c d : α} (h : lk y [(x, c)] = some d) : d = c := by
  simp only [lk] at h
  cases hb : Nat.beq y x with
  | true => rw [hb] at h; simpa using h.symm
  | false => rw [hb] at h; simp at h
theorem noFlat {rels : List (List Int)} : ∀ y c, lk y [(1003, rowsRo rels)] = some c → ∀ l, c.d ≠ .flat l := fun y c h l e => by
  rw [lk_one h] at e; cases e
/-- nil for the words -/
theorem FC.nilW {f : FuncId} {g : Int} {rels : List (List Int)} {outs : List (Nm × Ch)} {res : AV} (h : FC Try.prog f [(1002, rowsRo []), (1003, rowsRo rels)] [pA g rels.length, o1 (.sl 1002 0 0)] outs res []) : FC Try.prog f [(1003, rowsRo rels)] [pA g rels.length, vv (.slice none 0 0)] outs res [] :=
  FC.nil2 (x := 1002) h rfl rfl rfl (fun t av h => by cases h) noFlat
theorem withOk_nil {g : Int} {rels : List (List Int)} : withOk (g, rels) [] = isPres (g, rels) := by unfold withOk wordsTo; simp
/-! in words -/
end Go.Proofs.Ytpognnifgcacnaa

/- The table of a subgroup: l11Small, cosetTable; CosetTable. guards: -/
namespace Go.Proofs.Ytpognnifgcacnaa
open Go.RowKit

def smallOk (d : PresD) (ws : List (List Int)) : Bool := !(cosX d ws).2.2 && decide (cosN d ws ≤ 400)
theorem cosX_nat (ng : Nat) (rels ws : List (List Int)) : cosX ((ng : Int), rels) ws = runC ng rels ws := by unfold cosX; rw [Int.toNat_natCast]
theorem cosN_nat (ng : Nat) (rels ws : List (List Int)) : cosN ((ng : Int), rels) ws = (numbered ng (runC ng rels ws).1 (runC ng rels ws).2.1).1.length := by unfold cosN; rw [cosX_nat, Int.toNat_natCast]
theorem cosTab_nat (ng : Nat) (rels ws : List (List Int)) : cosTab ((ng : Int), rels) ws = tableC ng (runC ng rels ws).1 (runC ng rels ws).2.1 := by unfold cosTab; rw [cosX_nat, Int.toNat_natCast]
theorem cosTab_row {ng : Nat} {rels ws : List (List Int)} {g : Nat} (h : g < ng) : (lget (cosTab ((ng : Int), rels) ws) g).length = cosN ((ng : Int), rels) ws := by rw [cosTab_nat, cosN_nat, tableC_rowlen _ _ h]
theorem cosTab_len (ng : Nat) (rels ws : List (List Int)) : (cosTab ((ng : Int), rels) ws).length = ng := by rw [cosTab_nat, tableC_length]
set_option maxRecDepth 100000 in
set_option maxHeartbeats 1000000 in
theorem specSmall_yes {ng : Nat} {rels ws : List (List Int)} (hG : Good ng rels ws) (hs : smallOk ((ng : Int), rels) ws = true) :
    FC Try.prog 107 [(1002, rowsRo ws), (1003, rowsRo rels)] [pA ng rels.length, o1 (.sl 1002 0 ws.length)] [(1005, imOw (cosTab ((ng : Int), rels) ws))] (.tup [.one (.sl 1005 0 ng), .one (.val (I6 0))]) [] := by
  have hs2 : (runC ng rels ws).2.2 = false ∧ cosN ((ng : Int), rels) ws ≤ 400 := by unfold smallOk at hs; rw [cosX_nat] at hs; simpa using hs
  have hT : FC Try.prog 144 [(1002, rowsRo ws), (1003, rowsRo rels)] [pA ng rels.length, o1 (.sl 1002 0 ws.length)] [(1005, imOw (cosTab ((ng : Int), rels) ws))] (.tup [.one (.sl 1005 0 ng), .one (.val (.bool true))]) [] := by
    rw [cosTab_nat]
    exact (specTable_yes hG hs2.1).nm [(69, 1005), (1002, 1002), (1003, 1003)] (by kernel_rfl)
  have hlen : (irows (cosTab ((ng : Int), rels) ws)).length = ng := by rw [irows_len, cosTab_len]
  have hpos := hG.pos
  have hr0 : (lget (cosTab ((ng : Int), rels) ws) 0).length ≤ 400 := by rw [cosTab_row hpos]; exact hs2.2
  have hrow : (irows (cosTab ((ng : Int), rels) ws))[0]? = some (ivals (lget (cosTab ((ng : Int), rels) ws) 0)) := irows_get (by rw [← irows_len, hlen]; exact hpos)
  generalize cosTab ((ng : Int), rels) ws = T at *
  refine fc_enter (nt := 24) Try.func107 rfl rfl (by simp) fun w0 ω0 => ?_
  (refine goes_seq ?_; refine goes_region ?_; apply run_step rfl; (exact stp_box rfl rfl rfl rfl); apply run_step rfl; (exact stp_assign rfl rfl); apply run_step rfl; (exact stp_assign rfl rfl); refine run_nil ?_; refine fin_seq ?_; refine goes_seq ?_; refine goes_region ?_; apply run_step rfl; (exact stp_loadAgg rfl rfl rfl rfl rfl rfl (by as_aux_lemma => kernel_rfl)); apply run_step rfl; (exact stp_move rfl rfl); apply run_step rfl; (first | (apply call_gate 144; exact stp_callN hT (by as_aux_lemma => kernel_rfl) rfl rfl ⟨⟨.inl rfl, .inl rfl, trivial⟩, rfl, trivial⟩ ⟨⟨_, rfl, .inl rfl⟩, ⟨_, rfl, .inl rfl⟩, trivial⟩ rfl rfl rfl) | exact stp_ix (j := 0) rfl rfl rfl rfl rfl (by as_aux_lemma => kernel_rfl) rfl hpos (Nat.le_of_eq hlen.symm)); apply run_step rfl; (exact stp_move rfl rfl); apply run_step rfl; (exact stp_extract rfl rfl rfl); apply run_step rfl; (exact stp_extract rfl rfl rfl); apply run_step rfl; (exact stp_assign rfl rfl); apply run_step rfl; (exact stp_assign rfl rfl); refine run_nil ?_; refine fin_seq ?_; refine goes_seq ?_; refine goes_seq ?_; refine goes_region ?_; apply run_step rfl; (exact stp_move rfl rfl); apply run_step rfl; (exact stp_not rfl rfl); apply run_step rfl; (exact stp_move rfl rfl); apply run_gYes rfl rfl rfl; (exact stp_move rfl rfl); apply run_gYes rfl rfl rfl; (first | (apply call_gate 144; exact stp_callN hT (by as_aux_lemma => kernel_rfl) rfl rfl ⟨⟨.inl rfl, .inl rfl, trivial⟩, rfl, trivial⟩ ⟨⟨_, rfl, .inl rfl⟩, ⟨_, rfl, .inl rfl⟩, trivial⟩ rfl rfl rfl) | exact stp_ix (j := 0) rfl rfl rfl rfl rfl (by as_aux_lemma => kernel_rfl) rfl hpos (Nat.le_of_eq hlen.symm)); apply run_gYes rfl rfl rfl; (exact stp_loadR rfl (by as_aux_lemma => kernel_rfl) rfl rfl rfl (by first | assumption | exact ivals_get (by assumption) | exact irows_get (by assumption) | exact ivals_get (by omega) | exact irows_get (by omega) | rfl) (by first | exact ivals_len _ | assumption | rfl)); apply run_gYes rfl rfl rfl; (exact stp_len rfl rfl rfl (by as_aux_lemma => kernel_rfl)); apply run_gYes rfl rfl rfl; (exact stp_bin rfl rfl rfl rfl); apply run_step rfl; (exact stp_pickF rfl rfl rfl); refine run_nil ?_; refine fin_seq ?_)
  refine goes_cond rfl (fun e => ?_) (fun _ => ?_)
  · exfalso; simp at e; omega
  · (refine goes_skip ?_; refine fin_seq ?_; refine goes_seq ?_; refine goes_region ?_; apply run_step rfl; (exact stp_move rfl rfl); apply run_step rfl; (exact stp_assign rfl rfl); apply run_step rfl; (exact stp_assign rfl rfl); refine run_nil ?_; refine fin_seq ?_; refine goes_ret ?_)
    exact fin_ret2 (.inl rfl) rfl (.tmp rfl) (.tmp rfl) ⟨rfl, trivial⟩ trivial
set_option maxRecDepth 100000 in
set_option maxHeartbeats 1000000 in
theorem specSmall_no {ng : Nat} {rels ws : List (List Int)} (hG : Good ng rels ws) (hs : ¬ smallOk ((ng : Int), rels) ws = true) :
    FC Try.prog 107 [(1002, rowsRo ws), (1003, rowsRo rels)] [pA ng rels.length, o1 (.sl 1002 0 ws.length)] [] (.tup [.one (.val (.slice none 0 0)), .one (.val (I6 3))]) [] := by
  unfold smallOk at hs; rw [cosX_nat] at hs
  refine fc_enter (nt := 24) Try.func107 rfl rfl (by simp) fun w0 ω0 => ?_
  cases hf : (runC ng rels ws).2.2 with
  | true =>
    have hT := specTable_no hG hf
    (refine goes_seq ?_; refine goes_region ?_; apply run_step rfl; (exact stp_box rfl rfl rfl rfl); apply run_step rfl; (exact stp_assign rfl rfl); apply run_step rfl; (exact stp_assign rfl rfl); refine run_nil ?_; refine fin_seq ?_; refine goes_seq ?_; refine goes_region ?_; apply run_step rfl; (exact stp_loadAgg rfl rfl rfl rfl rfl rfl (by as_aux_lemma => kernel_rfl)); apply run_step rfl; (exact stp_move rfl rfl); apply run_step rfl; (apply call_gate 144; exact stp_callR hT (by as_aux_lemma => kernel_rfl) rfl rfl ⟨⟨.inl rfl, .inl rfl, trivial⟩, rfl, trivial⟩ ⟨⟨_, rfl, .inl rfl⟩, ⟨_, rfl, .inl rfl⟩, trivial⟩ rfl rfl); apply run_step rfl; (exact stp_move rfl rfl); apply run_step rfl; (exact stp_extract rfl rfl rfl); apply run_step rfl; (exact stp_extract rfl rfl rfl); apply run_step rfl; (exact stp_assign rfl rfl); apply run_step rfl; (exact stp_assign rfl rfl); refine run_nil ?_; refine fin_seq ?_; refine goes_seq ?_; refine goes_seq ?_; refine goes_region ?_; apply run_step rfl; (exact stp_move rfl rfl); apply run_step rfl; (exact stp_not rfl rfl); apply run_step rfl; (exact stp_move rfl rfl); apply run_gNo rfl rfl rfl rfl rfl; apply run_gNo rfl rfl rfl rfl rfl; apply run_gNo rfl rfl rfl rfl rfl; apply run_gNo rfl rfl rfl rfl rfl; apply run_gNo rfl rfl rfl rfl rfl; apply run_step rfl; (exact stp_pickT rfl rfl rfl); refine run_nil ?_; refine fin_seq ?_)
    refine goes_cond rfl (fun _ => ?_) (fun e => by cases e)
    (refine goes_seq ?_; refine goes_region ?_; apply run_step rfl; (exact stp_assign rfl rfl); apply run_step rfl; (exact stp_assign rfl rfl); refine run_nil ?_; refine fin_seq ?_; refine goes_ret ?_; refine fin_ret_then ?_)
    exact fin_ret2 (.inl rfl) rfl (.tmp rfl) (.tmp rfl) trivial trivial
  | false =>
    have hn : 400 < cosN ((ng : Int), rels) ws := by rw [hf] at hs; simpa using hs
    have hT : FC Try.prog 144 [(1002, rowsRo ws), (1003, rowsRo rels)] [pA ng rels.length, o1 (.sl 1002 0 ws.length)] [(1005, imOw (cosTab ((ng : Int), rels) ws))] (.tup [.one (.sl 1005 0 ng), .one (.val (.bool true))]) [] := by
      rw [cosTab_nat]
      exact (specTable_yes hG hf).nm [(69, 1005), (1002, 1002), (1003, 1003)] (by kernel_rfl)
    have hlen : (irows (cosTab ((ng : Int), rels) ws)).length = ng := by rw [irows_len, cosTab_len]
    have hpos := hG.pos
    have hr0 : 400 < (lget (cosTab ((ng : Int), rels) ws) 0).length := by rw [cosTab_row hpos]; exact hn
    have hrow : (irows (cosTab ((ng : Int), rels) ws))[0]? = some (ivals (lget (cosTab ((ng : Int), rels) ws) 0)) := irows_get (by rw [← irows_len, hlen]; exact hpos)
    clear hs hn
    generalize cosTab ((ng : Int), rels) ws = T at *
    (refine goes_seq ?_; refine goes_region ?_; apply run_step rfl; (exact stp_box rfl rfl rfl rfl); apply run_step rfl; (exact stp_assign rfl rfl); apply run_step rfl; (exact stp_assign rfl rfl); refine run_nil ?_; refine fin_seq ?_; refine goes_seq ?_; refine goes_region ?_; apply run_step rfl; (exact stp_loadAgg rfl rfl rfl rfl rfl rfl (by as_aux_lemma => kernel_rfl)); apply run_step rfl; (exact stp_move rfl rfl); apply run_step rfl; (first | (apply call_gate 144; exact stp_callN hT (by as_aux_lemma => kernel_rfl) rfl rfl ⟨⟨.inl rfl, .inl rfl, trivial⟩, rfl, trivial⟩ ⟨⟨_, rfl, .inl rfl⟩, ⟨_, rfl, .inl rfl⟩, trivial⟩ rfl rfl rfl) | exact stp_ix (j := 0) rfl rfl rfl rfl rfl (by as_aux_lemma => kernel_rfl) rfl hpos (Nat.le_of_eq hlen.symm)); apply run_step rfl; (exact stp_move rfl rfl); apply run_step rfl; (exact stp_extract rfl rfl rfl); apply run_step rfl; (exact stp_extract rfl rfl rfl); apply run_step rfl; (exact stp_assign rfl rfl); apply run_step rfl; (exact stp_assign rfl rfl); refine run_nil ?_; refine fin_seq ?_; refine goes_seq ?_; refine goes_seq ?_; refine goes_region ?_; apply run_step rfl; (exact stp_move rfl rfl); apply run_step rfl; (exact stp_not rfl rfl); apply run_step rfl; (exact stp_move rfl rfl); apply run_gYes rfl rfl rfl; (exact stp_move rfl rfl); apply run_gYes rfl rfl rfl; (first | (apply call_gate 144; exact stp_callN hT (by as_aux_lemma => kernel_rfl) rfl rfl ⟨⟨.inl rfl, .inl rfl, trivial⟩, rfl, trivial⟩ ⟨⟨_, rfl, .inl rfl⟩, ⟨_, rfl, .inl rfl⟩, trivial⟩ rfl rfl rfl) | exact stp_ix (j := 0) rfl rfl rfl rfl rfl (by as_aux_lemma => kernel_rfl) rfl hpos (Nat.le_of_eq hlen.symm)); apply run_gYes rfl rfl rfl; (exact stp_loadR rfl (by as_aux_lemma => kernel_rfl) rfl rfl rfl (by first | assumption | exact ivals_get (by assumption) | exact irows_get (by assumption) | exact ivals_get (by omega) | exact irows_get (by omega) | rfl) (by first | exact ivals_len _ | assumption | rfl)); apply run_gYes rfl rfl rfl; (exact stp_len rfl rfl rfl (by as_aux_lemma => kernel_rfl)); apply run_gYes rfl rfl rfl; (exact stp_bin rfl rfl rfl rfl); apply run_step rfl; (exact stp_pickF rfl rfl rfl); refine run_nil ?_; refine fin_seq ?_)
    refine goes_cond rfl (fun _ => ?_) (fun e => ?_)
    · (refine goes_seq ?_; refine goes_region ?_; apply run_step rfl; (exact stp_assign rfl rfl); apply run_step rfl; (exact stp_assign rfl rfl); refine run_nil ?_; refine fin_seq ?_; refine goes_ret ?_; refine fin_ret_then ?_)
      exact fin_ret2 (.inl rfl) rfl (.tmp rfl) (.tmp rfl) trivial trivial
    · exfalso; simp at e; omega

set_option maxRecDepth 100000 in
set_option maxHeartbeats 1000000 in
theorem implSmall_yes {ng : Nat} {rels ws : List (List Int)} (hG : Good ng rels ws) (hs : smallOk ((ng : Int), rels) ws = true) :
    FC Try.prog 113 [(1002, rowsRo ws), (1003, rowsRo rels)] [pA ng rels.length, o1 (.sl 1002 0 ws.length)] [(1005, imOw (cosTab ((ng : Int), rels) ws))] (.tup [.one (.sl 1005 0 ng), .one (.val (I6 0))]) [] := by
  have hs2 : (runC ng rels ws).2.2 = false ∧ cosN ((ng : Int), rels) ws ≤ 400 := by unfold smallOk at hs; rw [cosX_nat] at hs; simpa using hs
  have hT : FC Try.prog 138 [(1002, rowsRo ws), (1003, rowsRo rels)] [pA ng rels.length, o1 (.sl 1002 0 ws.length)] [(1005, imOw (cosTab ((ng : Int), rels) ws))] (.tup [.one (.sl 1005 0 ng), .one (.val (.bool true))]) [] := by
    rw [cosTab_nat]
    exact (implTable_yes hG hs2.1).nm [(131, 1005), (1002, 1002), (1003, 1003)] (by kernel_rfl)
  have hlen : (irows (cosTab ((ng : Int), rels) ws)).length = ng := by rw [irows_len, cosTab_len]
  have hpos := hG.pos
  have hr0 : (lget (cosTab ((ng : Int), rels) ws) 0).length ≤ 400 := by rw [cosTab_row hpos]; exact hs2.2
  have hrow : (irows (cosTab ((ng : Int), rels) ws))[0]? = some (ivals (lget (cosTab ((ng : Int), rels) ws) 0)) := irows_get (by rw [← irows_len, hlen]; exact hpos)
  generalize cosTab ((ng : Int), rels) ws = T at *
  refine fc_enter (nt := 24) Try.func113 rfl rfl (by simp) fun w0 ω0 => ?_
  (refine goes_seq ?_; refine goes_region ?_; apply run_step rfl; (exact stp_box rfl rfl rfl rfl); apply run_step rfl; (exact stp_assign rfl rfl); apply run_step rfl; (exact stp_assign rfl rfl); refine run_nil ?_; refine fin_seq ?_; refine goes_seq ?_; refine goes_region ?_; apply run_step rfl; (exact stp_loadAgg rfl rfl rfl rfl rfl rfl (by as_aux_lemma => kernel_rfl)); apply run_step rfl; (exact stp_move rfl rfl); apply run_step rfl; (first | (apply call_gate 138; exact stp_callN hT (by as_aux_lemma => kernel_rfl) rfl rfl ⟨⟨.inl rfl, .inl rfl, trivial⟩, rfl, trivial⟩ ⟨⟨_, rfl, .inl rfl⟩, ⟨_, rfl, .inl rfl⟩, trivial⟩ rfl rfl rfl) | exact stp_ix (j := 0) rfl rfl rfl rfl rfl (by as_aux_lemma => kernel_rfl) rfl hpos (Nat.le_of_eq hlen.symm)); apply run_step rfl; (exact stp_move rfl rfl); apply run_step rfl; (exact stp_extract rfl rfl rfl); apply run_step rfl; (exact stp_extract rfl rfl rfl); apply run_step rfl; (exact stp_assign rfl rfl); apply run_step rfl; (exact stp_assign rfl rfl); refine run_nil ?_; refine fin_seq ?_; refine goes_seq ?_; refine goes_seq ?_; refine goes_region ?_; apply run_step rfl; (exact stp_move rfl rfl); apply run_step rfl; (exact stp_not rfl rfl); apply run_step rfl; (exact stp_move rfl rfl); apply run_gYes rfl rfl rfl; (exact stp_move rfl rfl); apply run_gYes rfl rfl rfl; (first | (apply call_gate 138; exact stp_callN hT (by as_aux_lemma => kernel_rfl) rfl rfl ⟨⟨.inl rfl, .inl rfl, trivial⟩, rfl, trivial⟩ ⟨⟨_, rfl, .inl rfl⟩, ⟨_, rfl, .inl rfl⟩, trivial⟩ rfl rfl rfl) | exact stp_ix (j := 0) rfl rfl rfl rfl rfl (by as_aux_lemma => kernel_rfl) rfl hpos (Nat.le_of_eq hlen.symm)); apply run_gYes rfl rfl rfl; (exact stp_loadR rfl (by as_aux_lemma => kernel_rfl) rfl rfl rfl (by first | assumption | exact ivals_get (by assumption) | exact irows_get (by assumption) | exact ivals_get (by omega) | exact irows_get (by omega) | rfl) (by first | exact ivals_len _ | assumption | rfl)); apply run_gYes rfl rfl rfl; (exact stp_len rfl rfl rfl (by as_aux_lemma => kernel_rfl)); apply run_gYes rfl rfl rfl; (exact stp_bin rfl rfl rfl rfl); apply run_step rfl; (exact stp_pickF rfl rfl rfl); refine run_nil ?_; refine fin_seq ?_)
  refine goes_cond rfl (fun e => ?_) (fun _ => ?_)
  · exfalso; simp at e; omega
  · (refine goes_skip ?_; refine fin_seq ?_; refine goes_seq ?_; refine goes_region ?_; apply run_step rfl; (exact stp_move rfl rfl); apply run_step rfl; (exact stp_assign rfl rfl); apply run_step rfl; (exact stp_assign rfl rfl); refine run_nil ?_; refine fin_seq ?_; refine goes_ret ?_)
    exact fin_ret2 (.inl rfl) rfl (.tmp rfl) (.tmp rfl) ⟨rfl, trivial⟩ trivial
set_option maxRecDepth 100000 in
set_option maxHeartbeats 1000000 in
theorem implSmall_no {ng : Nat} {rels ws : List (List Int)} (hG : Good ng rels ws) (hs : ¬ smallOk ((ng : Int), rels) ws = true) :
    FC Try.prog 113 [(1002, rowsRo ws), (1003, rowsRo rels)] [pA ng rels.length, o1 (.sl 1002 0 ws.length)] [] (.tup [.one (.val (.slice none 0 0)), .one (.val (I6 3))]) [] := by
  unfold smallOk at hs; rw [cosX_nat] at hs
  refine fc_enter (nt := 24) Try.func113 rfl rfl (by simp) fun w0 ω0 => ?_
  cases hf : (runC ng rels ws).2.2 with
  | true =>
    have hT := implTable_no hG hf
    (refine goes_seq ?_; refine goes_region ?_; apply run_step rfl; (exact stp_box rfl rfl rfl rfl); apply run_step rfl; (exact stp_assign rfl rfl); apply run_step rfl; (exact stp_assign rfl rfl); refine run_nil ?_; refine fin_seq ?_; refine goes_seq ?_; refine goes_region ?_; apply run_step rfl; (exact stp_loadAgg rfl rfl rfl rfl rfl rfl (by as_aux_lemma => kernel_rfl)); apply run_step rfl; (exact stp_move rfl rfl); apply run_step rfl; (apply call_gate 138; exact stp_callR hT (by as_aux_lemma => kernel_rfl) rfl rfl ⟨⟨.inl rfl, .inl rfl, trivial⟩, rfl, trivial⟩ ⟨⟨_, rfl, .inl rfl⟩, ⟨_, rfl, .inl rfl⟩, trivial⟩ rfl rfl); apply run_step rfl; (exact stp_move rfl rfl); apply run_step rfl; (exact stp_extract rfl rfl rfl); apply run_step rfl; (exact stp_extract rfl rfl rfl); apply run_step rfl; (exact stp_assign rfl rfl); apply run_step rfl; (exact stp_assign rfl rfl); refine run_nil ?_; refine fin_seq ?_; refine goes_seq ?_; refine goes_seq ?_; refine goes_region ?_; apply run_step rfl; (exact stp_move rfl rfl); apply run_step rfl; (exact stp_not rfl rfl); apply run_step rfl; (exact stp_move rfl rfl); apply run_gNo rfl rfl rfl rfl rfl; apply run_gNo rfl rfl rfl rfl rfl; apply run_gNo rfl rfl rfl rfl rfl; apply run_gNo rfl rfl rfl rfl rfl; apply run_gNo rfl rfl rfl rfl rfl; apply run_step rfl; (exact stp_pickT rfl rfl rfl); refine run_nil ?_; refine fin_seq ?_)
    refine goes_cond rfl (fun _ => ?_) (fun e => by cases e)
    (refine goes_seq ?_; refine goes_region ?_; apply run_step rfl; (exact stp_assign rfl rfl); apply run_step rfl; (exact stp_assign rfl rfl); refine run_nil ?_; refine fin_seq ?_; refine goes_ret ?_; refine fin_ret_then ?_)
    exact fin_ret2 (.inl rfl) rfl (.tmp rfl) (.tmp rfl) trivial trivial
  | false =>
    have hn : 400 < cosN ((ng : Int), rels) ws := by rw [hf] at hs; simpa using hs
    have hT : FC Try.prog 138 [(1002, rowsRo ws), (1003, rowsRo rels)] [pA ng rels.length, o1 (.sl 1002 0 ws.length)] [(1005, imOw (cosTab ((ng : Int), rels) ws))] (.tup [.one (.sl 1005 0 ng), .one (.val (.bool true))]) [] := by
      rw [cosTab_nat]
      exact (implTable_yes hG hf).nm [(131, 1005), (1002, 1002), (1003, 1003)] (by kernel_rfl)
    have hlen : (irows (cosTab ((ng : Int), rels) ws)).length = ng := by rw [irows_len, cosTab_len]
    have hpos := hG.pos
    have hr0 : 400 < (lget (cosTab ((ng : Int), rels) ws) 0).length := by rw [cosTab_row hpos]; exact hn
    have hrow : (irows (cosTab ((ng : Int), rels) ws))[0]? = some (ivals (lget (cosTab ((ng : Int), rels) ws) 0)) := irows_get (by rw [← irows_len, hlen]; exact hpos)
    clear hs hn
    generalize cosTab ((ng : Int), rels) ws = T at *
    (refine goes_seq ?_; refine goes_region ?_; apply run_step rfl; (exact stp_box rfl rfl rfl rfl); apply run_step rfl; (exact stp_assign rfl rfl); apply run_step rfl; (exact stp_assign rfl rfl); refine run_nil ?_; refine fin_seq ?_; refine goes_seq ?_; refine goes_region ?_; apply run_step rfl; (exact stp_loadAgg rfl rfl rfl rfl rfl rfl (by as_aux_lemma => kernel_rfl)); apply run_step rfl; (exact stp_move rfl rfl); apply run_step rfl; (first | (apply call_gate 138; exact stp_callN hT (by as_aux_lemma => kernel_rfl) rfl rfl ⟨⟨.inl rfl, .inl rfl, trivial⟩, rfl, trivial⟩ ⟨⟨_, rfl, .inl rfl⟩, ⟨_, rfl, .inl rfl⟩, trivial⟩ rfl rfl rfl) | exact stp_ix (j := 0) rfl rfl rfl rfl rfl (by as_aux_lemma => kernel_rfl) rfl hpos (Nat.le_of_eq hlen.symm)); apply run_step rfl; (exact stp_move rfl rfl); apply run_step rfl; (exact stp_extract rfl rfl rfl); apply run_step rfl; (exact stp_extract rfl rfl rfl); apply run_step rfl; (exact stp_assign rfl rfl); apply run_step rfl; (exact stp_assign rfl rfl); refine run_nil ?_; refine fin_seq ?_; refine goes_seq ?_; refine goes_seq ?_; refine goes_region ?_; apply run_step rfl; (exact stp_move rfl rfl); apply run_step rfl; (exact stp_not rfl rfl); apply run_step rfl; (exact stp_move rfl rfl); apply run_gYes rfl rfl rfl; (exact stp_move rfl rfl); apply run_gYes rfl rfl rfl; (first | (apply call_gate 138; exact stp_callN hT (by as_aux_lemma => kernel_rfl) rfl rfl ⟨⟨.inl rfl, .inl rfl, trivial⟩, rfl, trivial⟩ ⟨⟨_, rfl, .inl rfl⟩, ⟨_, rfl, .inl rfl⟩, trivial⟩ rfl rfl rfl) | exact stp_ix (j := 0) rfl rfl rfl rfl rfl (by as_aux_lemma => kernel_rfl) rfl hpos (Nat.le_of_eq hlen.symm)); apply run_gYes rfl rfl rfl; (exact stp_loadR rfl (by as_aux_lemma => kernel_rfl) rfl rfl rfl (by first | assumption | exact ivals_get (by assumption) | exact irows_get (by assumption) | exact ivals_get (by omega) | exact irows_get (by omega) | rfl) (by first | exact ivals_len _ | assumption | rfl)); apply run_gYes rfl rfl rfl; (exact stp_len rfl rfl rfl (by as_aux_lemma => kernel_rfl)); apply run_gYes rfl rfl rfl; (exact stp_bin rfl rfl rfl rfl); apply run_step rfl; (exact stp_pickF rfl rfl rfl); refine run_nil ?_; refine fin_seq ?_)
    refine goes_cond rfl (fun _ => ?_) (fun e => ?_)
    · (refine goes_seq ?_; refine goes_region ?_; apply run_step rfl; (exact stp_assign rfl rfl); apply run_step rfl; (exact stp_assign rfl rfl); refine run_nil ?_; refine fin_seq ?_; refine goes_ret ?_; refine fin_ret_then ?_)
      exact fin_ret2 (.inl rfl) rfl (.tmp rfl) (.tmp rfl) trivial trivial
    · exfalso; simp at e; omega

end Go.Proofs.Ytpognnifgcacnaa

/- IsDiagram, the program's and the reference's. -/
namespace Go.Proofs.Ytpognnifgcacnaa
open Go.RowKit

/-- a label: 0, or 2 to 32 -/
def isLabel (z : Int) : Bool := z == 0 || inB z 2 32
/-- a diagram: fewer than 5 labels -/
def isDiag (zs : List Int) : Bool := zs.all isLabel && decide (zs.length < 5)

set_option maxHeartbeats 400000 in
theorem spec12Is_any (ao : Option Addr) (n c : Nat) (zs : List Int) (w : World) (h : Ints w ao n zs) :
    Calls Try.prog 105 #[.slice ao n c] w fun e w' => e = .returned (.bool (isDiag zs)) ∧ w' = w := by
  have hn := h.2.1
  go_enter Try.func105, Try.ntmps105
  go_wp2
  go_loop [3] (fun i => ∃ k : Nat, k ≤ n ∧ i = .int .i64 k ∧ (zs.take k).all isLabel = true) (fun i => n - (intOf i).toNat)
  case atStart => exact ⟨0, Nat.zero_le _, rfl, by simp⟩
  case round =>
    obtain ⟨k, hk, rfl, hpre⟩ := hrel
    have HP := Lib.hid hpre
    clear hpre
    by_cases hlt : k < n
    · obtain ⟨b, off, rfl, hc⟩ := h.at_ hlt
      have hl := h.1
      have HL := Lib.hid hl
      clear hl h
      cases hp : isLabel (iget zs k) with
      | true =>
        have HX := Lib.hid hp
        by_cases h0 : iget zs k = 0
        · have h1 : (iget zs k != 0) = false := by simp [h0]
          clear hp h0
          go_wp2
          go_round
          case rel => exact ⟨k + 1, by omega, by go_num, by rw [all_take_iget (by rw [HL.out]; exact hlt), HP.out, HX.out]; rfl⟩
          case measure => simp [intOf]; omega
        · have h1 : (iget zs k != 0) = true := by simp [h0]
          have h2 : inB (iget zs k) 2 32 = true := by unfold isLabel at hp; simpa [h0] using hp
          have H2 := Lib.hid h2
          clear hp h0 h2
          go_wp2_with (go_at_call 95; refine (specIn_any _ _ _ _).mono ?_; rintro e w' ⟨rfl, rfl⟩; rw [H2.out])
          go_round
          case rel => exact ⟨k + 1, by omega, by go_num, by rw [all_take_iget (by rw [HL.out]; exact hlt), HP.out, HX.out]; rfl⟩
          case measure => simp [intOf]; omega
      | false =>
        have HX := Lib.hid hp
        have h1 : (iget zs k != 0) = true := by
          rw [bne_iff_ne]; intro e; unfold isLabel at hp; simp [e] at hp
        have h2 : inB (iget zs k) 2 32 = false := by unfold isLabel at hp; simp only [Bool.or_eq_false_iff] at hp; exact hp.2
        have H2 := Lib.hid h2
        clear hp h2
        go_wp2_with (go_at_call 95; refine (specIn_any _ _ _ _).mono ?_; rintro e w' ⟨rfl, rfl⟩; rw [H2.out])
        go_ret
        exact ⟨ret_bool (by unfold isDiag; rw [all_false_at (by rw [HL.out]; exact hlt) HX.out]; rfl), rfl⟩
    · obtain rfl : k = n := by omega
      have hl := h.1
      have HL := Lib.hid hl
      clear hl
      go_wp2
      go_ret
      exact ⟨ret_bool (by have := HP.out; rw [List.take_of_length_le (Nat.le_of_eq HL.out)] at this; unfold isDiag; rw [this, HL.out]; simp; omega), rfl⟩

theorem isDiagramFn_any (z : Int) (w : World) :
    Calls Try.prog 179 #[.int .i64 z] w fun e w' => e = .returned (.bool (!isLabel z)) ∧ w' = w := by
  by_cases h0 : z = 0
  · have h1 : (z != 0) = false := by simp [h0]
    have h2 : isLabel z = true := by simp [isLabel, h0]
    have H2 := Lib.hid h2
    clear h0 h2
    go_enter Try.func179, Try.ntmps179
    go_wp2
    go_ret
    exact ⟨ret_bool (by rw [H2.out]; rfl), rfl⟩
  · have h1 : (z != 0) = true := by simp [h0]
    have h2 : isLabel z = inB z 2 32 := by simp [isLabel, h0]
    have H2 := Lib.hid h2
    clear h0 h2
    go_enter Try.func179, Try.ntmps179
    go_wp2_with (go_at_call 97; refine (within_any _ _ _ _).mono ?_; rintro e w' ⟨rfl, rfl⟩)
    go_ret
    exact ⟨ret_bool (by rw [H2.out]), rfl⟩

set_option maxRecDepth 100000 in
theorem isDiagramImpl_any (ao : Option Addr) (n c : Nat) (zs : List Int) (w : World) (h : Ints w ao n zs) :
    Calls Try.prog 109 #[.slice ao n c] w fun e w' => e = .returned (.bool (isDiag zs)) ∧ Below w.heap.size w w' := by
  have hl := h.1
  have HL := Lib.hid hl
  clear hl
  have hany : zs.any (fun z => !isLabel z) = !(zs.all isLabel) := by rw [List.any_eq_not_all_not]; simp
  have HA := Lib.hid hany
  clear hany
  by_cases hs : n < 5
  · have h1 : decide ((n : Int) < 5) = true := by simp; omega
    go_enter Try.func109, Try.ntmps109
    go_wp2_with fail
    refine (containsFunc_any 179 #[] (fun z => !isLabel z) ao n c zs w h (fun _ _ => by rfl) (fun j hj w' hb => (isDiagramFn_any _ w').mono ?_)).mono ?_
    · rintro e w1 ⟨rfl, rfl⟩; exact ⟨rfl, Below.refl _ _⟩
    rintro e w1 ⟨rfl, hb⟩
    go_wp2
    go_ret
    exact ⟨ret_bool (by rw [HA.out]; unfold isDiag; rw [HL.out]; simp [hs]), hb⟩
  · have h1 : decide ((n : Int) < 5) = false := by simp; omega
    go_enter Try.func109, Try.ntmps109
    go_wp2
    go_ret
    exact ⟨ret_bool (by unfold isDiag; rw [HL.out]; simp; intro _; omega), Below.refl _ _⟩

end Go.Proofs.Ytpognnifgcacnaa

/- The presentation of a diagram: what both call. -/
namespace Go.Proofs.Ytpognnifgcacnaa
open Go.RowKit

theorem repL_succ {α : Type} (zs : List α) (j : Nat) : repL zs (j + 1) = repL zs j ++ zs := by rw [repL_add, repL_one]

theorem wrap64_idN {i : Nat} (h : i ≤ 1048576) : wrap64 (i : Int) = i := by unfold wrap64; omega

theorem meas_down {i : Nat} {z : Int} (h : z = (i : Int)) : (intOf (.int .i64 z)).toNat < (intOf (.int .i64 ((i + 1 : Nat) : Int))).toNat := by subst h; simp [intOf]

set_option maxHeartbeats 400000 in
theorem specPower_any (ao : Option Addr) (n c k : Nat) (zs : List Int) (w : World) (h : Ints w ao n zs) (hk : k ≤ 1048576) (hnk : n * k ≤ 1048576) :
    Calls Try.prog 131 #[.slice ao n c, .int .i64 k] w fun e w' => ∃ ao' c', e = .returned (.slice ao' (n * k) c') ∧ Own w' w.heap.size 2 ao' (n * k) c' ((repL zs k).map (Value.int .i64)) ∧ Below w.heap.size w w' := by
  go_enter Try.func131, Try.ntmps131
  go_wp2
  go_loopw [1, 5] (fun i v wr => ∃ (j a' : Nat) (ao' : Option Addr) (c' : Nat), j ≤ k ∧ i = .int .i64 ((k - j : Nat) : Int) ∧ v = .slice ao' a' c' ∧ a' = n * j ∧ Own wr w.heap.size 2 ao' a' c' ((repL zs j).map (Value.int .i64)) ∧ Below w.heap.size w wr) (fun i _ _ => (intOf i).toNat)
  case atStart => exact ⟨0, 0, _, _, Nat.zero_le _, rfl, rfl, by simp, Own.empty_ w _ (Nat.le_refl _), (Below.refl _ _).alloc (Nat.le_refl _) _⟩
  case round =>
    obtain ⟨j, a', ao', c', hj, rfl, rfl, ha, ho, hb⟩ := hrel
    have HA := Lib.hid ha
    clear ha
    by_cases hlt : j < k
    · have hm : n * (j + 1) ≤ n * k := Nat.mul_le_mul_left _ hlt
      have hm2 : n * (j + 1) = n * j + n := Nat.mul_succ _ _
      have hi := h.below hb
      have hsz : a' + n ≤ 4398046511104 := by have := HA.out; omega
      have hbs := hb.size
      have HE := Lib.hid (show a' + n = n * (j + 1) by have := HA.out; omega)
      obtain ⟨i, hi2⟩ : ∃ i : Nat, k - j = i + 1 := ⟨k - j - 1, by omega⟩
      have HI := Lib.hid (show k - (j + 1) = i by omega)
      have hj1 : j + 1 ≤ k := hlt
      have HW := Lib.hid (wrap64_idN (i := i) (by omega))
      rw [hi2]
      clear hm hm2 hi2 h hnk hj hlt
      go_wp2_with (at_builtin; refine wpList_apN etI _ rfl _ _ rfl w.heap.size _ _ _ _ rfl ho ao n c zs rfl hi hsz hbs ?_; intro ao2 c2 w2 ho2 hg2 hblk)
      have hol := ho.lt
      clear ho hi
      go_wp2
      go_roundw
      case rel =>
        refine ⟨j + 1, _, ao2, c2, hj1, by rw [HI.out, HW.out], rfl, HE.out, ?_, hb.grown hg2 hbs (fun g hg => (hol g hg).1)⟩
        rw [repL_succ, List.map_append]; exact ho2
      case measure => exact meas_down HW.out
    · obtain rfl : j = k := by omega
      rw [Nat.sub_self]
      go_wp2
      go_ret
      rw [← HA.out]
      exact ⟨_, _, rfl, ho, hb⟩
end Go.Proofs.Ytpognnifgcacnaa

/- The presentation of a diagram: the data, and how one relator more is laid. -/
namespace Go.Proofs.Ytpognnifgcacnaa
open Go.RowKit

/-- the label between nodes i and j -/
def coxLab (zs : List Int) (i j : Nat) : Int := if j = i + 1 then iget zs i else 2
/-- the relators of nodes i and j: one, or none for label 0 -/
def coxOne (zs : List Int) (i j : Nat) : List (List Int) := if 0 < coxLab zs i j then [repL [(i : Int), (j : Int)] (coxLab zs i j).toNat] else []
/-- the relators of node i and the d nodes behind it -/
def coxRow (zs : List Int) (i : Nat) : Nat → List (List Int)
  | 0 => []
  | d + 1 => coxRow zs i d ++ coxOne zs i (i + 1 + d)
/-- the relators of the first k of N nodes -/
def coxUp (zs : List Int) (N : Nat) : Nat → List (List Int)
  | 0 => []
  | k + 1 => coxUp zs N k ++ coxRow zs k (N - (k + 1))
/-- the presentation of a diagram -/
def coxPres (zs : List Int) : PresD := (((zs.length + 1 : Nat) : Int), coxUp zs (zs.length + 1) (zs.length + 1))

theorem coxOne_len (zs : List Int) (i j : Nat) : (coxOne zs i j).length ≤ 1 := by unfold coxOne; split <;> simp
theorem coxRow_len (zs : List Int) (i d : Nat) : (coxRow zs i d).length ≤ d := by
  induction d with
  | zero => simp [coxRow]
  | succ d ih => have := coxOne_len zs i (i + 1 + d); simp [coxRow]; omega
theorem coxUp_len (zs : List Int) (N k : Nat) : (coxUp zs N k).length ≤ N * k := by
  induction k with
  | zero => simp [coxUp]
  | succ k ih => have := coxRow_len zs k (N - (k + 1)); simp [coxUp, Nat.mul_succ]; omega

/-- one element more, at the end of a row of the call's own, in a region that draws its order -/
theorem step_ap1 {P : Program} {S E : TypeId} {z : Value} {bytes : Nat} (et : ET P S E z bytes) {ops : Array Oper} {o : Oper} {a : Act} {Q : Exit → Act → World → Prop} {w : World} {K : Act → World → Prop} {X : Prop} (hg : o.guard = none) (s x : Operand) (ho : o.op = .call { callee := .builtin .append, args := #[s, x], argTypes := #[S, S] })
    (base : Nat) (ao : Option Addr) (n c : Nat) (xs : List Value) (hs : a.eval s = .slice ao n c) (hown : Own w base E ao n c xs) (u : Value) (xb xc : Nat)
    (hx : a.eval x = .slice (some ⟨xb, 0, none⟩) 1 xc) (hc : w.cell? ⟨xb, 0, none⟩ = some u) (hu : u.oneCell' = true) (hn : n + 1 ≤ 4398046511104) (hbase : base ≤ w.heap.size)
    (h : ∀ ao' c' w', Own w' base E ao' (n + 1) c' (xs ++ [u]) → w.grownBy w' (bk ao) → (bk ao' = bk ao ∨ bk ao' = some w.heap.size) → K (a.put o.dst (.slice ao' (n + 1) c')) w') : if Region.wanted o (yielded ops a.tmps) = true then Oper.wp P o a w K Q else X := by
  obtain ⟨i, hi, hz, hsz, hby⟩ := info_parts et.info
  have hw : Region.wanted o (yielded ops a.tmps) = true := by simp [Region.wanted, hg]
  rw [if_pos hw]
  obtain ⟨v', w', hr, h2, h3, h4, h5⟩ := run_append_own_at (P := P) w base S o.type E i z 1 bytes et.und hi hz hsz hby (by rw [et.one]; rfl) (by omega) (.slice ao n c) n xs hown.1 ⟨xb, 0, none⟩ 1 xc [u] rfl
    (by
      intro j u' hu'
      match j, hu' with
      | 0, hu' => simp at hu'; subst hu'; rw [Addr.add_lit]; exact hc)
    (by intro v hv; simp at hv; subst hv; exact hu) (by simp [maxLen]; omega) (by have := et.small; have : (n + 1) * bytes ≤ (n + 1) * 32 := Nat.mul_le_mul_left _ this; omega) hbase
  unfold Oper.wp execOp
  simp only [ho, resolve, invoke, builtin, Sem.run_bind, Sem.run_pure, Result.andThen_ok, List.map_toArray, List.map_cons, List.map_nil, hs, hx, hr]
  obtain ⟨g, cap, rfl, hb, hlt⟩ := h2.form (by omega)
  rw [ownBlock_slice] at h3
  refine h _ _ _ ⟨h2, hn⟩ h3 ?_
  rw [ownBlock_slice, ownBlock_slice] at h5
  exact h5

/-- a list of the call's own, just made, is laid at the end of a row of lists -/
theorem rows_push {T1 E lo : Nat} {wr w2 w3 w4 : World} {ao ao' ao2 : Option Addr} {m c n' c' c2 : Nat} {us : List Value} {ds : List (List Int)} {zs : List Int}
    (hR : OwR (OwS T1) wr lo wr.heap.size E ao m c us ds) (hlo : lo ≤ wr.heap.size) (hb : Below wr.heap.size wr w2) (hu : Own w2 wr.heap.size T1 ao' n' c' (zs.map (Value.int .i64))) (hb3 : Below w2.heap.size w2 w3)
    (hown : Own w4 lo E ao2 (m + 1) c2 (us ++ [.slice ao' n' c'])) (hg : w3.grownBy w4 (bk ao)) (hat : bk ao2 = bk ao ∨ bk ao2 = some w3.heap.size) :
    OwR (OwS T1) w4 lo w4.heap.size E ao2 (m + 1) c2 (us ++ [.slice ao' n' c']) (ds ++ [zs]) := by
  have hR3 : OwR (OwS T1) w3 lo wr.heap.size E ao m c us ds := hR.below (innerS _) (hb.trans (hb3.mono hb.size))
  have s1 := hb.size
  have s2 := hb3.size
  have s3 := hg.size
  have hub : ∀ g, bk ao' = some g → wr.heap.size ≤ g ∧ g < w2.heap.size := hu.lt
  have hne : ∀ g, bk ao' = some g → bk ao ≠ some g := fun g h1 h2 => by have := hub g h1; have := hR.top g h2; omega
  have hu4 : OwS T1 w4 (.slice ao' n' c') zs := (innerS T1).loc (w := w2) ⟨ao', n', c', rfl, hu.mono (Nat.zero_le _)⟩ fun g h => by
    rw [ownBlock_slice] at h
    have := hub g h
    rw [hg.block g (by omega) (fun e => hne g h e.symm)]
    exact hb3.block g this.2
  refine hR3.push (innerS _) hown hg hu4 (in_slice fun g h => ⟨by have := hub g h; omega, by have := hub g h; omega⟩) (fun g h => (hown.lt g h).2) (by omega) ?_ ?_
  · intro g h
    rcases hat with h1 | h1
    · exact .inl (h1 ▸ h)
    · refine .inr fun j u hj e => ?_
      rw [h1] at h; obtain rfl := Option.some.inj h
      have := (hR3.rng j u hj _ e).2
      omega
  · intro g h
    rw [ownBlock_slice] at h
    have hh := hub g h
    refine ⟨fun e => ?_, fun j v hj e => ?_⟩
    · rcases hat with h1 | h1
      · exact hne g h (h1 ▸ e)
      · rw [h1] at e; have := Option.some.inj e; omega
    · have := (hR3.rng j v hj _ e).2; omega
end Go.Proofs.Ytpognnifgcacnaa

/- WithRelators, the reference's parts: l01Own, l01Own2, l11Code. -/
namespace Go.Proofs.Ytpognnifgcacnaa
open Go.RowKit

set_option maxRecDepth 100000 in
set_option maxHeartbeats 400000 in
theorem own_any (ao : Option Addr) (n c : Nat) (zs : List Int) (w : World) (h : Ints w ao n zs) (hn : n ≤ 1048576) :
    Calls Try.prog 121 #[.slice ao n c] w fun e w' => ∃ ao' c', e = .returned (.slice ao' n c') ∧ Own w' w.heap.size 2 ao' n c' (zs.map (Value.int .i64)) ∧ Below w.heap.size w w' := by
  have h2 : Ints (w.alloc (.cells #[] 2)) ao n zs := h.below (below_alloc1 _ _)
  have H2 := Lib.hid h2
  clear h2
  go_enter Try.func121, Try.ntmps121
  go_wp2_with (at_builtin; refine wpList_apN etI _ rfl _ _ rfl w.heap.size _ 0 0 [] rfl (Own.empty_ w _ (Nat.le_refl _)) ao n c zs rfl H2.out (by omega) (by simp) ?_; intro ao2 c2 w2 ho2 hg2 hblk)
  go_ret
  refine ⟨_, _, rfl, by simpa using ho2, (below_alloc1 w _).grown hg2 (by simp) (fun g hg => ?_)⟩
  simp [bk] at hg; omega

/-- a list of the call's own, just made, is laid at the end of a row of lists -/
theorem rows_push2 {T1 E lo : Nat} {wr w2 w3 w4 : World} {ao ao' ao2 : Option Addr} {m c n' c' c2 : Nat} {us : List Value} {ds : List (List Int)} {zs : List Int}
    (hR : OwR (OwS T1) wr lo wr.heap.size E ao m c us ds) (hlo : lo ≤ wr.heap.size) (hb : Below wr.heap.size wr w2) (hu : Own w2 wr.heap.size T1 ao' n' c' (zs.map (Value.int .i64))) (hb3 : Below w2.heap.size w2 w3)
    (hown : Own w4 lo E ao2 (m + 1) c2 (us ++ [.slice ao' n' c'])) (hg : w3.grownBy w4 (bk ao)) (hat : bk ao2 = bk ao ∨ ∃ g, bk ao2 = some g ∧ w2.heap.size ≤ g) :
    OwR (OwS T1) w4 lo w4.heap.size E ao2 (m + 1) c2 (us ++ [.slice ao' n' c']) (ds ++ [zs]) := by
  have hR3 : OwR (OwS T1) w3 lo wr.heap.size E ao m c us ds := hR.below (innerS _) (hb.trans (hb3.mono hb.size))
  have s1 := hb.size
  have s2 := hb3.size
  have s3 := hg.size
  have hub : ∀ g, bk ao' = some g → wr.heap.size ≤ g ∧ g < w2.heap.size := hu.lt
  have hne : ∀ g, bk ao' = some g → bk ao ≠ some g := fun g h1 h2 => by have := hub g h1; have := hR.top g h2; omega
  have hu4 : OwS T1 w4 (.slice ao' n' c') zs := (innerS T1).loc (w := w2) ⟨ao', n', c', rfl, hu.mono (Nat.zero_le _)⟩ fun g h => by
    rw [ownBlock_slice] at h
    have := hub g h
    rw [hg.block g (by omega) (fun e => hne g h e.symm)]
    exact hb3.block g this.2
  refine hR3.push (innerS _) hown hg hu4 (in_slice fun g h => ⟨by have := hub g h; omega, by have := hub g h; omega⟩) (fun g h => (hown.lt g h).2) (by omega) ?_ ?_
  · intro g h
    rcases hat with h1 | ⟨g1, h1, h5⟩
    · exact .inl (h1 ▸ h)
    · refine .inr fun j u hj e => ?_
      rw [h1] at h; obtain rfl := Option.some.inj h
      have := (hR3.rng j u hj _ e).2
      omega
  · intro g h
    rw [ownBlock_slice] at h
    have hh := hub g h
    refine ⟨fun e => ?_, fun j v hj e => ?_⟩
    · rcases hat with h1 | ⟨g1, h1, h5⟩
      · exact hne g h (h1 ▸ e)
      · rw [h1] at e; have := Option.some.inj e; omega
    · have := (hR3.rng j v hj _ e).2; omega
set_option maxRecDepth 100000 in
set_option maxHeartbeats 800000 in
theorem own2_any (ao : Option Addr) (n c : Nat) (zss : List (List Int)) (w : World) (h : Intss w ao n zss) (hn : zss.length + lenSS zss ≤ 1048576) :
    Calls Try.prog 152 #[.slice ao n c] w fun e w' => ∃ v, e = .returned v ∧ OwSS 2 49 w' w.heap.size w'.heap.size v zss ∧ Below w.heap.size w w' := by
  have HL := Lib.hid h.1
  have hn1 : n ≤ 1048576 := by have := HL.out; omega
  go_enter Try.func152, Try.ntmps152
  go_wp2
  go_loopw [4, 3] (fun i v wr => ∃ (k : Nat) (ao' : Option Addr) (c' : Nat) (us : List Value), k ≤ n ∧ i = .int .i64 k ∧ v = .slice ao' k c' ∧ OwR (OwS 2) wr w.heap.size wr.heap.size 49 ao' k c' us (zss.take k) ∧ Below w.heap.size w wr) (fun i _ _ => n - (intOf i).toNat)
  case atStart => exact ⟨0, _, _, [], Nat.zero_le _, rfl, rfl, OwR.empty_ (Own.empty_ w _ (Nat.le_refl _)) (by intro g hg; simp [bk] at hg; simp; omega), below_alloc1 _ _⟩
  case round =>
    obtain ⟨k, ao', c', us, hk, rfl, rfl, ho, hb⟩ := hrel
    by_cases hlt : k < n
    · obtain ⟨b, off, a1, n1, c1, rfl, hc, h1⟩ := (h.below hb).at_ hlt
      have hkl : k < zss.length := by rw [HL.out]; exact hlt
      have hsz : n1 ≤ 1048576 := by have := len_le_lenSS hkl; have := h1.1; omega
      have hbs := hb.size
      have HT := Lib.hid (take_lget hkl)
      clear hkl
      go_wp2_with fail
      refine (own_any a1 n1 c1 (lget zss k) _ h1 hsz).mono ?_
      rintro e w2 ⟨a2, c2, rfl, o2, b2⟩
      have ho2 := ho.own.below b2
      have hs2 := b2.size
      go_wp2_with (at_builtin; refine wpList_ap1 etSS _ rfl _ _ rfl w.heap.size ao' k c' us rfl ho2 (.slice a2 n1 c2) rfl rfl (by omega) (by omega) ?_; intro ao3 c3 w3 o3 g3 hat)
      have hR := rows_push2 ho hbs b2 o2 (Below.refl _ _) o3 g3 (hat.imp id fun e => ⟨_, e, by omega⟩)
      have hB := (below_tr b2 hb).grown g3 (by omega) (fun g hg => (ho.own.lt g hg).1)
      clear ho ho2 o2 b2 o3 g3 hat h1 hb
      go_wp2
      go_roundw
      case rel => exact ⟨k + 1, ao3, c3, _, by omega, by go_num, rfl, by rw [HT.out]; exact hR, hB⟩
      case measure => simp [intOf]; omega
    · obtain rfl : k = n := by omega
      rw [List.take_of_length_le (Nat.le_of_eq HL.out)] at ho
      go_wp2_with fail
      go_ret
      exact ⟨_, rfl, ⟨_, _, _, us, rfl, ho⟩, hb⟩
end Go.Proofs.Ytpognnifgcacnaa

/- slices.Grow and slices.Concat at [][]int64, of two lists: the rows are shared. -/
namespace Go.Proofs.Ytpognnifgcacnaa
open Go.RowKit

/-- the headers of the rows -/
theorem Intss.heads {w : World} {ao : Option Addr} {n : Nat} {zss : List (List Int)} (h : Intss w ao n zss) : ∃ us, Vals w ao n us ∧ (∀ u ∈ us, u.oneCell' = true) ∧ ∀ j u, us[j]? = some u → RdS w u (lget zss j) := by
  rcases Nat.eq_zero_or_pos n with h0 | h0
  · subst h0
    exact ⟨[], ⟨rfl, by omega, fun h => absurd h (by omega)⟩, fun u hu => (nomatch hu), fun j u hu => by simp at hu⟩
  · obtain ⟨b, off, e, hc⟩ := h.2.2 h0
    have hget : ∀ j u, ((List.range n).map fun j => (w.cell? ⟨b, off + j, none⟩).getD undef)[j]? = some u → j < n ∧ w.cell? ⟨b, off + j, none⟩ = some u ∧ RdS w u (lget zss j) := fun j u hu => by
      rw [List.getElem?_map] at hu
      obtain ⟨i, hi, rfl⟩ := Option.map_eq_some_iff.1 hu
      have hj : j < n := by
        have := (List.getElem?_eq_some_iff.1 hi).1
        simpa using this
      rw [List.getElem?_range hj] at hi
      obtain rfl := Option.some.inj hi
      obtain ⟨u, h1, h2⟩ := hc j hj
      rw [h1]
      exact ⟨hj, rfl, h2⟩
    refine ⟨_, ⟨by simp, h.2.1, fun _ => ⟨b, off, e, fun j u hu => (hget j u hu).2.1⟩⟩, fun u hu => ?_, fun j u hu => (hget j u hu).2.2⟩
    obtain ⟨j, hj, e2⟩ := List.getElem_of_mem hu
    obtain ⟨_, _, a', n', c', e3, _⟩ := hget j u (by rw [← e2]; exact List.getElem?_eq_getElem hj)
    rw [e3]; rfl
theorem Vals.below {w w' : World} {ao : Option Addr} {n : Nat} {us : List Value} (h : Vals w ao n us) (hb : Below w.heap.size w w') : Vals w' ao n us := by
  refine ⟨h.1, h.2.1, fun h0 => ?_⟩
  obtain ⟨b, off, e, hc⟩ := h.2.2 h0
  refine ⟨b, off, e, fun j u hu => ?_⟩
  have := hc j u hu
  exact (hb.cell (p := ⟨b, off + j, none⟩) (World.block_lt_of_cell? w _ this)).trans this

set_option maxRecDepth 100000 in
set_option maxHeartbeats 800000 in
theorem growSS_any (n : Nat) (w : World) (hn : n ≤ 1048576) :
    Calls Try.prog 215 #[.slice none 0 0, .int .i64 n] w fun e w' => ∃ ao' c', e = .returned (.slice ao' 0 c') ∧ Own w' w.heap.size 49 ao' 0 c' [] ∧ Below w.heap.size w w' := by
  by_cases h0 : n = 0
  · subst h0
    go_enter Try.func215, Try.ntmps215
    go_wp2
    go_ret
    exact ⟨_, _, rfl, Own.nil_ _ _ _, Below.refl _ _⟩
  · have q0 : (0 : Int) < (n : Int) := by omega
    obtain ⟨i, hi, hz, hsz, hby⟩ := info_parts etSS.info
    have hr := Lib.run_append_nil_zeros (P := Try.prog) w 39 3 39 49 i (.slice none 0 0) .i64 .i64 etSS.und (by kernel_rfl) hi hz n (by omega) (by omega) (by omega) (by have := etSS.small; rw [hby]; omega)
    have hge := grownCap_ge w n 0 49
    have hle := grownCap_le_maxLen w n 0 49 (by simp [maxLen]; omega)
    obtain ⟨cap, hcap⟩ : ∃ cap, grownCap w n 0 49 = cap := ⟨_, rfl⟩
    rw [hcap] at hr hge hle
    have hzs : (Builtin.zeroCells (Value.slice none 0 0).cells n ++ Builtin.zeroCells (Value.slice none 0 0).cells (cap - n)).size = cap := by
      rw [Array.size_append]
      simp only [size_zeroCells]
      have : (Value.slice none 0 0).cells.size = 1 := rfl
      rw [this]; omega
    obtain ⟨cs, hcs⟩ : ∃ cs, Builtin.zeroCells (Value.slice none 0 0).cells n ++ Builtin.zeroCells (Value.slice none 0 0).cells (cap - n) = cs := ⟨_, rfl⟩
    rw [hcs] at hr hzs
    have HRR := Lib.hid hr
    have HZ := Lib.hid hzs
    have HI := Lib.hid (And.intro hi hz)
    clear hr hcs hcap hzs hi hz hsz hby
    go_enter Try.func215, Try.ntmps215
    go_wp2_with (at_builtin; refine Lib.wpList_append_run _ rfl _ _ _ _ rfl _ _ rfl rfl _ _ HRR.out ?_)
    go_ret
    refine ⟨_, _, rfl, ⟨⟨rfl, .inr ⟨w.heap.size, cap, cs, rfl, Nat.le_refl _, heap_alloc_new w _, Nat.zero_le _, hle, by rw [HZ.out, Nat.mul_one], by simp⟩⟩, by omega⟩, ?_⟩
    exact (below_alloc1 w _).trans ((below_drew1 _).mono (by simp))
/-- the rows of a fresh list: each reads as it did in the world w0 -/
def HeadsZ (w0 : World) (lo : Nat) (w : World) (al : Option Addr) (n : Nat) (Z : List (List Int)) : Prop := 0 < n → ∃ b, al = some ⟨b, 0, none⟩ ∧ lo ≤ b ∧ b < w.heap.size ∧ ∀ j, j < n → ∃ u, w.cell? ⟨b, j, none⟩ = some u ∧ RdS w0 u (lget Z j)
set_option maxRecDepth 100000 in
set_option maxHeartbeats 1600000 in
theorem concat_any (w0 : World) (b0 : Nat) (c0 : Nat) (a1 a2 : Option Addr) (n1 c1 n2 c2 : Nat) (R W : List (List Int)) (w : World) (k0 : w.cell? ⟨b0, 0, none⟩ = some (.slice a1 n1 c1)) (k1 : w.cell? ⟨b0, 1, none⟩ = some (.slice a2 n2 c2)) (hb00 : Below w0.heap.size w0 w) (h1 : Intss w0 a1 n1 R) (h2 : Intss w0 a2 n2 W) (hn1 : n1 ≤ 100000) (hn2 : n2 ≤ 100000) :
    Calls Try.prog 183 #[.slice (some ⟨b0, 0, none⟩) 2 c0] w fun e w' => ∃ ao c, e = .returned (.slice ao (n1 + n2) c) ∧ HeadsZ w0 w.heap.size w' ao (n1 + n2) (R ++ W) ∧ Below w.heap.size w w' := by
  have hb0 := World.block_lt_of_cell? w _ k0
  obtain ⟨us1, v1, o1, r1⟩ := h1.heads
  obtain ⟨us2, v2, o2, r2⟩ := h2.heads
  have v1 := v1.below hb00
  have v2 := v2.below hb00
  have hl1 := h1.1
  have hl2 := h2.1
  have hG := growSS_any (n1 + n2) w (by omega)
  rw [Int.natCast_add] at hG
  have HG := Lib.hid hG
  have HLS := Lib.hid (And.intro hl1 hl2)
  clear hG hl1 hl2
  have V1 := Lib.hid (And.intro v1 (And.intro o1 r1))
  have V2 := Lib.hid (And.intro v2 (And.intro o2 r2))
  clear h1 h2 v1 o1 r1 v2 o2 r2
  go_enter Try.func183, Try.ntmps183
  go_wp2_with fail
  refine wp_loop_rounds 3 ?_
  rw [rounds_succ]
  go_wp2_with fail
  rw [rounds_succ]
  go_wp2_with fail
  rw [rounds_succ]
  go_wp2_with fail
  refine HG.out.mono ?_
  rintro e w1 ⟨ag, cg, rfl, og, bg⟩
  have k0' := (bg.cell (p := ⟨b0, 0, none⟩) hb0).trans k0
  have k1' := (bg.cell (p := ⟨b0, 1, none⟩) hb0).trans k1
  have hs1 := bg.size
  clear k0 k1
  have OG := Lib.hid og
  have BG := Lib.hid bg
  clear og bg
  go_wp2_with fail
  refine wp_loop_rounds 3 ?_
  rw [rounds_succ]
  go_wp2_with (at_builtin; refine wpList_apV etSS _ rfl _ _ rfl w.heap.size ag 0 cg [] rfl OG.out a1 n1 c1 us1 rfl (V1.out.1.below BG.out) V1.out.2.1 (by omega) hs1 ?_; intro ao2 c2' w2 o2 g2 hat2)
  have B2 := BG.out.grown g2 hs1 (fun g hg => (OG.out.lt g hg).1)
  rw [Nat.zero_add, List.nil_append] at o2
  have O2 := Lib.hid o2
  have k1'' := (B2.cell (p := ⟨b0, 1, none⟩) hb0).trans ((BG.out.cell (p := ⟨b0, 1, none⟩) hb0).symm.trans k1')
  have hs2 := B2.size
  have HB2 := Lib.hid B2
  clear o2 g2 hat2 B2 k0' k1'
  try rw [Nat.zero_add]
  go_wp2_with fail
  rw [rounds_succ]
  go_wp2_with (at_builtin; refine wpList_apV etSS _ rfl _ _ rfl w.heap.size ao2 n1 c2' us1 rfl O2.out a2 n2 c2 us2 rfl (V2.out.1.below HB2.out) V2.out.2.1 (by omega) hs2 ?_; intro ao3 c3' w3 o3 g3 hat3)
  have B3 := HB2.out.grown g3 hs2 (fun g hg => (O2.out.lt g hg).1)
  have O3 := Lib.hid o3
  have HB3 := Lib.hid B3
  clear o3 g3 hat3 B3 k1''
  go_wp2_with fail
  rw [rounds_succ]
  go_wp2_with fail
  go_ret
  refine ⟨ao3, c3', rfl, ?_, HB3.out⟩
  obtain ⟨hl1, hl2⟩ := HLS.out
  have hu1 := V1.out.1.1
  have hu2 := V2.out.1.1
  intro h0
  obtain ⟨g, rfl, hg1, hg2, _, hc, _⟩ := O3.out.form h0
  have hlt := (O3.out.lt g rfl).2
  refine ⟨g, rfl, (O3.out.lt g rfl).1, hlt, fun j hj => ?_⟩
  rw [hc j hj]
  by_cases h : j < n1
  · rw [List.getElem?_append_left (by omega), List.getElem?_eq_getElem (by omega)]
    refine ⟨_, rfl, ?_⟩
    have := V1.out.2.2 j _ (List.getElem?_eq_getElem (by omega))
    rw [show lget (R ++ W) j = lget R j by rw [lget_lt (by rw [List.length_append]; omega), lget_lt (by omega), List.getElem_append_left (by omega)]]
    exact this
  · rw [List.getElem?_append_right (by omega), List.getElem?_eq_getElem (by omega)]
    refine ⟨_, rfl, ?_⟩
    have := V2.out.2.2 (j - us1.length) _ (List.getElem?_eq_getElem (by omega))
    rw [show lget (R ++ W) j = lget W (j - us1.length) by rw [lget_lt (by rw [List.length_append]; omega), lget_lt (by omega), List.getElem_append_right (by omega)]; congr 1; omega]
    exact this
end Go.Proofs.Ytpognnifgcacnaa

/- The code of a presentation and words: see 11Code (this text is kept for those that import it). -/
namespace Go.Proofs.Ytpognnifgcacnaa
end Go.Proofs.Ytpognnifgcacnaa

/- The presentation of a diagram: the reference's walk. -/
namespace Go.Proofs.Ytpognnifgcacnaa
open Go.RowKit

/-- the box of the result, the box of p, its relators -/
structure CoxSt (w wr : World) (N : Nat) (ao : Option Addr) (m c : Nat) (us : List Value) (ds : List (List Int)) : Prop where
  res : Blk wr w.heap.size 72 #[.int .i64 0, .slice none 0 0]
  box : Blk wr (w.heap.size + 1) 72 #[.int .i64 N, .slice ao m c]
  row : OwR (OwS 2) wr (w.heap.size + 2) wr.heap.size 49 ao m c us ds
  size : w.heap.size + 2 ≤ wr.heap.size
  below : Below w.heap.size w wr
  few : m ≤ 1000

set_option maxHeartbeats 400000 in
theorem rank_any (ao : Option Addr) (n c : Nat) (w : World) (hn : n ≤ 1048576) : Calls Try.prog 174 #[.slice ao n c] w fun e w' => e = .returned (.int .i64 ((n + 1 : Nat) : Int)) ∧ w = w' := by
  go_enter Try.func174, Try.ntmps174
  go_wp2
  go_ret
  exact ⟨ret_int (by omega), rfl⟩

theorem CoxSt.push {w wr w2 w3 w4 : World} {N m c' n1 c1 c2 : Nat} {ao' a1 ao2 : Option Addr} {us : List Value} {ds : List (List Int)} {zs : List Int} (st : CoxSt w wr N ao' m c' us ds) (hm : m + 1 ≤ 1000)
    (b2 : Below wr.heap.size wr w2) (o1 : Own w2 wr.heap.size 2 a1 n1 c1 (zs.map (Value.int .i64))) (b3 : Below w2.heap.size w2 w3) (o4 : Own w4 (w.heap.size + 2) 49 ao2 (m + 1) c2 (us ++ [.slice a1 n1 c1]))
    (g4 : w3.grownBy w4 (bk ao')) (hat : bk ao2 = bk ao' ∨ bk ao2 = some w3.heap.size) :
    CoxSt w (w4.setCell ⟨w.heap.size + 1, 1, none⟩ (.slice ao2 (m + 1) c2)) N ao2 (m + 1) c2 (us ++ [.slice a1 n1 c1]) (ds ++ [zs]) := by
  have hR := rows_push st.row st.size b2 o1 b3 o4 g4 hat
  have hsz := st.size
  have s2 := b2.size
  have s3 := b3.size
  have s4 := g4.size
  have B4 : Below (w.heap.size + 2) wr w4 := ((b2.trans (b3.mono s2)).mono hsz).grown g4 (by omega) (fun g hg => (st.row.own.lt g hg).1)
  have hh : (w4.setCell ⟨w.heap.size + 1, 1, none⟩ (.slice ao2 (m + 1) c2)).heap.size = w4.heap.size := by simp [World.setCell]
  refine ⟨(st.res.below B4 (by omega)).far (by simp) _, ?_, ?_, by rw [hh]; omega, (st.below.trans (B4.mono (by omega))).setCell (by simp) _, hm⟩
  · have := (st.box.below B4 (by omega)).set_ 1 (.slice ao2 (m + 1) c2)
    simpa using this
  · rw [hh]
    exact hR.same (innerS _) fun g h1 _ _ => Below.heap_setCell _ _ _ _ (by simp; omega)

theorem CoxSt.done {w wr : World} {N m c' : Nat} {ao' : Option Addr} {us : List Value} {ds : List (List Int)} (st : CoxSt w wr N ao' m c' us ds) :
    Blk ((wr.setCell ⟨w.heap.size, 0, none⟩ (.int .i64 N)).setCell ⟨w.heap.size, 1, none⟩ (.slice ao' m c')) w.heap.size 72 #[.int .i64 N, .slice ao' m c'] ∧
    OwR (OwS 2) ((wr.setCell ⟨w.heap.size, 0, none⟩ (.int .i64 N)).setCell ⟨w.heap.size, 1, none⟩ (.slice ao' m c')) (w.heap.size + 2) ((wr.setCell ⟨w.heap.size, 0, none⟩ (.int .i64 N)).setCell ⟨w.heap.size, 1, none⟩ (.slice ao' m c')).heap.size 49 ao' m c' us ds ∧
    Below w.heap.size w ((wr.setCell ⟨w.heap.size, 0, none⟩ (.int .i64 N)).setCell ⟨w.heap.size, 1, none⟩ (.slice ao' m c')) := by
  have hh : ((wr.setCell ⟨w.heap.size, 0, none⟩ (.int .i64 N)).setCell ⟨w.heap.size, 1, none⟩ (.slice ao' m c')).heap.size = wr.heap.size := by simp [World.setCell]
  refine ⟨?_, ?_, (st.below.setCell (by simp) _).setCell (by simp) _⟩
  · have := (st.res.set_ 0 (.int .i64 N)).set_ 1 (.slice ao' m c')
    simpa using this
  · rw [hh]
    exact st.row.same (innerS _) fun g h1 _ _ => by rw [Below.heap_setCell _ _ _ _ (by simp; omega), Below.heap_setCell _ _ _ _ (by simp; omega)]

theorem coxRow_one {zs : List Int} {k j : Nat} (h : k < j) : coxRow zs k (j + 1 - (k + 1)) = coxRow zs k (j - (k + 1)) ++ coxOne zs k j := by
  rw [show j + 1 - (k + 1) = (j - (k + 1)) + 1 by omega, coxRow, show k + 1 + (j - (k + 1)) = j by omega]

set_option maxRecDepth 100000 in
set_option maxHeartbeats 1600000 in
theorem specCox_any (ao : Option Addr) (n c : Nat) (zs : List Int) (w : World) (h : Ints w ao n zs) (hz : ∀ j, j < n → 0 ≤ iget zs j ∧ iget zs j ≤ 32) (hn : n < 5) :
    Calls Try.prog 106 #[.slice ao n c] w fun e w' => ∃ v, e = .returned v ∧ OwP 2 49 w' w.heap.size w'.heap.size v (coxPres zs) ∧ Below w.heap.size w w' := by
  have HL := Lib.hid h.1
  obtain ⟨N, hN⟩ : ∃ N, n + 1 = N := ⟨_, rfl⟩
  have hN5 : N ≤ 5 := by omega
  go_enter Try.func106, Try.ntmps106
  go_wp2_with (go_at_call 174; refine (rank_any ao n c _ (by omega)).mono ?_; rintro e w1 ⟨rfl, hw1⟩; rw [hN]; subst hw1)
  have r0 : Blk ((w.alloc (.cells #[.int .i64 0, .slice none 0 0] 72)).alloc (.cells #[.int .i64 N, .slice none 0 0] 72)) w.heap.size 72 #[.int .i64 0, .slice none 0 0] := (blk_at rfl).alloc _
  have r1 : Blk ((w.alloc (.cells #[.int .i64 0, .slice none 0 0] 72)).alloc (.cells #[.int .i64 N, .slice none 0 0] 72)) (w.heap.size + 1) 72 #[.int .i64 N, .slice none 0 0] := blk_at (by simp)
  go_loopw [4] (fun i wr => ∃ (k m : Nat) (ao' : Option Addr) (c' : Nat) (us : List Value), i = .int .i64 k ∧ k ≤ N ∧ CoxSt w wr N ao' m c' us (coxUp zs N k)) (fun i _ => N - (intOf i).toNat)
  case atStart => exact ⟨0, 0, none, 0, [], rfl, Nat.zero_le _, r0, r1, OwR.empty_ (Own.nil_ _ _ _) (fun g hg => by cases hg), by simp, below_alloc2 _ _ _, by omega⟩
  case round =>
    obtain ⟨k, m, ao', c', us, rfl, hk, st⟩ := hrel
    by_cases hlt : k < N
    · have x0 := st.box.cell 0
      simp at x0
      have ST := Lib.hid st
      clear st r0 r1
      go_wp2_with fail
      go_loopw [5] (fun i wr => ∃ (j m : Nat) (ao' : Option Addr) (c' : Nat) (us : List Value), i = .int .i64 j ∧ k < j ∧ j ≤ N ∧ CoxSt w wr N ao' m c' us (coxUp zs N k ++ coxRow zs k (j - (k + 1)))) (fun i _ => N - (intOf i).toNat)
      case atStart => exact ⟨k + 1, m, ao', c', us, by simp, by omega, by omega, by simpa [coxRow] using ST.out⟩
      case round =>
        obtain ⟨j, m, ao', c', us, rfl, hkj, hj, st⟩ := hrel
        clear ST x0
        have x0 := st.box.cell 0
        have x1 := st.box.cell 1
        have f1 := st.box.frozen 1
        simp at x0 x1
        have ST := Lib.hid st
        clear st
        by_cases hlt2 : j < N
        · by_cases hjk : j = k + 1
          · subst hjk
            obtain ⟨L, hL⟩ : ∃ L : Nat, iget zs k = (L : Int) := ⟨(iget zs k).toNat, by have := hz k (by omega); omega⟩
            have hL2 : L ≤ 32 := by have := hz k (by omega); omega
            have hlab : coxLab zs k (k + 1) = (L : Int) := by unfold coxLab; rw [if_pos rfl, hL]
            have HLAB := Lib.hid hlab
            clear hlab
            obtain ⟨b, off, rfl, hc⟩ := (h.below ST.out.below).at_ (k := k) (by omega)
            rw [hL] at hc
            by_cases hL0 : 0 < L
            · have hm : m + 1 ≤ 1000 := by have h1 := ST.out.row.len; have h2 := coxUp_len zs N k; have h3 := coxRow_len zs k ((k + 1) - (k + 1)); have h4 : N * k ≤ 5 * 5 := Nat.mul_le_mul hN5 (by omega); rw [List.length_append] at h1; omega
              have hP : Ints (wr.alloc (.cells #[.int .i64 k, .int .i64 ((k : Int) + 1)] 2)).drew (some ⟨wr.heap.size, 0, none⟩) 2 [(k : Int), ((k : Int) + 1)] := Own.ints (zs := [(k : Int), ((k : Int) + 1)]) (own_lit (us := [.int .i64 k, .int .i64 ((k : Int) + 1)]) rfl (Nat.le_refl _) (by simp))
              have bP : Below wr.heap.size wr (wr.alloc (.cells #[.int .i64 k, .int .i64 ((k : Int) + 1)] 2)) := below_alloc1 _ _
              have HP := Lib.hid hP
              have BP := Lib.hid bP
              have HM := Lib.hid hm
              have hsz := ST.out.size
              have HO : Hid (coxOne zs k (k + 1) = [repL [(k : Int), ((k : Int) + 1)] L]) := Lib.hid (by unfold coxOne; rw [HLAB.out, if_pos (by omega)]; rfl)
              clear hP bP hm
              go_wp2_with fail
              have xP : (wr.alloc (.cells #[.int .i64 k, .int .i64 ((k : Int) + 1)] 2)).cell? ⟨w.heap.size + 1, 1, none⟩ = some (.slice ao' m c') := (ST.out.box.alloc _).cell 1
              go_region_law (first | (refine step_ap1 (o := ⟨some 42, _, _, _, _, _⟩) etSS rfl (.tmp 35) (.tmp 41) rfl (w.heap.size + 2) ao' m c' us rfl (ST.out.row.own.below B3) (.slice a1 (2 * L) c1) w2.heap.size 1 rfl ((blk_at rfl).cell 0) rfl (by have := HM.out; omega) (by have := B3.size; simp at *; omega) ?_; intro ao2 c2 w4 o4 g4 hat; have B4S : Below (w.heap.size + 2) wr w4 := (B3S.grown g4 (by have := B3.size; omega) (fun g hg => (ST.out.row.own.lt g hg).1)); have x4 : w4.cell? ⟨w.heap.size + 1, 1, none⟩ = some (.slice ao' m c') := (ST.out.box.below B4S (by omega)).cell 1; have f4 : w4.frozen? ⟨w.heap.size + 1, 1, none⟩ = false := (ST.out.box.below B4S (by omega)).frozen 1) | (go_simp; go_at_call 131; refine (specPower_any _ 2 2 L [(k : Int), ((k : Int) + 1)] _ HP.out (by omega) (by omega)).mono ?_; rintro e w2 ⟨a1, c1, rfl, o1, b1⟩; have B2 : Below wr.heap.size wr w2 := below_tr b1 BP.out.drew; have B2S := B2.mono hsz; have B3 : Below wr.heap.size wr (w2.alloc (.cells #[.slice a1 (2 * L) c1] 49)) := B2.alloc B2.size _; have B3S := B3.mono hsz; have x2 : w2.cell? ⟨w.heap.size + 1, 1, none⟩ = some (.slice ao' m c') := (ST.out.box.below B2S (by omega)).cell 1; have x3 : (w2.alloc (.cells #[.slice a1 (2 * L) c1] 49)).cell? ⟨w.heap.size + 1, 1, none⟩ = some (.slice ao' m c') := (ST.out.box.below B3S (by omega)).cell 1))
              all_goals
                have st2 := ST.out.push HM.out B2 (o1.mono (by simp [World.drew])) (below_alloc1 _ _) o4 g4 hat
                have hs4 := B4S.size
                generalize w4.setCell ⟨w.heap.size + 1, 1, none⟩ (.slice ao2 (m + 1) c2) = wf at *
                clear B2 B2S B3 B3S B4S x0 x1 x2 x3 x4 xP f1 f4 o1 b1 o4 g4 hat ST HP BP
                go_wp2_with fail
                go_roundw
                case rel => exact ⟨(k + 1) + 1, m + 1, ao2, c2, _, by go_num, by omega, by omega, by rw [coxRow_one (by omega), ← List.append_assoc, HO.out]; exact st2⟩
                case measure => simp [intOf]; omega
            · obtain rfl : L = 0 := by omega
              have HO : Hid (coxOne zs k (k + 1) = []) := Lib.hid (by unfold coxOne; rw [HLAB.out, if_neg (by omega)])
              go_wp2_with fail
              go_roundw
              case rel => exact ⟨k + 1 + 1, m, ao', c', us, by go_num, by omega, by omega, by rw [coxRow_one (by omega), ← List.append_assoc, HO.out, List.append_nil]; exact ST.out⟩
              case measure => simp [intOf]; omega
          · have hm : m + 1 ≤ 1000 := by have h1 := ST.out.row.len; have h2 := coxUp_len zs N k; have h3 := coxRow_len zs k (j - (k + 1)); have h4 : N * k ≤ 5 * 5 := Nat.mul_le_mul hN5 (by omega); rw [List.length_append] at h1; omega
            have hP : Ints (wr.alloc (.cells #[.int .i64 k, .int .i64 (j : Int)] 2)).drew (some ⟨wr.heap.size, 0, none⟩) 2 [(k : Int), (j : Int)] := Own.ints (zs := [(k : Int), (j : Int)]) (own_lit (us := [.int .i64 k, .int .i64 (j : Int)]) rfl (Nat.le_refl _) (by simp))
            have bP : Below wr.heap.size wr (wr.alloc (.cells #[.int .i64 k, .int .i64 (j : Int)] 2)) := below_alloc1 _ _
            have HP := Lib.hid hP
            have BP := Lib.hid bP
            have HM := Lib.hid hm
            have hsz := ST.out.size
            have HO : Hid (coxOne zs k j = [repL [(k : Int), (j : Int)] 2]) := Lib.hid (by unfold coxOne coxLab; rw [if_neg hjk, if_pos (by omega)]; rfl)
            clear hP bP hm
            go_wp2_with fail
            have xP : (wr.alloc (.cells #[.int .i64 k, .int .i64 (j : Int)] 2)).cell? ⟨w.heap.size + 1, 1, none⟩ = some (.slice ao' m c') := (ST.out.box.alloc _).cell 1
            go_region_law (first | (refine step_ap1 (o := ⟨some 42, _, _, _, _, _⟩) etSS rfl (.tmp 35) (.tmp 41) rfl (w.heap.size + 2) ao' m c' us rfl (ST.out.row.own.below B3) (.slice a1 (2 * 2) c1) w2.heap.size 1 rfl ((blk_at rfl).cell 0) rfl (by have := HM.out; omega) (by have := B3.size; simp at *; omega) ?_; intro ao2 c2 w4 o4 g4 hat; have B4S : Below (w.heap.size + 2) wr w4 := (B3S.grown g4 (by have := B3.size; omega) (fun g hg => (ST.out.row.own.lt g hg).1)); have x4 : w4.cell? ⟨w.heap.size + 1, 1, none⟩ = some (.slice ao' m c') := (ST.out.box.below B4S (by omega)).cell 1; have f4 : w4.frozen? ⟨w.heap.size + 1, 1, none⟩ = false := (ST.out.box.below B4S (by omega)).frozen 1) | (go_simp; go_at_call 131; refine (specPower_any _ 2 2 2 [(k : Int), (j : Int)] _ HP.out (by omega) (by omega)).mono ?_; rintro e w2 ⟨a1, c1, rfl, o1, b1⟩; have B2 : Below wr.heap.size wr w2 := below_tr b1 BP.out.drew; have B2S := B2.mono hsz; have B3 : Below wr.heap.size wr (w2.alloc (.cells #[.slice a1 (2 * 2) c1] 49)) := B2.alloc B2.size _; have B3S := B3.mono hsz; have x2 : w2.cell? ⟨w.heap.size + 1, 1, none⟩ = some (.slice ao' m c') := (ST.out.box.below B2S (by omega)).cell 1; have x3 : (w2.alloc (.cells #[.slice a1 (2 * 2) c1] 49)).cell? ⟨w.heap.size + 1, 1, none⟩ = some (.slice ao' m c') := (ST.out.box.below B3S (by omega)).cell 1))
            all_goals
              have st2 := ST.out.push HM.out B2 (o1.mono (by simp [World.drew])) (below_alloc1 _ _) o4 g4 hat
              have hs4 := B4S.size
              generalize w4.setCell ⟨w.heap.size + 1, 1, none⟩ (.slice ao2 (m + 1) c2) = wf at *
              clear B2 B2S B3 B3S B4S x0 x1 x2 x3 x4 xP f1 f4 o1 b1 o4 g4 hat ST HP BP
              go_wp2_with fail
              go_roundw
              case rel => exact ⟨j + 1, m + 1, ao2, c2, _, by go_num, by omega, by omega, by rw [coxRow_one (by omega), ← List.append_assoc, HO.out]; exact st2⟩
              case measure => simp [intOf]; omega
        · obtain rfl : j = N := by omega
          go_wp2_with fail
          go_roundw
          case rel => exact ⟨k + 1, m, ao', c', us, by go_num, by omega, ST.out⟩
          case measure => simp [intOf]; omega
    · obtain rfl : k = N := by omega
      have x0 := st.box.cell 0
      have x1 := st.box.cell 1
      have y0 := st.res.cell 0
      have y1 := st.res.cell 1
      have f0 := st.res.frozen 0
      have f1 := st.res.frozen 1
      simp at x0 x1 y0 y1
      have ST := Lib.hid st
      clear st r0 r1
      go_wp2_with fail
      have st2 := ST.out.done
      generalize (wr.setCell ⟨w.heap.size, 0, none⟩ (.int .i64 k)).setCell ⟨w.heap.size, 1, none⟩ (.slice ao' m c') = wf at *
      have e0 := st2.1.cell 0
      have e1 := st2.1.cell 1
      simp at e0 e1
      refine bodyPost_ret (v := .agg #[.int .i64 k, .slice ao' m c']) (by simp [results, Try.f106, go_sem, e0, e1]) rfl ⟨_, rfl, ⟨ao', m, c', us, ?_, ?_⟩, st2.2.2⟩
      · unfold coxPres; rw [HL.out, hN]
      · unfold coxPres; rw [HL.out, hN]; exact st2.2.1.mono (by omega) (Nat.le_refl _)
end Go.Proofs.Ytpognnifgcacnaa

/- slices.Clone at []int64. -/
namespace Go.Proofs.Ytpognnifgcacnaa
open Go.RowKit

set_option maxHeartbeats 400000 in
theorem clone_any (ao : Option Addr) (n c : Nat) (zs : List Int) (w : World) (h : Ints w ao n zs) (hn : n ≤ 1048576) :
    Calls Try.prog 184 #[.slice ao n c] w fun e w' => ∃ ao' c', e = .returned (.slice ao' n c') ∧ Own w' w.heap.size 2 ao' n c' (zs.map (Value.int .i64)) ∧ Below w.heap.size w w' := by
  have he := fun (w : World) => Lib.run_eql_slice_nil (P := Try.prog) w 49 2 ao n c 0 0 Try.underlying49
  cases ao with
  | none =>
    obtain ⟨rfl, rfl⟩ := h.of_none
    go_enter Try.func184, Try.ntmps184
    go_wp2
    go_ret
    exact ⟨_, _, rfl, Own.nil_ _ _ _, Below.refl _ _⟩
  | some ad =>
    have h2 : Ints (w.alloc (.cells #[] 2)) (some ad) n zs := h.below ((Below.refl _ _).alloc (Nat.le_refl _) _)
    have H2 := Lib.hid h2
    clear h2
    go_enter Try.func184, Try.ntmps184
    go_wp2_with (at_builtin; refine wpList_apN etI _ rfl _ _ rfl w.heap.size _ 0 0 [] rfl (Own.empty_ w _ (Nat.le_refl _)) (some ad) n c zs rfl H2.out (by omega) (by simp) ?_; intro ao2 c2 w2 ho2 hg2 hblk)
    go_ret
    refine ⟨_, _, rfl, by simpa using ho2, ((Below.refl _ _).alloc (Nat.le_refl _) _).grown hg2 (by simp) (fun g hg => ?_)⟩
    simp [bk] at hg; omega
end Go.Proofs.Ytpognnifgcacnaa
