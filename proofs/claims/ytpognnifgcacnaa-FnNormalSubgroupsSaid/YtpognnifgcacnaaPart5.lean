/- Coset enumeration: l11Table where the procedure does not fail. guards: -/
import Derived.Test.YtpognnifgcacnaaPart4
import Derived.Test.YtpognnifgcacnaaPart3
import Derived.Laws.CopyOwn
import Derived.Deep.RegionLaw
import Derived.RegionTactic
import Derived.Deep.RegionHeld3
namespace Go.Proofs.Ytpognnifgcacnaa
open Go.RowKit

/-- the numbers while they are blanked -/
def blankN (n j : Nat) : List Int := (List.range n).map fun i => if 1 ≤ i ∧ i < j then -1 else 0
theorem blankN_len (n j : Nat) : (blankN n j).length = n := by simp [blankN]
theorem iget_blankN {n j i : Nat} (h : i < n) : iget (blankN n j) i = if 1 ≤ i ∧ i < j then -1 else 0 := by simp [iget, blankN, h]
theorem blankN_one (n : Nat) : blankN n 1 = List.replicate n 0 := by
  refine iget_ext (by rw [blankN_len]; simp) fun k hk => ?_
  rw [blankN_len] at hk
  rw [iget_blankN hk, if_neg (by omega), iget_rep hk]
theorem blankN_set {n j : Nat} (h : 1 ≤ j) (hj : j < n) : (blankN n j).set j (-1) = blankN n (j + 1) := by
  refine iget_ext (by rw [List.length_set, blankN_len, blankN_len]) fun k hk => ?_
  rw [List.length_set, blankN_len] at hk
  rw [iget_set, iget_blankN hk, iget_blankN hk, blankN_len]
  by_cases e : j = k
  · subst e; rw [if_pos ⟨rfl, hj⟩, if_pos ⟨h, by omega⟩]
  · rw [if_neg (fun h => e h.1)]
    by_cases e2 : 1 ≤ k ∧ k < j
    · rw [if_pos e2, if_pos ⟨e2.1, by omega⟩]
    · rw [if_neg e2, if_neg (by omega)]
theorem blankN_done {n j : Nat} (h0 : 0 < n) (h : n ≤ j) : blankN n j = (tabStart n).2 := by
  refine iget_ext (by rw [blankN_len]; simp [tabStart]) fun k hk => ?_
  rw [blankN_len] at hk
  show _ = iget ((List.replicate n (-1)).set 0 0) k
  rw [iget_blankN hk, iget_set, iget_rep hk]
  by_cases e : 0 = k
  · subst e; rw [if_neg (by omega), if_pos ⟨rfl, by simpa using h0⟩]
  · rw [if_pos (by omega), if_neg (fun h => e h.1)]

/-- a row of the table -/
def tabC (im : List (List Int)) (less : List Int) (s : NSt) (g k : Nat) : Int := iget s.2 (image im less (iget s.1 k).toNat g).toNat
theorem tableC_row (ng : Nat) (im : List (List Int)) (less : List Int) : tableC ng im less = (List.range ng).map fun g => (List.range (numbered ng im less).1.length).map (tabC im less (numbered ng im less) g) := by
  unfold tableC
  refine List.map_congr_left fun g _ => ?_
  refine List.ext_getElem (by simp) fun k h1 h2 => ?_
  simp at h1
  simp [tabC, iget, h1]
theorem tabLoop_step {ng : Nat} {im : List (List Int)} {less : List Int} {f i : Nat} {s : NSt} (h : i < s.1.length) : tabLoop ng im less (f + 1) i s = tabLoop ng im less f (i + 1) (tabRow ng im less i s) := by rw [tabLoop, if_pos h]

set_option maxRecDepth 100000 in
set_option maxHeartbeats 4000000 in
theorem l11Table_done (ng : Nat) (rels words : List (List Int)) (R m : Nat) (hR : rels.length = R) (hm : words.length = m) (hr : ∀ w ∈ rels, Letters ng w) (hw : ∀ w ∈ words, Letters ng w) (hng : ng ≤ 1000) (hrl : ∀ w ∈ rels, w.length ≤ 1000000000) (hwl : ∀ w ∈ words, w.length ≤ 1000000000) (hR2 : R ≤ 1000000000) (hm2 : m ≤ 1000000000) (hf : (runC ng rels words).2.2 = false) :
    FC Try.prog 144 [(1002, rowsRo words), (1003, rowsRo rels)] [.s (.agg [.val (I6 ng), .sl 1003 0 R]), o1 (.sl 1002 0 m)] [(69, imOw (tableC ng (runC ng rels words).1 (runC ng rels words).2.1))] (.tup [.one (.sl 69 0 ng), .one (.val (.bool true))]) [] := by
  have hRun := l11Run_fc ng rels words R m hR hm hr hw hng hrl hwl hR2 hm2 _ rfl
  have hF := full_run hr hw hf
  have hhi := (runC_ok hr hw).hi
  obtain ⟨X, hX⟩ : ∃ X, runC ng rels words = X := ⟨_, rfl⟩
  rw [hX] at hRun hF hhi hf ⊢
  clear hX
  obtain ⟨im, less, bb⟩ := X
  dsimp only at hRun hF hhi hf ⊢
  subst hf
  have hn0 := hF.pos
  have him : im.length = less.length := hF.wf.len
  have hts := tabStart_ok hF
  refine fc_enter (nt := 101) Try.func144 rfl rfl (by simp) fun w0 ω0 => ?_
  (refine goes_seq ?_; refine goes_region ?_; apply run_step rfl; (exact stp_box rfl rfl rfl rfl); apply run_step rfl; (exact stp_assign rfl rfl); apply run_step rfl; (exact stp_assign rfl rfl); refine run_nil ?_; refine fin_seq ?_; refine goes_seq ?_; refine goes_region ?_; apply run_step rfl; (exact stp_loadAgg rfl rfl rfl rfl rfl rfl (by as_aux_lemma => kernel_rfl)); apply run_step rfl; (exact stp_move rfl rfl); apply run_step rfl; (apply call_gate 197; exact stp_call [] hRun (by as_aux_lemma => kernel_rfl) rfl rfl ⟨⟨.inl rfl, .inl rfl, trivial⟩, rfl, trivial⟩ ⟨⟨_, rfl, .inl rfl⟩, ⟨_, rfl, .inl rfl⟩, trivial⟩ trivial rfl rfl); apply run_step rfl; (exact stp_allocZ [.slice none 0 0, .slice none 0 0, .bool false] rfl (by as_aux_lemma => kernel_rfl)); apply run_step rfl; (exact stp_storeAgg rfl rfl rfl rfl rfl rfl rfl rfl (by as_aux_lemma => kernel_rfl) rfl); refine run_nil ?_; refine fin_seq ?_; refine goes_seq ?_; refine goes_seq ?_; refine goes_region ?_; apply run_step rfl; (exact stp_fieldAddr (d := 2) rfl rfl rfl (by as_aux_lemma => kernel_rfl)); apply run_step rfl; (exact stp_loadF rfl (by as_aux_lemma => kernel_rfl) rfl rfl rfl rfl); refine run_nil ?_; refine fin_seq ?_)
  refine goes_cond rfl (fun e => by cases e) (fun _ => ?_)
  (refine goes_skip ?_; refine fin_seq ?_; refine goes_seq ?_; refine goes_region ?_; apply run_step rfl; (exact stp_lit1I (E := 2) rfl (by as_aux_lemma => kernel_rfl) rfl); apply run_step rfl; (exact stp_assign rfl rfl); refine run_nil ?_; refine fin_seq ?_; refine goes_seq ?_; refine goes_region ?_; apply run_step rfl; (exact stp_fieldAddr (d := 1) rfl rfl rfl (by as_aux_lemma => kernel_rfl)); apply run_step rfl; (exact stp_loadF rfl (by as_aux_lemma => kernel_rfl) rfl rfl rfl rfl); apply run_step rfl; (exact stp_len rfl rfl rfl (by as_aux_lemma => kernel_rfl)); apply run_step rfl; (exact stp_makeI (E := 2) rfl (by as_aux_lemma => kernel_rfl) (by as_aux_lemma => kernel_rfl) rfl rfl rfl rfl (by omega)); apply run_step rfl; (exact stp_assign rfl rfl); refine run_nil ?_; refine fin_seq ?_; refine goes_seq ?_; refine goes_seq ?_; refine goes_region ?_; apply run_step rfl; (exact stp_assign rfl rfl); refine run_nil ?_; refine fin_seq ?_; refine goes_block ?_)
  refine goes_loop (fun j : Nat => St.of [(2, o1 (.ptr 2 0)), (6, o1 (.ptr 6 0)), (7, o1 (.sl 22 0 1)), (8, o1 (.sl 26 0 less.length)), (9, vv (I6 j))] [(1000, imOw im), (1001, leOw less), (2, ⟨true, 72, 2, .flat [.val (I6 ng), .sl 1003 0 R]⟩), (6, ⟨true, 185, 3, .flat [.sl 1000 0 less.length, .sl 1001 0 less.length, .val (.bool false)]⟩), (22, leOw [0]), (26, leOw (blankN less.length j))])
    (fun j => 1 ≤ j ∧ j ≤ less.length) (fun j => less.length - j) 1 ⟨Nat.le_refl _, hn0⟩ (Wk.of ⟨rfl, rfl, rfl, rfl, rfl, trivial⟩ ⟨rfl, rfl, rfl, rfl, rfl, by rw [blankN_one]; rfl, trivial⟩ trivial) ?_
  rintro j ⟨hj1, hj2⟩
  have hbl : (blankN less.length j).length = less.length := blankN_len _ _
  (refine goes_seq ?_; refine goes_seq ?_; refine goes_region ?_; apply run_step rfl; (exact stp_move rfl rfl); apply run_step rfl; (exact stp_move rfl rfl); apply run_step rfl; (exact stp_len rfl rfl rfl (by as_aux_lemma => kernel_rfl)); apply run_step rfl; (exact stp_bin rfl rfl rfl rfl); refine run_nil ?_; refine fin_seq ?_)
  refine goes_if rfl (fun h => ?_) (fun h => ?_)
  · have hlt : j < less.length := by omega
    (refine goes_skip ?_; refine fin_seq ?_; refine goes_seq ?_; refine goes_block ?_; refine goes_region ?_; apply run_step rfl; (exact stp_move rfl rfl); apply run_step rfl; (exact stp_move rfl rfl); apply run_step rfl; (exact stp_ix rfl rfl rfl rfl rfl (by as_aux_lemma => kernel_rfl) (by first | rfl | exact (Int.toNat_of_nonneg (by omega)).symm) (by first | assumption | omega | (simp; omega)) (by first | exact Nat.le_refl _ | exact Nat.le_of_eq (ivals_len _).symm | exact Nat.le_of_eq (irows_len _).symm | (refine Nat.le_trans ?_ (Nat.le_of_eq (ivals_len _).symm); (first | omega | (simp; done) | (simp; omega))) | (refine Nat.le_trans ?_ (Nat.le_of_eq (irows_len _).symm); (first | omega | (simp; done) | (simp; omega))))); apply run_step rfl; (exact stp_stI rfl rfl rfl rfl rfl (by first | assumption | omega | (simp; omega)) (by as_aux_lemma => kernel_rfl)); refine run_nil ?_; refine fin_block ?_; refine fin_seq ?_; refine goes_region ?_; apply run_step rfl; (exact stp_move rfl rfl); apply run_step rfl; (exact stp_add rfl rfl rfl (by first | exact IntWalk.i64_in _ (by omega) | rfl)); apply run_step rfl; (exact stp_assign rfl rfl); refine run_nil ?_)
    exact fin_round (j + 1) ⟨by omega, hlt⟩ (by omega) (Wk.of ⟨rfl, rfl, rfl, rfl, rfl, trivial⟩ ⟨rfl, rfl, rfl, rfl, rfl, by rw [← blankN_set hj1 hlt]; rfl, trivial⟩ trivial)
  · obtain rfl : j = less.length := by omega
    clear h
    have hb2 : blankN less.length less.length = (tabStart less.length).2 := blankN_done hn0 (Nat.le_refl _)
    rw [hb2]
    clear hb2 hbl
    (refine goes_exit ?_; refine fin_exit_then ?_; refine fin_exit_then ?_; refine fin_exit_eq ?_; refine fin_seq ?_; refine goes_seq ?_; refine goes_seq ?_; refine goes_region ?_; apply run_step rfl; (exact stp_assign rfl rfl); refine run_nil ?_; refine fin_seq ?_; refine goes_block ?_)
    refine goes_loop (fun q : Nat × NSt => St.of [(2, o1 (.ptr 2 0)), (6, o1 (.ptr 6 0)), (7, o1 (.sl 22 0 q.2.1.length)), (8, o1 (.sl 26 0 less.length)), (10, vv (I6 q.1))] [(1000, imOw im), (1001, leOw less), (2, ⟨true, 72, 2, .flat [.val (I6 ng), .sl 1003 0 R]⟩), (6, ⟨true, 185, 3, .flat [.sl 1000 0 less.length, .sl 1001 0 less.length, .val (.bool false)]⟩), (22, leOw q.2.1), (26, leOw q.2.2)])
      (fun q => q.1 ≤ q.2.1.length ∧ TOK less.length less q.2 ∧ tabLoop ng im less (less.length + 1 - q.1) q.1 q.2 = numbered ng im less) (fun q => less.length + 1 - q.1) (0, tabStart less.length) ⟨Nat.zero_le _, hts, rfl⟩ (Wk.of ⟨rfl, rfl, rfl, rfl, rfl, trivial⟩ ⟨rfl, rfl, rfl, rfl, rfl, rfl, trivial⟩ trivial) ?_
    rintro ⟨i, O, M⟩ ⟨hi, htok, hnum⟩
    dsimp only at hi hnum ⊢
    have hOl : O.length ≤ less.length := htok.le
    (refine goes_seq ?_; refine goes_seq ?_; refine goes_region ?_; apply run_step rfl; (exact stp_move rfl rfl); apply run_step rfl; (exact stp_move rfl rfl); apply run_step rfl; (exact stp_len rfl rfl rfl (by as_aux_lemma => kernel_rfl)); apply run_step rfl; (exact stp_bin rfl rfl rfl rfl); refine run_nil ?_; refine fin_seq ?_)
    refine goes_if rfl (fun h => ?_) (fun h => ?_)
    · have hlt : i < O.length := by omega
      have hnum' : tabLoop ng im less (less.length - i) (i + 1) (tabRow ng im less i (O, M)) = numbered ng im less := by
        rw [← hnum, show less.length + 1 - i = (less.length - i) + 1 by omega]
        exact (tabLoop_step hlt).symm
      obtain ⟨s0, hs0⟩ : ∃ s0 : NSt, s0 = (O, M) := ⟨_, rfl⟩
      obtain ⟨d, hd1, hd2, hd3, -⟩ := htok.live i hlt
      dsimp only at hd1
      have hrow : ∀ n, n ≤ ng → TOK less.length less ((List.range n).foldl (visitG im less i) s0) ∧ NGrow s0 ((List.range n).foldl (visitG im less i) s0) := fun n hn =>
        have := tabRow_ok hF (i := i) (s := s0) (by rw [hs0]; exact htok) (by rw [hs0]; exact hlt) n hn
        ⟨this.1, this.2.1⟩
      have hfin : tabLoop ng im less (less.length - i) (i + 1) ((List.range ng).foldl (visitG im less i) s0) = numbered ng im less := by rw [hs0]; exact hnum'
      (refine goes_skip ?_; refine fin_seq ?_; refine goes_seq ?_; refine goes_block ?_; refine goes_seq ?_; refine goes_region ?_; apply run_step rfl; (exact stp_assign rfl rfl); refine run_nil ?_; refine fin_seq ?_; refine goes_block ?_)
      refine goes_loop (fun q : Nat × NSt => St.of [(2, o1 (.ptr 2 0)), (6, o1 (.ptr 6 0)), (7, o1 (.sl 22 0 q.2.1.length)), (8, o1 (.sl 26 0 less.length)), (10, vv (I6 i)), (11, vv (I6 q.1))] [(1000, imOw im), (1001, leOw less), (2, ⟨true, 72, 2, .flat [.val (I6 ng), .sl 1003 0 R]⟩), (6, ⟨true, 185, 3, .flat [.sl 1000 0 less.length, .sl 1001 0 less.length, .val (.bool false)]⟩), (22, leOw q.2.1), (26, leOw q.2.2)])
        (fun q => q.1 ≤ ng ∧ (List.range q.1).foldl (visitG im less i) s0 = q.2) (fun q => ng - q.1) (0, s0) ⟨Nat.zero_le _, rfl⟩ (Wk.of (by rw [hs0]; exact ⟨rfl, rfl, rfl, rfl, rfl, rfl, trivial⟩) (by rw [hs0]; exact ⟨rfl, rfl, rfl, rfl, rfl, rfl, trivial⟩) trivial) ?_
      have hO0 : s0.1.length = O.length := by rw [hs0]
      have hd0 : iget s0.1 i = (d : Int) := by rw [hs0]; exact hd1
      clear hnum hnum' htok hs0 hd1
      generalize O.length = on at *
      rintro ⟨g, O, M⟩ ⟨hg, hfo⟩
      dsimp only at hg hfo ⊢
      obtain ⟨tok, grw⟩ := hrow g hg
      rw [hfo] at tok grw
      have hiO : i < O.length := Nat.lt_of_lt_of_le (by omega) grw.len
      have hOl' : O.length ≤ less.length := tok.le
      have hML : M.length = less.length := tok.len
      have hdO : iget O i = (d : Int) := (grw.pre i (by omega)).trans hd0
      have hget : (ivals O)[i]? = some (I6 (d : Int)) := by rw [ivals_get hiO, hdO]
      (refine goes_seq ?_; refine goes_seq ?_; refine goes_region ?_; apply run_step rfl; (exact stp_move rfl rfl); apply run_step rfl; (exact stp_fieldAddr (d := 0) rfl rfl rfl (by as_aux_lemma => kernel_rfl)); apply run_step rfl; (exact stp_loadF rfl (by as_aux_lemma => kernel_rfl) rfl rfl rfl rfl); apply run_step rfl; (exact stp_bin rfl rfl rfl rfl); refine run_nil ?_; refine fin_seq ?_)
      refine goes_if rfl (fun h2 => ?_) (fun h2 => ?_)
      · have hgn : g < ng := by omega
        obtain ⟨e, he1, he2, _⟩ := hF.image hd2 hd3 hgn
        have hI := l11Image_fc im less less.length less.length d g false him rfl hF.wf.down (by omega) (by rw [hF.wf.row d (by omega)]; exact hgn) (hF.wf.ent d g (by omega) hgn)
        rw [he1] at hI
        have hst : (List.range (g + 1)).foldl (visitG im less i) s0 = visit (O, M) e := by
          rw [List.range_succ, List.foldl_append, hfo]
          show visit (O, M) (image im less (iget O i).toNat g).toNat = _
          rw [hdO, Int.toNat_natCast, he1, Int.toNat_natCast]
        (refine goes_skip ?_; refine fin_seq ?_; refine goes_seq ?_; refine goes_block ?_; refine goes_seq ?_)
        apply goes_draw 6 [] [[], [], [], [1, 2], [1, 2, 3], [], [0, 1, 2, 3, 4, 5], [0, 1, 2, 3, 4, 5, 6]] [48, 49, 50, 51, 52, 53] [] (by kernel_rfl) (by kernel_rfl)
        · (apply draw_put rfl; (intro S1 hS; exact stp_loadAgg rfl (hS.op rfl) (hS.ch _ _ rfl) rfl rfl rfl (by as_aux_lemma => kernel_rfl)); apply draw_put rfl; (intro S1 hS; exact stp_move rfl (hS.op rfl)); apply draw_put rfl; (intro S1 hS; exact stp_move rfl (hS.op rfl)); apply draw_put rfl; (intro S1 hS; exact stp_ix rfl (hS.op rfl) (hS.op rfl) (hS.ch _ _ rfl) rfl (by as_aux_lemma => kernel_rfl) (by first | rfl | exact (Int.toNat_of_nonneg (by omega)).symm) (by first | assumption | omega | (simp; omega)) (by first | exact Nat.le_refl _ | exact Nat.le_of_eq (ivals_len _).symm | exact Nat.le_of_eq (irows_len _).symm | (refine Nat.le_trans ?_ (Nat.le_of_eq (ivals_len _).symm); (first | omega | (simp; done) | (simp; omega))) | (refine Nat.le_trans ?_ (Nat.le_of_eq (irows_len _).symm); (first | omega | (simp; done) | (simp; omega))))); apply draw_put rfl; (intro S1 hS; exact stp_loadV rfl (by as_aux_lemma => kernel_rfl) (hS.op rfl) (hS.ch _ _ rfl) rfl (by first | assumption | exact ivals_get (by assumption) | exact irows_get (by assumption) | exact ivals_get (by omega) | exact irows_get (by omega) | rfl)); apply draw_put rfl; (intro S1 hS; exact stp_move rfl (hS.op rfl)); exact Draw.nil)
        · rfl
        ((apply rest_one 6 rfl (by as_aux_lemma => kernel_rfl) rfl rfl; (apply call_gate 198; exact stp_callR hI (by as_aux_lemma => kernel_rfl) rfl rfl ⟨⟨.inl rfl, .inl rfl, .inl rfl, trivial⟩, rfl, rfl, trivial⟩ ⟨⟨_, rfl, .inr rfl⟩, ⟨_, rfl, .inr rfl⟩, trivial⟩ rfl rfl)); (apply rest_one 7 rfl (by as_aux_lemma => kernel_rfl) rfl rfl; (exact stp_assign rfl rfl)); (refine rest_done (by as_aux_lemma => kernel_rfl) ?_; skip))
        (refine fin_seq ?_; refine goes_seq ?_; refine goes_region ?_; apply run_step rfl; (exact stp_move rfl rfl); apply run_step rfl; (exact stp_move rfl rfl); apply run_step rfl; (exact stp_ix rfl rfl rfl rfl rfl (by as_aux_lemma => kernel_rfl) (by first | rfl | exact (Int.toNat_of_nonneg (by omega)).symm) (by first | assumption | omega | (simp; omega)) (by first | exact Nat.le_refl _ | exact Nat.le_of_eq (ivals_len _).symm | exact Nat.le_of_eq (irows_len _).symm | (refine Nat.le_trans ?_ (Nat.le_of_eq (ivals_len _).symm); (first | omega | (simp; done) | (simp; omega))) | (refine Nat.le_trans ?_ (Nat.le_of_eq (irows_len _).symm); (first | omega | (simp; done) | (simp; omega))))); apply run_step rfl; (exact stp_loadV rfl (by as_aux_lemma => kernel_rfl) rfl rfl rfl (by first | assumption | exact ivals_get (by assumption) | exact irows_get (by assumption) | exact ivals_get (by omega) | exact irows_get (by omega) | rfl)); apply run_step rfl; (exact stp_bin rfl rfl rfl rfl); refine run_nil ?_; refine fin_seq ?_)
        refine goes_cond rfl (fun hc => ?_) (fun hc => ?_)
        · have hneg : iget M e < 0 := by simpa using hc
          have hv : visit (O, M) e = (O ++ [(e : Int)], M.set e (O.length : Int)) := if_pos hneg
          (refine goes_seq ?_; refine goes_region ?_; apply run_step rfl; (exact stp_move rfl rfl); apply run_step rfl; (exact stp_move rfl rfl); apply run_step rfl; (exact stp_move rfl rfl); apply run_step rfl; (exact stp_len rfl rfl rfl (by as_aux_lemma => kernel_rfl)); apply run_step rfl; (exact stp_ix rfl rfl rfl rfl rfl (by as_aux_lemma => kernel_rfl) (by first | rfl | exact (Int.toNat_of_nonneg (by omega)).symm) (by first | assumption | omega | (simp; omega)) (by first | exact Nat.le_refl _ | exact Nat.le_of_eq (ivals_len _).symm | exact Nat.le_of_eq (irows_len _).symm | (refine Nat.le_trans ?_ (Nat.le_of_eq (ivals_len _).symm); (first | omega | (simp; done) | (simp; omega))) | (refine Nat.le_trans ?_ (Nat.le_of_eq (irows_len _).symm); (first | omega | (simp; done) | (simp; omega))))); apply run_step rfl; (exact stp_stI rfl rfl rfl rfl rfl (by first | assumption | omega | (simp; omega)) (by as_aux_lemma => kernel_rfl)); refine run_nil ?_; refine fin_seq ?_; refine goes_region ?_; apply run_step rfl; (exact stp_move rfl rfl); apply run_step rfl; (exact stp_move rfl rfl); apply run_step rfl; (exact stp_lit1I (E := 2) rfl (by as_aux_lemma => kernel_rfl) rfl); apply run_step rfl; (exact stp_appI rfl (by as_aux_lemma => kernel_rfl) rfl rfl rfl (by first | rfl | assumption | (simp; done)) rfl rfl (by omega)); apply run_step rfl; (exact stp_assign rfl rfl); refine run_nil ?_; refine fin_block ?_; refine fin_seq ?_; refine goes_region ?_; apply run_step rfl; (exact stp_move rfl rfl); apply run_step rfl; (exact stp_add rfl rfl rfl (by first | exact IntWalk.i64_in _ (by omega) | rfl)); apply run_step rfl; (exact stp_assign rfl rfl); refine run_nil ?_)
          exact fin_round (g + 1, (O ++ [(e : Int)], M.set e (O.length : Int))) ⟨hgn, hst.trans hv⟩ (by show ng - (g + 1) < ng - g; omega) (Wk.of ⟨rfl, rfl, by simp; rfl, rfl, rfl, rfl, trivial⟩ ⟨rfl, rfl, rfl, rfl, rfl, rfl, trivial⟩ trivial)
        · have hneg : ¬ iget M e < 0 := by simpa using hc
          have hv : visit (O, M) e = (O, M) := if_neg hneg
          (refine goes_skip ?_; refine fin_block ?_; refine fin_seq ?_; refine goes_region ?_; apply run_step rfl; (exact stp_move rfl rfl); apply run_step rfl; (exact stp_add rfl rfl rfl (by first | exact IntWalk.i64_in _ (by omega) | rfl)); apply run_step rfl; (exact stp_assign rfl rfl); refine run_nil ?_)
          exact fin_round (g + 1, (O, M)) ⟨hgn, hst.trans hv⟩ (by show ng - (g + 1) < ng - g; omega) (Wk.of ⟨rfl, rfl, rfl, rfl, rfl, rfl, trivial⟩ ⟨rfl, rfl, rfl, rfl, rfl, rfl, trivial⟩ trivial)
      · obtain rfl : g = ng := by omega
        (refine goes_exit ?_; refine fin_exit_then ?_; refine fin_exit_then ?_; refine fin_exit_eq ?_; refine fin_block ?_; refine fin_seq ?_; refine goes_region ?_; apply run_step rfl; (exact stp_move rfl rfl); apply run_step rfl; (exact stp_add rfl rfl rfl (by first | exact IntWalk.i64_in _ (by omega) | rfl)); apply run_step rfl; (exact stp_assign rfl rfl); refine run_nil ?_)
        exact fin_round (i + 1, (O, M)) ⟨hiO, tok, by rw [← hfin, hfo]; show tabLoop _ _ _ (less.length + 1 - (i + 1)) _ _ = _; rw [show less.length + 1 - (i + 1) = less.length - i by omega]⟩ (by show less.length + 1 - (i + 1) < less.length + 1 - i; omega) (Wk.of ⟨rfl, rfl, rfl, rfl, rfl, trivial⟩ ⟨rfl, rfl, rfl, rfl, rfl, rfl, trivial⟩ trivial)
    · have hio : i = O.length := by omega
      have hOM : numbered ng im less = (O, M) := by
        rw [← hnum, show less.length + 1 - i = (less.length - i) + 1 by omega, tabLoop, if_neg (by show ¬ i < O.length; omega)]
      have hML : M.length = less.length := htok.len
      have htb := tableC_row ng im less
      rw [hOM] at htb
      dsimp only at htb
      rw [htb]
      clear hnum h htb hio hi
      (refine goes_exit ?_; refine fin_exit_then ?_; refine fin_exit_then ?_; refine fin_exit_eq ?_; refine fin_seq ?_; refine goes_seq ?_; refine goes_region ?_; apply run_step rfl; (exact stp_lit0R (E := 49) (F := 2) rfl (by as_aux_lemma => kernel_rfl)); apply run_step rfl; (exact stp_assign rfl rfl); refine run_nil ?_; refine fin_seq ?_; refine goes_seq ?_; refine goes_seq ?_; refine goes_region ?_; apply run_step rfl; (exact stp_assign rfl rfl); refine run_nil ?_; refine fin_seq ?_; refine goes_block ?_)
      refine goes_loop (fun g : Nat => St.of [(2, o1 (.ptr 2 0)), (6, o1 (.ptr 6 0)), (7, o1 (.sl 22 0 O.length)), (8, o1 (.sl 26 0 less.length)), (13, o1 (.sl 69 0 g)), (14, vv (I6 g))] [(1000, imOw im), (1001, leOw less), (2, ⟨true, 72, 2, .flat [.val (I6 ng), .sl 1003 0 R]⟩), (6, ⟨true, 185, 3, .flat [.sl 1000 0 less.length, .sl 1001 0 less.length, .val (.bool false)]⟩), (22, leOw O), (26, leOw M), (69, imOw ((List.range g).map fun g => (List.range O.length).map (tabC im less (O, M) g)))])
        (fun g => g ≤ ng) (fun g => ng - g) 0 (Nat.zero_le _) (Wk.of ⟨rfl, rfl, rfl, rfl, rfl, rfl, trivial⟩ ⟨rfl, rfl, rfl, rfl, rfl, rfl, rfl, trivial⟩ trivial) ?_
      intro g hg
      (refine goes_seq ?_; refine goes_seq ?_; refine goes_region ?_; apply run_step rfl; (exact stp_move rfl rfl); apply run_step rfl; (exact stp_fieldAddr (d := 0) rfl rfl rfl (by as_aux_lemma => kernel_rfl)); apply run_step rfl; (exact stp_loadF rfl (by as_aux_lemma => kernel_rfl) rfl rfl rfl rfl); apply run_step rfl; (exact stp_bin rfl rfl rfl rfl); refine run_nil ?_; refine fin_seq ?_)
      refine goes_if rfl (fun h2 => ?_) (fun h2 => ?_)
      · have hgn : g < ng := by omega
        (refine goes_skip ?_; refine fin_seq ?_; refine goes_seq ?_; refine goes_block ?_; refine goes_seq ?_; refine goes_region ?_; apply run_step rfl; (exact stp_lit0 (E := 2) (k := 1) rfl (by as_aux_lemma => kernel_rfl)); apply run_step rfl; (exact stp_assign rfl rfl); refine run_nil ?_; refine fin_seq ?_; refine goes_seq ?_; refine goes_seq ?_; refine goes_region ?_; apply run_step rfl; (exact stp_assign rfl rfl); refine run_nil ?_; refine fin_seq ?_; refine goes_block ?_)
        refine goes_loop (fun k : Nat => St.of [(2, o1 (.ptr 2 0)), (6, o1 (.ptr 6 0)), (7, o1 (.sl 22 0 O.length)), (8, o1 (.sl 26 0 less.length)), (13, o1 (.sl 69 0 g)), (14, vv (I6 g)), (15, o1 (.sl 76 0 k)), (16, vv (I6 k))] [(1000, imOw im), (1001, leOw less), (2, ⟨true, 72, 2, .flat [.val (I6 ng), .sl 1003 0 R]⟩), (6, ⟨true, 185, 3, .flat [.sl 1000 0 less.length, .sl 1001 0 less.length, .val (.bool false)]⟩), (22, leOw O), (26, leOw M), (69, imOw ((List.range g).map fun g => (List.range O.length).map (tabC im less (O, M) g))), (76, leOw ((List.range k).map (tabC im less (O, M) g)))])
          (fun k => k ≤ O.length) (fun k => O.length - k) 0 (Nat.zero_le _) (Wk.of ⟨rfl, rfl, rfl, rfl, rfl, rfl, rfl, rfl, trivial⟩ ⟨rfl, rfl, rfl, rfl, rfl, rfl, rfl, rfl, trivial⟩ trivial) ?_
        intro k hk
        (refine goes_seq ?_; refine goes_seq ?_; refine goes_region ?_; apply run_step rfl; (exact stp_move rfl rfl); apply run_step rfl; (exact stp_move rfl rfl); apply run_step rfl; (exact stp_len rfl rfl rfl (by as_aux_lemma => kernel_rfl)); apply run_step rfl; (exact stp_bin rfl rfl rfl rfl); refine run_nil ?_; refine fin_seq ?_)
        refine goes_if rfl (fun h3 => ?_) (fun h3 => ?_)
        · have hkO : k < O.length := by omega
          obtain ⟨d, hd1, hd2, hd3, -⟩ := htok.live k hkO
          dsimp only at hd1
          obtain ⟨e, he1, he2, _⟩ := hF.image hd2 hd3 hgn
          have hI := l11Image_fc im less less.length less.length d g false him rfl hF.wf.down (by omega) (by rw [hF.wf.row d (by omega)]; exact hgn) (hF.wf.ent d g (by omega) hgn)
          rw [he1] at hI
          have hget : (ivals O)[k]? = some (I6 (d : Int)) := by rw [ivals_get hkO, hd1]
          have htc : tabC im less (O, M) g k = iget M e := by unfold tabC; dsimp only; rw [hd1, Int.toNat_natCast, he1, Int.toNat_natCast]
          have hkl : ((List.range k).map (tabC im less (O, M) g)).length = k := by simp
          (refine goes_skip ?_; refine fin_seq ?_; refine goes_seq ?_; refine goes_block ?_)
          apply goes_draw 12 [] [[], [], [], [], [], [3, 4], [3, 4, 5], [], [2, 3, 4, 5, 6, 7], [1, 2, 3, 4, 5, 6, 7, 8], [1, 2, 3, 4, 5, 6, 7, 8, 9], [1, 2, 3, 4, 5, 6, 7, 8, 9, 10], [0, 1, 2, 3, 4, 5, 6, 7, 8, 9, 10, 11], [0, 1, 2, 3, 4, 5, 6, 7, 8, 9, 10, 11, 12]] [83, 84, 85, 86, 87, 88, 89, 90, 91, 92, 93, 94] [94] (by kernel_rfl) (by kernel_rfl)
          · (apply draw_put rfl; (intro S1 hS; exact stp_move rfl (hS.op rfl)); apply draw_put rfl; (intro S1 hS; exact stp_move rfl (hS.op rfl)); apply draw_put rfl; (intro S1 hS; exact stp_loadAgg rfl (hS.op rfl) (hS.ch _ _ rfl) rfl rfl rfl (by as_aux_lemma => kernel_rfl)); apply draw_put rfl; (intro S1 hS; exact stp_move rfl (hS.op rfl)); apply draw_put rfl; (intro S1 hS; exact stp_move rfl (hS.op rfl)); apply draw_put rfl; (intro S1 hS; exact stp_ix rfl (hS.op rfl) (hS.op rfl) (hS.ch _ _ rfl) rfl (by as_aux_lemma => kernel_rfl) (by first | rfl | exact (Int.toNat_of_nonneg (by omega)).symm) (by first | assumption | omega | (simp; omega)) (by first | exact Nat.le_refl _ | exact Nat.le_of_eq (ivals_len _).symm | exact Nat.le_of_eq (irows_len _).symm | (refine Nat.le_trans ?_ (Nat.le_of_eq (ivals_len _).symm); (first | omega | (simp; done) | (simp; omega))) | (refine Nat.le_trans ?_ (Nat.le_of_eq (irows_len _).symm); (first | omega | (simp; done) | (simp; omega))))); apply draw_put rfl; (intro S1 hS; exact stp_loadV rfl (by as_aux_lemma => kernel_rfl) (hS.op rfl) (hS.ch _ _ rfl) rfl (by first | assumption | exact ivals_get (by assumption) | exact irows_get (by assumption) | exact ivals_get (by omega) | exact irows_get (by omega) | rfl)); apply draw_put rfl; (intro S1 hS; exact stp_move rfl (hS.op rfl)); (apply draw_put rfl; (focus (intro S1 hS; apply call_gate 198; exact stp_callR hI (by as_aux_lemma => kernel_rfl) rfl (opL_le hS rfl) ⟨⟨.inl rfl, .inl rfl, .inl rfl, trivial⟩, rfl, rfl, trivial⟩ (allIn_le hS ⟨⟨_, rfl, .inr rfl⟩, ⟨_, rfl, .inr rfl⟩, trivial⟩) rfl rfl))); apply draw_put rfl; (intro S1 hS; exact stp_ix rfl (hS.op rfl) (hS.op rfl) (hS.ch _ _ rfl) rfl (by as_aux_lemma => kernel_rfl) (by first | rfl | exact (Int.toNat_of_nonneg (by omega)).symm) (by first | assumption | omega | (simp; omega)) (by first | exact Nat.le_refl _ | exact Nat.le_of_eq (ivals_len _).symm | exact Nat.le_of_eq (irows_len _).symm | (refine Nat.le_trans ?_ (Nat.le_of_eq (ivals_len _).symm); (first | omega | (simp; done) | (simp; omega))) | (refine Nat.le_trans ?_ (Nat.le_of_eq (irows_len _).symm); (first | omega | (simp; done) | (simp; omega))))); apply draw_put rfl; (intro S1 hS; exact stp_loadV rfl (by as_aux_lemma => kernel_rfl) (hS.op rfl) (hS.ch _ _ rfl) rfl (by first | assumption | exact ivals_get (by assumption) | exact irows_get (by assumption) | exact ivals_get (by omega) | exact irows_get (by omega) | rfl)); apply draw_new rfl; (intro S1 hS; exact stp_lit1I (E := 2) rfl (by as_aux_lemma => kernel_rfl) (hS.op rfl)); exact Draw.nil)
          · rfl
          ((apply rest_one 12 rfl (by as_aux_lemma => kernel_rfl) rfl rfl; (exact stp_appI rfl (by as_aux_lemma => kernel_rfl) rfl rfl rfl (by first | rfl | assumption | (simp; done)) rfl rfl (by omega))); (apply rest_one 13 rfl (by as_aux_lemma => kernel_rfl) rfl rfl; (exact stp_assign rfl rfl)); (refine rest_done (by as_aux_lemma => kernel_rfl) ?_; skip))
          (refine fin_block ?_; refine fin_seq ?_; refine goes_region ?_; apply run_step rfl; (exact stp_move rfl rfl); apply run_step rfl; (exact stp_add rfl rfl rfl (by first | exact IntWalk.i64_in _ (by omega) | rfl)); apply run_step rfl; (exact stp_assign rfl rfl); refine run_nil ?_)
          exact fin_round (k + 1) hkO (by omega) (Wk.of ⟨rfl, rfl, rfl, rfl, rfl, rfl, rfl, rfl, trivial⟩ ⟨rfl, rfl, rfl, rfl, rfl, rfl, rfl, by rw [List.range_succ, List.map_append, List.map_singleton, htc]; rfl, trivial⟩ trivial)
        · obtain rfl : k = O.length := by omega
          have hgl : ((List.range g).map fun g => (List.range O.length).map (tabC im less (O, M) g)).length = g := by simp
          have hkl : ((List.range O.length).map (tabC im less (O, M) g)).length = O.length := by simp
          (refine goes_exit ?_; refine fin_exit_then ?_; refine fin_exit_then ?_; refine fin_exit_eq ?_; refine fin_seq ?_; refine goes_region ?_; apply run_step rfl; (exact stp_move rfl rfl); apply run_step rfl; (exact stp_move rfl rfl); apply run_step rfl; (exact stp_lit1 (E := 49) rfl (by as_aux_lemma => kernel_rfl) rfl rfl rfl); apply run_step rfl; (exact stp_appR rfl (by as_aux_lemma => kernel_rfl) rfl rfl (by first | rfl | assumption | (simp; done)) rfl rfl rfl (by first | rfl | assumption | (simp; done)) rfl (by omega)); apply run_step rfl; (exact stp_assign rfl rfl); refine run_nil ?_; refine fin_block ?_; refine fin_seq ?_; refine goes_region ?_; apply run_step rfl; (exact stp_move rfl rfl); apply run_step rfl; (exact stp_add rfl rfl rfl (by first | exact IntWalk.i64_in _ (by omega) | rfl)); apply run_step rfl; (exact stp_assign rfl rfl); refine run_nil ?_)
          exact fin_round (g + 1) hgn (by omega) (Wk.of ⟨rfl, rfl, rfl, rfl, rfl, rfl, trivial⟩ ⟨rfl, rfl, rfl, rfl, rfl, rfl, by rw [List.range_succ (n := g), List.map_append]; rfl, trivial⟩ trivial)
      · obtain rfl : g = ng := by omega
        (refine goes_exit ?_; refine fin_exit_then ?_; refine fin_exit_then ?_; refine fin_exit_eq ?_; refine fin_seq ?_; refine goes_seq ?_; refine goes_region ?_; apply run_step rfl; (exact stp_move rfl rfl); apply run_step rfl; (exact stp_assign rfl rfl); apply run_step rfl; (exact stp_assign rfl rfl); refine run_nil ?_; refine fin_seq ?_; refine goes_ret ?_)
        exact fin_ret2 (.inl rfl) rfl (.tmp rfl) (.tmp rfl) ⟨rfl, trivial⟩ trivial
end Go.Proofs.Ytpognnifgcacnaa

/- A memory of names: a region that draws, with several operations free to come at any time. No program in sight. -/
namespace Go.Proofs.Ytpognnifgcacnaa
open Go.RowKit

section
variable {P : Program} {nt : Nat} {S S1 : St} {w0 w : World} {ω0 : Beg} {ω : Own?} {η : Env} {a : Act} {Q : Exit → Act → World → Prop}

def AllSubs : List Nat → (List Nat → Prop) → Prop
  | [], p => p []
  | f :: r, p => AllSubs r p ∧ AllSubs r (fun ks => p (f :: ks))
theorem AllSubs.filter {q : Nat → Bool} : ∀ {fs : List Nat} {p : List Nat → Prop}, AllSubs fs p → p (fs.filter q)
  | [], p, h => h
  | f :: r, p, h => by
    rw [List.filter_cons]
    split
    · exact AllSubs.filter (p := fun ks => p (f :: ks)) h.2
    · exact AllSubs.filter (p := p) h.1
theorem AllSubs.map {p p' : List Nat → Prop} (h : ∀ ks, p ks → p' ks) : ∀ {fs : List Nat}, AllSubs fs p → AllSubs fs p'
  | [], k => h _ k
  | _ :: _, k => ⟨AllSubs.map h k.1, AllSubs.map (fun ks => h _) k.2⟩
theorem missing_apps {sk : List Nat} {L : Array Bool} {nA : Nat} : ∀ {ks : List Nat}, ks.Nodup → (∀ f ∈ ks, f < nA ∧ memN sk f = false ∧ L.getD f false = false) → missing sk L nA = missing (ks ++ sk) L nA + ks.length
  | [], _, _ => rfl
  | f :: r, hn, h => by
    have h1 := missing_apps (sk := sk) (L := L) (nA := nA) (ks := r) (List.nodup_cons.1 hn).2 fun g hg => h g (by simp [hg])
    have h2 := h f (by simp)
    have h3 : memN (r ++ sk) f = false := by
      cases hb : memN (r ++ sk) f with
      | false => rfl
      | true =>
        exfalso
        rcases List.mem_append.1 (memN_iff.1 hb) with h4 | h4
        · exact (List.nodup_cons.1 hn).1 h4
        · rw [memN_iff.2 h4] at h2; exact absurd h2.2.1 (by simp)
    have := missing_le_cons (sk := r ++ sk) (L := L) f h2.2.2 h3 nA h2.1
    rw [h1, this, List.cons_append, List.length_cons]; omega

def clsLB (ops : Array Oper) (nA : Nat) (sk : List Nat) (fs : List Nat) (cls : List (List Nat)) : Bool :=
  Nat.ble nA ops.size && (List.range ops.size).all fun i => match ops[i]? with
    | some o => (Nat.ble nA i || memN sk i || o.after.all fun e => !Region.binds .any e || (Nat.blt e.on i && !memN sk e.on)) && ((cls.getD i []).all fun j => o.after.any fun e => Region.binds .any e && (Nat.beq j e.on || memN (cls.getD e.on []) j)) &&
        ((Nat.blt i nA && !memN sk i) || (List.range nA).all fun j => memN fs j || memN sk j || memN (cls.getD i []) j) && (Nat.ble nA i || (cls.getD i []).all fun j => Nat.blt j i)
    | none => true
structure ClsLOK (ops : Array Oper) (nA : Nat) (sk : List Nat) (fs : List Nat) (cls : List (List Nat)) : Prop where
  size : nA ≤ ops.size
  less : ∀ i o, ops[i]? = some o → i < nA → memN sk i = false → ∀ e ∈ o.after, Region.binds .any e = true → e.on < i ∧ memN sk e.on = false
  dep : ∀ i o, ops[i]? = some o → ∀ j ∈ cls.getD i [], ∃ e ∈ o.after, Region.binds .any e = true ∧ (j = e.on ∨ j ∈ cls.getD e.on [])
  late : ∀ i o, ops[i]? = some o → (nA ≤ i ∨ memN sk i = true) → ∀ j, j < nA → memN sk j = false → memN fs j = false → j ∈ cls.getD i []
  lt : ∀ i o, ops[i]? = some o → i < nA → ∀ j ∈ cls.getD i [], j < i
theorem clsLB_spec {ops : Array Oper} {nA : Nat} {sk : List Nat} {fs : List Nat} {cls : List (List Nat)} (h : clsLB ops nA sk fs cls = true) : ClsLOK ops nA sk fs cls := by
  unfold clsLB at h
  simp only [Bool.and_eq_true, Nat.ble_eq] at h
  obtain ⟨h0, h⟩ := h
  have key : ∀ i o, ops[i]? = some o → _ := fun i o ho => by
    have hi : i < ops.size := (Array.getElem?_eq_some_iff.1 ho).1
    have h1 := List.all_eq_true.1 h i (List.mem_range.2 hi)
    simp only [ho, Bool.and_eq_true, Bool.or_eq_true] at h1
    exact h1
  refine ⟨h0, fun i o ho hi hsk e he hb => ?_, fun i o ho j hj => ?_, fun i o ho hi j hj hsk hf => ?_, fun i o ho hi j hj => ?_⟩
  · rcases (key i o ho).1.1.1 with (h1 | h1) | h1
    · have := Nat.le_of_ble_eq_true h1; omega
    · rw [hsk] at h1; cases h1
    · have := Array.all_eq_true_iff_forall_mem.1 h1 e he
      simp [hb] at this; exact this
  · have := List.all_eq_true.1 (key i o ho).1.1.2 j hj
    obtain ⟨e, he, h2⟩ := Array.any_eq_true'.1 this
    simp only [Bool.and_eq_true, Bool.or_eq_true] at h2
    exact ⟨e, he, h2.1, h2.2.imp (fun h => beq_true h) (fun h => memN_iff.1 h)⟩
  · rcases (key i o ho).1.2 with h1 | h1
    · exfalso
      have h2 : i < nA := by simpa using h1.1
      have h3 : memN sk i = false := by simpa using h1.2
      rcases hi with h4 | h4
      · omega
      · rw [h3] at h4; cases h4
    · have h2 := List.all_eq_true.1 h1 j (List.mem_range.2 hj)
      simp only [Bool.or_eq_true, hsk, hf, Bool.false_eq_true, false_or] at h2
      exact memN_iff.1 h2
  · rcases (key i o ho).2 with h1 | h1
    · have := Nat.le_of_ble_eq_true h1; omega
    · exact (by have := List.all_eq_true.1 h1 j hj; simpa using this)

theorem draw_mainL {l : List Oper} {nA : Nat} {sk : List Nat} {cls : List (List Nat)} {ds nms : List Nat} {adds done : List Add} {fs : List Nat} (hfn : fs.Nodup) (hfs : ∀ f ∈ fs, f < nA ∧ memN sk f = false) (hcl : ClsLOK l.toArray nA sk fs cls) (hdr : Draw P nt (S.clear ds nms) cls sk (l.take nA) [] done) (hdn : done.reverse = adds) (ok : AddsOK adds cls ds nms)
    (hk : AllSubs fs fun ks => Rest P w0 ω0 nt l.toArray Q (l.length - missing (ks ++ sk) #[] nA) (doneL nA (ks ++ sk) l.length) ((S.clear ds nms).part (fun j => !memN (ks ++ sk) j) adds)) :
    ∀ (d : Nat) (L : Array Bool) (a : Act) (w : World), missing sk L nA = d → L.size = l.length → (∀ j, L.getD j false = true → j < nA ∧ memN sk j = false) → (∀ i, L.getD i false = true → ∀ j ∈ cls.getD i [], L.getD j false = true) →
      Sat w0 ω0 nt ((S.clear ds nms).part (fun j => L.getD j false) adds) a w → wpAny P .any l.toArray Q (l.length - missing sk #[] nA + d) L a w := by
  have hsz : nA ≤ l.length := by have := hcl.size; simpa using this
  obtain ⟨⟨r, hr, hrl⟩, hob⟩ := hdr.spec
  rw [hdn] at hr hob
  have hal : adds.length = nA := by rw [hr]; simp [hrl]; omega
  have hfull : ∀ (L : Array Bool) (i : Nat), i ∈ Region.ready .any l.toArray L → (∀ i, L.getD i false = true → ∀ j ∈ cls.getD i [], L.getD j false = true) → (∃ o, l.toArray[i]? = some o ∧ L.getD i true = false) ∧ ∀ j ∈ cls.getD i [], L.getD j false = true := by
    intro L i hi hclosed
    obtain ⟨h0, o, ho, he⟩ := mem_ready.1 hi
    refine ⟨⟨o, ho, h0⟩, fun j hj => ?_⟩
    obtain ⟨e, hem, hb, hje⟩ := hcl.dep i o ho j hj
    have h1 := he e hem hb
    rcases hje with rfl | hje
    · exact h1
    · exact hclosed e.on h1 j hje
  have stop : ∀ (L : Array Bool) (a : Act) (w : World), L.size = l.length → (∀ j, L.getD j false = true → j < nA ∧ memN sk j = false) → missing (fs ++ sk) L nA = 0 → Sat w0 ω0 nt ((S.clear ds nms).part (fun j => L.getD j false) adds) a w → wpAny P .any l.toArray Q (l.length - missing sk #[] nA + missing sk L nA) L a w := by
    intro L a w hs hsub h0 hsat
    have hall := missing_zero h0
    obtain ⟨ks, hks⟩ : ∃ ks, fs.filter (fun f => !L.getD f false) = ks := ⟨_, rfl⟩
    have hkn : ks.Nodup := by rw [← hks]; exact hfn.filter _
    have hkm : ∀ f, f ∈ ks ↔ f ∈ fs ∧ L.getD f false = false := fun f => by rw [← hks]; simp
    have hk1 : ∀ f ∈ ks, f < nA ∧ memN sk f = false ∧ L.getD f false = false := fun f hf => ⟨(hfs f ((hkm f).1 hf).1).1, (hfs f ((hkm f).1 hf).1).2, ((hkm f).1 hf).2⟩
    have hdone : ∀ j, j < nA → memN (ks ++ sk) j = false → L.getD j false = true := fun j hj hsk => by
      cases hb : L.getD j false with
      | true => rfl
      | false =>
        exfalso
        have h1 : memN (fs ++ sk) j = true := by
          cases h2 : memN (fs ++ sk) j with
          | true => rfl
          | false => rw [hall j hj h2] at hb; cases hb
        rcases List.mem_append.1 (memN_iff.1 h1) with h3 | h3
        · have : j ∈ ks ++ sk := List.mem_append.2 (.inl ((hkm j).2 ⟨h3, hb⟩))
          rw [memN_iff.2 this] at hsk; cases hsk
        · have : j ∈ ks ++ sk := List.mem_append.2 (.inr h3)
          rw [memN_iff.2 this] at hsk; cases hsk
    have hL : L = doneL nA (ks ++ sk) l.length := by
      apply Array.ext
      · simp [hs, doneL]
      · intro j h1 h2
        have h3 : L[j]? = some L[j] := Array.getElem?_eq_getElem h1
        have h4 := doneL_at (nA := nA) (sk := ks ++ sk) (n := l.length) (j := j) (by omega)
        rw [Array.getElem?_eq_getElem h2] at h4
        rw [Option.some.inj h4]
        cases hb : L[j] with
        | true =>
          have hb' : L.getD j false = true := by simp [h1, hb]
          have := hsub j hb'
          have hnk : memN (ks ++ sk) j = false := by
            cases h5 : memN (ks ++ sk) j with
            | false => rfl
            | true =>
              exfalso
              rcases List.mem_append.1 (memN_iff.1 h5) with h6 | h6
              · rw [((hkm j).1 h6).2] at hb'; cases hb'
              · rw [memN_iff.2 h6] at this; exact absurd this.2 (by simp)
          simp [this.1, hnk]
        | false =>
          by_cases hj : j < nA
          · cases hsk : memN (ks ++ sk) j with
            | true => simp
            | false =>
              have := hdone j hj hsk
              simp [h1, hb] at this
          · simp [hj]
    have hm1 := missing_apps (L := L) hkn hk1
    have hm2 := missing_apps (sk := sk) (L := #[]) (nA := nA) hkn fun f hf => ⟨(hk1 f hf).1, (hk1 f hf).2.1, rfl⟩
    have hm0 : missing (ks ++ sk) L nA = 0 := missing_full hdone
    have hmn := missing_le (sk := sk) (L := #[]) nA
    have e : l.length - missing (ks ++ sk) #[] nA = l.length - missing sk #[] nA + missing sk L nA := by omega
    rw [← e]
    have hkk := AllSubs.filter (q := fun f => !L.getD f false) hk
    rw [hks] at hkk
    refine hkk.go a w ((St.le.wk (part_le (ℓ1 := fun j => !memN (ks ++ sk) j) (ℓ2 := fun j => L.getD j false) ok (fun _ _ h => h) fun j A hj hsk => ?_) fun _ _ h => h).go _ _ _ a w hsat) |> fun h => by rw [← hL] at h; exact h
    have hjl : j < adds.length := (List.getElem?_eq_some_iff.1 hj).1
    exact hdone j (by omega) (by simpa using hsk)
  intro d
  induction d with
  | zero =>
    intro L a w hm hs hsub hclosed hsat
    have h0 : missing (fs ++ sk) L nA = 0 := missing_full fun j hj hsk => missing_zero hm j hj (by
      cases h5 : memN sk j with
      | false => rfl
      | true => rw [memN_iff.2 (List.mem_append.2 (.inr (memN_iff.1 h5)))] at hsk; cases hsk)
    have := stop L a w hs hsub h0 hsat
    rw [hm] at this; exact this
  | succ d ih =>
    intro L a w hm hs hsub hclosed hsat
    by_cases h0 : missing (fs ++ sk) L nA = 0
    · have := stop L a w hs hsub h0 hsat
      rw [hm] at this; exact this
    refine ⟨fun hnil => ?_, fun i hi => ?_⟩
    · exfalso
      obtain ⟨j, hj, hjs', hjf, hlo⟩ := missing_least (k := nA) (by omega : missing sk L nA ≠ 0)
      have hjl : j < l.length := by omega
      have hjs : j < L.size := by omega
      have : j ∈ Region.ready .any l.toArray L := by
        refine mem_ready.2 ⟨?_, l[j], by simp [hjl], fun e he hb => ?_⟩
        · simp [hjs] at hjf ⊢
          exact hjf
        · have h5 := hcl.less j l[j] (by simp [hjl]) hj hjs' e he hb
          exact hlo e.on h5.1 h5.2
      rw [hnil] at this; cases this
    · obtain ⟨⟨o, ho, hi0⟩, hdep⟩ := hfull L i hi hclosed
      have hil : i < l.length := by have := (Array.getElem?_eq_some_iff.1 ho).1; simpa using this
      have his : i < L.size := by omega
      have hif : L.getD i false = false := by simp [his] at hi0 ⊢; exact hi0
      have hnl : ¬ (nA ≤ i ∨ memN sk i = true) := fun h => by
        refine h0 (missing_full (sk := fs ++ sk) (L := L) (k := nA) fun j hj hsk => ?_)
        have h5 : memN fs j = false ∧ memN sk j = false := by
          constructor
          · cases h6 : memN fs j with
            | false => rfl
            | true => rw [memN_iff.2 (List.mem_append.2 (.inl (memN_iff.1 h6)))] at hsk; cases hsk
          · cases h6 : memN sk j with
            | false => rfl
            | true => rw [memN_iff.2 (List.mem_append.2 (.inr (memN_iff.1 h6)))] at hsk; cases hsk
        exact hdep j (hcl.late i o ho h j hj h5.2 h5.1)
      have hiA : i < nA := by
        rcases Nat.lt_or_ge i nA with h | h
        · exact h
        · exact absurd (.inl h) hnl
      have hisk : memN sk i = false := by
        cases hsk : memN sk i with
        | false => rfl
        | true => exact absurd (.inr hsk) hnl
      have hot : (l.take nA)[i]? = some o := by rw [List.getElem?_take, if_pos hiA]; simpa using ho
      obtain ⟨A, hA, hg, hstp⟩ := hob i o hot (by simpa using hisk)
      simp only [List.length_nil, Nat.zero_add] at hA hstp
      have hle : ((S.clear ds nms).partR (memN (cls.getD i [])) (adds.take i).reverse).le ((S.clear ds nms).part (fun j => L.getD j false) adds) := partR_le ok (fun j B hj => by
          rw [List.reverse_reverse] at hj
          rw [List.getElem?_take] at hj; split at hj
          · exact hj
          · cases hj) fun j B _ hj => hdep j (memN_iff.1 hj)
      have hst := (hstp _ hle).go w0 ω0 a w Q hsat
      unfold wpOp
      simp only [ho]
      rw [if_pos (by simp [Region.wanted, hg])]
      refine .inl (Oper.wp_mono (fun a' w' hsat' => ?_) hst)
      have hsat2 := (wk_add ok hA hif fun j hj hm' => by have := hclosed j hj i hm'; rw [hif] at this; cases this).go _ _ _ a' w' hsat'
      have hnew : ∀ j, (L.setIfInBounds i true).getD j false = (Nat.beq j i || L.getD j false) := fun j => by
        by_cases e : j = i
        · subst e; simp [his]
        · rw [getD_set_ne false (fun e' => e e'.symm), beq_ne e, Bool.false_or]
      refine ih (L.setIfInBounds i true) a' w' ?_ (by simp [hs]) (fun j hj => ?_) (fun j hj k hk' => ?_) ?_
      · have := missing_set his hif hisk nA hiA; omega
      · rw [hnew] at hj
        by_cases e : j = i
        · rw [e]; exact ⟨hiA, hisk⟩
        · rw [beq_ne e, Bool.false_or] at hj; exact hsub j hj
      · rw [hnew] at hj ⊢
        by_cases e : j = i
        · subst e; rw [hdep k hk']; simp
        · rw [beq_ne e, Bool.false_or] at hj; rw [hclosed j hj k hk']; simp
      · have : (fun j => (L.setIfInBounds i true).getD j false) = fun j => (Nat.beq j i || L.getD j false) := funext hnew
        rw [this]; exact hsat2

theorem goes_drawL {id : Nat} {l : List Oper} (nA : Nat) (sk : List Nat) (fs : List Nat) (cls : List (List Nat)) (ds nms : List Nat) {done : List Add} (hm : P.follows .mixedOrders = true) (hcl : clsLB l.toArray nA sk fs cls = true) (hf' : (nodupB fs && fs.all fun f => Nat.blt f nA && !memN sk f) = true) (hdr : Draw P nt (S.clear ds nms) cls sk (l.take nA) [] done) (ok : addsB done.reverse cls ds nms = true)
    (hk : AllSubs fs fun ks => Rest P w0 ω0 nt l.toArray Q (l.length - missing (ks ++ sk) #[] nA) (doneL nA (ks ++ sk) l.length) ((S.clear ds nms).partR (fun j => !memN (ks ++ sk) j) done)) : Goes P w0 ω0 nt S (.region id l.toArray true) Q := by
  have hc := clsLB_spec hcl
  have hsz : nA ≤ l.length := by have := hc.size; simpa using this
  have hk' := AllSubs.map (p' := fun ks => Rest P w0 ω0 nt l.toArray Q (l.length - missing (ks ++ sk) #[] nA) (doneL nA (ks ++ sk) l.length) ((S.clear ds nms).part (fun j => !memN (ks ++ sk) j) done.reverse)) (fun ks hk =>
    ⟨fun a w hs => hk.go a w ((St.le.wk (partR_le (addsB_spec ok) (fun _ _ h => h) fun _ _ _ h => h) fun _ _ h => h).go _ _ _ a w hs)⟩) hk
  have hfn : fs.Nodup := by simp only [Bool.and_eq_true] at hf'; exact nodupB_spec hf'.1
  have hfs : ∀ f ∈ fs, f < nA ∧ memN sk f = false := fun f hf => by
    simp only [Bool.and_eq_true] at hf'
    have := List.all_eq_true.1 hf'.2 f hf
    simpa using this
  have hle : ∀ k, missing sk #[] k ≤ k := fun k => by
    induction k with
    | zero => exact Nat.le_refl _
    | succ k ih => simp only [missing]; split <;> omega
  refine ⟨fun a w hs => wp_region_any hm ?_⟩
  have hfin := draw_mainL hfn hfs hc hdr rfl (addsB_spec ok) hk' (missing sk #[] nA) (Array.replicate l.length false) a { w with drawn := w.drawn + 1 } ?_ (by simp) (fun j hj => ?_) (fun i hi => ?_) ?_
  · have := hle nA
    rw [show l.length - missing sk #[] nA + missing sk #[] nA = l.length by omega] at hfin
    simpa using hfin
  · have : ∀ k, k ≤ l.length → missing sk (Array.replicate l.length false) k = missing sk #[] k := fun k => by
      induction k with
      | zero => intro _; rfl
      | succ k ih =>
        intro hk
        simp only [missing]
        rw [ih (by omega)]
        have : (Array.replicate l.length false).getD k false = false := by simp [show k < l.length by omega]
        rw [this]; rfl
    exact this nA hsz
  · exfalso
    by_cases h : j < l.length
    · simp [h] at hj
    · simp [h] at hj
  · exfalso
    by_cases h : i < l.length
    · simp [h] at hi
    · simp [h] at hi
  · have h1 := (wk_clear S ds nms).go _ _ _ a _ (sat_drew hs)
    have hf : ∀ j, (Array.replicate l.length false).getD j false = false := fun j => by
      by_cases h : j < l.length <;> simp [h]
    refine (Wk.less (S := S.clear ds nms) (S' := (S.clear ds nms).part (fun j => (Array.replicate l.length false).getD j false) done.reverse) (fun t av h => ?_) (fun x c h => ?_) fun _ _ h => h).go _ _ _ a _ h1
    · have h : (match lkT (fun j => (Array.replicate l.length false).getD j false) 0 done.reverse t with | some av => some av | none => (S.clear ds nms).sl t) = some av := h
      split at h
      · rename_i av' h2
        obtain ⟨j, A, _, h3, _⟩ := lkT_some h2
        rw [hf] at h3; cases h3
      · exact h
    · have h : (match lkN (fun j => (Array.replicate l.length false).getD j false) 0 done.reverse x with | some c => some c | none => (S.clear ds nms).ch x) = some c := h
      split at h
      · rename_i av' h2
        obtain ⟨j, A, _, h3, _⟩ := lkN_some h2
        rw [hf] at h3; cases h3
      · exact h


end
end Go.Proofs.Ytpognnifgcacnaa

/- From contracts in names to contracts in words (RdS, OwSS, ..), and back. No program in sight. -/
namespace Go.Proofs.Ytpognnifgcacnaa
open Go.RowKit

/-- nobody's blocks -/
def noOwn : Own? := fun _ => none
/-- a chunk that is only read lies at the head h, its rows at the heads r -/
def Hv (w : World) (x : Nm) (c : Ch) (h : Hd) (r : Nat → Hd) : Prop := ∀ η : Env, (∀ i, η.r x i = r i) → ChIs η noOwn w x h c
abbrev Lay := List (Nm × (Ch × Hd × (Nat → Hd)))
def envOf (l : Lay) : Env := { h := fun x => (lk x l).map fun q => q.2.1, r := fun x i => match lk x l with | some q => q.2.2 i | none => ⟨none, 0, 1⟩ }
theorem lk_map {α β : Type} (f : α → β) : ∀ (l : List (Nat × α)) (x : Nat), lk x (l.map fun p => (p.1, f p.2)) = (lk x l).map f
  | [], x => rfl
  | p :: r, x => by
    simp only [List.map_cons, lk]
    rw [lk_map f r x]
    cases Nat.beq x p.1 <;> rfl
theorem mem_of {w : World} {l : Lay} (h : ∀ p ∈ l, Hv w p.1 p.2.1 p.2.2.1 p.2.2.2) : Mem (envOf l) noOwn w (fun x => lk x (l.map fun p => (p.1, p.2.1))) := by
  have hl : ∀ x, lk x (l.map fun p => (p.1, p.2.1)) = (lk x l).map fun q => q.1 := fun x => lk_map (fun q => q.1) l x
  refine ⟨fun x c hx => ?_, fun x hx => ?_⟩
  · replace hx := (hl x).symm.trans hx
    obtain ⟨q, hq, rfl⟩ := Option.map_eq_some_iff.1 hx
    refine ⟨q.2.1, by simp [envOf, hq], h (x, q) (lk_mem hq) _ fun i => by simp [envOf, hq]⟩
  · replace hx := (hl x).symm.trans hx
    have : lk x l = none := by simpa using hx
    simp [envOf, this]
theorem den_sl {l : Lay} {x : Nm} {q : Ch × Hd × (Nat → Hd)} {n : Nat} (h : lk x l = some q) : Den1 (envOf l) (.sl x 0 n) (.slice q.2.1.ao n q.2.1.c) :=
  ⟨⟨_, _, rfl⟩, fun h' hh => by
    have hh : (lk x l).map (fun q => q.2.1) = some h' := hh
    rw [h] at hh; simp at hh; subst hh
    exact ⟨_, rfl, fun _ => rfl, fun h0 => absurd h0 (by omega)⟩⟩

theorem ofS {E : Nat} {w : World} {v : Value} {zs : List Int} (x E' : Nat) (h : OwS E w v zs) : ∃ hd r, v = .slice hd.ao zs.length hd.c ∧ Hv w x ⟨false, E', 1, .vals (ivals zs)⟩ hd r := by
  obtain ⟨ao, n, c, rfl, ho⟩ := h
  have hl := ho.len
  simp at hl
  subst hl
  refine ⟨⟨ao, c, 1⟩, fun _ => ⟨none, 0, 1⟩, rfl, fun η _ => ⟨rfl, ?_, fun j hj => ?_⟩⟩
  · show (ivals zs).length ≤ c * 1
    rw [ivals_len, Nat.mul_one]
    rcases Nat.eq_zero_or_pos zs.length with h0 | h0
    · omega
    · obtain ⟨g, _, _, _, h1, _⟩ := ho.form h0; exact h1
  · have hj : j < zs.length := by have : j < (ivals zs).length := hj; rwa [ivals_len] at this
    obtain ⟨g, rfl, _, hlt, _, hc, _⟩ := ho.form (by omega)
    refine ⟨g, 0, I6 (iget zs j), rfl, rfl, hlt, ?_, ivals_get hj⟩
    rw [Nat.zero_add, hc j hj]
    exact ivals_get hj
theorem ofSS {E1 E : Nat} {w : World} {lo hi : Nat} {v : Value} {zss : List (List Int)} (x E' E1' : Nat) (h : OwSS E1 E w lo hi v zss) : ∃ hd r, v = .slice hd.ao zss.length hd.c ∧ Hv w x ⟨false, E', 1, .rows E1' (irows zss) []⟩ hd r := by
  obtain ⟨ao, n, c, us, rfl, ho⟩ := h
  have hl := ho.len
  subst hl
  have hr : ∀ j, ∃ q : Hd, q.k = 1 ∧ ∀ u d, us[j]? = some u → zss[j]? = some d → u = Value.slice q.ao d.length q.c ∧ ∀ (η : Env), VecR noOwn w q (ivals d).length fun i u => (ivals d)[i]? = some u := fun j => by
    by_cases hj : j < zss.length
    · obtain ⟨u, d, hu, hd, ⟨a', n', c', rfl, h1⟩, _⟩ := ho.get hj
      have hl := h1.len
      simp at hl
      subst hl
      refine ⟨⟨a', c', 1⟩, rfl, fun u2 d2 hu2 hd2 => ?_⟩
      rw [hu] at hu2; rw [hd] at hd2
      obtain rfl := Option.some.inj hu2
      obtain rfl := Option.some.inj hd2
      obtain ⟨hd', r', e1, e2⟩ := ofS x E' (⟨a', _, c', rfl, h1⟩ : OwS E1 w _ d)
      injection e1 with f1 f2 f3
      refine ⟨rfl, fun η => ?_⟩
      have e3 := e2 { h := fun _ => none, r := fun _ => r' } (fun _ => rfl)
      obtain ⟨e4, e5⟩ := e3
      have e5 : VecR noOwn w hd' (ivals d).length _ := e5
      have : hd' = ⟨a', c', 1⟩ := by
        cases hd'; simp at f1 f3 e4; simp [f1, f3, e4]
      subst this
      exact e5
    · refine ⟨⟨none, 0, 1⟩, rfl, fun u d _ hd => ?_⟩
      rw [List.getElem?_eq_none (by omega)] at hd; cases hd
  refine ⟨⟨ao, c, 1⟩, fun j => Classical.choose (hr j), rfl, fun η he => ⟨rfl, ?_, fun j hj => ?_⟩⟩
  · show (irows zss).length ≤ c * 1
    rw [irows_len, Nat.mul_one]
    rcases Nat.eq_zero_or_pos zss.length with h0 | h0
    · omega
    · obtain ⟨g, _, _, _, h1, _⟩ := ho.own.form h0; exact h1
  · have hj : j < zss.length := by have : j < (irows zss).length := hj; rwa [irows_len] at this
    obtain ⟨g, rfl, _, hlt, _, hc, _⟩ := ho.own.form (by omega)
    obtain ⟨u, d, hu, hd, h1, _⟩ := ho.get hj
    have hs := Classical.choose_spec (hr j)
    obtain ⟨k1, k2⟩ := hs.2 u d hu hd
    refine ⟨g, 0, u, rfl, rfl, hlt, by rw [Nat.zero_add, hc j hj, hu], by rw [k1]; rfl, fun _ vs hvs => ?_⟩
    have hvd : vs = ivals d := by
      have : (irows zss)[j]? = some (ivals d) := by simp [irows, hd]
      rw [this] at hvs; exact (Option.some.inj hvs).symm
    subst hvd
    rw [he j]
    exact ⟨by rw [k1, ivals_len], hs.1, k2 η⟩

/-- what a contract in names says of a call whose arguments are only read -/
theorem FC.call {P : Program} {f : FuncId} {ins outs : List (Nm × Ch)} {args : List AV} {res : AV} {back : List (Nat × AV)} (h : FC P f ins args outs res back) {w : World} {l : Lay} {us : List Value} (hl : ∀ p ∈ l, Hv w p.1 p.2.1 p.2.2.1 p.2.2.2) (hi : (l.map fun p => (p.1, p.2.1)) = ins)
    (hd : DenL (envOf l) args us) : Calls P f us.toArray w fun e w' => ∃ v η ω, e = .returned v ∧ Den η res v ∧ Mem η ω w' (fun x => lk x outs) ∧ Below w.heap.size w w' ∧ ∀ b, b < w.heap.size → ω b = none := by
  subst hi
  refine (h w (envOf l) noOwn us (mem_of hl) hd).mono ?_
  rintro e w' ⟨v, η, ω, he, h1, h2, h3, _⟩
  exact ⟨v, η, ω, he, h1, h2, ⟨h3.os, h3.tape, h3.output, h3.size, fun b hb => (h3.block b hb rfl).1⟩, fun b hb => (h3.block b hb rfl).2⟩

section
variable {η : Env} {ω : Own?} {w' : World} {lo : Nat} {outs : List (Nm × Ch)}
/-- a vector of the call's own is a row of the words -/
theorem VecO.own {ow : Nm × Option Nat} {h : Hd} {E : Nat} {xs : List Value} {len : Nat} {cell : Nat → Value → Prop} (hk : h.k = 1) (hv : VecO ω w' ow h E len cell) (hlo : ∀ b, b < lo → ω b = none) (hn : len ≤ 4398046511104) (hx : xs.length = len)
    (hc : ∀ j u, j < len → (∃ b o, h.ao = some ⟨b, o, none⟩ ∧ w'.cell? ⟨b, o + j, none⟩ = some u) → xs[j]? = some u) :
    Own w' lo E h.ao len h.c xs ∧ ∀ g, bk h.ao = some g → g < w'.heap.size ∧ ω g = some ow := by
  rcases hv with ⟨h1, h2, h3⟩ | ⟨b, o, cs, h1, h2, h3, ⟨h4, h4'⟩, h5, h6, h7⟩
  · subst h3
    refine ⟨⟨⟨by simpa using hx, .inl ⟨by rw [h1, h2], rfl⟩⟩, hn⟩, fun g hg => by rw [h1] at hg; cases hg⟩
  · subst h4
    rw [hk, Nat.mul_one] at h4' h5
    have hb : lo ≤ b := by
      rcases Nat.lt_or_ge b lo with h8 | h8
      · rw [hlo b h8] at h2; cases h2
      · exact h8
    refine ⟨⟨⟨by simpa using hx, .inr ⟨b, h.c, cs, by rw [h1], hb, h3, h5, h6, by rw [h4', Nat.mul_one], ?_⟩⟩, hn⟩, fun g hg => ?_⟩
    · apply List.ext_getElem?
      intro j
      rw [Nat.mul_one, List.getElem?_take]
      by_cases hj : j < len
      · obtain ⟨u, hu, _⟩ := h7 j hj
        rw [Nat.zero_add] at hu
        rw [if_pos hj, hc j u hj ⟨b, 0, h1, by rw [Nat.zero_add, cell_of_row w' b j cs E (0, 0) h3]; exact hu⟩]
        simpa using hu
      · rw [if_neg hj, List.getElem?_eq_none (by omega)]
    · rw [h1] at hg
      simp [bk] at hg
      subst hg
      exact ⟨lt_of_heap h3, h2⟩
end

/-- a contract in words of a function that reads, as a contract in names -/
theorem fc_of_calls {P : Program} {f : FuncId} {ins : List (Nm × Ch)} {args : List AV} {r : Value} (h : ∀ w η ω us, Mem η ω w (fun x => lk x ins) → DenL η args us → Calls P f us.toArray w fun e w' => e = .returned r ∧ Below w.heap.size w w') : FC P f ins args [] (vv r) [] := by
  intro w η ω us hm hd
  refine (h w η ω us hm hd).mono ?_
  rintro e w' ⟨rfl, hb⟩
  exact ⟨r, { h := fun _ => none, r := η.r }, ω, rfl, rfl, ⟨fun x c hx => (nomatch hx), fun x _ => rfl⟩, ⟨hb.os, hb.tape, hb.output, hb.size, fun b hlt hn => ⟨hb.block b hlt, hn⟩⟩, fun t av ht => (nomatch ht)⟩
section
variable {η : Env} {ω : Own?} {w : World} {ins : List (Nm × Ch)}
theorem rdS {x : Nat} {own : Bool} {E : Nat} {zs : List Int} {v : Value} (hm : Mem η ω w (fun x => lk x ins)) (hx : lk x ins = some ⟨own, E, 1, .vals (ivals zs)⟩) (hv : Den1 η (.sl x 0 zs.length) v) (hn : zs.length ≤ 17592186044416) : ∃ ao c, v = .slice ao zs.length c ∧ Ints w ao zs.length zs := by
  obtain ⟨h, h1, h2, h3⟩ := hm.1 x _ hx
  obtain ⟨ao, rfl, h4, _⟩ := hv.2 h h1
  have h3 : Vec own ω w (x, none) h E (ivals zs).length (cellsOK η ω w own x (.vals (ivals zs))) := h3
  rw [h4 rfl]
  refine ⟨_, _, rfl, rfl, hn, fun h0 => ?_⟩
  obtain ⟨b, o, u, f1, _, _⟩ := h3.get (j := 0) (by rw [ivals_len]; exact h0)
  refine ⟨b, o, f1, fun j hj => ?_⟩
  obtain ⟨b', o', u', g1, g2, g3⟩ := h3.get (j := j) (by rw [ivals_len]; exact hj)
  rw [f1] at g1; injection g1 with g1; injection g1 with g1 g1'; subst g1 g1'
  have g3 : (ivals zs)[j]? = some u' := g3
  rw [ivals_get hj] at g3
  rw [g2, ← g3]
theorem rdSS {x : Nat} {own : Bool} {E F : Nat} {zss : List (List Int)} {v : Value} (hm : Mem η ω w (fun x => lk x ins)) (hx : lk x ins = some ⟨own, E, 1, .rows F (irows zss) []⟩) (hv : Den1 η (.sl x 0 zss.length) v) (hn : zss.length ≤ 17592186044416) (hr : ∀ zs ∈ zss, zs.length ≤ 17592186044416) : ∃ ao c, v = .slice ao zss.length c ∧ Intss w ao zss.length zss := by
  obtain ⟨h, h1, h2, h3⟩ := hm.1 x _ hx
  obtain ⟨ao, rfl, h4, _⟩ := hv.2 h h1
  have h3 : Vec own ω w (x, none) h E (irows zss).length (cellsOK η ω w own x (.rows F (irows zss) [])) := h3
  rw [h4 rfl]
  refine ⟨_, _, rfl, rfl, hn, fun h0 => ?_⟩
  obtain ⟨b, o, u, f1, _, _⟩ := h3.get (j := 0) (by rw [irows_len]; exact h0)
  refine ⟨b, o, f1, fun j hj => ?_⟩
  obtain ⟨b', o', u', g1, g2, g3, g4⟩ := h3.get (j := j) (by rw [irows_len]; exact hj)
  rw [f1] at g1; injection g1 with g1; injection g1 with g1 g1'; subst g1 g1'
  obtain ⟨k1, k2, k3⟩ := g4 (by simp) (ivals (lget zss j)) (irows_get hj)
  rw [ivals_len] at k1
  refine ⟨u', g2, _, _, _, k1, rfl, hr _ (lget_mem hj), fun h0 => ?_⟩
  obtain ⟨b2, o2, u2, m1, _, _⟩ := k3.get (j := 0) (by rw [ivals_len]; exact h0)
  refine ⟨b2, o2, m1, fun i hi => ?_⟩
  obtain ⟨b3, o3, u3, n1, n2, n3⟩ := k3.get (j := i) (by rw [ivals_len]; exact hi)
  rw [m1] at n1; injection n1 with n1; injection n1 with n1 n1'; subst n1 n1'
  rw [ivals_get hi] at n3
  rw [n2, ← n3]
end
end Go.Proofs.Ytpognnifgcacnaa

/- The program's coset enumeration: find, image, link. guards: -/
namespace Go.Proofs.Ytpognnifgcacnaa
open Go.RowKit

abbrev coF (m n : Nat) (b : Bool) : List A1 := [.sl 1000 0 m, .sl 1001 0 n, .val (.bool b)]
abbrev coRo (m n : Nat) (b : Bool) : Ch := ⟨false, 179, 3, .flat (coF m n b)⟩
abbrev coOw (m n : Nat) (b : Bool) : Ch := ⟨true, 179, 3, .flat (coF m n b)⟩

theorem iFind_fc (im : List (List Int)) (less : List Int) (m n c : Nat) (b : Bool) (hn : less.length = n) (hd : Down less) (hc : c < less.length) :
    FC Try.prog 219 [(1010, coRo m n b), (1000, imRo im), (1001, leRo less)] [o1 (.ptr 1010 0), vv (I6 c)] [] (vv (I6 (root less c))) [] := by
  subst hn
  refine fc_enter (nt := 22) Try.func219 rfl rfl (by simp) fun w0 ω0 => ?_
  (refine goes_seq ?_; refine goes_region ?_; apply run_step rfl; (exact stp_assign rfl rfl); refine run_nil ?_; refine fin_seq ?_; refine goes_seq ?_; refine goes_block ?_)
  refine goes_loop (fun k : Nat => St.of [(0, o1 (.ptr 1010 0)), (1, vv (I6 k))] [(1010, coRo m less.length b), (1001, leRo less)]) (fun k => k < less.length ∧ root less k = root less c) (fun k => k) c ⟨hc, rfl⟩ (Wk.of ⟨rfl, rfl, trivial⟩ ⟨rfl, rfl, trivial⟩ trivial) ?_
  rintro k ⟨hk, hr⟩
  (refine goes_seq ?_; refine goes_seq ?_; refine goes_region ?_; apply run_step rfl; (exact stp_move rfl rfl); apply run_step rfl; (exact stp_nilCheck rfl rfl rfl); apply run_step rfl; (exact stp_fieldAddr (d := 1) rfl rfl rfl (by as_aux_lemma => kernel_rfl)); apply run_step rfl; (exact stp_loadF rfl (by as_aux_lemma => kernel_rfl) rfl rfl rfl rfl); apply run_step rfl; (exact stp_move rfl rfl); apply run_step rfl; (exact stp_ix rfl rfl rfl rfl rfl (by as_aux_lemma => kernel_rfl) (by first | rfl | exact (Int.toNat_of_nonneg (by omega)).symm) (by first | assumption | omega | (simp; omega)) (by first | exact Nat.le_refl _ | exact Nat.le_of_eq (ivals_len _).symm | exact Nat.le_of_eq (irows_len _).symm | (refine Nat.le_trans ?_ (Nat.le_of_eq (ivals_len _).symm); (first | omega | (simp; done) | (simp; omega))) | (refine Nat.le_trans ?_ (Nat.le_of_eq (irows_len _).symm); (first | omega | (simp; done) | (simp; omega))))); apply run_step rfl; (exact stp_loadV rfl (by as_aux_lemma => kernel_rfl) rfl rfl rfl (by first | assumption | exact ivals_get (by assumption) | exact irows_get (by assumption) | exact ivals_get (by omega) | exact irows_get (by omega) | rfl)); apply run_step rfl; (exact stp_move rfl rfl); apply run_step rfl; (exact stp_bin rfl rfl rfl rfl); refine run_nil ?_; refine fin_seq ?_)
  have hk2 := hd k hk
  refine goes_cond rfl (fun h => ?_) (fun h => ?_)
  · have hne : iget less k ≠ k := by simpa using h
    have hz : iget less k = (((iget less k).toNat : Nat) : Int) := (Int.toNat_of_nonneg hk2.1).symm
    (refine goes_skip ?_; refine fin_seq ?_; refine goes_block ?_; refine goes_region ?_; apply run_step rfl; (exact stp_move rfl rfl); apply run_step rfl; (exact stp_nilCheck rfl rfl rfl); apply run_step rfl; (exact stp_fieldAddr (d := 1) rfl rfl rfl (by as_aux_lemma => kernel_rfl)); apply run_step rfl; (exact stp_loadF rfl (by as_aux_lemma => kernel_rfl) rfl rfl rfl rfl); apply run_step rfl; (exact stp_move rfl rfl); apply run_step rfl; (exact stp_ix rfl rfl rfl rfl rfl (by as_aux_lemma => kernel_rfl) (by first | rfl | exact (Int.toNat_of_nonneg (by omega)).symm) (by first | assumption | omega | (simp; omega)) (by first | exact Nat.le_refl _ | exact Nat.le_of_eq (ivals_len _).symm | exact Nat.le_of_eq (irows_len _).symm | (refine Nat.le_trans ?_ (Nat.le_of_eq (ivals_len _).symm); (first | omega | (simp; done) | (simp; omega))) | (refine Nat.le_trans ?_ (Nat.le_of_eq (irows_len _).symm); (first | omega | (simp; done) | (simp; omega))))); apply run_step rfl; (exact stp_loadV rfl (by as_aux_lemma => kernel_rfl) rfl rfl rfl (by first | assumption | exact ivals_get (by assumption) | exact irows_get (by assumption) | exact ivals_get (by omega) | exact irows_get (by omega) | rfl)); apply run_step rfl; (exact stp_assign rfl rfl); refine run_nil ?_; refine fin_block ?_)
    exact fin_round (iget less k).toNat ⟨by omega, (root_step hd hk hne).symm.trans hr⟩ (by omega) (Wk.of ⟨rfl, congrArg (fun z => some (vv (I6 z))) hz, trivial⟩ ⟨rfl, rfl, trivial⟩ trivial)
  · have he : iget less k = k := by simpa using h
    have e : k = root less c := by rw [← hr, root_of he]
    (refine goes_exit ?_; refine fin_exit_then ?_; refine fin_exit_then ?_; refine fin_exit_eq ?_; refine fin_seq ?_; refine goes_seq ?_; refine goes_region ?_; apply run_step rfl; (exact stp_move rfl rfl); apply run_step rfl; (exact stp_assign rfl rfl); refine run_nil ?_; refine fin_seq ?_; refine goes_ret ?_)
    exact fin_ret1 (.inl rfl) rfl (.tmp (congrArg (fun z : Nat => some (vv (I6 z))) e)) trivial trivial

theorem iImage_fc (im : List (List Int)) (less : List Int) (m n c g : Nat) (b : Bool) (hm : im.length = m) (hn : less.length = n) (hd : Down less) (hc : c < im.length) (hg : g < (lget im c).length) (he : ent im c g < less.length) :
    FC Try.prog 195 [(1010, coRo m n b), (1000, imRo im), (1001, leRo less)] [o1 (.ptr 1010 0), vv (I6 c), vv (I6 g)] [] (vv (I6 (image im less c g))) [] := by
  subst hm hn
  refine fc_enter (nt := 23) Try.func195 rfl rfl (by simp) fun w0 ω0 => ?_
  (refine goes_seq ?_; refine goes_region ?_; apply run_step rfl; (exact stp_assign rfl rfl); refine run_nil ?_; refine fin_seq ?_; refine goes_seq ?_; refine goes_seq ?_; refine goes_region ?_; apply run_step rfl; (exact stp_move rfl rfl); apply run_step rfl; (exact stp_nilCheck rfl rfl rfl); apply run_step rfl; (exact stp_fieldAddr (d := 0) rfl rfl rfl (by as_aux_lemma => kernel_rfl)); apply run_step rfl; (exact stp_loadF rfl (by as_aux_lemma => kernel_rfl) rfl rfl rfl rfl); apply run_step rfl; (exact stp_move rfl rfl); apply run_step rfl; (exact stp_ix rfl rfl rfl rfl rfl (by as_aux_lemma => kernel_rfl) (by first | rfl | exact (Int.toNat_of_nonneg (by omega)).symm) (by first | assumption | omega | (simp; omega)) (by first | exact Nat.le_refl _ | exact Nat.le_of_eq (ivals_len _).symm | exact Nat.le_of_eq (irows_len _).symm | (refine Nat.le_trans ?_ (Nat.le_of_eq (ivals_len _).symm); (first | omega | (simp; done) | (simp; omega))) | (refine Nat.le_trans ?_ (Nat.le_of_eq (irows_len _).symm); (first | omega | (simp; done) | (simp; omega))))); apply run_step rfl; (exact stp_loadR rfl (by as_aux_lemma => kernel_rfl) rfl rfl rfl (by first | assumption | exact ivals_get (by assumption) | exact irows_get (by assumption) | exact ivals_get (by omega) | exact irows_get (by omega) | rfl) (by first | exact ivals_len _ | assumption | rfl)); apply run_step rfl; (exact stp_move rfl rfl); apply run_step rfl; (exact stp_ixE rfl rfl rfl rfl rfl (by as_aux_lemma => kernel_rfl) (by first | assumption | exact ivals_get (by assumption) | exact irows_get (by assumption) | exact ivals_get (by omega) | exact irows_get (by omega) | rfl) (by first | rfl | exact (Int.toNat_of_nonneg (by omega)).symm) (by first | assumption | omega | (simp; omega)) (by first | exact Nat.le_refl _ | exact Nat.le_of_eq (ivals_len _).symm | exact Nat.le_of_eq (irows_len _).symm | (refine Nat.le_trans ?_ (Nat.le_of_eq (ivals_len _).symm); (first | omega | (simp; done) | (simp; omega))) | (refine Nat.le_trans ?_ (Nat.le_of_eq (irows_len _).symm); (first | omega | (simp; done) | (simp; omega))))); apply run_step rfl; (exact stp_loadE' rfl (by as_aux_lemma => kernel_rfl) rfl rfl rfl (by first | assumption | exact ivals_get (by assumption) | exact irows_get (by assumption) | exact ivals_get (by omega) | exact irows_get (by omega) | rfl) (by first | assumption | exact ivals_get (by assumption) | exact irows_get (by assumption) | exact ivals_get (by omega) | exact irows_get (by omega) | rfl)); apply run_step rfl; (exact stp_assign rfl rfl); refine run_nil ?_; refine fin_seq ?_; refine goes_seq ?_; refine goes_region ?_; apply run_step rfl; (exact stp_move rfl rfl); apply run_step rfl; (exact stp_bin rfl rfl rfl rfl); refine run_nil ?_; refine fin_seq ?_)
  refine goes_cond rfl (fun h => ?_) (fun h => ?_)
  · have h : ¬ ent im c g < 0 := by unfold ent; simp at h; omega
    have e : image im less c g = root less (ent im c g).toNat := if_neg h
    have hF := iFind_fc im less im.length less.length (ent im c g).toNat b rfl hd (by omega)
    have hz : iget (lget im c) g = (((ent im c g).toNat : Nat) : Int) := (Int.toNat_of_nonneg (show 0 ≤ iget (lget im c) g from Int.not_lt.1 h)).symm
    (refine goes_seq ?_; refine goes_region ?_; apply run_step rfl; (exact stp_move rfl rfl); apply run_step rfl; (exact stp_move rfl rfl); apply run_step rfl; (apply call_gate 219; exact stp_callR hF (by as_aux_lemma => kernel_rfl) rfl rfl ⟨rfl, congrArg (fun z => vv (I6 z)) hz, trivial⟩ ⟨⟨_, rfl, .inl rfl⟩, ⟨_, rfl, .inl rfl⟩, ⟨_, rfl, .inl rfl⟩, trivial⟩ rfl rfl); apply run_step rfl; (exact stp_assign rfl rfl); refine run_nil ?_; refine fin_seq ?_; refine goes_ret ?_; refine fin_ret_then ?_)
    exact fin_ret1 (.inl rfl) rfl (.tmp (congrArg (fun z => some (vv (I6 z))) e.symm)) trivial trivial
  · have h : ent im c g < 0 := by unfold ent; simp at h; omega
    have e : image im less c g = -1 := if_pos h
    (refine goes_skip ?_; refine fin_seq ?_; refine goes_seq ?_; refine goes_region ?_; apply run_step rfl; (exact stp_assign rfl rfl); refine run_nil ?_; refine fin_seq ?_; refine goes_ret ?_)
    exact fin_ret1 (.inl rfl) rfl (.tmp (congrArg (fun z => some (vv (I6 z))) e.symm)) trivial trivial

set_option maxRecDepth 100000 in
set_option maxHeartbeats 2000000 in
theorem iLink_fc (im : List (List Int)) (less : List Int) (m n c d g : Nat) (b : Bool) (hm : im.length = m) (hc : c < im.length) (hg : g < (lget im c).length) (hdl : d < im.length) (hg2 : g < (lget im d).length) :
    FC Try.prog 218 [(1010, coOw m n b), (1000, imOw im), (1001, leOw less)] [o1 (.ptr 1010 0), vv (I6 c), vv (I6 d), vv (I6 g)] [(1010, coOw m n b), (1000, imOw (rset (rset im c g d) d g c)), (1001, leOw less)] (.tup []) [(0, o1 (.ptr 1010 0))] := by
  subst hm
  have hrr : (lget (rset im c g (d : Int)) d).length = (lget im d).length := rset_row _ _ _ _ _
  have hg3 : g < (lget (rset im c g (d : Int)) d).length := by rw [rset_row]; exact hg2
  have hd3 : d < (rset im c g (d : Int)).length := by rw [rset_len]; exact hdl
  refine fc_enter (nt := 28) Try.func218 rfl rfl (by simp) fun w0 ω0 => ?_
  (skip)
  refine goes_cut (St.of [] [(1010, coOw im.length n b), (1000, imOw (rset (rset im c g d) d g c)), (1001, leOw less)] [(0, o1 (.ptr 1010 0))]) ?_ ?_
  · apply goes_drawL 18 [] [15, 17] [[], [0], [0, 1], [0, 1, 2], [], [0, 1, 2, 3, 4], [0, 1, 2, 3, 4, 5], [], [], [8], [8, 9], [8, 9, 10], [], [8, 9, 10, 11, 12], [8, 9, 10, 11, 12, 13], [], [], [], [0, 1, 2, 3, 4, 5, 6, 7, 8, 9, 10, 11, 12, 13, 14, 16], [0, 1, 2, 3, 4, 5, 6, 7, 8, 9, 10, 11, 12, 13, 14, 16, 18], [0, 1, 2, 3, 4, 5, 6, 7, 8, 9, 10, 11, 12, 13, 14, 15, 16, 17, 18, 19], [0, 1, 2, 3, 4, 5, 6, 7, 8, 9, 10, 11, 12, 13, 14, 15, 16, 17, 18, 19, 20]] [8, 9, 10, 11, 12, 13, 14, 15, 16, 17, 18, 19, 20, 21, 22, 23, 24, 25] [] (by kernel_rfl) (by kernel_rfl) (by kernel_rfl)
    · (apply draw_put rfl; (intro S1 hS; exact stp_move rfl (hS.op rfl)); apply draw_put rfl; (intro S1 hS; exact stp_nilCheck rfl (hS.op rfl) (hS.ch _ _ rfl)); apply draw_put rfl; (intro S1 hS; exact stp_fieldAddr (d := 0) rfl (hS.op rfl) (hS.ch _ _ rfl) (by as_aux_lemma => kernel_rfl)); apply draw_put rfl; (intro S1 hS; exact stp_loadF rfl (by as_aux_lemma => kernel_rfl) (hS.op rfl) (hS.ch _ _ rfl) rfl rfl); apply draw_put rfl; (intro S1 hS; exact stp_move rfl (hS.op rfl)); apply draw_put rfl; (intro S1 hS; exact stp_ix rfl (hS.op rfl) (hS.op rfl) (hS.ch _ _ rfl) rfl (by as_aux_lemma => kernel_rfl) (by first | rfl | exact (Int.toNat_of_nonneg (by omega)).symm) (by first | assumption | omega | (simp; omega)) (by first | exact Nat.le_refl _ | exact Nat.le_of_eq (ivals_len _).symm | exact Nat.le_of_eq (irows_len _).symm | (refine Nat.le_trans ?_ (Nat.le_of_eq (ivals_len _).symm); (first | omega | (simp; done) | (simp; omega))) | (refine Nat.le_trans ?_ (Nat.le_of_eq (irows_len _).symm); (first | omega | (simp; done) | (simp; omega))))); apply draw_put rfl; (intro S1 hS; exact stp_loadR rfl (by as_aux_lemma => kernel_rfl) (hS.op rfl) (hS.ch _ _ rfl) rfl (by first | assumption | exact ivals_get (by assumption) | exact irows_get (by assumption) | exact ivals_get (by omega) | exact irows_get (by omega) | rfl) (by first | exact ivals_len _ | assumption | rfl)); apply draw_put rfl; (intro S1 hS; exact stp_move rfl (hS.op rfl)); apply draw_put rfl; (intro S1 hS; exact stp_move rfl (hS.op rfl)); apply draw_put rfl; (intro S1 hS; exact stp_nilCheck rfl (hS.op rfl) (hS.ch _ _ rfl)); apply draw_put rfl; (intro S1 hS; exact stp_fieldAddr (d := 0) rfl (hS.op rfl) (hS.ch _ _ rfl) (by as_aux_lemma => kernel_rfl)); apply draw_put rfl; (intro S1 hS; exact stp_loadF rfl (by as_aux_lemma => kernel_rfl) (hS.op rfl) (hS.ch _ _ rfl) rfl rfl); apply draw_put rfl; (intro S1 hS; exact stp_move rfl (hS.op rfl)); apply draw_put rfl; (intro S1 hS; exact stp_ix rfl (hS.op rfl) (hS.op rfl) (hS.ch _ _ rfl) rfl (by as_aux_lemma => kernel_rfl) (by first | rfl | exact (Int.toNat_of_nonneg (by omega)).symm) (by first | assumption | omega | (simp; omega)) (by first | exact Nat.le_refl _ | exact Nat.le_of_eq (ivals_len _).symm | exact Nat.le_of_eq (irows_len _).symm | (refine Nat.le_trans ?_ (Nat.le_of_eq (ivals_len _).symm); (first | omega | (simp; done) | (simp; omega))) | (refine Nat.le_trans ?_ (Nat.le_of_eq (irows_len _).symm); (first | omega | (simp; done) | (simp; omega))))); apply draw_put rfl; (intro S1 hS; exact stp_loadR rfl (by as_aux_lemma => kernel_rfl) (hS.op rfl) (hS.ch _ _ rfl) rfl (by first | assumption | exact ivals_get (by assumption) | exact irows_get (by assumption) | exact ivals_get (by omega) | exact irows_get (by omega) | rfl) (by first | exact ivals_len _ | assumption | rfl)); apply draw_put rfl; (intro S1 hS; exact stp_move rfl (hS.op rfl)); apply draw_put rfl; (intro S1 hS; exact stp_move rfl (hS.op rfl)); apply draw_put rfl; (intro S1 hS; exact stp_move rfl (hS.op rfl)); exact Draw.nil)
    · rfl
    refine ⟨⟨?_, ?_⟩, ?_, ?_⟩
    · ((apply rest_one 18 rfl (by as_aux_lemma => kernel_rfl) rfl rfl; (exact stp_ixE rfl rfl rfl rfl rfl (by as_aux_lemma => kernel_rfl) (by first | assumption | exact ivals_get (by assumption) | exact irows_get (by assumption) | exact ivals_get (by omega) | exact irows_get (by omega) | rfl) (by first | rfl | exact (Int.toNat_of_nonneg (by omega)).symm) (by first | assumption | omega | (simp; omega)) (by first | exact Nat.le_refl _ | exact Nat.le_of_eq (ivals_len _).symm | exact Nat.le_of_eq (irows_len _).symm | (refine Nat.le_trans ?_ (Nat.le_of_eq (ivals_len _).symm); (first | omega | (simp; done) | (simp; omega))) | (refine Nat.le_trans ?_ (Nat.le_of_eq (irows_len _).symm); (first | omega | (simp; done) | (simp; omega)))))); (apply rest_one 19 rfl (by as_aux_lemma => kernel_rfl) rfl rfl; (exact stp_stE rfl rfl rfl rfl rfl (by first | assumption | omega | (simp; omega)) (by first | assumption | omega | (simp; omega)) (by as_aux_lemma => kernel_rfl))); (apply rest_one 20 rfl (by as_aux_lemma => kernel_rfl) rfl rfl; (exact stp_ixE rfl rfl rfl rfl rfl (by as_aux_lemma => kernel_rfl) (by first | assumption | exact ivals_get (by assumption) | exact irows_get (by assumption) | exact ivals_get (by omega) | exact irows_get (by omega) | rfl) (by first | rfl | exact (Int.toNat_of_nonneg (by omega)).symm) (by first | assumption | omega | (simp; omega)) (by first | exact Nat.le_refl _ | exact Nat.le_of_eq (ivals_len _).symm | exact Nat.le_of_eq (irows_len _).symm | (refine Nat.le_trans ?_ (Nat.le_of_eq (ivals_len _).symm); (first | omega | (simp; done) | (simp; omega))) | (refine Nat.le_trans ?_ (Nat.le_of_eq (irows_len _).symm); (first | omega | (simp; done) | (simp; omega)))))); (apply rest_one 21 rfl (by as_aux_lemma => kernel_rfl) rfl rfl; (exact stp_stE rfl rfl rfl rfl rfl (by first | assumption | omega | (simp; omega)) (by first | assumption | omega | (simp; omega)) (by as_aux_lemma => kernel_rfl))); (refine rest_done (by as_aux_lemma => kernel_rfl) ?_; exact fin_join (Wk.of trivial ⟨rfl, rfl, rfl, trivial⟩ ⟨rfl, trivial⟩)))
    · ((apply rest_two 17 18 rfl (by as_aux_lemma => kernel_rfl) rfl rfl rfl rfl; (exact stp_move rfl rfl); (exact stp_ixE rfl rfl rfl rfl rfl (by as_aux_lemma => kernel_rfl) (by first | assumption | exact ivals_get (by assumption) | exact irows_get (by assumption) | exact ivals_get (by omega) | exact irows_get (by omega) | rfl) (by first | rfl | exact (Int.toNat_of_nonneg (by omega)).symm) (by first | assumption | omega | (simp; omega)) (by first | exact Nat.le_refl _ | exact Nat.le_of_eq (ivals_len _).symm | exact Nat.le_of_eq (irows_len _).symm | (refine Nat.le_trans ?_ (Nat.le_of_eq (ivals_len _).symm); (first | omega | (simp; done) | (simp; omega))) | (refine Nat.le_trans ?_ (Nat.le_of_eq (irows_len _).symm); (first | omega | (simp; done) | (simp; omega))))); (focus ((apply rest_one 18 rfl (by as_aux_lemma => kernel_rfl) rfl rfl; (exact stp_ixE rfl rfl rfl rfl rfl (by as_aux_lemma => kernel_rfl) (by first | assumption | exact ivals_get (by assumption) | exact irows_get (by assumption) | exact ivals_get (by omega) | exact irows_get (by omega) | rfl) (by first | rfl | exact (Int.toNat_of_nonneg (by omega)).symm) (by first | assumption | omega | (simp; omega)) (by first | exact Nat.le_refl _ | exact Nat.le_of_eq (ivals_len _).symm | exact Nat.le_of_eq (irows_len _).symm | (refine Nat.le_trans ?_ (Nat.le_of_eq (ivals_len _).symm); (first | omega | (simp; done) | (simp; omega))) | (refine Nat.le_trans ?_ (Nat.le_of_eq (irows_len _).symm); (first | omega | (simp; done) | (simp; omega)))))); (apply rest_one 19 rfl (by as_aux_lemma => kernel_rfl) rfl rfl; (exact stp_stE rfl rfl rfl rfl rfl (by first | assumption | omega | (simp; omega)) (by first | assumption | omega | (simp; omega)) (by as_aux_lemma => kernel_rfl))); (apply rest_one 20 rfl (by as_aux_lemma => kernel_rfl) rfl rfl; (exact stp_ixE rfl rfl rfl rfl rfl (by as_aux_lemma => kernel_rfl) (by first | assumption | exact ivals_get (by assumption) | exact irows_get (by assumption) | exact ivals_get (by omega) | exact irows_get (by omega) | rfl) (by first | rfl | exact (Int.toNat_of_nonneg (by omega)).symm) (by first | assumption | omega | (simp; omega)) (by first | exact Nat.le_refl _ | exact Nat.le_of_eq (ivals_len _).symm | exact Nat.le_of_eq (irows_len _).symm | (refine Nat.le_trans ?_ (Nat.le_of_eq (ivals_len _).symm); (first | omega | (simp; done) | (simp; omega))) | (refine Nat.le_trans ?_ (Nat.le_of_eq (irows_len _).symm); (first | omega | (simp; done) | (simp; omega)))))); (apply rest_one 21 rfl (by as_aux_lemma => kernel_rfl) rfl rfl; (exact stp_stE rfl rfl rfl rfl rfl (by first | assumption | omega | (simp; omega)) (by first | assumption | omega | (simp; omega)) (by as_aux_lemma => kernel_rfl))); (refine rest_done (by as_aux_lemma => kernel_rfl) ?_; exact fin_join (Wk.of trivial ⟨rfl, rfl, rfl, trivial⟩ ⟨rfl, trivial⟩)))); (focus ((apply rest_two 17 19 rfl (by as_aux_lemma => kernel_rfl) rfl rfl rfl rfl; (exact stp_move rfl rfl); (exact stp_stE rfl rfl rfl rfl rfl (by first | assumption | omega | (simp; omega)) (by first | assumption | omega | (simp; omega)) (by as_aux_lemma => kernel_rfl)); (focus ((apply rest_one 19 rfl (by as_aux_lemma => kernel_rfl) rfl rfl; (exact stp_stE rfl rfl rfl rfl rfl (by first | assumption | omega | (simp; omega)) (by first | assumption | omega | (simp; omega)) (by as_aux_lemma => kernel_rfl))); (apply rest_one 20 rfl (by as_aux_lemma => kernel_rfl) rfl rfl; (exact stp_ixE rfl rfl rfl rfl rfl (by as_aux_lemma => kernel_rfl) (by first | assumption | exact ivals_get (by assumption) | exact irows_get (by assumption) | exact ivals_get (by omega) | exact irows_get (by omega) | rfl) (by first | rfl | exact (Int.toNat_of_nonneg (by omega)).symm) (by first | assumption | omega | (simp; omega)) (by first | exact Nat.le_refl _ | exact Nat.le_of_eq (ivals_len _).symm | exact Nat.le_of_eq (irows_len _).symm | (refine Nat.le_trans ?_ (Nat.le_of_eq (ivals_len _).symm); (first | omega | (simp; done) | (simp; omega))) | (refine Nat.le_trans ?_ (Nat.le_of_eq (irows_len _).symm); (first | omega | (simp; done) | (simp; omega)))))); (apply rest_one 21 rfl (by as_aux_lemma => kernel_rfl) rfl rfl; (exact stp_stE rfl rfl rfl rfl rfl (by first | assumption | omega | (simp; omega)) (by first | assumption | omega | (simp; omega)) (by as_aux_lemma => kernel_rfl))); (refine rest_done (by as_aux_lemma => kernel_rfl) ?_; exact fin_join (Wk.of trivial ⟨rfl, rfl, rfl, trivial⟩ ⟨rfl, trivial⟩)))); (focus ((apply rest_one 17 rfl (by as_aux_lemma => kernel_rfl) rfl rfl; (exact stp_move rfl rfl)); (apply rest_one 20 rfl (by as_aux_lemma => kernel_rfl) rfl rfl; (exact stp_ixE rfl rfl rfl rfl rfl (by as_aux_lemma => kernel_rfl) (by first | assumption | exact ivals_get (by assumption) | exact irows_get (by assumption) | exact ivals_get (by omega) | exact irows_get (by omega) | rfl) (by first | rfl | exact (Int.toNat_of_nonneg (by omega)).symm) (by first | assumption | omega | (simp; omega)) (by first | exact Nat.le_refl _ | exact Nat.le_of_eq (ivals_len _).symm | exact Nat.le_of_eq (irows_len _).symm | (refine Nat.le_trans ?_ (Nat.le_of_eq (ivals_len _).symm); (first | omega | (simp; done) | (simp; omega))) | (refine Nat.le_trans ?_ (Nat.le_of_eq (irows_len _).symm); (first | omega | (simp; done) | (simp; omega)))))); (apply rest_one 21 rfl (by as_aux_lemma => kernel_rfl) rfl rfl; (exact stp_stE rfl rfl rfl rfl rfl (by first | assumption | omega | (simp; omega)) (by first | assumption | omega | (simp; omega)) (by as_aux_lemma => kernel_rfl))); (refine rest_done (by as_aux_lemma => kernel_rfl) ?_; exact fin_join (Wk.of trivial ⟨rfl, rfl, rfl, trivial⟩ ⟨rfl, trivial⟩)))))))))
    · ((apply rest_two 15 18 rfl (by as_aux_lemma => kernel_rfl) rfl rfl rfl rfl; (exact stp_move rfl rfl); (exact stp_ixE rfl rfl rfl rfl rfl (by as_aux_lemma => kernel_rfl) (by first | assumption | exact ivals_get (by assumption) | exact irows_get (by assumption) | exact ivals_get (by omega) | exact irows_get (by omega) | rfl) (by first | rfl | exact (Int.toNat_of_nonneg (by omega)).symm) (by first | assumption | omega | (simp; omega)) (by first | exact Nat.le_refl _ | exact Nat.le_of_eq (ivals_len _).symm | exact Nat.le_of_eq (irows_len _).symm | (refine Nat.le_trans ?_ (Nat.le_of_eq (ivals_len _).symm); (first | omega | (simp; done) | (simp; omega))) | (refine Nat.le_trans ?_ (Nat.le_of_eq (irows_len _).symm); (first | omega | (simp; done) | (simp; omega))))); (focus ((apply rest_one 18 rfl (by as_aux_lemma => kernel_rfl) rfl rfl; (exact stp_ixE rfl rfl rfl rfl rfl (by as_aux_lemma => kernel_rfl) (by first | assumption | exact ivals_get (by assumption) | exact irows_get (by assumption) | exact ivals_get (by omega) | exact irows_get (by omega) | rfl) (by first | rfl | exact (Int.toNat_of_nonneg (by omega)).symm) (by first | assumption | omega | (simp; omega)) (by first | exact Nat.le_refl _ | exact Nat.le_of_eq (ivals_len _).symm | exact Nat.le_of_eq (irows_len _).symm | (refine Nat.le_trans ?_ (Nat.le_of_eq (ivals_len _).symm); (first | omega | (simp; done) | (simp; omega))) | (refine Nat.le_trans ?_ (Nat.le_of_eq (irows_len _).symm); (first | omega | (simp; done) | (simp; omega)))))); (apply rest_one 19 rfl (by as_aux_lemma => kernel_rfl) rfl rfl; (exact stp_stE rfl rfl rfl rfl rfl (by first | assumption | omega | (simp; omega)) (by first | assumption | omega | (simp; omega)) (by as_aux_lemma => kernel_rfl))); (apply rest_one 20 rfl (by as_aux_lemma => kernel_rfl) rfl rfl; (exact stp_ixE rfl rfl rfl rfl rfl (by as_aux_lemma => kernel_rfl) (by first | assumption | exact ivals_get (by assumption) | exact irows_get (by assumption) | exact ivals_get (by omega) | exact irows_get (by omega) | rfl) (by first | rfl | exact (Int.toNat_of_nonneg (by omega)).symm) (by first | assumption | omega | (simp; omega)) (by first | exact Nat.le_refl _ | exact Nat.le_of_eq (ivals_len _).symm | exact Nat.le_of_eq (irows_len _).symm | (refine Nat.le_trans ?_ (Nat.le_of_eq (ivals_len _).symm); (first | omega | (simp; done) | (simp; omega))) | (refine Nat.le_trans ?_ (Nat.le_of_eq (irows_len _).symm); (first | omega | (simp; done) | (simp; omega)))))); (apply rest_one 21 rfl (by as_aux_lemma => kernel_rfl) rfl rfl; (exact stp_stE rfl rfl rfl rfl rfl (by first | assumption | omega | (simp; omega)) (by first | assumption | omega | (simp; omega)) (by as_aux_lemma => kernel_rfl))); (refine rest_done (by as_aux_lemma => kernel_rfl) ?_; exact fin_join (Wk.of trivial ⟨rfl, rfl, rfl, trivial⟩ ⟨rfl, trivial⟩)))); (focus ((apply rest_two 15 19 rfl (by as_aux_lemma => kernel_rfl) rfl rfl rfl rfl; (exact stp_move rfl rfl); (exact stp_stE rfl rfl rfl rfl rfl (by first | assumption | omega | (simp; omega)) (by first | assumption | omega | (simp; omega)) (by as_aux_lemma => kernel_rfl)); (focus ((apply rest_one 19 rfl (by as_aux_lemma => kernel_rfl) rfl rfl; (exact stp_stE rfl rfl rfl rfl rfl (by first | assumption | omega | (simp; omega)) (by first | assumption | omega | (simp; omega)) (by as_aux_lemma => kernel_rfl))); (apply rest_one 20 rfl (by as_aux_lemma => kernel_rfl) rfl rfl; (exact stp_ixE rfl rfl rfl rfl rfl (by as_aux_lemma => kernel_rfl) (by first | assumption | exact ivals_get (by assumption) | exact irows_get (by assumption) | exact ivals_get (by omega) | exact irows_get (by omega) | rfl) (by first | rfl | exact (Int.toNat_of_nonneg (by omega)).symm) (by first | assumption | omega | (simp; omega)) (by first | exact Nat.le_refl _ | exact Nat.le_of_eq (ivals_len _).symm | exact Nat.le_of_eq (irows_len _).symm | (refine Nat.le_trans ?_ (Nat.le_of_eq (ivals_len _).symm); (first | omega | (simp; done) | (simp; omega))) | (refine Nat.le_trans ?_ (Nat.le_of_eq (irows_len _).symm); (first | omega | (simp; done) | (simp; omega)))))); (apply rest_one 21 rfl (by as_aux_lemma => kernel_rfl) rfl rfl; (exact stp_stE rfl rfl rfl rfl rfl (by first | assumption | omega | (simp; omega)) (by first | assumption | omega | (simp; omega)) (by as_aux_lemma => kernel_rfl))); (refine rest_done (by as_aux_lemma => kernel_rfl) ?_; exact fin_join (Wk.of trivial ⟨rfl, rfl, rfl, trivial⟩ ⟨rfl, trivial⟩)))); (focus ((apply rest_one 15 rfl (by as_aux_lemma => kernel_rfl) rfl rfl; (exact stp_move rfl rfl)); (apply rest_one 20 rfl (by as_aux_lemma => kernel_rfl) rfl rfl; (exact stp_ixE rfl rfl rfl rfl rfl (by as_aux_lemma => kernel_rfl) (by first | assumption | exact ivals_get (by assumption) | exact irows_get (by assumption) | exact ivals_get (by omega) | exact irows_get (by omega) | rfl) (by first | rfl | exact (Int.toNat_of_nonneg (by omega)).symm) (by first | assumption | omega | (simp; omega)) (by first | exact Nat.le_refl _ | exact Nat.le_of_eq (ivals_len _).symm | exact Nat.le_of_eq (irows_len _).symm | (refine Nat.le_trans ?_ (Nat.le_of_eq (ivals_len _).symm); (first | omega | (simp; done) | (simp; omega))) | (refine Nat.le_trans ?_ (Nat.le_of_eq (irows_len _).symm); (first | omega | (simp; done) | (simp; omega)))))); (apply rest_one 21 rfl (by as_aux_lemma => kernel_rfl) rfl rfl; (exact stp_stE rfl rfl rfl rfl rfl (by first | assumption | omega | (simp; omega)) (by first | assumption | omega | (simp; omega)) (by as_aux_lemma => kernel_rfl))); (refine rest_done (by as_aux_lemma => kernel_rfl) ?_; exact fin_join (Wk.of trivial ⟨rfl, rfl, rfl, trivial⟩ ⟨rfl, trivial⟩)))))))))
    · ((apply rest_three 15 17 18 rfl (by as_aux_lemma => kernel_rfl) rfl rfl rfl rfl rfl rfl; (exact stp_move rfl rfl); (exact stp_move rfl rfl); (exact stp_ixE rfl rfl rfl rfl rfl (by as_aux_lemma => kernel_rfl) (by first | assumption | exact ivals_get (by assumption) | exact irows_get (by assumption) | exact ivals_get (by omega) | exact irows_get (by omega) | rfl) (by first | rfl | exact (Int.toNat_of_nonneg (by omega)).symm) (by first | assumption | omega | (simp; omega)) (by first | exact Nat.le_refl _ | exact Nat.le_of_eq (ivals_len _).symm | exact Nat.le_of_eq (irows_len _).symm | (refine Nat.le_trans ?_ (Nat.le_of_eq (ivals_len _).symm); (first | omega | (simp; done) | (simp; omega))) | (refine Nat.le_trans ?_ (Nat.le_of_eq (irows_len _).symm); (first | omega | (simp; done) | (simp; omega))))); (focus ((apply rest_two 17 18 rfl (by as_aux_lemma => kernel_rfl) rfl rfl rfl rfl; (exact stp_move rfl rfl); (exact stp_ixE rfl rfl rfl rfl rfl (by as_aux_lemma => kernel_rfl) (by first | assumption | exact ivals_get (by assumption) | exact irows_get (by assumption) | exact ivals_get (by omega) | exact irows_get (by omega) | rfl) (by first | rfl | exact (Int.toNat_of_nonneg (by omega)).symm) (by first | assumption | omega | (simp; omega)) (by first | exact Nat.le_refl _ | exact Nat.le_of_eq (ivals_len _).symm | exact Nat.le_of_eq (irows_len _).symm | (refine Nat.le_trans ?_ (Nat.le_of_eq (ivals_len _).symm); (first | omega | (simp; done) | (simp; omega))) | (refine Nat.le_trans ?_ (Nat.le_of_eq (irows_len _).symm); (first | omega | (simp; done) | (simp; omega))))); (focus ((apply rest_one 18 rfl (by as_aux_lemma => kernel_rfl) rfl rfl; (exact stp_ixE rfl rfl rfl rfl rfl (by as_aux_lemma => kernel_rfl) (by first | assumption | exact ivals_get (by assumption) | exact irows_get (by assumption) | exact ivals_get (by omega) | exact irows_get (by omega) | rfl) (by first | rfl | exact (Int.toNat_of_nonneg (by omega)).symm) (by first | assumption | omega | (simp; omega)) (by first | exact Nat.le_refl _ | exact Nat.le_of_eq (ivals_len _).symm | exact Nat.le_of_eq (irows_len _).symm | (refine Nat.le_trans ?_ (Nat.le_of_eq (ivals_len _).symm); (first | omega | (simp; done) | (simp; omega))) | (refine Nat.le_trans ?_ (Nat.le_of_eq (irows_len _).symm); (first | omega | (simp; done) | (simp; omega)))))); (apply rest_one 19 rfl (by as_aux_lemma => kernel_rfl) rfl rfl; (exact stp_stE rfl rfl rfl rfl rfl (by first | assumption | omega | (simp; omega)) (by first | assumption | omega | (simp; omega)) (by as_aux_lemma => kernel_rfl))); (apply rest_one 20 rfl (by as_aux_lemma => kernel_rfl) rfl rfl; (exact stp_ixE rfl rfl rfl rfl rfl (by as_aux_lemma => kernel_rfl) (by first | assumption | exact ivals_get (by assumption) | exact irows_get (by assumption) | exact ivals_get (by omega) | exact irows_get (by omega) | rfl) (by first | rfl | exact (Int.toNat_of_nonneg (by omega)).symm) (by first | assumption | omega | (simp; omega)) (by first | exact Nat.le_refl _ | exact Nat.le_of_eq (ivals_len _).symm | exact Nat.le_of_eq (irows_len _).symm | (refine Nat.le_trans ?_ (Nat.le_of_eq (ivals_len _).symm); (first | omega | (simp; done) | (simp; omega))) | (refine Nat.le_trans ?_ (Nat.le_of_eq (irows_len _).symm); (first | omega | (simp; done) | (simp; omega)))))); (apply rest_one 21 rfl (by as_aux_lemma => kernel_rfl) rfl rfl; (exact stp_stE rfl rfl rfl rfl rfl (by first | assumption | omega | (simp; omega)) (by first | assumption | omega | (simp; omega)) (by as_aux_lemma => kernel_rfl))); (refine rest_done (by as_aux_lemma => kernel_rfl) ?_; exact fin_join (Wk.of trivial ⟨rfl, rfl, rfl, trivial⟩ ⟨rfl, trivial⟩)))); (focus ((apply rest_two 17 19 rfl (by as_aux_lemma => kernel_rfl) rfl rfl rfl rfl; (exact stp_move rfl rfl); (exact stp_stE rfl rfl rfl rfl rfl (by first | assumption | omega | (simp; omega)) (by first | assumption | omega | (simp; omega)) (by as_aux_lemma => kernel_rfl)); (focus ((apply rest_one 19 rfl (by as_aux_lemma => kernel_rfl) rfl rfl; (exact stp_stE rfl rfl rfl rfl rfl (by first | assumption | omega | (simp; omega)) (by first | assumption | omega | (simp; omega)) (by as_aux_lemma => kernel_rfl))); (apply rest_one 20 rfl (by as_aux_lemma => kernel_rfl) rfl rfl; (exact stp_ixE rfl rfl rfl rfl rfl (by as_aux_lemma => kernel_rfl) (by first | assumption | exact ivals_get (by assumption) | exact irows_get (by assumption) | exact ivals_get (by omega) | exact irows_get (by omega) | rfl) (by first | rfl | exact (Int.toNat_of_nonneg (by omega)).symm) (by first | assumption | omega | (simp; omega)) (by first | exact Nat.le_refl _ | exact Nat.le_of_eq (ivals_len _).symm | exact Nat.le_of_eq (irows_len _).symm | (refine Nat.le_trans ?_ (Nat.le_of_eq (ivals_len _).symm); (first | omega | (simp; done) | (simp; omega))) | (refine Nat.le_trans ?_ (Nat.le_of_eq (irows_len _).symm); (first | omega | (simp; done) | (simp; omega)))))); (apply rest_one 21 rfl (by as_aux_lemma => kernel_rfl) rfl rfl; (exact stp_stE rfl rfl rfl rfl rfl (by first | assumption | omega | (simp; omega)) (by first | assumption | omega | (simp; omega)) (by as_aux_lemma => kernel_rfl))); (refine rest_done (by as_aux_lemma => kernel_rfl) ?_; exact fin_join (Wk.of trivial ⟨rfl, rfl, rfl, trivial⟩ ⟨rfl, trivial⟩)))); (focus ((apply rest_one 17 rfl (by as_aux_lemma => kernel_rfl) rfl rfl; (exact stp_move rfl rfl)); (apply rest_one 20 rfl (by as_aux_lemma => kernel_rfl) rfl rfl; (exact stp_ixE rfl rfl rfl rfl rfl (by as_aux_lemma => kernel_rfl) (by first | assumption | exact ivals_get (by assumption) | exact irows_get (by assumption) | exact ivals_get (by omega) | exact irows_get (by omega) | rfl) (by first | rfl | exact (Int.toNat_of_nonneg (by omega)).symm) (by first | assumption | omega | (simp; omega)) (by first | exact Nat.le_refl _ | exact Nat.le_of_eq (ivals_len _).symm | exact Nat.le_of_eq (irows_len _).symm | (refine Nat.le_trans ?_ (Nat.le_of_eq (ivals_len _).symm); (first | omega | (simp; done) | (simp; omega))) | (refine Nat.le_trans ?_ (Nat.le_of_eq (irows_len _).symm); (first | omega | (simp; done) | (simp; omega)))))); (apply rest_one 21 rfl (by as_aux_lemma => kernel_rfl) rfl rfl; (exact stp_stE rfl rfl rfl rfl rfl (by first | assumption | omega | (simp; omega)) (by first | assumption | omega | (simp; omega)) (by as_aux_lemma => kernel_rfl))); (refine rest_done (by as_aux_lemma => kernel_rfl) ?_; exact fin_join (Wk.of trivial ⟨rfl, rfl, rfl, trivial⟩ ⟨rfl, trivial⟩)))))))))); (focus ((apply rest_two 15 18 rfl (by as_aux_lemma => kernel_rfl) rfl rfl rfl rfl; (exact stp_move rfl rfl); (exact stp_ixE rfl rfl rfl rfl rfl (by as_aux_lemma => kernel_rfl) (by first | assumption | exact ivals_get (by assumption) | exact irows_get (by assumption) | exact ivals_get (by omega) | exact irows_get (by omega) | rfl) (by first | rfl | exact (Int.toNat_of_nonneg (by omega)).symm) (by first | assumption | omega | (simp; omega)) (by first | exact Nat.le_refl _ | exact Nat.le_of_eq (ivals_len _).symm | exact Nat.le_of_eq (irows_len _).symm | (refine Nat.le_trans ?_ (Nat.le_of_eq (ivals_len _).symm); (first | omega | (simp; done) | (simp; omega))) | (refine Nat.le_trans ?_ (Nat.le_of_eq (irows_len _).symm); (first | omega | (simp; done) | (simp; omega))))); (focus ((apply rest_one 18 rfl (by as_aux_lemma => kernel_rfl) rfl rfl; (exact stp_ixE rfl rfl rfl rfl rfl (by as_aux_lemma => kernel_rfl) (by first | assumption | exact ivals_get (by assumption) | exact irows_get (by assumption) | exact ivals_get (by omega) | exact irows_get (by omega) | rfl) (by first | rfl | exact (Int.toNat_of_nonneg (by omega)).symm) (by first | assumption | omega | (simp; omega)) (by first | exact Nat.le_refl _ | exact Nat.le_of_eq (ivals_len _).symm | exact Nat.le_of_eq (irows_len _).symm | (refine Nat.le_trans ?_ (Nat.le_of_eq (ivals_len _).symm); (first | omega | (simp; done) | (simp; omega))) | (refine Nat.le_trans ?_ (Nat.le_of_eq (irows_len _).symm); (first | omega | (simp; done) | (simp; omega)))))); (apply rest_one 19 rfl (by as_aux_lemma => kernel_rfl) rfl rfl; (exact stp_stE rfl rfl rfl rfl rfl (by first | assumption | omega | (simp; omega)) (by first | assumption | omega | (simp; omega)) (by as_aux_lemma => kernel_rfl))); (apply rest_one 20 rfl (by as_aux_lemma => kernel_rfl) rfl rfl; (exact stp_ixE rfl rfl rfl rfl rfl (by as_aux_lemma => kernel_rfl) (by first | assumption | exact ivals_get (by assumption) | exact irows_get (by assumption) | exact ivals_get (by omega) | exact irows_get (by omega) | rfl) (by first | rfl | exact (Int.toNat_of_nonneg (by omega)).symm) (by first | assumption | omega | (simp; omega)) (by first | exact Nat.le_refl _ | exact Nat.le_of_eq (ivals_len _).symm | exact Nat.le_of_eq (irows_len _).symm | (refine Nat.le_trans ?_ (Nat.le_of_eq (ivals_len _).symm); (first | omega | (simp; done) | (simp; omega))) | (refine Nat.le_trans ?_ (Nat.le_of_eq (irows_len _).symm); (first | omega | (simp; done) | (simp; omega)))))); (apply rest_one 21 rfl (by as_aux_lemma => kernel_rfl) rfl rfl; (exact stp_stE rfl rfl rfl rfl rfl (by first | assumption | omega | (simp; omega)) (by first | assumption | omega | (simp; omega)) (by as_aux_lemma => kernel_rfl))); (refine rest_done (by as_aux_lemma => kernel_rfl) ?_; exact fin_join (Wk.of trivial ⟨rfl, rfl, rfl, trivial⟩ ⟨rfl, trivial⟩)))); (focus ((apply rest_two 15 19 rfl (by as_aux_lemma => kernel_rfl) rfl rfl rfl rfl; (exact stp_move rfl rfl); (exact stp_stE rfl rfl rfl rfl rfl (by first | assumption | omega | (simp; omega)) (by first | assumption | omega | (simp; omega)) (by as_aux_lemma => kernel_rfl)); (focus ((apply rest_one 19 rfl (by as_aux_lemma => kernel_rfl) rfl rfl; (exact stp_stE rfl rfl rfl rfl rfl (by first | assumption | omega | (simp; omega)) (by first | assumption | omega | (simp; omega)) (by as_aux_lemma => kernel_rfl))); (apply rest_one 20 rfl (by as_aux_lemma => kernel_rfl) rfl rfl; (exact stp_ixE rfl rfl rfl rfl rfl (by as_aux_lemma => kernel_rfl) (by first | assumption | exact ivals_get (by assumption) | exact irows_get (by assumption) | exact ivals_get (by omega) | exact irows_get (by omega) | rfl) (by first | rfl | exact (Int.toNat_of_nonneg (by omega)).symm) (by first | assumption | omega | (simp; omega)) (by first | exact Nat.le_refl _ | exact Nat.le_of_eq (ivals_len _).symm | exact Nat.le_of_eq (irows_len _).symm | (refine Nat.le_trans ?_ (Nat.le_of_eq (ivals_len _).symm); (first | omega | (simp; done) | (simp; omega))) | (refine Nat.le_trans ?_ (Nat.le_of_eq (irows_len _).symm); (first | omega | (simp; done) | (simp; omega)))))); (apply rest_one 21 rfl (by as_aux_lemma => kernel_rfl) rfl rfl; (exact stp_stE rfl rfl rfl rfl rfl (by first | assumption | omega | (simp; omega)) (by first | assumption | omega | (simp; omega)) (by as_aux_lemma => kernel_rfl))); (refine rest_done (by as_aux_lemma => kernel_rfl) ?_; exact fin_join (Wk.of trivial ⟨rfl, rfl, rfl, trivial⟩ ⟨rfl, trivial⟩)))); (focus ((apply rest_one 15 rfl (by as_aux_lemma => kernel_rfl) rfl rfl; (exact stp_move rfl rfl)); (apply rest_one 20 rfl (by as_aux_lemma => kernel_rfl) rfl rfl; (exact stp_ixE rfl rfl rfl rfl rfl (by as_aux_lemma => kernel_rfl) (by first | assumption | exact ivals_get (by assumption) | exact irows_get (by assumption) | exact ivals_get (by omega) | exact irows_get (by omega) | rfl) (by first | rfl | exact (Int.toNat_of_nonneg (by omega)).symm) (by first | assumption | omega | (simp; omega)) (by first | exact Nat.le_refl _ | exact Nat.le_of_eq (ivals_len _).symm | exact Nat.le_of_eq (irows_len _).symm | (refine Nat.le_trans ?_ (Nat.le_of_eq (ivals_len _).symm); (first | omega | (simp; done) | (simp; omega))) | (refine Nat.le_trans ?_ (Nat.le_of_eq (irows_len _).symm); (first | omega | (simp; done) | (simp; omega)))))); (apply rest_one 21 rfl (by as_aux_lemma => kernel_rfl) rfl rfl; (exact stp_stE rfl rfl rfl rfl rfl (by first | assumption | omega | (simp; omega)) (by first | assumption | omega | (simp; omega)) (by as_aux_lemma => kernel_rfl))); (refine rest_done (by as_aux_lemma => kernel_rfl) ?_; exact fin_join (Wk.of trivial ⟨rfl, rfl, rfl, trivial⟩ ⟨rfl, trivial⟩)))))))))); (focus ((apply rest_three 15 17 19 rfl (by as_aux_lemma => kernel_rfl) rfl rfl rfl rfl rfl rfl; (exact stp_move rfl rfl); (exact stp_move rfl rfl); (exact stp_stE rfl rfl rfl rfl rfl (by first | assumption | omega | (simp; omega)) (by first | assumption | omega | (simp; omega)) (by as_aux_lemma => kernel_rfl)); (focus ((apply rest_two 17 19 rfl (by as_aux_lemma => kernel_rfl) rfl rfl rfl rfl; (exact stp_move rfl rfl); (exact stp_stE rfl rfl rfl rfl rfl (by first | assumption | omega | (simp; omega)) (by first | assumption | omega | (simp; omega)) (by as_aux_lemma => kernel_rfl)); (focus ((apply rest_one 19 rfl (by as_aux_lemma => kernel_rfl) rfl rfl; (exact stp_stE rfl rfl rfl rfl rfl (by first | assumption | omega | (simp; omega)) (by first | assumption | omega | (simp; omega)) (by as_aux_lemma => kernel_rfl))); (apply rest_one 20 rfl (by as_aux_lemma => kernel_rfl) rfl rfl; (exact stp_ixE rfl rfl rfl rfl rfl (by as_aux_lemma => kernel_rfl) (by first | assumption | exact ivals_get (by assumption) | exact irows_get (by assumption) | exact ivals_get (by omega) | exact irows_get (by omega) | rfl) (by first | rfl | exact (Int.toNat_of_nonneg (by omega)).symm) (by first | assumption | omega | (simp; omega)) (by first | exact Nat.le_refl _ | exact Nat.le_of_eq (ivals_len _).symm | exact Nat.le_of_eq (irows_len _).symm | (refine Nat.le_trans ?_ (Nat.le_of_eq (ivals_len _).symm); (first | omega | (simp; done) | (simp; omega))) | (refine Nat.le_trans ?_ (Nat.le_of_eq (irows_len _).symm); (first | omega | (simp; done) | (simp; omega)))))); (apply rest_one 21 rfl (by as_aux_lemma => kernel_rfl) rfl rfl; (exact stp_stE rfl rfl rfl rfl rfl (by first | assumption | omega | (simp; omega)) (by first | assumption | omega | (simp; omega)) (by as_aux_lemma => kernel_rfl))); (refine rest_done (by as_aux_lemma => kernel_rfl) ?_; exact fin_join (Wk.of trivial ⟨rfl, rfl, rfl, trivial⟩ ⟨rfl, trivial⟩)))); (focus ((apply rest_one 17 rfl (by as_aux_lemma => kernel_rfl) rfl rfl; (exact stp_move rfl rfl)); (apply rest_one 20 rfl (by as_aux_lemma => kernel_rfl) rfl rfl; (exact stp_ixE rfl rfl rfl rfl rfl (by as_aux_lemma => kernel_rfl) (by first | assumption | exact ivals_get (by assumption) | exact irows_get (by assumption) | exact ivals_get (by omega) | exact irows_get (by omega) | rfl) (by first | rfl | exact (Int.toNat_of_nonneg (by omega)).symm) (by first | assumption | omega | (simp; omega)) (by first | exact Nat.le_refl _ | exact Nat.le_of_eq (ivals_len _).symm | exact Nat.le_of_eq (irows_len _).symm | (refine Nat.le_trans ?_ (Nat.le_of_eq (ivals_len _).symm); (first | omega | (simp; done) | (simp; omega))) | (refine Nat.le_trans ?_ (Nat.le_of_eq (irows_len _).symm); (first | omega | (simp; done) | (simp; omega)))))); (apply rest_one 21 rfl (by as_aux_lemma => kernel_rfl) rfl rfl; (exact stp_stE rfl rfl rfl rfl rfl (by first | assumption | omega | (simp; omega)) (by first | assumption | omega | (simp; omega)) (by as_aux_lemma => kernel_rfl))); (refine rest_done (by as_aux_lemma => kernel_rfl) ?_; exact fin_join (Wk.of trivial ⟨rfl, rfl, rfl, trivial⟩ ⟨rfl, trivial⟩))))))); (focus ((apply rest_two 15 19 rfl (by as_aux_lemma => kernel_rfl) rfl rfl rfl rfl; (exact stp_move rfl rfl); (exact stp_stE rfl rfl rfl rfl rfl (by first | assumption | omega | (simp; omega)) (by first | assumption | omega | (simp; omega)) (by as_aux_lemma => kernel_rfl)); (focus ((apply rest_one 19 rfl (by as_aux_lemma => kernel_rfl) rfl rfl; (exact stp_stE rfl rfl rfl rfl rfl (by first | assumption | omega | (simp; omega)) (by first | assumption | omega | (simp; omega)) (by as_aux_lemma => kernel_rfl))); (apply rest_one 20 rfl (by as_aux_lemma => kernel_rfl) rfl rfl; (exact stp_ixE rfl rfl rfl rfl rfl (by as_aux_lemma => kernel_rfl) (by first | assumption | exact ivals_get (by assumption) | exact irows_get (by assumption) | exact ivals_get (by omega) | exact irows_get (by omega) | rfl) (by first | rfl | exact (Int.toNat_of_nonneg (by omega)).symm) (by first | assumption | omega | (simp; omega)) (by first | exact Nat.le_refl _ | exact Nat.le_of_eq (ivals_len _).symm | exact Nat.le_of_eq (irows_len _).symm | (refine Nat.le_trans ?_ (Nat.le_of_eq (ivals_len _).symm); (first | omega | (simp; done) | (simp; omega))) | (refine Nat.le_trans ?_ (Nat.le_of_eq (irows_len _).symm); (first | omega | (simp; done) | (simp; omega)))))); (apply rest_one 21 rfl (by as_aux_lemma => kernel_rfl) rfl rfl; (exact stp_stE rfl rfl rfl rfl rfl (by first | assumption | omega | (simp; omega)) (by first | assumption | omega | (simp; omega)) (by as_aux_lemma => kernel_rfl))); (refine rest_done (by as_aux_lemma => kernel_rfl) ?_; exact fin_join (Wk.of trivial ⟨rfl, rfl, rfl, trivial⟩ ⟨rfl, trivial⟩)))); (focus ((apply rest_one 15 rfl (by as_aux_lemma => kernel_rfl) rfl rfl; (exact stp_move rfl rfl)); (apply rest_one 20 rfl (by as_aux_lemma => kernel_rfl) rfl rfl; (exact stp_ixE rfl rfl rfl rfl rfl (by as_aux_lemma => kernel_rfl) (by first | assumption | exact ivals_get (by assumption) | exact irows_get (by assumption) | exact ivals_get (by omega) | exact irows_get (by omega) | rfl) (by first | rfl | exact (Int.toNat_of_nonneg (by omega)).symm) (by first | assumption | omega | (simp; omega)) (by first | exact Nat.le_refl _ | exact Nat.le_of_eq (ivals_len _).symm | exact Nat.le_of_eq (irows_len _).symm | (refine Nat.le_trans ?_ (Nat.le_of_eq (ivals_len _).symm); (first | omega | (simp; done) | (simp; omega))) | (refine Nat.le_trans ?_ (Nat.le_of_eq (irows_len _).symm); (first | omega | (simp; done) | (simp; omega)))))); (apply rest_one 21 rfl (by as_aux_lemma => kernel_rfl) rfl rfl; (exact stp_stE rfl rfl rfl rfl rfl (by first | assumption | omega | (simp; omega)) (by first | assumption | omega | (simp; omega)) (by as_aux_lemma => kernel_rfl))); (refine rest_done (by as_aux_lemma => kernel_rfl) ?_; exact fin_join (Wk.of trivial ⟨rfl, rfl, rfl, trivial⟩ ⟨rfl, trivial⟩))))))); (focus ((apply rest_two 15 17 rfl (by as_aux_lemma => kernel_rfl) rfl rfl rfl rfl; (exact stp_move rfl rfl); (exact stp_move rfl rfl); (focus ((apply rest_one 17 rfl (by as_aux_lemma => kernel_rfl) rfl rfl; (exact stp_move rfl rfl)); (apply rest_one 20 rfl (by as_aux_lemma => kernel_rfl) rfl rfl; (exact stp_ixE rfl rfl rfl rfl rfl (by as_aux_lemma => kernel_rfl) (by first | assumption | exact ivals_get (by assumption) | exact irows_get (by assumption) | exact ivals_get (by omega) | exact irows_get (by omega) | rfl) (by first | rfl | exact (Int.toNat_of_nonneg (by omega)).symm) (by first | assumption | omega | (simp; omega)) (by first | exact Nat.le_refl _ | exact Nat.le_of_eq (ivals_len _).symm | exact Nat.le_of_eq (irows_len _).symm | (refine Nat.le_trans ?_ (Nat.le_of_eq (ivals_len _).symm); (first | omega | (simp; done) | (simp; omega))) | (refine Nat.le_trans ?_ (Nat.le_of_eq (irows_len _).symm); (first | omega | (simp; done) | (simp; omega)))))); (apply rest_one 21 rfl (by as_aux_lemma => kernel_rfl) rfl rfl; (exact stp_stE rfl rfl rfl rfl rfl (by first | assumption | omega | (simp; omega)) (by first | assumption | omega | (simp; omega)) (by as_aux_lemma => kernel_rfl))); (refine rest_done (by as_aux_lemma => kernel_rfl) ?_; exact fin_join (Wk.of trivial ⟨rfl, rfl, rfl, trivial⟩ ⟨rfl, trivial⟩)))); (focus ((apply rest_one 15 rfl (by as_aux_lemma => kernel_rfl) rfl rfl; (exact stp_move rfl rfl)); (apply rest_one 20 rfl (by as_aux_lemma => kernel_rfl) rfl rfl; (exact stp_ixE rfl rfl rfl rfl rfl (by as_aux_lemma => kernel_rfl) (by first | assumption | exact ivals_get (by assumption) | exact irows_get (by assumption) | exact ivals_get (by omega) | exact irows_get (by omega) | rfl) (by first | rfl | exact (Int.toNat_of_nonneg (by omega)).symm) (by first | assumption | omega | (simp; omega)) (by first | exact Nat.le_refl _ | exact Nat.le_of_eq (ivals_len _).symm | exact Nat.le_of_eq (irows_len _).symm | (refine Nat.le_trans ?_ (Nat.le_of_eq (ivals_len _).symm); (first | omega | (simp; done) | (simp; omega))) | (refine Nat.le_trans ?_ (Nat.le_of_eq (irows_len _).symm); (first | omega | (simp; done) | (simp; omega)))))); (apply rest_one 21 rfl (by as_aux_lemma => kernel_rfl) rfl rfl; (exact stp_stE rfl rfl rfl rfl rfl (by first | assumption | omega | (simp; omega)) (by first | assumption | omega | (simp; omega)) (by as_aux_lemma => kernel_rfl))); (refine rest_done (by as_aux_lemma => kernel_rfl) ?_; exact fin_join (Wk.of trivial ⟨rfl, rfl, rfl, trivial⟩ ⟨rfl, trivial⟩))))))))))))
  · exact fin_ret0 (.inr rfl) rfl ⟨rfl, rfl, rfl, trivial⟩ ⟨rfl, trivial⟩
end Go.Proofs.Ytpognnifgcacnaa

/- A memory of names: calls that make one vector; rows taken out and laid back; slices of rows; literals of rows and of arrays. No program in sight. -/
namespace Go.Proofs.Ytpognnifgcacnaa
open Go.RowKit

section
variable {P : Program} {nt : Nat} {S S1 S2 : St} {w0 w : World} {ω0 : Beg} {ω : Own?} {η : Env} {a : Act} {Q : Exit → Act → World → Prop} {ops : Array Oper} {rest : List Oper}
variable {t : Nat} {ty : TypeId} {ps : String} {af : Array Edge} {gd : Option (Nat × Bool)} {x y : Operand} {av : AV} {o : Oper}

theorem nbeq_comm (x y : Nat) : Nat.beq x y = Nat.beq y x := by
  cases h : Nat.beq x y with
  | true => rw [beq_true h]; simp
  | false =>
    cases h2 : Nat.beq y x with
    | false => rfl
    | true => rw [beq_true h2] at h; simp at h
theorem inL_one (x y : Nm) (c : Ch) : inL [(x, c)] y = Nat.beq x y := by
  unfold inL; simp only [lk]
  rw [nbeq_comm x y]
  cases Nat.beq y x <;> rfl
theorem bad_one (x : Nm) (c : Ch) (a : A1) : a.bad (inL [(x, c)]) (memB []) = a.has x := by
  cases a with
  | val v => rfl
  | any => rfl
  | sl y _ _ => exact inL_one x y c
  | ptr y _ => show (inL [(x, c)] y && !memB [] y) = _; rw [inL_one]; simp [memB, A1.has]
  | esl y _ _ _ => exact inL_one x y c
  | eptr y _ _ => exact inL_one x y c
  | clo f xs => show xs.any (fun p => inL [(x, c)] p.1 && !memB [] p.1) = xs.any fun p => Nat.beq x p.1; congr 1; funext p; rw [inL_one]; simp [memB]
theorem bad_one2 (x : Nm) (c : Ch) (a : A2) : a.bad (inL [(x, c)]) (memB []) = a.has x := by
  cases a with
  | one a => exact bad_one x c a
  | agg l => show l.any _ = l.any _; congr 1; funext a; exact bad_one x c a
theorem bad_one3 (x : Nm) (c : Ch) (a : AV) : a.bad (inL [(x, c)]) (memB []) = a.has x := by
  cases a with
  | s a => exact bad_one2 x c a
  | tup l => show l.any _ = l.any _; congr 1; funext a; exact bad_one2 x c a
theorem clean_one (x : Nm) (c d : Ch) : d.clean (inL [(x, c)]) (memB []) = d.forget x := by
  obtain ⟨ow, E, k, d⟩ := d
  unfold Ch.clean Ch.forget Dat.clean Dat.forget
  cases d with
  | flat l =>
    have : (l.map fun a => bif a.bad (inL [(x, c)]) (memB []) then A1.any else a) = l.map (A1.forget x) := List.map_congr_left fun a _ => by rw [bad_one]; rfl
    simp only [this]
  | vals vs => rfl
  | rows F vss hs => rfl
  | mix cs => rfl
/-- a call that reads and makes one chunk -/
theorem wk_after1 {ins : List (Nm × Ch)} {t : Nat} {res : AV} {x : Nm} {c : Ch} (hro : (ins.all fun p => !p.2.own) = true) : Wk ((S.after ins [(x, c)] []).putO (some t) res) ((S.new x c).put t res) := by
  have hc : ∀ x, consB ins x = false := fun x => by
    unfold consB
    cases h : lk x ins with
    | none => rfl
    | some c => have := List.all_eq_true.1 hro _ (lk_mem h); simpa using this
  refine Wk.less (fun t' av h => ?_) (fun y d h => ?_) fun t' av h => ?_
  · rw [sl_put] at h
    show ((S.after ins [(x, c)] []).put t res).sl t' = some av
    rw [sl_put]
    by_cases e : t' = t
    · rw [if_pos e] at h ⊢; exact h
    · rw [if_neg e] at h ⊢
      obtain ⟨h1, h2⟩ := sl_new h
      show ((S.sl t').bind fun av => bif av.bad (inL [(x, c)]) (memB []) then none else some av) = some av
      rw [h1, Option.bind_some, bad_one3, h2]; rfl
  · have h' : (S.new x c).ch y = some d := h
    clear h
    rw [ch_new] at h'
    show (match lk y [(x, c)] with | some c => some c | none => bif consB ins y then none else (S.ch y).map (Ch.clean (inL [(x, c)]) (memB []))) = some d
    simp only [lk]
    by_cases e : y = x
    · rw [if_pos e] at h'; subst e; simpa using h'
    · rw [if_neg e] at h'
      rw [beq_ne e, cond_false, hc, cond_false]
      have : Ch.clean (inL [(x, c)]) (memB []) = Ch.forget x := funext fun d => clean_one x c d
      rw [this]; exact h'
  · have h : (S.new x c).ph t' = some av := h
    obtain ⟨h1, h2⟩ := ph_new h
    show ((S.ph t').bind fun av => bif av.bad (inL [(x, c)]) (memB []) then none else some av) = some av
    rw [h1, Option.bind_some, bad_one3, h2]; rfl
theorem stp_callN {f : FuncId} {xs : Array Operand} {ts : Array TypeId} {ins : List (Nm × Ch)} {args args' : List AV} {res : AV} {back : List (Nat × AV)} {x : Nm} {c : Ch}
    (hfc : FC P f ins args [(x, c)] res back) (hf : goFnB P f = true) (ht : Nat.blt t nt = true) (hx' : opL S xs.toList = some args') (hto : allTo args' args) (hin : allIn S ins) (hro : (ins.all fun p => !p.2.own) = true) (hnr : (res.names.all (inL [(x, c)])) = true) (hno : ([(x, c)].all fun p => p.2.own && p.2.names.all (inL [(x, c)])) = true) :
    Stp P nt ⟨some t, .call { callee := .value (.func f), args := xs, argTypes := ts }, ty, ps, af, gd⟩ S ((S.new x c).put t res) :=
  (stp_call (kp := []) hfc hf (by simp [ht]) hx' hto hin trivial hnr hno).wk (wk_after1 hro)

/-- a contract in words of a function that hands back integers of its own, as a contract in names -/
theorem vecO_of {x : Nm × Option Nat} {w' : World} {lo E n c : Nat} {ao : Option Addr} {xs : List Value} (h : Own w' lo E ao n c xs) {ω' : Own?} (ho : ∀ g, bk ao = some g → ω' g = some x) : VecO ω' w' x ⟨ao, c, 1⟩ E xs.length fun j u => xs[j]? = some u := by
  have hl := h.len
  rcases h.1.2 with ⟨h2, h3⟩ | ⟨g, cap, cur, hv, hg, hh, h4, h5, h6, h7⟩
  · injection h2 with e1 e2 e3
    subst e1 e3
    exact .inl ⟨rfl, rfl, by omega⟩
  · injection hv with e1 e2 e3
    subst e1 e3
    refine .inr ⟨g, 0, cur, rfl, ho g rfl, hh, ⟨rfl, h6⟩, by show xs.length ≤ c * 1; omega, h5, fun j hj => ?_⟩
    have h8 : xs[j]? = some xs[j] := List.getElem?_eq_getElem hj
    refine ⟨xs[j], ?_, h8⟩
    have h9 : (cur.toList.take (n * 1))[j]? = some xs[j] := by rw [h7]; exact h8
    rw [List.getElem?_take] at h9
    split at h9
    · rw [Nat.zero_add]; simpa using h9
    · cases h9
theorem fc_of_own {f : FuncId} {ins : List (Nm × Ch)} {args : List AV} {x E : Nat} {zs : List Int} (h : ∀ w η ω us, Mem η ω w (fun x => lk x ins) → DenL η args us → Calls P f us.toArray w fun e w' => ∃ ao c, e = .returned (.slice ao zs.length c) ∧ Own w' w.heap.size E ao zs.length c (ivals zs) ∧ Below w.heap.size w w') :
    FC P f ins args [(x, ⟨true, E, 1, .vals (ivals zs)⟩)] (o1 (.sl x 0 zs.length)) [] := by
  intro w η ω us hm hd
  refine (h w η ω us hm hd).mono ?_
  rintro e w' ⟨ao, c, rfl, ho, hb⟩
  refine ⟨_, { h := fun y => if y = x then some ⟨ao, c, 1⟩ else none, r := η.r }, fun b => if bk ao = some b then some (x, none) else ω b, rfl, ⟨⟨_, _, rfl⟩, fun hd' he => ?_⟩, ⟨fun y d hy => ?_, fun y hy => ?_⟩, ⟨hb.os, hb.tape, hb.output, hb.size, fun b hlt hn => ⟨hb.block b hlt, ?_⟩⟩, fun t av ht => (nomatch ht)⟩
  · simp only [if_true, Option.some.injEq] at he
    subst he
    exact ⟨_, rfl, fun _ => rfl, fun h0 => absurd h0 (by omega)⟩
  · have hy : lk y [(x, (⟨true, E, 1, .vals (ivals zs)⟩ : Ch))] = some d := hy
    simp only [lk] at hy
    cases hb' : Nat.beq y x with
    | false => rw [hb'] at hy; simp at hy
    | true =>
      rw [hb'] at hy; simp at hy; subst hy
      obtain rfl := beq_true hb'
      exact ⟨⟨ao, c, 1⟩, if_pos rfl, rfl, vecO_of ho fun g hg => if_pos hg⟩
  · have hy : lk y [(x, (⟨true, E, 1, .vals (ivals zs)⟩ : Ch))] = none := hy
    have : y ≠ x := fun e => by subst e; simp [lk] at hy
    exact if_neg this
  · show (if bk ao = some b then some (x, none) else ω b) = none
    rw [if_neg fun e => by have := (ho.lt b e).1; omega]; exact hn

/-- a literal of one row of the call's own -/
theorem stp_lit1R {T E F z m : Nat} {x0 : Operand} {vs : List Value} (ht : Nat.blt t nt = true) (hT : elZ P T E 1 = true) (hx : S.op x0 = some (o1 (.sl z 0 m))) (hz : S.ch z = some ⟨true, F, 1, .vals vs⟩) (hm : vs.length = m) (hzt : Nat.beq z t = false) :
    Stp P nt ⟨some t, .buildSlice T 1 #[(0, x0)], ty, ps, af, gd⟩ S (((S.rm z).new t ⟨true, E, 1, .rows F [vs] []⟩).put t (o1 (.sl t 0 1))) :=
  Stp.of _ fun w0 ω0 η ω a w hs => by
    have hne : z ≠ t := fun e => by rw [e] at hzt; simp at hzt
    subst hm
    obtain ⟨i, zz, k1, k2, k3, k4, k5, k6⟩ := elZ_spec hT
    have hd0 : Den1 η (.sl z 0 vs.length) (a.eval x0) := hs.opv hx
    have ho : (a.eval x0).oneCell' = true := hd0.one fun v hv => by cases hv
    obtain ⟨hz', z1, z2, z3⟩ := hs.chunk hz
    have z2 : hz'.k = 1 := z2
    have z3 : VecO ω w (z, none) hz' F vs.length (cellsOK η ω w true z (.vals vs)) := z3
    obtain ⟨az, hav, q1, _⟩ := hd0.2 hz' z1
    refine ⟨.slice (some ⟨w.heap.size, 0, none⟩) 1 1, w.alloc (.cells #[a.eval x0] E), ?_, ?_⟩
    · simp [execOp, Instr.buildSlice, run_underlying k1, sizeOf, typeInfo, k2, k3, zeroValue, k5, Instr.fill, newRow, cells_one ho, range1]
    · have hSz : (S.rm z).ch z = none := by simp [ch_rm]
      have calm : Calm (S.rm z) ω w (Own?.give (Own?.new ω w.heap.size (t, none)) z t 0) (w.alloc (.cells #[a.eval x0] E)) := ⟨rfl, rfl, rfl, by simp, fun b hb hl => by
        have hnew : Own?.new ω w.heap.size (t, none) b = ω b := by simp [Own?.new, Nat.ne_of_lt hb]
        refine ⟨Below.heap_alloc w _ b hb, ?_⟩
        have h1 : ω b ≠ some (z, none) := by
          rcases hl with h0 | ⟨y, j, c, h0, h1⟩
          · rw [h0]; simp
          · rw [h0]
            intro e
            simp at e; rw [e.1, hSz] at h1; cases h1
        simp only [Own?.give, hnew, if_neg h1]⟩
      have key : ChIs ((η.drop z).new t ⟨some ⟨w.heap.size, 0, none⟩, 1, 1⟩ fun _ => hz') (Own?.give (Own?.new ω w.heap.size (t, none)) z t 0) (w.alloc (.cells #[a.eval x0] E)) t ⟨some ⟨w.heap.size, 0, none⟩, 1, 1⟩ ⟨true, E, 1, .rows F [vs] []⟩ := by
        have hself : Own?.new ω w.heap.size (t, none) w.heap.size = some (t, none) := by simp [Own?.new]
        refine ⟨rfl, .inr ⟨w.heap.size, 0, _, rfl, ?_, heap_alloc_new w _, ⟨rfl, rfl⟩, Nat.le_refl _, by simp [maxLen], fun j hj => ?_⟩⟩
        · unfold Own?.give
          rw [hself, if_neg (by simp; exact fun e => hne e.symm)]
        · have hj0 : j = 0 := by simp [Dat.len] at hj; omega
          subst hj0
          refine ⟨a.eval x0, by simp, ho, fun _ vs' hvs' => ?_⟩
          simp at hvs'; subst hvs'
          have hr : ((η.drop z).new t ⟨some ⟨w.heap.size, 0, none⟩, 1, 1⟩ fun _ => hz').r t 0 = hz' := by simp [Env.new]
          rw [hr]
          refine ⟨by rw [hav, q1 rfl, Nat.sub_zero], z2, VecO.give z3 fun b hb hob => ⟨Below.heap_alloc w _ b hb, ?_⟩⟩
          have hnew : Own?.new ω w.heap.size (t, none) b = ω b := by simp [Own?.new, Nat.ne_of_lt hb]
          simp only [Own?.give, hnew, hob, if_true]
      exact ⟨_, _, ((hs.drop z).lay calm key).putV (by simpa using ht) den_newsl⟩

/-- a row is taken out of the rows: it is a vector of its own, and its place is a hole -/
theorem wk_takeRow {n i z m : Nat} {E F s : Nat} {vss : List (List Value)} {vs : List Value} (hc : S.ch n = some ⟨true, E, 1, .rows F vss []⟩) (hs0 : S.sl s = some (o1 (.esl n i 0 m))) (hi : vss[i]? = some vs) (hm : vs.length = m) (hzn : Nat.beq z n = false) :
    Wk S ((((S.cutE n).set n ⟨true, E, 1, .rows F vss [i]⟩).new z ⟨true, F, 1, .vals vs⟩).put s (o1 (.sl z 0 m))) := by
  have hne : z ≠ n := fun e => by rw [e] at hzn; simp at hzn
  subst hm
  refine ⟨fun w0 ω0 nt a w ⟨η, ω, h⟩ => ?_⟩
  obtain ⟨u, hu, hdu⟩ := h.slots s _ hs0
  have hdu : Den1 η (.esl n i 0 vs.length) u := hdu
  obtain ⟨hd, e1, e2, e3⟩ := h.chunk hc
  have e3 : VecO ω w (n, none) hd E vss.length (cellsOK η ω w true n (.rows F vss [])) := e3
  obtain ⟨ao, rfl, q1, _⟩ := hdu.2 hd e1
  have hil : i < vss.length := (List.getElem?_eq_some_iff.1 hi).1
  obtain ⟨b0, o0, u0, _, _, g3⟩ := Vec.get (own := true) e3 hil
  obtain ⟨r1, r2, r3⟩ := g3.2 (by simp) vs hi
  have r3 : VecO ω w (n, some i) (η.r n i) F vs.length fun j u => vs[j]? = some u := r3
  let ω' : Own? := fun b => if ω b = some (n, some i) then some (z, none) else ω b
  have calm : Calm (S.rm n) ω w ω' w := ⟨rfl, rfl, rfl, Nat.le_refl _, fun b _ hl => ⟨rfl, by
    have h1 : ω b ≠ some (n, some i) := by
      rcases hl with h0 | ⟨y, j, c, h0, h1⟩
      · rw [h0]; simp
      · rw [h0]; intro e; simp at e; rw [e.1, ch_rm, if_pos rfl] at h1; cases h1
    exact if_neg h1⟩⟩
  have key : ChIs { η with r := fun y j => if y = n then η.r n j else η.r y j } ω' w n hd ⟨true, E, 1, .rows F vss [i]⟩ := by
    refine ⟨e2, ?_⟩
    rcases e3 with h0 | ⟨b, o, cs, f1, f2, f3, f4, f5, f6, f7⟩
    · exact .inl h0
    · refine .inr ⟨b, o, cs, f1, (if_neg (by rw [f2]; simp)).trans f2, f3, f4, f5, f6, fun j hj => ?_⟩
      obtain ⟨u', hu', hk⟩ := f7 j hj
      refine ⟨u', hu', hk.1, fun hj' vs' hvs' => ?_⟩
      obtain ⟨m1, m2, m3⟩ := hk.2 (by simp) vs' hvs'
      simp only [if_true]
      refine ⟨m1, m2, VecO.same (fun b2 _ ho => ⟨rfl, ?_⟩) (fun _ _ h => h) m3⟩
      show (if ω b2 = some (n, some i) then some (z, none) else ω b2) = _
      rw [if_neg (by rw [ho]; simp; simpa using hj')]; exact ho
  have h1 := h.rewrite (n := n) (r := η.r n) e1 calm key
  have h2 := h1.lay (x := z) (c := ⟨true, F, 1, .vals vs⟩) (hd := η.r n i) (r := fun _ => ⟨none, 0, 1⟩) (Calm.refl _ _ _) ⟨r2, by
    show VecO ω' w (z, none) (η.r n i) F vs.length _
    rcases r3 with h0 | ⟨b, o, cs, f1, f2, f3, f4, f5, f6, f7⟩
    · exact .inl h0
    · exact .inr ⟨b, o, cs, f1, if_pos f2, f3, f4, f5, f6, f7⟩⟩
  refine ⟨_, ω', { h2 with slots := fun t' av ht' => ?_ }⟩
  rw [sl_put] at ht'
  by_cases e : t' = s
  · subst e
    rw [if_pos rfl] at ht'
    obtain rfl := Option.some.inj ht'
    refine ⟨_, hu, ⟨_, _, rfl⟩, fun hd' he => ?_⟩
    simp [Env.new] at he
    subst he
    exact ⟨_, rfl, fun _ => q1 rfl, fun h0 => absurd h0 (by omega)⟩
  · rw [if_neg e] at ht'
    exact h2.slots t' av ht'

/-- a part of a row -/
theorem stp_sliceE {T : TypeId} {n i len l : Nat} {c : Ch} {F : TypeId} {vss : List (List Value)} {vs : List Value} {hi : Operand} {ki : IntKind} {z : Int} (ht : Nat.blt t nt = true) (hx : S.op x = some (o1 (.esl n i 0 len))) (hc : S.ch n = some c) (hd0 : c.d = .rows F vss []) (hr : vss[i]? = some vs) (hT : elemB P T 1 = true)
    (hhi : S.op hi = some (vv (.int ki z))) (hz : z = (l : Int)) (hlh : l ≤ len) (hl : len ≤ vs.length) : Stp P nt ⟨some t, .slice T x none (some hi) none, ty, ps, af, gd⟩ S (S.put t (o1 (.esl n i 0 l))) :=
  Stp.pure rfl ht fun _ _ η ω a w hs => by
    obtain ⟨hd, h1, h2, h3⟩ := hs.chunk hc
    have hd1 : Den1 η (.esl n i 0 len) (a.eval x) := hs.opv hx
    obtain ⟨ao, e1, e2, e3⟩ := hd1.2 hd h1
    obtain ⟨e, inf, g1, g2, g3⟩ := elemB_spec hT
    rw [hd0] at h3
    have hil : i < vss.length := (List.getElem?_eq_some_iff.1 hr).1
    obtain ⟨b0, o0, u0, _, _, k3⟩ := h3.get (j := i) hil
    obtain ⟨r1, r2, r3⟩ := k3.2 (by simp) vs hr
    have hcap := r3.cap
    rw [r2, Nat.mul_one] at hcap
    rw [Nat.sub_zero] at e1
    have hrun := run_sliceT (P := P) (lo := none) (hi := some hi) (l := 0) (h := l) (len := len) (m := (η.r n i).c) (ao := ao) g1 g2 hs rfl ⟨ki, z, hhi, hz⟩ (Nat.zero_le _) (by omega)
    refine ⟨.slice (if (η.r n i).c = 0 then ao else ao.map (·.add (0 * inf.size))) (l - 0) ((η.r n i).c - 0), by simp only [execOp, e1]; simp only [Option.map_none, Option.map_some] at hrun ⊢; simp [hrun], ⟨_, _, rfl⟩, fun hd' he => ?_⟩
    rw [h1] at he; obtain rfl := Option.some.inj he
    refine ⟨_, rfl, fun h0 => ?_, fun h0 hlt => absurd h0 (by omega)⟩
    rw [e2 rfl]
    split
    · rfl
    · cases (η.r n i).ao <;> simp [Addr.add]
end
end Go.Proofs.Ytpognnifgcacnaa

/- slices.Repeat at []int64. -/
namespace Go.Proofs.Ytpognnifgcacnaa
open Go.RowKit

theorem ofInt_u64 (a : Nat) (ha : a < 18446744073709551616) : (BitVec.ofInt 64 (a : Int)).toNat = a := by
  rw [BitVec.ofInt_natCast, BitVec.toNat_ofNat]; exact Nat.mod_eq_of_lt (by omega)
theorem and_low (a : Nat) (ha : a ≤ 1048576) : bits .and .u64 (a : Int) 4294967295 = (a : Int) := by
  show IntKind.u64.wrap ((BitVec.ofInt 64 (a : Int) &&& BitVec.ofInt 64 ((4294967295 : Nat) : Int)).toNat : Int) = _
  rw [BitVec.toNat_and, ofInt_u64 a (by omega), ofInt_u64 4294967295 (by omega), show (4294967295 : Nat) = 2 ^ 32 - 1 from rfl, Nat.and_two_pow_sub_one_eq_mod, Nat.mod_eq_of_lt (by omega)]
  simp [IntKind.wrap, IntKind.signed, IntKind.bits]; omega

theorem wrap_u64_nat (a : Nat) (ha : a ≤ 4294967295) : IntKind.u64.wrap ((a : Nat) : Int) = (a : Int) := by
  simp [IntKind.wrap, IntKind.signed, IntKind.bits]; omega

set_option maxHeartbeats 400000 in
theorem bitsMul_any (a b : Nat) (w : World) (ha : a ≤ 1048576) (hb : b ≤ 1048576) (hab : a * b ≤ 4294967295) :
    Calls Try.prog 214 #[.int .u64 a, .int .u64 b] w fun e w' => e = .returned (.tuple #[.int .u64 0, .int .u64 ((a * b : Nat) : Int)]) ∧ w = w' := by
  have e1 : (a : Int) / 4294967296 = 0 := by omega
  have e2 : (b : Int) / 4294967296 = 0 := by omega
  have e3 : bits .and .u64 (a : Int) 4294967295 = (a : Int) := and_low a ha
  have e4 : bits .and .u64 (b : Int) 4294967295 = (b : Int) := and_low b hb
  have e5 : (a : Int) * (b : Int) = ((a * b : Nat) : Int) := by rw [Int.natCast_mul]
  have e6 : IntKind.u64.wrap ((a : Int) * (b : Int)) = ((a * b : Nat) : Int) := by rw [e5]; exact wrap_u64_nat _ hab
  have e7 : ((a : Int) * (b : Int)) / 4294967296 = 0 := by rw [e5]; omega
  have e8 : bits .and .u64 0 4294967295 = 0 := by decide +kernel
  have e9 : IntKind.u64.wrap 0 = 0 := by decide +kernel
  have H6 := Lib.hid e6
  have H5 := Lib.hid e5
  clear e5 e6
  have e10 : IntKind.u64.wrap ((a : Int) * (b : Int)) = (a : Int) * (b : Int) := by rw [H6.out, H5.out]
  go_enter Try.func214, Try.ntmps214
  go_wp2
  go_ret2
  exact ⟨by simp, rfl⟩

/-- a list again and again -/
def repL {α : Type} (zs : List α) (count : Nat) : List α := (List.replicate count zs).flatten
theorem length_repL {α : Type} (zs : List α) (count : Nat) : (repL zs count).length = zs.length * count := by
  unfold repL; rw [List.length_flatten]; simp; exact Nat.mul_comm _ _
theorem repL_add {α : Type} (zs : List α) (a b : Nat) : repL zs (a + b) = repL zs a ++ repL zs b := by
  unfold repL; rw [← List.replicate_append_replicate, List.flatten_append]
theorem repL_one {α : Type} (zs : List α) : repL zs 1 = zs := by simp [repL]
/-- what is copied from the front to behind place k, k a multiple of the period -/
theorem repL_double {α : Type} {zs : List α} {count j c : Nat} (hj : j ≤ count) (hc : c ≤ zs.length * (count - j)) : (repL zs count).take (zs.length * j + c) = (repL zs count).take (zs.length * j) ++ (repL zs count).take c := by
  have h1 : repL zs count = repL zs j ++ repL zs (count - j) := by rw [← repL_add]; congr 1; omega
  have h2 : repL zs count = repL zs (count - j) ++ repL zs j := by rw [← repL_add]; congr 1; omega
  have l1 := length_repL zs j
  have l2 := length_repL zs (count - j)
  have e3 : (repL zs count).take c = (repL zs (count - j)).take c := by rw [h2, List.take_append_of_le_length (by omega)]
  have e4 : (repL zs count).take (zs.length * j) = repL zs j := by rw [h1, ← l1, List.take_left']; rfl
  rw [e3, e4, h1, List.take_append, List.take_of_length_le (by omega)]
  congr 2; omega

theorem splice_pad {α : Type} {R : List α} {z : α} {k c T : Nat} (hR : R.length = T) (hk : k + c ≤ T) (h : R.take (k + c) = R.take k ++ R.take c) : splice (R.take k ++ List.replicate (T - k) z) k (R.take c) = R.take (k + c) ++ List.replicate (T - (k + c)) z := by
  unfold splice
  have l1 : (R.take k).length = k := by simp; omega
  have l2 : (R.take c).length = c := by simp; omega
  rw [List.take_append_of_le_length (by omega), List.take_of_length_le (by omega), l2, List.drop_append, List.drop_of_length_le (by omega), l1, h]
  simp
  omega

theorem splice_map {α β : Type} (f : α → β) (xs : List α) (k : Nat) (ys : List α) : (splice xs k ys).map f = splice (xs.map f) k (ys.map f) := by
  unfold splice; simp

/-- a whole row of the call's own, cell by cell -/
theorem Own.heap_ {w : World} {base E g T : Nat} {xs : List Value} (h : Own w base E (some ⟨g, 0, none⟩) T T xs) : w.heap[g]? = some (.cells xs.toArray E (0, 0)) := by
  rcases h.1.2 with ⟨h2, _⟩ | ⟨g', cap, cur, hv, _, hh, _, _, hs, ht⟩
  · cases h2
  · injection hv with h1 h2 h3
    injection h1 with h1; injection h1 with h1
    subst h1 h3
    have : cur.toList = xs := by rw [← ht, List.take_of_length_le]; rw [Array.length_toList, hs]; exact Nat.le_refl _
    rw [hh, ← this, Array.toArray_toList]
theorem Own.of_heap {w w' : World} {base E g T : Nat} {xs ys : List Value} (h : Own w base E (some ⟨g, 0, none⟩) T T xs) (hh : w'.heap[g]? = some (.cells ys.toArray E (0, 0))) (hl : ys.length = T) : Own w' base E (some ⟨g, 0, none⟩) T T ys := by
  refine ⟨⟨by rw [hl, Nat.mul_one], .inr ⟨g, T, ys.toArray, rfl, (h.lt g rfl).1, hh, Nat.le_refl _, by have := h.2; simp [maxLen]; omega, by simp [hl], ?_⟩⟩, h.2⟩
  simp [← hl]
section
variable {P : Program} {ops : Array Oper} {rest : List Oper} {o : Oper} {a : Act} {Q : Exit → Act → World → Prop}
/-- copy into a row of the call's own -/
theorem wpList_cp {S E : TypeId} {z : Value} {bytes : Nat} (et : ET P S E z bytes) (w : World) (hg : o.guard = none) (d s : Operand) (ho : o.op = .call { callee := .builtin .copy, args := #[d, s], argTypes := #[S, S] })
    (base g T off : Nat) (xs cs : List Value) (hown : Own w base E (some ⟨g, 0, none⟩) T T xs) (dp : Option Addr) (dLen dCap : Nat) (hd : a.eval d = .slice dp dLen dCap) (sp : Option Addr) (sLen sCap : Nat) (hs : a.eval s = .slice sp sLen sCap)
    (hn : cs.length = Nat.min sLen dLen) (hpos : 0 < cs.length → dp = some ⟨g, off, none⟩ ∧ ∃ ad, sp = some ad ∧ ∀ j v, cs[j]? = some v → w.cell? (ad.add j) = some v) (hfit : off + cs.length ≤ T) (h1 : ∀ v ∈ cs, v.oneCell' = true)
    (h : ∀ w', Own w' base E (some ⟨g, 0, none⟩) T T (splice xs off cs) → Below g w w' → wpList P ops Q rest (a.put o.dst (goInt cs.length)) w') : wpList P ops Q (o :: rest) a w := by
  obtain ⟨i, hi, hz, hsz, hby⟩ := info_parts et.info
  refine wpList_copy_splice hg d s S S ho E et.und (by rw [hi]; simp [hsz]) dp sp dLen dCap sLen sCap hd hs g off xs E hown.heap_ cs hn hpos (by rw [hown.len]; exact hfit) h1 g w (Below.refl _ _) (Nat.le_refl _) ?_
  intro w' hh hb
  exact h w' (hown.of_heap hh.out (by rw [length_splice _ _ _ (by rw [hown.len]; exact hfit), hown.len])) hb
theorem step_cp {S E : TypeId} {z : Value} {bytes : Nat} (et : ET P S E z bytes) {w : World} {K : Act → World → Prop} {X : Prop} (hg : o.guard = none) (d s : Operand) (ho : o.op = .call { callee := .builtin .copy, args := #[d, s], argTypes := #[S, S] })
    (base g T off : Nat) (xs cs : List Value) (hown : Own w base E (some ⟨g, 0, none⟩) T T xs) (dp : Option Addr) (dLen dCap : Nat) (hd : a.eval d = .slice dp dLen dCap) (sp : Option Addr) (sLen sCap : Nat) (hs : a.eval s = .slice sp sLen sCap)
    (hn : cs.length = Nat.min sLen dLen) (hpos : 0 < cs.length → dp = some ⟨g, off, none⟩ ∧ ∃ ad, sp = some ad ∧ ∀ j v, cs[j]? = some v → w.cell? (ad.add j) = some v) (hfit : off + cs.length ≤ T) (h1 : ∀ v ∈ cs, v.oneCell' = true)
    (h : ∀ w', Own w' base E (some ⟨g, 0, none⟩) T T (splice xs off cs) → Below g w w' → K (a.put o.dst (goInt cs.length)) w') : if Region.wanted o (yielded ops a.tmps) = true then Oper.wp P o a w K Q else X := by
  obtain ⟨i, hi, hz, hsz, hby⟩ := info_parts et.info
  refine step_copy_splice hg d s S S ho E et.und (by rw [hi]; simp [hsz]) dp sp dLen dCap sLen sCap hd hs g off xs E hown.heap_ cs hn hpos (by rw [hown.len]; exact hfit) h1 g w (Below.refl _ _) (Nat.le_refl _) ?_
  intro w' hh hb
  exact h w' (hown.of_heap hh.out (by rw [length_splice _ _ _ (by rw [hown.len]; exact hfit), hown.len])) hb
end

set_option maxRecDepth 100000 in
set_option maxHeartbeats 3200000 in
theorem repeat_any (ao : Option Addr) (n c count : Nat) (zs : List Int) (w : World) (h : Ints w ao n zs) (hn : n ≤ 1048576) (hc : count ≤ 1048576) (hnc : n * count ≤ 1048576) (hpos : 0 < n * count) :
    Calls Try.prog 180 #[.slice ao n c, .int .i64 count] w fun e w' => ∃ ao' c', e = .returned (.slice ao' (n * count) c') ∧ Own w' w.heap.size 2 ao' (n * count) c' ((repL zs count).map (Value.int .i64)) ∧ Below w.heap.size w w' := by
  have HL := Lib.hid h.1
  have hn0 : 0 < n := Nat.pos_of_mul_pos_right hpos
  have hc0 : 0 < count := Nat.pos_of_mul_pos_left hpos
  have hle : n ≤ n * count := Nat.le_mul_of_pos_right _ hc0
  obtain ⟨T, hT⟩ : ∃ T, n * count = T := ⟨_, rfl⟩
  rw [hT] at hpos hle ⊢
  have HT := Lib.hid hT
  have hT2 : T ≤ 1048576 := by omega
  clear hT hnc
  have hRl : ((repL zs count)).length = T := by rw [length_repL, HL.out, HT.out]
  have HR := Lib.hid hRl
  clear hRl
  obtain ⟨b, off, rfl, hb0, hcells⟩ := h.all_ hn0
  obtain ⟨cs, hcs⟩ : ∃ cs : List Value, cs = ((repL zs count).take n).map (Value.int .i64) := ⟨_, rfl⟩
  have hcl : cs.length = n := by rw [hcs]; simp [HR.out]; omega
  have hc1 : ∀ v ∈ cs, v.oneCell' = true := by rw [hcs]; exact ints_oneCell _ _
  have hcsv : ∀ j v, cs[j]? = some v → w.cell? ⟨b, off + j, none⟩ = some v := by
    intro j v hv
    have hj : j < n := by have := (List.getElem?_eq_some_iff.1 hv).1; omega
    have hrn : (repL zs count).take n = zs := by
      have e : repL zs count = zs ++ repL zs (count - 1) := by
        have : count = 1 + (count - 1) := by omega
        conv => lhs; rw [this]
        rw [repL_add, repL_one]
      rw [e, ← HL.out, List.take_left']; rfl
    rw [hcs, hrn, List.getElem?_map, List.getElem?_eq_getElem (by rw [HL.out]; exact hj)] at hv
    rw [hcells j hj, ← hv, iget_lt (by rw [HL.out]; exact hj)]; rfl
  have HCS := Lib.hid hcs
  have HCL := Lib.hid hcl
  have HC1 := Lib.hid hc1
  have HCV := Lib.hid hcsv
  have x1 := wrap_u64_nat n (by omega)
  have x2 := wrap_u64_nat count (by omega)
  clear hcs hcl hc1 hcsv hcells
  go_enter Try.func180, Try.ntmps180
  go_wp2_with (first | (go_at_call 214; refine (bitsMul_any n count _ hn hc (by rw [HT.out]; omega)).mono ?_; rintro e w' ⟨rfl, rfl⟩; rw [HT.out]) | (at_make; refine wpList_mk etI _ rfl _ _ rfl w.heap.size _ _ _ _ T rfl rfl rfl rfl (by omega) (Nat.le_refl _) ?_; intro w1 hown hgrow hsz; have hb1 : Below w.heap.size w w1 := (Below.refl _ _).grown hgrow (Nat.le_refl _) (by simp); clear hgrow) | (with_reducible refine wpList_cp (o := ⟨some 33, _, _, _, _, _⟩) etI _ rfl (.tmp 31) (.tmp 32) rfl w.heap.size w.heap.size T 0 _ cs hown _ _ _ rfl _ _ _ rfl ?_ ?_ ?_ HC1.out ?_))
  · rw [HCL.out]; exact (Nat.min_eq_left hle).symm
  · exact fun _ j v hv => (hb1.cell (p := ⟨b, off + j, none⟩) hb0).trans (HCV.out j v hv)
  · rw [HCL.out]; omega
  intro w2 o2 b2
  have hb2 : Below w.heap.size w w2 := hb1.trans b2
  have e0 : splice (List.replicate T (Value.int .i64 0)) 0 cs = ((repL zs count).take n ++ List.replicate (T - n) 0).map (Value.int .i64) := by
    rw [HCS.out, ← List.map_replicate]
    have := splice_pad (R := repL zs count) (z := (0 : Int)) (k := 0) (c := n) HR.out (by omega) (by simp)
    simp only [List.take_zero, List.nil_append, Nat.zero_add, Nat.sub_zero] at this
    rw [← this]
    simp [splice]
  rw [e0] at o2
  rw [HCL.out]
  clear e0 hown hsz hb1 b2 HCV HC1 HCS HCL
  go_wp2
  go_loopw [8] (fun i wr => ∃ k j : Nat, i = .int .i64 k ∧ 0 < k ∧ k ≤ T ∧ (k = n * j ∧ j ≤ count ∨ k = T) ∧ Own wr w.heap.size 2 (some ⟨w.heap.size, 0, none⟩) T T (((repL zs count).take k ++ List.replicate (T - k) 0).map (Value.int .i64)) ∧ Below w.heap.size w wr) (fun i _ => T - (intOf i).toNat)
  case atStart => exact ⟨n, 1, by simp, hn0, hle, .inl ⟨by omega, by omega⟩, o2, hb2⟩
  case round =>
    obtain ⟨k, j, rfl, hk0, hkT, hkj, ho, hb⟩ := hrel
    clear o2 hb2
    have HK := Lib.hid hkj
    clear hkj
    by_cases hlt : k < T
    · obtain ⟨c2, hc2⟩ : ∃ c2, c2 = Nat.min k (T - k) := ⟨_, rfl⟩
      have hc2a : c2 ≤ k := by rw [hc2]; exact Nat.min_le_left _ _
      have hc2b : c2 ≤ T - k := by rw [hc2]; exact Nat.min_le_right _ _
      have hc2c : 0 < c2 := by rw [hc2]; exact Nat.lt_min.2 ⟨hk0, by omega⟩
      have hdb : (repL zs count).take (k + c2) = (repL zs count).take k ++ (repL zs count).take c2 := by
        rcases HK.out with ⟨e, hj⟩ | e
        · have hx : c2 ≤ zs.length * (count - j) := by rw [HL.out, Nat.mul_sub, HT.out, ← e]; exact hc2b
          have := repL_double (zs := zs) hj hx
          rwa [HL.out, ← e] at this
        · omega
      obtain ⟨cs, hcs⟩ : ∃ cs : List Value, cs = ((repL zs count).take c2).map (Value.int .i64) := ⟨_, rfl⟩
      have hcl : cs.length = c2 := by rw [hcs]; simp [HR.out]; omega
      have hc1 : ∀ v ∈ cs, v.oneCell' = true := by rw [hcs]; exact ints_oneCell _ _
      have hcsv : ∀ j v, cs[j]? = some v → wr.cell? ⟨w.heap.size, j, none⟩ = some v := by
        intro j v hv
        have hj : j < c2 := by have := (List.getElem?_eq_some_iff.1 hv).1; omega
        obtain ⟨g', eg, -, -, -, hcell, -⟩ := ho.form (by omega)
        injection eg with eg; injection eg with eg; subst eg
        rw [hcell j (by omega), ← hv, hcs, List.getElem?_map, List.getElem?_map, List.getElem?_append_left (by simp [HR.out]; omega), List.getElem?_take, List.getElem?_take, if_pos (by omega), if_pos (by omega)]
      have HD := Lib.hid hdb
      have HC := Lib.hid hcs
      have HCL := Lib.hid hcl
      have HC1 := Lib.hid hc1
      have HCV := Lib.hid hcsv
      have HC2 := Lib.hid hc2
      have hTk : ((T - k : Nat) : Int) = (T : Int) - k := by omega
      clear hdb hcs hcl hc1 hcsv hc2 hTk
      go_wp2_with fail
      have HB := Lib.hid hb
      have HS := Lib.hid (show ((k : Nat) : Int) + ((c2 : Nat) : Int) = ((k + c2 : Nat) : Int) by omega)
      have hw : IntKind.i64.wrap (((k + c2 : Nat) : Nat) : Int) = ((k + c2 : Nat) : Int) := by simp [IntKind.wrap, IntKind.signed, IntKind.bits]; omega
      have HW := Lib.hid hw
      clear hw
      go_region_held3 (fun w' => Below w.heap.size w w') (first | exact HB.out.drew | assumption) (first | (refine step_cp (o := ⟨some 45, _, _, _, _, _⟩) etI rfl (.tmp 41) (.tmp 44) rfl w.heap.size w.heap.size T k _ cs (ho.drewN 1) _ _ _ rfl _ _ _ rfl ?_ ?_ ?_ HC1.out ?_; (rw [HCL.out, HC2.out]); (intro _; exact ⟨if_neg (by omega), _, rfl, fun j v hv => by have hx := HCV.out j v hv; by_cases e : j = 0 <;> simp_all [Addr.add]⟩); (rw [HCL.out]; omega); intro w3 o3 b3; have b4 : Below w.heap.size w w3 := HB.out.drew.trans b3))
      rw [HCL.out, HS.out, HW.out]
      have o4 : Own w3 w.heap.size 2 (some ⟨w.heap.size, 0, none⟩) T T (((repL zs count).take (k + c2) ++ List.replicate (T - (k + c2)) 0).map (Value.int .i64)) := by
        have e := splice_pad (R := repL zs count) (z := (0 : Int)) (k := k) (c := c2) HR.out (by omega) HD.out
        rw [← e]
        rw [HC.out] at o3
        rw [splice_map]
        exact o3
      go_roundw
      case rel =>
        refine ⟨_, _, _, _, _, _, _, _, _, _, _, _, _, _, ⟨k + c2, 2 * j, rfl, by omega, by omega, ?_, o4, b4⟩, rfl⟩
        rcases HK.out with ⟨e, hj⟩ | e
        · by_cases hx : k ≤ T - k
          · have hc2k : c2 = k := by rw [HC2.out]; exact Nat.min_eq_left hx
            left
            have e2 : n * (2 * j) = k + k := by rw [e, Nat.mul_left_comm]; omega
            refine ⟨by omega, ?_⟩
            have : n * (2 * j) ≤ n * count := by rw [HT.out]; omega
            exact Nat.le_of_mul_le_mul_left this hn0
          · have hc2k : c2 = T - k := by rw [HC2.out]; exact Nat.min_eq_right (by omega)
            right; omega
        · omega
      case measure => simp [intOf]; omega
    · obtain rfl : k = T := by omega
      rw [Nat.sub_self, List.replicate_zero, List.append_nil, List.take_of_length_le (Nat.le_of_eq HR.out)] at ho
      go_wp2
      go_ret
      exact ⟨_, _, rfl, ho, hb⟩
end Go.Proofs.Ytpognnifgcacnaa

/- Contracts in names of small functions: size, slices.Repeat. -/
namespace Go.Proofs.Ytpognnifgcacnaa
open Go.RowKit

theorem sizeR_fc (x n : Nat) : FC Try.prog 145 [] [o1 (.sl x 0 n)] [] (vv (I6 n)) [] := by
  refine fc_enter (nt := 5) Try.func145 rfl rfl (by simp) fun w0 ω0 => ?_
  (refine goes_seq ?_; refine goes_region ?_; apply run_step rfl; (exact stp_assign rfl rfl); refine run_nil ?_; refine fin_seq ?_; refine goes_seq ?_; refine goes_region ?_; apply run_step rfl; (exact stp_move rfl rfl); apply run_step rfl; (exact stp_len rfl rfl rfl (by as_aux_lemma => kernel_rfl)); apply run_step rfl; (exact stp_assign rfl rfl); refine run_nil ?_; refine fin_seq ?_; refine goes_ret ?_)
  exact fin_ret1 (.inl rfl) rfl (.tmp rfl) trivial trivial
theorem sizeV_fc (x n : Nat) : FC Try.prog 139 [] [o1 (.sl x 0 n)] [] (vv (I6 n)) [] := by
  refine fc_enter (nt := 5) Try.func139 rfl rfl (by simp) fun w0 ω0 => ?_
  (refine goes_seq ?_; refine goes_region ?_; apply run_step rfl; (exact stp_assign rfl rfl); refine run_nil ?_; refine fin_seq ?_; refine goes_seq ?_; refine goes_region ?_; apply run_step rfl; (exact stp_move rfl rfl); apply run_step rfl; (exact stp_len rfl rfl rfl (by as_aux_lemma => kernel_rfl)); apply run_step rfl; (exact stp_assign rfl rfl); refine run_nil ?_; refine fin_seq ?_; refine goes_ret ?_)
  exact fin_ret1 (.inl rfl) rfl (.tmp rfl) trivial trivial

theorem sizeE_fc (x i n : Nat) : FC Try.prog 139 [] [o1 (.esl x i 0 n)] [] (vv (I6 n)) [] := by
  refine fc_enter (nt := 5) Try.func139 rfl rfl (by simp) fun w0 ω0 => ?_
  (refine goes_seq ?_; refine goes_region ?_; apply run_step rfl; (exact stp_assign rfl rfl); refine run_nil ?_; refine fin_seq ?_; refine goes_seq ?_; refine goes_region ?_; apply run_step rfl; (exact stp_move rfl rfl); apply run_step rfl; (exact stp_len rfl rfl rfl (by as_aux_lemma => kernel_rfl)); apply run_step rfl; (exact stp_assign rfl rfl); refine run_nil ?_; refine fin_seq ?_; refine goes_ret ?_)
  exact fin_ret1 (.inl rfl) rfl (.tmp rfl) trivial trivial

theorem repL_single (z : Int) : ∀ n, repL [z] n = List.replicate n z := fun n => by
  unfold repL
  induction n with
  | zero => rfl
  | succ n ih => simp [List.replicate_succ] at ih ⊢
theorem lk_self {α : Type} (x : Nat) (c : α) : lk x [(x, c)] = some c := by simp [lk]
/-- slices.Repeat of a list of one number -/
theorem repeat1_fc (x y n : Nat) (z : Int) (hn : n ≤ 1048576) (hn0 : 0 < n) :
    FC Try.prog 180 [(x, ⟨false, 2, 1, .vals (ivals [z])⟩)] [o1 (.sl x 0 1), vv (I6 n)] [(y, ⟨true, 2, 1, .vals (ivals (List.replicate n z))⟩)] (o1 (.sl y 0 n)) [] := by
  have h := fc_of_own (P := Try.prog) (f := 180) (ins := [(x, ⟨false, 2, 1, .vals (ivals [z])⟩)]) (args := [o1 (.sl x 0 1), vv (I6 n)]) (x := y) (E := 2) (zs := List.replicate n z) fun w η ω us hm hd => by
    obtain ⟨hl, ha⟩ := hd
    obtain ⟨u0, h0, d0⟩ := ha 0 _ rfl
    obtain ⟨u1, h1, d1⟩ := ha 1 _ rfl
    obtain ⟨ao, c, e0, hi⟩ := rdS (zs := [z]) (E := 2) (own := false) hm (lk_self _ _) d0 (by simp)
    have d1 : u1 = I6 n := d1
    subst e0 d1
    obtain rfl : us = [.slice ao 1 c, I6 n] := by
      match us, hl, h0, h1 with
      | [p, q], _, h0, h1 => simp at h0 h1; rw [h0, h1]
    refine (repeat_any ao 1 c n [z] w hi (by omega) hn (by omega) (by omega)).mono ?_
    rintro e w' ⟨ao', c', rfl, ho, hb⟩
    rw [Nat.one_mul, repL_single] at ho
    rw [List.length_replicate]
    exact ⟨ao', c', by rw [Nat.one_mul], ho, hb⟩
  rw [List.length_replicate] at h
  exact h
end Go.Proofs.Ytpognnifgcacnaa

/- The program's coset enumeration: define. -/
namespace Go.Proofs.Ytpognnifgcacnaa
open Go.RowKit

theorem iDefine_full (im : List (List Int)) (less : List Int) (m n c g : Nat) (b : Bool) (hm : im.length = m) (h : 2000 ≤ im.length) :
    FC Try.prog 194 [(1010, coOw m n b), (1000, imOw im), (1001, leOw less)] [o1 (.ptr 1010 0), vv (I6 c), vv (I6 g)] [(1010, coOw m n true), (1000, imOw im), (1001, leOw less)] (vv (I6 c)) [(0, o1 (.ptr 1010 0))] := by
  have hS := sizeR_fc 1000 m
  refine fc_enter (nt := 53) Try.func194 rfl rfl (by simp) fun w0 ω0 => ?_
  (refine goes_seq ?_; refine goes_region ?_; apply run_step rfl; (exact stp_assign rfl rfl); refine run_nil ?_; refine fin_seq ?_; refine goes_seq ?_; refine goes_region ?_; apply run_step rfl; (exact stp_move rfl rfl); apply run_step rfl; (exact stp_nilCheck rfl rfl rfl); apply run_step rfl; (exact stp_fieldAddr (d := 0) rfl rfl rfl (by as_aux_lemma => kernel_rfl)); apply run_step rfl; (exact stp_loadF rfl (by as_aux_lemma => kernel_rfl) rfl rfl rfl rfl); apply run_step rfl; (apply call_gate 145; exact stp_callR hS (by as_aux_lemma => kernel_rfl) rfl rfl ⟨rfl, trivial⟩ trivial rfl rfl); apply run_step rfl; (exact stp_assign rfl rfl); refine run_nil ?_; refine fin_seq ?_; refine goes_seq ?_; refine goes_seq ?_; refine goes_region ?_; apply run_step rfl; (exact stp_move rfl rfl); apply run_step rfl; (exact stp_bin rfl rfl rfl rfl); refine run_nil ?_; refine fin_seq ?_)
  refine goes_cond rfl (fun e => ?_) (fun e => ?_)
  · (refine goes_seq ?_; refine goes_region ?_; apply run_step rfl; (exact stp_move rfl rfl); apply run_step rfl; (exact stp_nilCheck rfl rfl rfl); apply run_step rfl; (exact stp_fieldAddr (d := 2) rfl rfl rfl (by as_aux_lemma => kernel_rfl)); apply run_step rfl; (exact stp_storeF rfl rfl rfl rfl rfl rfl (by as_aux_lemma => kernel_rfl) rfl); refine run_nil ?_; refine fin_seq ?_; refine goes_seq ?_; refine goes_region ?_; apply run_step rfl; (exact stp_move rfl rfl); apply run_step rfl; (exact stp_assign rfl rfl); refine run_nil ?_; refine fin_seq ?_; refine goes_ret ?_; refine fin_ret_then ?_)
    exact fin_ret1 (.inl rfl) rfl (.tmp rfl) ⟨rfl, rfl, rfl, trivial⟩ ⟨rfl, trivial⟩
  · exfalso; simp at e; omega

set_option maxRecDepth 100000 in
set_option maxHeartbeats 2000000 in
theorem iDefine_fc (ng : Nat) (im : List (List Int)) (less : List Int) (m n c g : Nat) (b : Bool) (hm : im.length = m) (hn : less.length = n) (h : im.length < 2000) (hw : WF ng im less) (hc : c < less.length) (hg : g < ng) (hng : ng ≤ 1000) :
    FC Try.prog 194 [(1010, coOw m n b), (1000, imOw im), (1001, leOw less)] [o1 (.ptr 1010 0), vv (I6 c), vv (I6 g)] [(1010, coOw (m + 1) (n + 1) b), (1000, imOw (addC ng im less.length c g)), (1001, leOw (less ++ [(n : Int)]))] (vv (I6 n)) [(0, o1 (.ptr 1010 0))] := by
  have hlen := hw.len
  obtain rfl : m = n := by omega
  subst hn
  have hS := sizeR_fc 1000 less.length
  have h0 := hw.row 0 (by omega)
  have hrow0 : (irows im)[0]? = some (ivals (lget im 0)) := irows_get (by omega)
  have hR : FC Try.prog 180 [(24, ⟨false, 2, 1, .vals (ivals [-1])⟩)] [o1 (.sl 24 0 1), vv (I6 ng)] [(32, ⟨true, 2, 1, .vals (ivals (List.replicate ng (-1)))⟩)] (o1 (.sl 32 0 ng)) [] := repeat1_fc 24 32 ng (-1) (by omega) (by omega)
  have hA := hw.app
  have hlA : (im ++ [List.replicate ng (-1)]).length = less.length + 1 := by simp; omega
  have hL := iLink_fc (im ++ [List.replicate ng (-1)]) (less ++ [(less.length : Int)]) (less.length + 1) (less.length + 1) c less.length g b hlA (by omega) (by rw [hA.row c (by omega)]; exact hg) (by omega) (by rw [hA.row less.length (by omega)]; exact hg)
  refine fc_enter (nt := 53) Try.func194 rfl rfl (by simp) fun w0 ω0 => ?_
  (refine goes_seq ?_; refine goes_region ?_; apply run_step rfl; (exact stp_assign rfl rfl); refine run_nil ?_; refine fin_seq ?_; refine goes_seq ?_; refine goes_region ?_; apply run_step rfl; (exact stp_move rfl rfl); apply run_step rfl; (exact stp_nilCheck rfl rfl rfl); apply run_step rfl; (exact stp_fieldAddr (d := 0) rfl rfl rfl (by as_aux_lemma => kernel_rfl)); apply run_step rfl; (exact stp_loadF rfl (by as_aux_lemma => kernel_rfl) rfl rfl rfl rfl); apply run_step rfl; (apply call_gate 145; exact stp_callR hS (by as_aux_lemma => kernel_rfl) rfl rfl ⟨rfl, trivial⟩ trivial rfl rfl); apply run_step rfl; (exact stp_assign rfl rfl); refine run_nil ?_; refine fin_seq ?_; refine goes_seq ?_; refine goes_seq ?_; refine goes_region ?_; apply run_step rfl; (exact stp_move rfl rfl); apply run_step rfl; (exact stp_bin rfl rfl rfl rfl); refine run_nil ?_; refine fin_seq ?_)
  refine goes_cond rfl (fun e => ?_) (fun e => ?_)
  · exfalso; simp at e; omega
  · (refine goes_skip ?_; refine fin_seq ?_; refine goes_seq ?_)
    refine goes_cut (St.of [(0, o1 (.ptr 1010 0)), (1, vv (I6 c)), (2, vv (I6 g)), (7, vv (I6 less.length))] [(1010, ⟨true, 179, 3, .flat [.sl 1000 0 (less.length + 1), .sl 1001 0 less.length, .val (.bool b)]⟩), (1000, imOw (im ++ [List.replicate ng (-1)])), (1001, leOw less)] [(0, o1 (.ptr 1010 0))]) ?_ ?_
    · apply goes_drawF 15 [] 0 [[], [], [1], [1, 2], [1, 2, 3], [], [], [6], [6, 7], [6, 7, 8], [6, 7, 8, 9], [6, 7, 8, 9, 10], [6, 7, 8, 9, 10, 11], [5, 6, 7, 8, 9, 10, 11, 12], [5, 6, 7, 8, 9, 10, 11, 12, 13], [1, 2, 3, 4, 5, 6, 7, 8, 9, 10, 11, 12, 13, 14], [0, 1, 2, 3, 4, 5, 6, 7, 8, 9, 10, 11, 12, 13, 14, 15], [0, 1, 2, 3, 4, 5, 6, 7, 8, 9, 10, 11, 12, 13, 14, 15, 16], [0, 1, 2, 3, 4, 5, 6, 7, 8, 9, 10, 11, 12, 13, 14, 15, 16, 17]] [19, 20, 21, 22, 23, 24, 25, 26, 27, 28, 29, 30, 31, 32, 33] [24, 32, 33] (by kernel_rfl) (by kernel_rfl) (by kernel_rfl)
      · (apply draw_put rfl; (intro S1 hS; exact stp_move rfl (hS.op rfl)); apply draw_put rfl; (intro S1 hS; exact stp_move rfl (hS.op rfl)); apply draw_put rfl; (intro S1 hS; exact stp_nilCheck rfl (hS.op rfl) (hS.ch _ _ rfl)); apply draw_put rfl; (intro S1 hS; exact stp_fieldAddr (d := 0) rfl (hS.op rfl) (hS.ch _ _ rfl) (by as_aux_lemma => kernel_rfl)); apply draw_put rfl; (intro S1 hS; exact stp_loadF rfl (by as_aux_lemma => kernel_rfl) (hS.op rfl) (hS.ch _ _ rfl) rfl rfl); apply draw_new rfl; (intro S1 hS; exact stp_lit1I (E := 2) rfl (by as_aux_lemma => kernel_rfl) (hS.op rfl)); apply draw_put rfl; (intro S1 hS; exact stp_move rfl (hS.op rfl)); apply draw_put rfl; (intro S1 hS; exact stp_nilCheck rfl (hS.op rfl) (hS.ch _ _ rfl)); apply draw_put rfl; (intro S1 hS; exact stp_fieldAddr (d := 0) rfl (hS.op rfl) (hS.ch _ _ rfl) (by as_aux_lemma => kernel_rfl)); apply draw_put rfl; (intro S1 hS; exact stp_loadF rfl (by as_aux_lemma => kernel_rfl) (hS.op rfl) (hS.ch _ _ rfl) rfl rfl); apply draw_put rfl; (intro S1 hS; exact stp_ix rfl (hS.op rfl) (hS.op rfl) (hS.ch _ _ rfl) rfl (by as_aux_lemma => kernel_rfl) (by first | rfl | exact (Int.toNat_of_nonneg (by omega)).symm) (by first | assumption | omega | (simp; omega)) (by first | exact Nat.le_refl _ | exact Nat.le_of_eq (ivals_len _).symm | exact Nat.le_of_eq (irows_len _).symm | (refine Nat.le_trans ?_ (Nat.le_of_eq (ivals_len _).symm); (first | omega | (simp; done) | (simp; omega))) | (refine Nat.le_trans ?_ (Nat.le_of_eq (irows_len _).symm); (first | omega | (simp; done) | (simp; omega))))); apply draw_put rfl; (intro S1 hS; exact stp_loadR rfl (by as_aux_lemma => kernel_rfl) (hS.op rfl) (hS.ch _ _ rfl) rfl (by first | assumption | exact ivals_get (by assumption) | exact irows_get (by assumption) | exact ivals_get (by omega) | exact irows_get (by omega) | rfl) (by first | exact ivals_len _ | assumption | rfl)); apply draw_put rfl; (intro S1 hS; exact stp_len rfl (hS.op rfl) rfl (by as_aux_lemma => kernel_rfl)); (apply draw_new rfl; (focus (intro S1 hS1; apply call_gate 180; exact stp_callN hR (by as_aux_lemma => kernel_rfl) rfl (opL_le hS1 rfl) ⟨rfl, congrArg (fun z : Nat => vv (I6 z)) h0, trivial⟩ (allIn_le hS1 ⟨⟨_, rfl, .inr rfl⟩, trivial⟩) rfl rfl rfl))); apply draw_new rfl; (intro S1 hS; exact stp_lit1 (E := 49) rfl (by as_aux_lemma => kernel_rfl) (hS.op rfl) rfl rfl); exact Draw.nil)
      · rfl
      · ((apply rest_one 15 rfl (by as_aux_lemma => kernel_rfl) rfl rfl; (exact stp_appR rfl (by as_aux_lemma => kernel_rfl) rfl rfl (by first | rfl | assumption | (simp; done)) rfl rfl rfl (by first | rfl | assumption | (simp; done)) rfl (by omega))); (apply rest_one 16 rfl (by as_aux_lemma => kernel_rfl) rfl rfl; (exact stp_nilCheck rfl rfl rfl)); (apply rest_one 17 rfl (by as_aux_lemma => kernel_rfl) rfl rfl; (exact stp_fieldAddr (d := 0) rfl rfl rfl (by as_aux_lemma => kernel_rfl))); (apply rest_one 18 rfl (by as_aux_lemma => kernel_rfl) rfl rfl; (exact stp_storeF rfl rfl rfl rfl rfl rfl (by as_aux_lemma => kernel_rfl) rfl)); (refine rest_done (by as_aux_lemma => kernel_rfl) ?_; exact fin_join (Wk.of ⟨rfl, rfl, rfl, rfl, trivial⟩ ⟨rfl, rfl, rfl, trivial⟩ ⟨rfl, trivial⟩)))
      · ((apply rest_two 0 15 rfl (by as_aux_lemma => kernel_rfl) rfl rfl rfl rfl; (exact stp_move rfl rfl); (exact stp_appR rfl (by as_aux_lemma => kernel_rfl) rfl rfl (by first | rfl | assumption | (simp; done)) rfl rfl rfl (by first | rfl | assumption | (simp; done)) rfl (by omega)); (focus ((apply rest_one 15 rfl (by as_aux_lemma => kernel_rfl) rfl rfl; (exact stp_appR rfl (by as_aux_lemma => kernel_rfl) rfl rfl (by first | rfl | assumption | (simp; done)) rfl rfl rfl (by first | rfl | assumption | (simp; done)) rfl (by omega))); (apply rest_one 16 rfl (by as_aux_lemma => kernel_rfl) rfl rfl; (exact stp_nilCheck rfl rfl rfl)); (apply rest_one 17 rfl (by as_aux_lemma => kernel_rfl) rfl rfl; (exact stp_fieldAddr (d := 0) rfl rfl rfl (by as_aux_lemma => kernel_rfl))); (apply rest_one 18 rfl (by as_aux_lemma => kernel_rfl) rfl rfl; (exact stp_storeF rfl rfl rfl rfl rfl rfl (by as_aux_lemma => kernel_rfl) rfl)); (refine rest_done (by as_aux_lemma => kernel_rfl) ?_; exact fin_join (Wk.of ⟨rfl, rfl, rfl, rfl, trivial⟩ ⟨rfl, rfl, rfl, trivial⟩ ⟨rfl, trivial⟩)))); (focus ((apply rest_one 0 rfl (by as_aux_lemma => kernel_rfl) rfl rfl; (exact stp_move rfl rfl)); (apply rest_one 16 rfl (by as_aux_lemma => kernel_rfl) rfl rfl; (exact stp_nilCheck rfl rfl rfl)); (apply rest_one 17 rfl (by as_aux_lemma => kernel_rfl) rfl rfl; (exact stp_fieldAddr (d := 0) rfl rfl rfl (by as_aux_lemma => kernel_rfl))); (apply rest_one 18 rfl (by as_aux_lemma => kernel_rfl) rfl rfl; (exact stp_storeF rfl rfl rfl rfl rfl rfl (by as_aux_lemma => kernel_rfl) rfl)); (refine rest_done (by as_aux_lemma => kernel_rfl) ?_; exact fin_join (Wk.of ⟨rfl, rfl, rfl, rfl, trivial⟩ ⟨rfl, rfl, rfl, trivial⟩ ⟨rfl, trivial⟩))))))
    (refine fin_seq ?_; refine goes_seq ?_; refine goes_region ?_; apply run_step rfl; (exact stp_move rfl rfl); apply run_step rfl; (exact stp_move rfl rfl); apply run_step rfl; (exact stp_nilCheck rfl rfl rfl); apply run_step rfl; (exact stp_fieldAddr (d := 1) rfl rfl rfl (by as_aux_lemma => kernel_rfl)); apply run_step rfl; (exact stp_loadF rfl (by as_aux_lemma => kernel_rfl) rfl rfl rfl rfl); apply run_step rfl; (exact stp_move rfl rfl); apply run_step rfl; (exact stp_lit1I (E := 2) rfl (by as_aux_lemma => kernel_rfl) rfl); apply run_step rfl; (exact stp_appI rfl (by as_aux_lemma => kernel_rfl) rfl rfl rfl (by first | rfl | assumption | (simp; done)) rfl rfl (by omega)); apply run_step rfl; (exact stp_nilCheck rfl rfl rfl); apply run_step rfl; (exact stp_fieldAddr (d := 1) rfl rfl rfl (by as_aux_lemma => kernel_rfl)); apply run_step rfl; (exact stp_storeF rfl rfl rfl rfl rfl rfl (by as_aux_lemma => kernel_rfl) rfl); refine run_nil ?_; refine fin_seq ?_; refine goes_seq ?_; refine goes_region ?_; apply run_step rfl; (exact stp_move rfl rfl); apply run_step rfl; (exact stp_move rfl rfl); apply run_step rfl; (exact stp_move rfl rfl); apply run_step rfl; (exact stp_move rfl rfl); apply run_step rfl; (apply call_gate 218; exact stp_call [(0, 1010)] hL (by as_aux_lemma => kernel_rfl) rfl rfl ⟨rfl, rfl, rfl, rfl, trivial⟩ ⟨⟨_, rfl, .inl rfl⟩, ⟨_, rfl, .inl rfl⟩, ⟨_, rfl, .inl rfl⟩, trivial⟩ ⟨rfl, rfl, rfl, trivial⟩ rfl rfl); refine run_nil ?_; refine fin_seq ?_; refine goes_seq ?_; refine goes_region ?_; apply run_step rfl; (exact stp_move rfl rfl); apply run_step rfl; (exact stp_assign rfl rfl); refine run_nil ?_; refine fin_seq ?_; refine goes_ret ?_)
    exact fin_ret1 (.inl rfl) rfl (.tmp rfl) ⟨rfl, rfl, rfl, trivial⟩ ⟨rfl, trivial⟩
end Go.Proofs.Ytpognnifgcacnaa

/- A memory of names: append behind the front of a vector (a queue): in place, or to new memory; arrays of two integers. No program in sight. -/
namespace Go.Proofs.Ytpognnifgcacnaa
open Go.RowKit

theorem run_appendQ {P : Program} {ω : Own?} {w : World} {ow : Nm × Option Nat} {h : Hd} {T E k dlen n m off c : Nat} {ty : TypeId} {u : Value} {cell : Nat → Value → Prop} {a : Addr} {news : List Value} (hT : elZ P T E k = true) (hk0 : 0 < k) (hk : h.k = k)
    (hv : VecO ω w ow h E dlen cell) (hu : slAt h off n u) (hd : (off + n) * k = dlen) (hm0 : 0 < m) (hl : news.length = m * k) (hnews : ∀ j v, news[j]? = some v → w.cell? (a.add j) = some v) (h1 : ∀ v ∈ news, v.oneCell' = true) (hb : n + m ≤ 2199023255552) :
    ∃ ao' c' w', (Builtin.append_ #[T, T] ty #[u, .slice (some a) m c]).run P w = .ok (.slice ao' (n + m) c') w' ∧ ((∃ h', ao' = h'.ao ∧ c' = h'.c ∧ Grown ω w w' ow h' E k (n * k) news (fun j u => cell (off * k + j) u)) ∨
      (slAt h off (n + m) (.slice ao' (n + m) c') ∧ Grown ω w w' ow h E k dlen news cell)) := by
  rcases Nat.eq_zero_or_pos off with hoff | hoff
  · obtain ⟨h', w', r1, r2⟩ := run_appendO (ty := ty) (c := c) hT hk0 hk hv hu hoff hd hm0 hl hnews h1 hb
    exact ⟨_, _, w', r1, .inl ⟨h', rfl, rfl, r2⟩⟩
  obtain ⟨i, z, e1, e2, e3, e4, e5, e6⟩ := elZ_spec hT
  obtain ⟨ao, rfl, ha0, ha1⟩ := hu
  have hby : (n + m) * i.bytes ≤ 140737488355328 := Nat.le_trans (Nat.mul_le_mul_left _ e4) (by omega)
  have hb0 : 0 + m ≤ maxLen := by simp [maxLen]; omega
  have hbn : n + m ≤ maxLen := by simp [maxLen]; omega
  subst e3
  -- a new block
  have fresh : ∀ (cs0 : List Value) (cap : Nat), cs0.length = n * i.size → n + m ≤ cap → cap ≤ maxLen → (∀ j, j < n * i.size → ∃ u, cs0[j]? = some u ∧ cell (off * i.size + j) u) → ∀ w1 : World, w1.heap = w.heap → w1.os = w.os → w1.tape = w.tape → w1.output = w.output →
      Grown ω w (w1.alloc (.cells (cs0.toArray ++ news.toArray ++ Builtin.zeroCells z.cells (cap - (n + m))) E)) ow ⟨some ⟨w.heap.size, 0, none⟩, cap, i.size⟩ E i.size (n * i.size) news (fun j u => cell (off * i.size + j) u) := by
    intro cs0 cap hc0 hcap hcm hcs w1 hw1 ho1 ht1 hout1
    have hs1 : w1.heap.size = w.heap.size := by rw [hw1]
    refine { k_ := rfl, os := ho1, tape := ht1, output := hout1, size := by simp [hs1], other := fun b hb _ => ?_, vec := ⟨w.heap.size, 0, _, rfl, by simp [Own?.new], by rw [← hs1]; exact heap_alloc_new w1 _, ?_, ?_, hcm, fun j hj => ?_, fun j v hj => ?_⟩ }
    · rw [Below.heap_alloc w1 _ b (by omega), hw1]
    · simp only [Array.size_append, List.size_toArray, size_zeroCells, e6, hc0, hl, ← Nat.add_mul, Nat.zero_add]
      exact ⟨trivial, by congr 1; omega⟩
    · rw [hl, ← Nat.add_mul]; exact Nat.mul_le_mul_right _ hcap
    · obtain ⟨u, hu, hcu⟩ := hcs j hj
      refine ⟨u, ?_, hcu⟩
      rw [Nat.zero_add, Array.getElem?_append_left (by simp [hc0]; omega), Array.getElem?_append_left (by simp [hc0]; omega)]
      simpa using hu
    · have hjl : j < news.length := (List.getElem?_eq_some_iff.1 hj).1
      rw [Nat.zero_add, Array.getElem?_append_left (by simp [hc0]; omega), Array.getElem?_append_right (by simp [hc0])]
      simpa [hc0] using hj
  rcases hv with ⟨hao, hc, hd0⟩ | ⟨b, o, cs, g1, g2, g3, ⟨ho, g4⟩, g5, g6, g7⟩
  · exfalso
    have h0 : (off + n) * i.size = 0 := by rw [hd, hd0]
    rcases Nat.eq_zero_or_pos (off + n) with h8 | h8
    · omega
    · have := Nat.mul_pos h8 hk0; omega
  · rw [hk] at g4 g5
    have hoc : off + n ≤ h.c := Nat.le_of_mul_le_mul_right (by rw [hd]; exact g5) hk0
    have hmul : ∀ x, x ≤ h.c → x * i.size ≤ h.c * i.size := fun x hx => Nat.mul_le_mul_right _ hx
    have hbs : b < w.heap.size := lt_of_heap g3
    have old : ∀ j, j < n * i.size → ∃ u, cs[o + off * i.size + j]? = some u ∧ cell (off * i.size + j) u := fun j hj => by
      obtain ⟨u, hu, hcu⟩ := g7 (off * i.size + j) (by rw [← hd, Nat.add_mul]; omega)
      exact ⟨u, by rw [Nat.add_assoc]; exact hu, hcu⟩
    have haos : off < h.c → ao = some ⟨b, o + off * i.size, none⟩ := fun hlt => by
      rcases Nat.eq_zero_or_pos off with h0 | h0
      · rw [ha0 h0, g1, h0]; simp
      · rw [ha1 h0 hlt, g1, hk]; rfl
    by_cases hroom : n + m ≤ h.c - off
    · have hlt : off < h.c := by omega
      rw [haos hlt]
      have hfit : o + off * i.size + n * i.size + news.length ≤ cs.size := by
        have h2 := hmul (off + n + m) (by omega)
        rw [Nat.add_mul, Nat.add_mul] at h2
        rw [hl]; omega
      have hr := run_append_at (P := P) (ty := ty) w T E i e1 e2 b (o + off * i.size) n (h.c - off) cs g3 a m c news hl hnews h1 hroom hfit
      have hnl : n * i.size + news.length ≤ (h.c - off) * i.size := by rw [hl, ← Nat.add_mul]; exact Nat.mul_le_mul_right _ hroom
      have htl : (cs.toList.take (o + off * i.size + n * i.size)).length = o + off * i.size + n * i.size := by
        rw [List.length_take, Array.length_toList]; omega
      refine ⟨some ⟨b, o + off * i.size, none⟩, h.c - off, _, hr, .inr ⟨⟨_, rfl, fun e => absurd e (by omega), fun _ _ => by rw [g1, hk]; rfl⟩, ?_⟩⟩
      have hon : o + off * i.size + n * i.size = o + dlen := by rw [← hd, Nat.add_mul]; omega
      rw [hon] at hfit htl
      refine { k_ := hk, os := rfl, tape := rfl, output := rfl, size := by simp, other := fun b' _ hne => setRow_other w b b' _ (fun e => hne (e ▸ g2)), vec := ⟨b, o, _, g1, by simp [Own?.new, Nat.ne_of_lt hbs, g2], setRow_heap w b cs _ E _ g3, ⟨ho, ?_⟩, ?_, g6, fun j hj => ?_, fun j v hj => ?_⟩ }
      · rw [hon]
        simp only [List.size_toArray, List.length_append, htl, List.length_drop, Array.length_toList]
        omega
      · omega
      · obtain ⟨u, hu, hcu⟩ := g7 j hj
        refine ⟨u, ?_, hcu⟩
        rw [hon]
        simp only [List.getElem?_toArray]
        rw [List.append_assoc, List.getElem?_append_left (by rw [htl]; omega), List.getElem?_take, if_pos (by omega)]
        simpa using hu
      · rw [hon]
        simp only [List.getElem?_toArray]
        have := get_app3 (a := cs.toList.take (o + dlen)) (c := cs.toList.drop (o + dlen + news.length)) hj
        rw [htl] at this
        exact this
    · have holds : ∀ u', n * i.size ≠ 0 → ao = some u' → u' = ⟨b, o + off * i.size, none⟩ := fun u' hn0 he => by
        have hnp : 0 < n := by
          rcases Nat.eq_zero_or_pos n with h8 | h8
          · subst h8; simp at hn0
          · exact h8
        rw [haos (by omega)] at he; exact (Option.some.inj he).symm
      have hol : ((cs.toList.drop (o + off * i.size)).take (n * i.size)).length = n * i.size := by
        rw [List.length_take, List.length_drop, Array.length_toList]
        have h2 := hmul (off + n) hoc
        rw [Nat.add_mul] at h2
        omega
      have hoat : ∀ (j : Nat) (u : Value), ((cs.toList.drop (o + off * i.size)).take (n * i.size))[j]? = some u → j < n * i.size ∧ cs[o + off * i.size + j]? = some u := fun j u hj => by
        have hjl : j < n * i.size := by have := (List.getElem?_eq_some_iff.1 hj).1; omega
        rw [List.getElem?_take, if_pos hjl, List.getElem?_drop] at hj
        exact ⟨hjl, by simpa using hj⟩
      have hfresh := fresh ((cs.toList.drop (o + off * i.size)).take (n * i.size)) (grownCap w (n + m) (h.c - off) E) hol (grownCap_ge _ _ _ _) (grownCap_le_maxLen _ _ _ _ hbn) (fun j hj => by
        obtain ⟨u, hu, hcu⟩ := old j hj
        refine ⟨u, ?_, hcu⟩
        rw [List.getElem?_take, if_pos hj, List.getElem?_drop]
        simpa using hu) w.drew rfl rfl rfl rfl
      cases hao : ao with
      | none =>
        have hno : ¬ off < h.c := fun hlt => by rw [haos hlt] at hao; cases hao
        have hn0 : n = 0 := by omega
        subst hn0
        have hc0 : h.c - off = 0 := by omega
        rw [hc0] at hfresh ⊢
        have hr := run_append_nil (P := P) (ty := ty) w T E i z e1 e2 e5 a m c news hl hnews hm0 (by omega) (by simp only [Nat.zero_add] at hby; omega)
        exact ⟨_, _, _, by rw [hr, Nat.zero_add], .inl ⟨⟨some ⟨w.heap.size, 0, none⟩, grownCap w m 0 E, i.size⟩, rfl, rfl, by simpa using hfresh⟩⟩
      | some a' =>
        have hr := run_append_grow (P := P) (ty := ty) w T E i z e1 e2 e5 a' n (h.c - off) _ hol (fun j u hj => by
          obtain ⟨hj1, hj2⟩ := hoat j u hj
          rw [holds a' (by omega) hao, Addr.add_lit]
          show w.cell? ⟨b, o + off * i.size + j, none⟩ = some u
          rw [cell_of_row w b _ cs E (0, 0) g3]; exact hj2) a m c news hl hnews (by omega) (by omega) (growslice_fits (by omega) hby)
        exact ⟨_, _, _, hr, .inl ⟨⟨some ⟨w.heap.size, 0, none⟩, grownCap w (n + m) (h.c - off) E, i.size⟩, rfl, rfl, hfresh⟩⟩

section
variable {P : Program} {nt : Nat} {S S1 S2 : St} {w0 w : World} {ω0 : Beg} {ω : Own?} {η : Env} {a : Act} {Q : Exit → Act → World → Prop} {ops : Array Oper} {rest : List Oper}
variable {t : Nat} {ty : TypeId} {ps : String} {af : Array Edge} {gd : Option (Nat × Bool)} {x y : Operand} {av : AV} {o : Oper}
/-- a step that ends in one of two states -/
structure StpOr (P : Program) (nt : Nat) (o : Oper) (S S1 S2 : St) : Prop where
  go : ∀ w0 ω0 a w Q, Sat w0 ω0 nt S a w → o.wp P a w (fun a w => Sat w0 ω0 nt S1 a w ∨ Sat w0 ω0 nt S2 a w) Q
theorem run_or (hg : o.guard = none) (h : StpOr P nt o S S1 S2) (k1 : Run P w0 ω0 nt ops Q S1 rest) (k2 : Run P w0 ω0 nt ops Q S2 rest) : Run P w0 ω0 nt ops Q S (o :: rest) := by
  refine ⟨fun a w hs => wpList_plain hg fun K' hK' => ?_⟩
  exact Oper.wp_mono (fun a' w' h' => hK' _ _ (h'.elim (fun h1 => k1.go a' w' h1) fun h2 => k2.go a' w' h2)) (h.go w0 ω0 a w Q hs)
theorem StpOr.fin {w' : World} {v : Value} (h : (execOp a.eval o).run P w = .ok (.value v) w') (k : Sat w0 ω0 nt S1 (a.put o.dst v) w' ∨ Sat w0 ω0 nt S2 (a.put o.dst v) w') : o.wp P a w (fun a w => Sat w0 ω0 nt S1 a w ∨ Sat w0 ω0 nt S2 a w) Q := by
  unfold Oper.wp
  rw [h]
  exact k
theorem stpor_append {T E k n off len m : Nat} {vs news : List Value} {b : A1} (ht : Nat.blt t nt = true) (hT : elZ P T E k = true) (hk0 : Nat.blt 0 k = true) (hx : S.op x = some (o1 (.sl n off len))) (hc : S.ch n = some ⟨true, E, k, .vals vs⟩) (hl : (off + len) * k = vs.length)
    (hy : S.op y = some (o1 b)) (hr : Reads S b m k news) (hm : 0 < m) (h1 : ∀ v ∈ news, v.oneCell' = true) (hb : len + m ≤ 2199023255552) :
    StpOr P nt ⟨some t, .call { callee := .builtin .append, args := #[x, y], argTypes := #[T, T] }, ty, ps, af, gd⟩ S ((S.new n ⟨true, E, k, .vals (vs.drop (off * k) ++ news)⟩).put t (o1 (.sl n 0 (len + m)))) ((S.new n ⟨true, E, k, .vals (vs ++ news)⟩).put t (o1 (.sl n off (len + m)))) := by
  refine ⟨fun w0 ω0 a w Q ⟨η, ω, hs⟩ => ?_⟩
  have hk0' : 0 < k := by simpa using hk0
  obtain ⟨hd, e1, e2, e3⟩ := hs.chunk hc
  have e3 : VecO ω w (n, none) hd E vs.length (cellsOK η ω w true n (.vals vs)) := e3
  have hu : Den1 η (.sl n off len) (a.eval x) := hs.opv hx
  obtain ⟨ad, cp, r1, r2⟩ := hr.go hs (hs.opv hy)
  have hnl := hr.len
  have hn0 : 0 < news.length := by rw [hnl]; exact Nat.mul_pos hm hk0'
  obtain ⟨bb, o, r3, _⟩ := r2 0 _ (List.getElem?_eq_getElem hn0)
  subst r3
  obtain ⟨ao', c', w', k1, k2⟩ := run_appendQ (P := P) (ty := ty) (c := cp) hT hk0' e2 e3 (hu.2 hd e1) hl hm hnl (a := ⟨bb, o, none⟩) (fun j v hj => by
    obtain ⟨b2, o2, h2, h3⟩ := r2 j v hj
    simp only [Option.some.injEq, Addr.mk.injEq, and_true] at h2
    obtain ⟨rfl, rfl⟩ := h2
    rw [Addr.add_lit]; exact h3) h1 hb
  refine StpOr.fin (v := .slice ao' (len + m) c') (w' := w') (by simp [execOp, resolve, invoke, builtin, r1, k1]) ?_
  rcases k2 with ⟨h', q1, q2, k2⟩ | ⟨k3, k2⟩
  · left
    subst q1 q2
    have hlen : (vs.drop (off * k) ++ news).length = len * k + news.length := by
      rw [List.length_append, List.length_drop, ← hl, Nat.add_mul]; omega
    have := hs.renew (n := n) (c := ⟨true, E, k, .vals (vs.drop (off * k) ++ news)⟩) (hd := h') (r := fun _ => ⟨none, 0, 1⟩) (calm_grown (by simp [ch_rm]) k2) ⟨k2.k_, by
      obtain ⟨b', o', cs', v1, v2, v3, v4, v5, v6, v7, v8⟩ := k2.vec
      refine .inr ⟨b', o', cs', v1, v2, v3, by rw [k2.k_]; exact v4, by rw [k2.k_]; show (vs.drop (off * k) ++ news).length ≤ _; rw [hlen]; exact v5, v6, fun j hj => ?_⟩
      have hj : j < (vs.drop (off * k) ++ news).length := hj
      rw [hlen] at hj
      by_cases hlt : j < len * k
      · obtain ⟨u, q1, q2⟩ := v7 j hlt
        have q2 : vs[off * k + j]? = some u := q2
        refine ⟨u, q1, ?_⟩
        show (vs.drop (off * k) ++ news)[j]? = some u
        rw [List.getElem?_append_left (by rw [List.length_drop, ← hl, Nat.add_mul]; omega), List.getElem?_drop]; exact q2
      · have hdl : (vs.drop (off * k)).length = len * k := by rw [List.length_drop, ← hl, Nat.add_mul]; omega
        have hj2 : j - len * k < news.length := by omega
        refine ⟨news[j - len * k], ?_, ?_⟩
        · have := v8 (j - len * k) _ (List.getElem?_eq_getElem hj2)
          rw [show o' + len * k + (j - len * k) = o' + j by omega] at this; exact this
        · show (vs.drop (off * k) ++ news)[j]? = _
          rw [List.getElem?_append_right (by omega), hdl, List.getElem?_eq_getElem hj2]⟩
    exact ⟨_, _, this.putV (by simpa using ht) den_new⟩
  · right
    have := hs.renew (n := n) (c := ⟨true, E, k, .vals (vs ++ news)⟩) (hd := hd) (r := fun _ => ⟨none, 0, 1⟩) (calm_grown (by simp [ch_rm]) k2) ⟨k2.k_, by
      obtain ⟨b', o', cs', v1, v2, v3, v4, v5, v6, v7, v8⟩ := k2.vec
      refine .inr ⟨b', o', cs', v1, v2, v3, by rw [k2.k_]; exact v4, by rw [k2.k_]; show (vs ++ news).length ≤ _; rw [List.length_append]; exact v5, v6, fun j hj => ?_⟩
      have hj : j < (vs ++ news).length := hj
      rw [List.length_append] at hj
      by_cases hlt : j < vs.length
      · obtain ⟨u, q1, q2⟩ := v7 j hlt
        have q2 : vs[j]? = some u := q2
        refine ⟨u, q1, ?_⟩
        show (vs ++ news)[j]? = some u
        rw [List.getElem?_append_left hlt]; exact q2
      · have hj2 : j - vs.length < news.length := by omega
        refine ⟨news[j - vs.length], ?_, ?_⟩
        · have := v8 (j - vs.length) _ (List.getElem?_eq_getElem hj2)
          rw [show o' + vs.length + (j - vs.length) = o' + j by omega] at this; exact this
        · show (vs ++ news)[j]? = _
          rw [List.getElem?_append_right (by omega), List.getElem?_eq_getElem hj2]⟩
    exact ⟨_, _, this.putV (by simpa using ht) ⟨⟨_, _, rfl⟩, fun hd' he => by
      simp [Env.new] at he; subst he; exact k3⟩⟩

def pflat (q : List (Int × Int)) : List Int := q.flatMap fun p => [p.1, p.2]
theorem pflat_len : ∀ q : List (Int × Int), (pflat q).length = 2 * q.length
  | [] => rfl
  | p :: r => by have := pflat_len r; simp [pflat] at this ⊢; omega
theorem iget_at {zs : List Int} {j : Nat} {z : Int} (h : zs[j]? = some z) : (ivals zs)[j]? = some (I6 z) := by simp [ivals, h]
/-- an array of two integers -/
theorem stp_build2 {T : TypeId} {x0 x1 : Operand} {z0 z1 : Int} (ht : Nat.blt t nt = true) (hx0 : S.op x0 = some (vv (I6 z0))) (hx1 : S.op x1 = some (vv (I6 z1))) (hb : P.built T [(0, I6 z0), (1, I6 z1)] = some #[I6 z0, I6 z1]) :
    Stp P nt ⟨some t, .build T #[(0, x0), (1, x1)], ty, ps, af, gd⟩ S (S.put t (.s (.agg [.val (I6 z0), .val (I6 z1)]))) :=
  Stp.of _ fun w0 ω0 η ω a w hs => by
    refine ⟨.agg #[I6 z0, I6 z1], w, ?_, η, ω, hs.putV (by simpa using ht) (⟨_, rfl, rfl, fun j b hb => ?_⟩ : Den2 η (.agg [.val (I6 z0), .val (I6 z1)]) _)⟩
    · simp only [execOp]
      simp [hs.opV hx0, hs.opV hx1, run_build w T #[(0, I6 z0), (1, I6 z1)] _ hb]
    · match j, hb with
      | 0, hb => simp at hb; subst hb; exact ⟨_, by simp, rfl⟩
      | 1, hb => simp at hb; subst hb; exact ⟨_, by simp, rfl⟩
/-- a struct of two slices and what else is zero -/
theorem stp_buildSl {T : TypeId} {x0 x1 : Operand} {b0 b1 : A1} {vs : List Value} {n0 n1 : Nat} (ht : Nat.blt t nt = true) (hx0 : S.op x0 = some (o1 b0)) (hx1 : S.op x1 = some (o1 b1)) (hl0 : b0.len = some n0) (hl1 : b1.len = some n1)
    (hb : ∀ ao n c ao' n' c', P.built T [(0, .slice ao n c), (1, .slice ao' n' c')] = some (#[.slice ao n c, .slice ao' n' c'] ++ vs.toArray)) :
    Stp P nt ⟨some t, .build T #[(0, x0), (1, x1)], ty, ps, af, gd⟩ S (S.put t (.s (.agg (b0 :: b1 :: vs.map .val)))) :=
  Stp.of _ fun w0 ω0 η ω a w hs => by
    have d0 : Den1 η b0 (a.eval x0) := hs.opv hx0
    have d1 : Den1 η b1 (a.eval x1) := hs.opv hx1
    obtain ⟨ao, c, e0⟩ := d0.len_ hl0
    obtain ⟨ao', c', e1⟩ := d1.len_ hl1
    refine ⟨.agg (#[a.eval x0, a.eval x1] ++ vs.toArray), w, ?_, η, ω, hs.putV (by simpa using ht) (⟨_, rfl, by simp, fun j b hb => ?_⟩ : Den2 η (.agg (b0 :: b1 :: vs.map .val)) _)⟩
    · simp only [execOp]
      have := run_build w T #[(0, .slice ao n0 c), (1, .slice ao' n1 c')] _ (hb ao n0 c ao' n1 c')
      simp [e0, e1, this]
    · match j, hb with
      | 0, hb => simp at hb; subst hb; exact ⟨_, by simp, d0⟩
      | 1, hb => simp at hb; subst hb; exact ⟨_, by simp, d1⟩
      | j + 2, hb =>
        simp only [List.getElem?_cons_succ, List.getElem?_map, Option.map_eq_some_iff] at hb
        obtain ⟨v, hv, rfl⟩ := hb
        exact ⟨v, by simpa [Array.getElem?_append] using hv, rfl⟩
/-- a literal of one array of two integers -/
theorem stp_litP {T E : Nat} {x0 : Operand} {z0 z1 : Int} (ht : Nat.blt t nt = true) (hT : elZ P T E 2 = true) (hx : S.op x0 = some (.s (.agg [.val (I6 z0), .val (I6 z1)]))) :
    Stp P nt ⟨some t, .buildSlice T 1 #[(0, x0)], ty, ps, af, gd⟩ S ((S.new t ⟨true, E, 2, .vals (ivals [z0, z1])⟩).put t (o1 (.sl t 0 1))) :=
  Stp.of _ fun w0 ω0 η ω a w hs => by
    obtain ⟨i, z, k1, k2, k3, k4, k5, k6⟩ := elZ_spec hT
    obtain ⟨us, hu, hul, hua⟩ : Den2 η (.agg [.val (I6 z0), .val (I6 z1)]) (a.eval x0) := hs.opv hx
    obtain ⟨u0, g0, rfl⟩ := hua 0 _ rfl
    obtain ⟨u1, g1, rfl⟩ := hua 1 _ rfl
    obtain rfl : us = #[I6 z0, I6 z1] := by
      have : us.size = 2 := hul
      match us with
      | ⟨[p, q]⟩ => simp at g0 g1; rw [g0, g1]
    refine ⟨.slice (some ⟨w.heap.size, 0, none⟩) 1 1, w.alloc (.cells #[I6 z0, I6 z1] E), ?_, ?_⟩
    · have hc : (Value.agg #[I6 z0, I6 z1]).cells = #[I6 z0, I6 z1] := rfl
      simp [execOp, Instr.buildSlice, run_underlying k1, sizeOf, typeInfo, k2, k3, zeroValue, k5, Instr.fill, newRow, hu, hc, range2]
    · have hal := hs.alloc (x := t) (c := ⟨true, E, 2, .vals (ivals [z0, z1])⟩) (cs := #[I6 z0, I6 z1]) (r := fun _ => ⟨none, 0, 1⟩) (n := 1) rfl (by simp) (by simp [Dat.len, ivals]) (by simp [maxLen]) fun j hj => by
        have hj : j < 2 := hj
        match j, hj with
        | 0, _ => exact ⟨_, by simp, rfl⟩
        | 1, _ => exact ⟨_, by simp, rfl⟩
      exact ⟨_, _, hal.putV (by simpa using ht) den_newsl⟩
end
end Go.Proofs.Ytpognnifgcacnaa

/- A memory of names: mixed vectors: structs with slices in them, and rows of structs. No program in sight. -/
namespace Go.Proofs.Ytpognnifgcacnaa
open Go.RowKit

section
variable {P : Program} {nt : Nat} {S S1 S2 : St} {w0 w : World} {ω0 : Beg} {ω : Own?} {η : Env} {a : Act} {Q : Exit → Act → World → Prop} {ops : Array Oper} {rest : List Oper}
variable {t : Nat} {ty : TypeId} {ps : String} {af : Array Edge} {gd : Option (Nat × Bool)} {x y : Operand} {av : AV} {o : Oper}

/-- plain cells, of which a nil slice may be taken for an empty row -/
def celNew : Cel → Value → Prop
  | .v y, u => u = y
  | .r _ _ m vs, u => m = 0 ∧ vs = [] ∧ u = .slice none 0 0
  | .any, _ => True
def celK : Cel → Nat
  | .r _ k _ _ => k
  | _ => 1
theorem celNew.ok {own : Bool} {n : Nm} {j : Nat} {c : Cel} {u : Value} (hr : η.r n j = ⟨none, 0, celK c⟩) (h : celNew c u) : celOK η ω w true n j c u := by
  cases c with
  | v y => exact h
  | any => trivial
  | r F k m vs =>
    obtain ⟨rfl, rfl, rfl⟩ := h
    refine ⟨by simp, by rw [hr], by rw [hr]; rfl, ?_⟩
    rw [hr]
    exact .inl ⟨rfl, rfl, rfl⟩
end
end Go.Proofs.Ytpognnifgcacnaa

/- Walks in names: shifts, bits, conversions between integers, three results. -/
namespace Go.Proofs.Ytpognnifgcacnaa
open Go.RowKit

section
variable {P : Program} {nt : Nat} {S : St} {t : Nat} {ty : TypeId} {ps : String} {af : Array Edge} {gd : Option (Nat × Bool)} {x y : Operand}
end
section
variable {P : Program} {w0 : World} {ω0 : Beg} {nt : Nat} {S : St}
end
end Go.Proofs.Ytpognnifgcacnaa
