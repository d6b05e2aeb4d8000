/- Shortest words to all cosets: the program's cosetWords. -/
import Derived.Test.YtpjglifijdcgnaaPart7
import Derived.Test.YtpjglifijdcgnaaPart1
import Derived.Deep.RegionHeld3
namespace Go.Proofs.Ytpjglifijdcgnaa
open Go.RowKit

theorem qGet {pre O : List Int} {o i c : Nat} (h : pre.length = o) (hi : i < O.length) (hc : iget O i = (c : Int)) : (ivals (pre ++ O.drop i))[(o + 0) * 1]? = some (I6 (c : Int)) := by
  apply iget_at
  rw [List.getElem?_append_right (by omega), show (o + 0) * 1 - pre.length = 0 by omega, List.getElem?_drop, Nat.add_zero, List.getElem?_eq_getElem hi, ← hc, iget_lt hi]
theorem qLen {pre O : List Int} {o i : Nat} (h : pre.length = o) (hi : i ≤ O.length) : (o + (O.length - i)) * 1 = (ivals (pre ++ O.drop i)).length := by
  rw [ivals_len, List.length_append, List.length_drop, h, Nat.mul_one]
theorem qApp1 {pre O : List Int} {o i : Nat} (h : pre.length = o) (hi : i ≤ O.length) (d : Int) : (ivals (pre ++ O.drop i)).drop (o * 1) ++ ((ivals [d]).drop (0 * 1)).take (1 * 1) = ivals ([] ++ (O ++ [d]).drop i) := by
  have h1 : (ivals (pre ++ O.drop i)).drop (o * 1) = ivals (O.drop i) := by
    rw [show ivals (pre ++ O.drop i) = ivals pre ++ ivals (O.drop i) by simp [ivals], List.drop_append_of_le_length (by rw [ivals_len]; omega), List.drop_of_length_le (by rw [ivals_len]; omega), List.nil_append]
  rw [h1, List.drop_append_of_le_length hi]
  simp [ivals]
theorem qApp2 {pre O : List Int} {i : Nat} (hi : i ≤ O.length) (d : Int) : ivals (pre ++ O.drop i) ++ ((ivals [d]).drop (0 * 1)).take (1 * 1) = ivals (pre ++ (O ++ [d]).drop i) := by
  rw [List.drop_append_of_le_length hi]
  simp [ivals]
theorem qNext {pre O : List Int} {i c : Nat} (hi : i < O.length) (hc : iget O i = (c : Int)) : pre ++ O.drop i = (pre ++ [(c : Int)]) ++ O.drop (i + 1) := by
  rw [List.drop_eq_getElem_cons hi, ← iget_lt hi, hc]; simp

set_option maxRecDepth 100000 in
set_option maxHeartbeats 2000000 in
theorem implShort_fc (T : List (List Int)) (ng n : Nat) (hng : T.length = ng) (hpos : 0 < ng) (hT : Leads T n) (hn : 0 < n) (hn4 : n ≤ 400) (hg5 : ng ≤ 5) :
    FC Try.prog 66 [(1005, imRo T)] [o1 (.sl 1005 0 ng)] (if tooLong (bfs T ng n).1 = true then [] else [(14, imOw (bfs T ng n).1)]) (if tooLong (bfs T ng n).1 = true then .tup [.one (.val (.slice none 0 0)), .one (.val (I6 3))] else .tup [.one (.sl 14 0 n), .one (.val (I6 0))]) [] := by
  have hlen : (irows T).length = ng := by rw [irows_len, hng]
  have hr0 : (lget T 0).length = n := hT.len 0 (by omega)
  have hrow : (irows T)[0]? = some (ivals (lget T 0)) := irows_get (by omega)
  have hSz := sizeR_fc 1005 ng
  refine fc_enter (nt := 72) Try.func66 rfl rfl (by simp) fun w0 ω0 => ?_
  have hbl0 : (bvals (List.replicate n false)).length = n := by rw [bvals_len]; simp
  rw [← hr0] at hbl0
  have hrp : (List.replicate (lget T 0).length false).length = (lget T 0).length := by simp
  (refine goes_seq ?_; refine goes_region ?_; apply run_step rfl; (exact stp_assign rfl rfl); apply run_step rfl; (exact stp_assign rfl rfl); refine run_nil ?_; refine fin_seq ?_; refine goes_seq ?_; refine goes_region ?_; apply run_step rfl; (exact stp_move rfl rfl); apply run_step rfl; (first | exact stp_ix (j := 0) rfl rfl rfl rfl rfl (by as_aux_lemma => kernel_rfl) rfl hpos (Nat.le_of_eq hlen.symm) | exact stp_makeB (E := 4) rfl (by as_aux_lemma => kernel_rfl) (by as_aux_lemma => kernel_rfl) rfl rfl rfl rfl (by omega) | exact stp_ix (j := 0) rfl rfl rfl rfl rfl (by as_aux_lemma => kernel_rfl) rfl (by omega) (Nat.le_of_eq hbl0.symm) | exact stp_stB (bs := List.replicate (lget T 0).length false) rfl rfl rfl rfl rfl (by rw [hrp]; omega) (by as_aux_lemma => kernel_rfl)); apply run_step rfl; (exact stp_loadR rfl (by as_aux_lemma => kernel_rfl) rfl rfl rfl (by first | assumption | exact ivals_get (by assumption) | exact irows_get (by assumption) | exact ivals_get (by omega) | exact irows_get (by omega) | rfl) (by first | exact ivals_len _ | assumption | rfl)); apply run_step rfl; (exact stp_len rfl rfl rfl (by as_aux_lemma => kernel_rfl)); apply run_step rfl; (exact stp_makeR (E := 37) (F := 2) rfl (by as_aux_lemma => kernel_rfl) (by as_aux_lemma => kernel_rfl) (by as_aux_lemma => kernel_rfl) rfl rfl rfl rfl (by omega)); apply run_step rfl; (exact stp_assign rfl rfl); refine run_nil ?_; refine fin_seq ?_; refine goes_seq ?_; refine goes_region ?_; apply run_step rfl; (exact stp_move rfl rfl); apply run_step rfl; (exact stp_len rfl rfl rfl (by as_aux_lemma => kernel_rfl)); apply run_step rfl; (first | exact stp_ix (j := 0) rfl rfl rfl rfl rfl (by as_aux_lemma => kernel_rfl) rfl hpos (Nat.le_of_eq hlen.symm) | exact stp_makeB (E := 4) rfl (by as_aux_lemma => kernel_rfl) (by as_aux_lemma => kernel_rfl) rfl rfl rfl rfl (by omega) | exact stp_ix (j := 0) rfl rfl rfl rfl rfl (by as_aux_lemma => kernel_rfl) rfl (by omega) (Nat.le_of_eq hbl0.symm) | exact stp_stB (bs := List.replicate (lget T 0).length false) rfl rfl rfl rfl rfl (by rw [hrp]; omega) (by as_aux_lemma => kernel_rfl)); apply run_step rfl; (exact stp_assign rfl rfl); refine run_nil ?_; refine fin_seq ?_; refine goes_seq ?_; refine goes_region ?_; apply run_step rfl; (exact stp_move rfl rfl); apply run_step rfl; (first | exact stp_ix (j := 0) rfl rfl rfl rfl rfl (by as_aux_lemma => kernel_rfl) rfl hpos (Nat.le_of_eq hlen.symm) | exact stp_makeB (E := 4) rfl (by as_aux_lemma => kernel_rfl) (by as_aux_lemma => kernel_rfl) rfl rfl rfl rfl (by omega) | exact stp_ix (j := 0) rfl rfl rfl rfl rfl (by as_aux_lemma => kernel_rfl) rfl (by omega) (Nat.le_of_eq hbl0.symm) | exact stp_stB (bs := List.replicate (lget T 0).length false) rfl rfl rfl rfl rfl (by rw [hrp]; omega) (by as_aux_lemma => kernel_rfl)); apply run_step rfl; (first | exact stp_ix (j := 0) rfl rfl rfl rfl rfl (by as_aux_lemma => kernel_rfl) rfl hpos (Nat.le_of_eq hlen.symm) | exact stp_makeB (E := 4) rfl (by as_aux_lemma => kernel_rfl) (by as_aux_lemma => kernel_rfl) rfl rfl rfl rfl (by omega) | exact stp_ix (j := 0) rfl rfl rfl rfl rfl (by as_aux_lemma => kernel_rfl) rfl (by omega) (Nat.le_of_eq hbl0.symm) | exact stp_stB (bs := List.replicate (lget T 0).length false) rfl rfl rfl rfl rfl (by rw [hrp]; omega) (by as_aux_lemma => kernel_rfl)); refine run_nil ?_; refine fin_seq ?_; refine goes_seq ?_; refine goes_seq ?_; refine goes_region ?_; apply run_step rfl; (exact stp_lit1I (E := 2) rfl (by as_aux_lemma => kernel_rfl) rfl); apply run_step rfl; (exact stp_assign rfl rfl); refine run_nil ?_; refine fin_seq ?_; refine goes_block ?_)
  refine goes_loop (fun q : Nat × BSt × List Int × Nat => St.of [(0, o1 (.sl 1005 0 ng)), (4, o1 (.sl 14 0 n)), (5, o1 (.sl 17 0 n)), (6, o1 (.sl 20 q.2.2.2 (q.2.1.2.2.length - q.1)))] [(1005, imRo T), (14, imOw q.2.1.1), (17, boOw q.2.1.2.1), (20, leOw (q.2.2.1 ++ q.2.1.2.2.drop q.1))])
    (fun q => q.1 ≤ q.2.1.2.2.length ∧ BOK n q.2.1 ∧ bLoop T ng (n + 1 - q.1) q.1 q.2.1 = bfs T ng n ∧ q.2.2.1.length = q.2.2.2 ∧ ∀ k, k < q.1 → (lget q.2.1.1 (iget q.2.1.2.2 k).toNat).length ≤ 64) (fun q => n + 1 - q.1) (0, bStart n, [], 0) ⟨Nat.zero_le _, bStart_ok hn, rfl, rfl, fun k hk => by omega⟩ (Wk.of ⟨rfl, by rw [← hr0]; rfl, by rw [← hr0]; rfl, rfl, trivial⟩ ⟨rfl, by rw [← hr0]; rfl, by rw [← hr0]; rfl, rfl, trivial⟩ trivial) ?_
  clear hbl0 hrp
  rintro ⟨i, ⟨W, B, O⟩, pre, o⟩ ⟨hi, hok, hl, hpre, hsh⟩
  dsimp only at hi hl hpre hsh ⊢
  have hOn : O.length ≤ n := hok.le
  (refine goes_seq ?_; refine goes_seq ?_; refine goes_region ?_; apply run_step rfl; (exact stp_move rfl rfl); apply run_step rfl; (exact stp_len rfl rfl rfl (by as_aux_lemma => kernel_rfl)); apply run_step rfl; (exact stp_bin rfl rfl rfl rfl); refine run_nil ?_; refine fin_seq ?_)
  refine goes_cond rfl (fun h => ?_) (fun h => ?_)
  · have hlt : i < O.length := by
      have := of_decide_eq_true h; omega
    have hgrf : BGrow n (W, B, O) (bfs T ng n) := by rw [← hl]; exact (bLoop_ok hT hng _ _ _ hok).2
    have hl' : bLoop T ng (n - i) (i + 1) (bRow T ng (iget O i).toNat (W, B, O)) = bfs T ng n := by
      rw [← hl, show n + 1 - i = (n - i) + 1 by omega]; exact (bLoop_step (T := T) (ng := ng) (s := (W, B, O)) hlt).symm
    obtain ⟨c, hc1, hc2, hc3⟩ := hok.q i hlt
    dsimp only at hc1 hc3
    rw [hc1, Int.toNat_natCast] at hl'
    have g1 := qGet hpre hlt hc1
    have gl : (o + (O.length - i)) * 1 ≤ (ivals (pre ++ O.drop i)).length := Nat.le_of_eq (qLen hpre hi)
    have hWl0 : W.length = n := hok.l1
    have hrW0 : (irows W)[c]? = some (ivals (lget W c)) := irows_get (by omega)
    have hoi : 0 < O.length - i := by omega
    (refine goes_skip ?_; refine fin_seq ?_; refine goes_seq ?_; refine goes_block ?_; refine goes_seq ?_; refine goes_region ?_; apply run_step rfl; (exact stp_move rfl rfl); apply run_step rfl; (exact stp_indexAddr (k := 1) (j := 0) rfl rfl rfl rfl rfl (by as_aux_lemma => kernel_rfl) rfl hoi gl (by omega)); apply run_step rfl; (exact stp_loadV rfl (by as_aux_lemma => kernel_rfl) rfl rfl rfl (by first | assumption | exact ivals_get (by assumption) | exact irows_get (by assumption) | exact ivals_get (by omega) | exact irows_get (by omega) | rfl)); apply run_step rfl; (exact stp_assign rfl rfl); refine run_nil ?_; refine fin_seq ?_; refine goes_seq ?_; refine goes_seq ?_; refine goes_region ?_; apply run_step rfl; (exact stp_move rfl rfl); apply run_step rfl; (exact stp_move rfl rfl); apply run_step rfl; (exact stp_ix rfl rfl rfl rfl rfl (by as_aux_lemma => kernel_rfl) (by first | rfl | exact (Int.toNat_of_nonneg (by omega)).symm) (by first | assumption | omega | (simp; omega)) (by first | exact Nat.le_refl _ | exact Nat.le_of_eq (ivals_len _).symm | exact Nat.le_of_eq (irows_len _).symm | (refine Nat.le_trans ?_ (Nat.le_of_eq (ivals_len _).symm); (first | omega | (simp; done) | (simp; omega))) | (refine Nat.le_trans ?_ (Nat.le_of_eq (irows_len _).symm); (first | omega | (simp; done) | (simp; omega))))); apply run_step rfl; (exact stp_loadR rfl (by as_aux_lemma => kernel_rfl) rfl rfl rfl (by first | assumption | exact ivals_get (by assumption) | exact irows_get (by assumption) | exact ivals_get (by omega) | exact irows_get (by omega) | rfl) (by first | exact ivals_len _ | assumption | rfl)); apply run_step rfl; (exact stp_len rfl rfl rfl (by as_aux_lemma => kernel_rfl)); apply run_step rfl; (exact stp_bin rfl rfl rfl rfl); refine run_nil ?_; refine fin_seq ?_)
    refine goes_if rfl (fun hbig => ?_) (fun hbig => ?_)
    · have hbig' : 64 < (lget W c).length := by omega
      have htl : tooLong (bfs T ng n).1 = true := tooLong_of (d := c) (by rw [(hgrf.met c hc2 hc3).2]; exact hbig')
      rw [if_pos htl, if_pos htl]
      (refine goes_seq ?_; refine goes_region ?_; apply run_step rfl; (exact stp_assign rfl rfl); apply run_step rfl; (exact stp_assign rfl rfl); refine run_nil ?_; refine fin_seq ?_; refine goes_ret ?_; refine fin_ret_then ?_; refine fin_ret_block ?_; refine fin_ret_then ?_; refine fin_ret_then ?_; refine fin_ret_block ?_; refine fin_ret_then ?_)
      exact fin_ret2 (.inl rfl) rfl (.tmp rfl) (.tmp rfl) trivial trivial
    · have hsmall : (lget W c).length ≤ 64 := by omega
      obtain ⟨s0, hs0⟩ : ∃ s0 : BSt, s0 = (W, B, O) := ⟨_, rfl⟩
      have hro : ∀ m, m ≤ ng → BOK n ((List.range m).foldl (bStep T c) s0) ∧ BGrow n s0 ((List.range m).foldl (bStep T c) s0) := fun m hm => bRow_ok hT hng hc2 (by rw [hs0]; exact hok) m hm
      have hO0 : s0.2.2.length = O.length := by rw [hs0]
      have hc0 : iget s0.2.2 i = (c : Int) := by rw [hs0]; exact hc1
      have hfin : bLoop T ng (n - i) (i + 1) ((List.range ng).foldl (bStep T c) s0) = bfs T ng n := by rw [hs0]; exact hl'
      have hsh0 : ∀ k, k < i + 1 → k < s0.2.2.length ∧ (lget s0.1 (iget s0.2.2 k).toNat).length ≤ 64 := fun k hk => by
        rw [hs0]
        refine ⟨by show k < O.length; omega, ?_⟩
        by_cases e : k = i
        · subst e; show (lget W (iget O k).toNat).length ≤ 64; rw [hc1, Int.toNat_natCast]; exact hsmall
        · exact hsh k (by omega)
      have hok0 : BOK n s0 := by rw [hs0]; exact hok
      (refine goes_skip ?_; refine fin_seq ?_; refine goes_seq ?_; refine goes_region ?_; apply run_step rfl; (exact stp_move rfl rfl); apply run_step rfl; (apply call_gate 73; exact stp_callR hSz (by as_aux_lemma => kernel_rfl) rfl rfl ⟨rfl, trivial⟩ trivial rfl rfl); apply run_step rfl; (exact stp_move rfl rfl); refine run_nil ?_; refine fin_seq ?_; refine goes_block ?_)
      refine goes_loop (fun q : Nat × BSt × List Int × Nat => St.of [(0, o1 (.sl 1005 0 ng)), (4, o1 (.sl 14 0 n)), (5, o1 (.sl 17 0 n)), (6, o1 (.sl 20 q.2.2.2 (q.2.1.2.2.length - i))), (7, vv (I6 c)), (36, vv (I6 ng)), (37, vv (I6 q.1))] [(1005, imRo T), (14, imOw q.2.1.1), (17, boOw q.2.1.2.1), (20, leOw (q.2.2.1 ++ q.2.1.2.2.drop i))])
        (fun q => q.1 ≤ ng ∧ (List.range q.1).foldl (bStep T c) s0 = q.2.1 ∧ q.2.2.1.length = q.2.2.2) (fun q => ng - q.1) (0, (W, B, O), pre, o) ⟨Nat.zero_le _, hs0, hpre⟩ (Wk.of ⟨rfl, rfl, rfl, rfl, rfl, rfl, rfl, trivial⟩ ⟨rfl, rfl, rfl, rfl, trivial⟩ trivial) ?_
      clear hl hl' hok hs0 hc1 g1 gl hsh hgrf hbig hWl0 hrW0 hpre hc3 hsmall
      generalize O.length = on at *
      rintro ⟨g, ⟨W, B, O⟩, pre, o⟩ ⟨hg, hfo, hpre⟩
      dsimp only at hg hfo hpre ⊢
      obtain ⟨hok, grw⟩ := hro g hg
      rw [hfo] at hok grw
      have hOl : O.length ≤ n := hok.le
      have hiO : i < O.length := Nat.lt_of_lt_of_le (by omega) grw.len
      have hWl : W.length = n := hok.l1
      have hBl : B.length = n := hok.l2
      have hbl : (bvals B).length = n := by rw [bvals_len]; exact hBl
      have hci : iget O i = (c : Int) := (grw.pre i (by omega)).trans hc0
      (refine goes_seq ?_; refine goes_region ?_; apply run_step rfl; (exact stp_bin rfl rfl rfl rfl); refine run_nil ?_; refine fin_seq ?_; refine goes_seq ?_)
      refine goes_if rfl (fun h2 => ?_) (fun h2 => ?_)
      · have hgn : g < ng := by omega
        have hd := bTo_lt hT hc2 (g := g) (by omega)
        have hrl : (lget T g).length = n := hT.len g (by omega)
        obtain ⟨d, hdd⟩ : ∃ d, bTo T c g = d := ⟨_, rfl⟩
        have hst : (List.range (g + 1)).foldl (bStep T c) s0 = bVisit (W, B, O) c g d := by
          rw [List.range_succ, List.foldl_append, hfo, ← hdd]; rfl
        rw [hdd] at hd
        have hgetd : (ivals (lget T g))[c]? = some (I6 (d : Int)) := by rw [ivals_get (by omega), hd.2]
        have hgb : (bvals B)[d]? = some (.bool (bat B d)) := bvals_get (by omega)
        have hWc : (lget W c).length < O.length := hok.len c
        have hCl := implClone_fc 14 61 c (lget W c).length W (by omega) rfl (by omega)
        (refine goes_skip ?_; refine fin_seq ?_; refine goes_seq ?_; refine goes_block ?_; refine goes_seq ?_; refine goes_region ?_; apply run_step rfl; (exact stp_move rfl rfl); apply run_step rfl; (exact stp_assign rfl rfl); refine run_nil ?_; refine fin_seq ?_; refine goes_seq ?_; refine goes_region ?_; apply run_step rfl; (exact stp_move rfl rfl); apply run_step rfl; (exact stp_move rfl rfl); apply run_step rfl; (exact stp_ix rfl rfl rfl rfl rfl (by as_aux_lemma => kernel_rfl) (by first | rfl | exact (Int.toNat_of_nonneg (by omega)).symm) (by first | assumption | omega | (simp; omega)) (by first | exact Nat.le_refl _ | exact Nat.le_of_eq (ivals_len _).symm | exact Nat.le_of_eq (irows_len _).symm | (refine Nat.le_trans ?_ (Nat.le_of_eq (ivals_len _).symm); (first | omega | (simp; done) | (simp; omega))) | (refine Nat.le_trans ?_ (Nat.le_of_eq (irows_len _).symm); (first | omega | (simp; done) | (simp; omega))))); apply run_step rfl; (exact stp_loadR rfl (by as_aux_lemma => kernel_rfl) rfl rfl rfl (by first | assumption | exact ivals_get (by assumption) | exact irows_get (by assumption) | exact ivals_get (by omega) | exact irows_get (by omega) | rfl) (by first | exact ivals_len _ | assumption | rfl)); apply run_step rfl; (exact stp_move rfl rfl); apply run_step rfl; (exact stp_ixE rfl rfl rfl rfl rfl (by as_aux_lemma => kernel_rfl) (by first | assumption | exact ivals_get (by assumption) | exact irows_get (by assumption) | exact ivals_get (by omega) | exact irows_get (by omega) | rfl) (by first | rfl | exact (Int.toNat_of_nonneg (by omega)).symm) (by first | assumption | omega | (simp; omega)) (by first | exact Nat.le_refl _ | exact Nat.le_of_eq (ivals_len _).symm | exact Nat.le_of_eq (irows_len _).symm | (refine Nat.le_trans ?_ (Nat.le_of_eq (ivals_len _).symm); (first | omega | (simp; done) | (simp; omega))) | (refine Nat.le_trans ?_ (Nat.le_of_eq (irows_len _).symm); (first | omega | (simp; done) | (simp; omega))))); apply run_step rfl; (exact stp_loadE' rfl (by as_aux_lemma => kernel_rfl) rfl rfl rfl (by first | assumption | exact ivals_get (by assumption) | exact irows_get (by assumption) | exact ivals_get (by omega) | exact irows_get (by omega) | rfl) (by first | assumption | exact ivals_get (by assumption) | exact irows_get (by assumption) | exact ivals_get (by omega) | exact irows_get (by omega) | rfl)); apply run_step rfl; (exact stp_assign rfl rfl); refine run_nil ?_; refine fin_seq ?_; refine goes_seq ?_; refine goes_region ?_; apply run_step rfl; (exact stp_move rfl rfl); apply run_step rfl; (exact stp_move rfl rfl); apply run_step rfl; (exact stp_ix rfl rfl rfl rfl rfl (by as_aux_lemma => kernel_rfl) rfl hd.1 (Nat.le_of_eq hbl.symm)); apply run_step rfl; (exact stp_loadV rfl (by as_aux_lemma => kernel_rfl) rfl rfl rfl (by first | assumption | exact ivals_get (by assumption) | exact irows_get (by assumption) | exact ivals_get (by omega) | exact irows_get (by omega) | rfl)); apply run_step rfl; (exact stp_not rfl rfl); refine run_nil ?_; refine fin_seq ?_)
        refine goes_cond rfl (fun hb => ?_) (fun hb => ?_)
        · have hb : bat B d = false := by simpa using hb
          have hv : bVisit (W, B, O) c g d = (W.set d (lget W c ++ [(g : Int)]), B.set d true, O ++ [(d : Int)]) := if_neg (by rw [hb]; simp)
          have hset : (irows W).set d (ivals (lget W c ++ [(g : Int)])) = irows (W.set d (lget W c ++ [(g : Int)])) := irows_set _ _ _
          have hrW : (irows W)[c]? = some (ivals (lget W c)) := irows_get (by omega)
          have hln : (o + (O.length - i)) * 1 = (ivals (pre ++ O.drop i)).length := qLen hpre (by omega)
          (refine goes_seq ?_; refine goes_region ?_; apply run_step rfl; (exact stp_move rfl rfl); apply run_step rfl; (exact stp_move rfl rfl); apply run_step rfl; (first | exact stp_ix rfl rfl rfl rfl rfl (by as_aux_lemma => kernel_rfl) rfl hd.1 (Nat.le_of_eq hbl.symm) | exact stp_stB rfl rfl rfl rfl rfl (by rw [hBl]; exact hd.1) (by as_aux_lemma => kernel_rfl) | (apply call_gate 84; exact stp_callN hCl (by as_aux_lemma => kernel_rfl) rfl rfl ⟨rfl, trivial⟩ ⟨⟨_, rfl, .inr rfl⟩, trivial⟩ rfl rfl rfl) | exact stp_storeRow (n := 14) (z := 61) (i := d) rfl rfl (by simp) rfl rfl (by rw [ivals_len]; simp) rfl (by rw [irows_len, hWl]; exact hd.1) (by as_aux_lemma => kernel_rfl)); apply run_step rfl; (first | exact stp_ix rfl rfl rfl rfl rfl (by as_aux_lemma => kernel_rfl) rfl hd.1 (Nat.le_of_eq hbl.symm) | exact stp_stB rfl rfl rfl rfl rfl (by rw [hBl]; exact hd.1) (by as_aux_lemma => kernel_rfl) | (apply call_gate 84; exact stp_callN hCl (by as_aux_lemma => kernel_rfl) rfl rfl ⟨rfl, trivial⟩ ⟨⟨_, rfl, .inr rfl⟩, trivial⟩ rfl rfl rfl) | exact stp_storeRow (n := 14) (z := 61) (i := d) rfl rfl (by simp) rfl rfl (by rw [ivals_len]; simp) rfl (by rw [irows_len, hWl]; exact hd.1) (by as_aux_lemma => kernel_rfl)); refine run_nil ?_; refine fin_seq ?_; refine goes_seq ?_; refine goes_region ?_; apply run_step rfl; (exact stp_move rfl rfl); apply run_step rfl; (exact stp_move rfl rfl); apply run_step rfl; (exact stp_move rfl rfl); apply run_step rfl; (exact stp_move rfl rfl); apply run_step rfl; (exact stp_ix rfl rfl rfl rfl rfl (by as_aux_lemma => kernel_rfl) (by first | rfl | exact (Int.toNat_of_nonneg (by omega)).symm) (by first | assumption | omega | (simp; omega)) (by first | exact Nat.le_refl _ | exact Nat.le_of_eq (ivals_len _).symm | exact Nat.le_of_eq (irows_len _).symm | (refine Nat.le_trans ?_ (Nat.le_of_eq (ivals_len _).symm); (first | omega | (simp; done) | (simp; omega))) | (refine Nat.le_trans ?_ (Nat.le_of_eq (irows_len _).symm); (first | omega | (simp; done) | (simp; omega))))); apply run_step rfl; (exact stp_loadR rfl (by as_aux_lemma => kernel_rfl) rfl rfl rfl (by first | assumption | exact ivals_get (by assumption) | exact irows_get (by assumption) | exact ivals_get (by omega) | exact irows_get (by omega) | rfl) (by first | exact ivals_len _ | assumption | rfl)); apply run_step rfl; (first | exact stp_ix rfl rfl rfl rfl rfl (by as_aux_lemma => kernel_rfl) rfl hd.1 (Nat.le_of_eq hbl.symm) | exact stp_stB rfl rfl rfl rfl rfl (by rw [hBl]; exact hd.1) (by as_aux_lemma => kernel_rfl) | (apply call_gate 84; exact stp_callN hCl (by as_aux_lemma => kernel_rfl) rfl rfl ⟨rfl, trivial⟩ ⟨⟨_, rfl, .inr rfl⟩, trivial⟩ rfl rfl rfl) | exact stp_storeRow (n := 14) (z := 61) (i := d) rfl rfl (by simp) rfl rfl (by rw [ivals_len]; simp) rfl (by rw [irows_len, hWl]; exact hd.1) (by as_aux_lemma => kernel_rfl)); apply run_step rfl; (exact stp_move rfl rfl); apply run_step rfl; (exact stp_lit1I (E := 2) rfl (by as_aux_lemma => kernel_rfl) rfl); apply run_step rfl; (exact stp_appI rfl (by as_aux_lemma => kernel_rfl) rfl rfl rfl (by first | rfl | assumption | (simp; done)) rfl rfl (by omega)); apply run_step rfl; (exact stp_ix rfl rfl rfl rfl rfl (by as_aux_lemma => kernel_rfl) (by first | rfl | exact (Int.toNat_of_nonneg (by omega)).symm) (by first | assumption | omega | (simp; omega)) (by first | exact Nat.le_refl _ | exact Nat.le_of_eq (ivals_len _).symm | exact Nat.le_of_eq (irows_len _).symm | (refine Nat.le_trans ?_ (Nat.le_of_eq (ivals_len _).symm); (first | omega | (simp; done) | (simp; omega))) | (refine Nat.le_trans ?_ (Nat.le_of_eq (irows_len _).symm); (first | omega | (simp; done) | (simp; omega))))); apply run_step rfl; (first | exact stp_ix rfl rfl rfl rfl rfl (by as_aux_lemma => kernel_rfl) rfl hd.1 (Nat.le_of_eq hbl.symm) | exact stp_stB rfl rfl rfl rfl rfl (by rw [hBl]; exact hd.1) (by as_aux_lemma => kernel_rfl) | (apply call_gate 84; exact stp_callN hCl (by as_aux_lemma => kernel_rfl) rfl rfl ⟨rfl, trivial⟩ ⟨⟨_, rfl, .inr rfl⟩, trivial⟩ rfl rfl rfl) | exact stp_storeRow (n := 14) (z := 61) (i := d) rfl rfl (by simp) rfl rfl (by rw [ivals_len]; simp) rfl (by rw [irows_len, hWl]; exact hd.1) (by as_aux_lemma => kernel_rfl)); refine run_nil ?_; refine fin_seq ?_; refine goes_region ?_; apply run_step rfl; (exact stp_move rfl rfl); apply run_step rfl; (exact stp_move rfl rfl); apply run_step rfl; (exact stp_lit1I (E := 2) rfl (by as_aux_lemma => kernel_rfl) rfl))
          refine run_or rfl (stpor_append (k := 1) (m := 1) (E := 2) rfl (by as_aux_lemma => kernel_rfl) rfl rfl rfl hln rfl (reads_vals (k := 1) rfl rfl rfl rfl (Nat.le_refl _)) (by omega) (by intro v hv; simp [ivals] at hv; subst hv; rfl) (by omega)) ?_ ?_
          · (apply run_step rfl; (exact stp_assign rfl rfl); refine run_nil ?_; refine fin_block ?_; refine fin_seq ?_; refine goes_region ?_; apply run_step rfl; (exact stp_add rfl rfl rfl (by first | exact IntWalk.i64_in _ (by omega) | rfl)); apply run_step rfl; (exact stp_move rfl rfl); refine run_nil ?_)
            exact fin_round (g + 1, (W.set d (lget W c ++ [(g : Int)]), B.set d true, O ++ [(d : Int)]), [], 0) ⟨hgn, hst.trans hv, rfl⟩ (by show ng - (g + 1) < ng - g; omega) (Wk.of ⟨rfl, rfl, rfl, congrArg (fun x => some (o1 (.sl 20 0 x))) (by simp; omega), rfl, rfl, rfl, trivial⟩ ⟨rfl, congrArg (fun l => some (⟨true, 37, 1, .rows 2 l []⟩ : Ch)) hset, rfl, congrArg (fun l => some (⟨true, 2, 1, .vals l⟩ : Ch)) (qApp1 hpre (by omega) (d : Int)), trivial⟩ trivial)
          · (apply run_step rfl; (exact stp_assign rfl rfl); refine run_nil ?_; refine fin_block ?_; refine fin_seq ?_; refine goes_region ?_; apply run_step rfl; (exact stp_add rfl rfl rfl (by first | exact IntWalk.i64_in _ (by omega) | rfl)); apply run_step rfl; (exact stp_move rfl rfl); refine run_nil ?_)
            exact fin_round (g + 1, (W.set d (lget W c ++ [(g : Int)]), B.set d true, O ++ [(d : Int)]), pre, o) ⟨hgn, hst.trans hv, hpre⟩ (by show ng - (g + 1) < ng - g; omega) (Wk.of ⟨rfl, rfl, rfl, congrArg (fun x => some (o1 (.sl 20 o x))) (by simp; omega), rfl, rfl, rfl, trivial⟩ ⟨rfl, congrArg (fun l => some (⟨true, 37, 1, .rows 2 l []⟩ : Ch)) hset, rfl, congrArg (fun l => some (⟨true, 2, 1, .vals l⟩ : Ch)) (qApp2 (by omega) (d : Int)), trivial⟩ trivial)
        · have hb : bat B d = true := by simpa using hb
          have hv : bVisit (W, B, O) c g d = (W, B, O) := if_pos hb
          (refine goes_skip ?_; refine fin_block ?_; refine fin_seq ?_; refine goes_region ?_; apply run_step rfl; (exact stp_add rfl rfl rfl (by first | exact IntWalk.i64_in _ (by omega) | rfl)); apply run_step rfl; (exact stp_move rfl rfl); refine run_nil ?_)
          exact fin_round (g + 1, (W, B, O), pre, o) ⟨hgn, hst.trans hv, hpre⟩ (by show ng - (g + 1) < ng - g; omega) (Wk.of ⟨rfl, rfl, rfl, rfl, rfl, rfl, rfl, trivial⟩ ⟨rfl, rfl, rfl, rfl, trivial⟩ trivial)
      · obtain rfl : g = ng := by omega
        have gl : (o + (O.length - i)) * 1 ≤ (ivals (pre ++ O.drop i)).length := Nat.le_of_eq (qLen hpre (by omega))
        (refine goes_exit ?_; refine fin_exit_then ?_; refine fin_exit_then ?_; refine fin_exit_eq ?_; refine fin_block ?_; refine fin_seq ?_; refine goes_region ?_; apply run_step rfl; (exact stp_move rfl rfl); apply run_step rfl; (exact stp_slice (k := 1) (l := 1) rfl rfl rfl rfl (by as_aux_lemma => kernel_rfl) (by omega) (bnd_some rfl rfl) bnd_none (by omega) (Nat.le_refl _) gl); apply run_step rfl; (exact stp_assign rfl rfl); refine run_nil ?_)
        exact fin_round (i + 1, (W, B, O), pre ++ [(c : Int)], o + 1) ⟨hiO, hok, by rw [← hfin, hfo]; show bLoop _ _ (n + 1 - (i + 1)) _ _ = _; rw [show n + 1 - (i + 1) = n - i by omega], by simp; omega, fun k hk => by
            obtain ⟨q1, q2⟩ := hsh0 k hk
            obtain ⟨e, e1, e2, e3⟩ := hok0.q k q1
            show (lget W (iget O k).toNat).length ≤ 64
            rw [grw.pre k q1, e1, Int.toNat_natCast, (grw.met e e2 e3).2]
            rw [e1, Int.toNat_natCast] at q2; exact q2⟩ (by show n + 1 - (i + 1) < n + 1 - i; omega) (Wk.of ⟨rfl, rfl, rfl, congrArg (fun x => some (o1 (.sl 20 (o + 1) x))) (show O.length - i - 1 = O.length - (i + 1) by omega), trivial⟩ ⟨rfl, rfl, rfl, congrArg (fun l => some (⟨true, 2, 1, .vals (ivals l)⟩ : Ch)) (qNext hiO hci), trivial⟩ trivial)
  · have hio : i = O.length := by
      have := of_decide_eq_false h; omega
    have hOM : bfs T ng n = (W, B, O) := by
      rw [← hl, show n + 1 - i = (n - i) + 1 by omega, bLoop, if_neg (by show ¬ i < O.length; omega)]
    have htl : ¬ tooLong (bfs T ng n).1 = true := fun ht => by
      rw [hOM] at ht
      obtain ⟨k, k1, k2⟩ := tooLong_at hok ht
      dsimp only at k1 k2
      have := hsh k (by omega)
      omega
    rw [if_neg htl, if_neg htl]
    rw [hOM]
    (refine goes_exit ?_; refine fin_exit_then ?_; refine fin_exit_then ?_; refine fin_exit_eq ?_; refine fin_seq ?_; refine goes_seq ?_; refine goes_region ?_; apply run_step rfl; (exact stp_move rfl rfl); apply run_step rfl; (exact stp_assign rfl rfl); apply run_step rfl; (exact stp_assign rfl rfl); refine run_nil ?_; refine fin_seq ?_; refine goes_ret ?_)
    exact fin_ret2 (.inl rfl) rfl (.tmp rfl) (.tmp rfl) ⟨rfl, trivial⟩ trivial
end Go.Proofs.Ytpjglifijdcgnaa

/- CosetWords. -/
namespace Go.Proofs.Ytpjglifijdcgnaa
open Go.RowKit

def cwW (d : PresD) (ws : List (List Int)) : List (List Int) := (bfs (cosTab d ws) d.1.toNat (cosN d ws)).1
def cwOk (d : PresD) (ws : List (List Int)) : Prop := ctC d ws = 0 ∧ tooLong (cwW d ws) = false
def cwR (d : PresD) (ws : List (List Int)) : List (List Int) := if ctC d ws = 0 then (if tooLong (cwW d ws) = true then [] else cwW d ws) else []
def cwC (d : PresD) (ws : List (List Int)) : Int := if ctC d ws = 0 then (if tooLong (cwW d ws) = true then 3 else 0) else ctC d ws
theorem cwW_nat (ng : Nat) (rels ws : List (List Int)) : cwW ((ng : Int), rels) ws = (bfs (cosTab ((ng : Int), rels) ws) ng (cosN ((ng : Int), rels) ws)).1 := by unfold cwW; rw [Int.toNat_natCast]
theorem bfs_ok {T : List (List Int)} {ng n : Nat} (hT : Leads T n) (hng : T.length = ng) (hn : 0 < n) : BOK n (bfs T ng n) := (bLoop_ok hT hng _ _ _ (bStart_ok hn)).1

set_option maxRecDepth 100000 in
set_option maxHeartbeats 2000000 in
theorem specCW_fc (g : Int) (rels ws : List (List Int)) (h1 : Fit rels) (h2 : Fit ws) :
    FC Try.prog 44 [(1002, rowsRo ws), (1003, rowsRo rels)] [pA g rels.length, o1 (.sl 1002 0 ws.length)] (if ctC (g, rels) ws = 0 ∧ tooLong (cwW (g, rels) ws) = false then [(13, imOw (cwW (g, rels) ws))] else [])
      (if ctC (g, rels) ws = 0 ∧ tooLong (cwW (g, rels) ws) = false then .tup [.one (.sl 13 0 (cwW (g, rels) ws).length), .one (.val (I6 0))] else .tup [.one (.val (.slice none 0 0)), .one (.val (I6 (cwC (g, rels) ws)))]) [] := by
  refine fc_enter (nt := 34) Try.func44 rfl rfl (by simp) fun w0 ω0 => ?_
  by_cases hk : withOk (g, rels) ws = true ∧ smallOk (g, rels) ws = true
  · obtain ⟨ng, rfl, hG⟩ := good_of hk.1
    have hE := specCT_yes ng rels ws h1 h2 hk.1 hG hk.2
    have hs := smallOk_run hk.2
    have hc := ctC_ok hk
    have hS := specShort_fc _ ng _ (cosTab_len ng rels ws) hG.pos (cosTab_leads hG hs.1) (cosN_pos hG hs.1) hs.2 hG.hi
    have hB := bfs_ok (cosTab_leads hG hs.1) (cosTab_len ng rels ws) (cosN_pos hG hs.1)
    have hWl : (cwW ((ng : Int), rels) ws).length = cosN ((ng : Int), rels) ws := by rw [cwW_nat]; exact hB.l1
    rw [← cwW_nat] at hS
    unfold cwC
    rw [hc]
    generalize hW : cwW ((ng : Int), rels) ws = W at *
    have hN4 := hs.2
    generalize cosN ((ng : Int), rels) ws = N at *
    generalize cosTab ((ng : Int), rels) ws = T at *
    (refine goes_seq ?_; refine goes_region ?_; apply run_step rfl; (exact stp_box rfl rfl rfl rfl); apply run_step rfl; (exact stp_assign rfl rfl); apply run_step rfl; (exact stp_assign rfl rfl); refine run_nil ?_; refine fin_seq ?_; refine goes_seq ?_; refine goes_region ?_; apply run_step rfl; (exact stp_loadAgg rfl rfl rfl rfl rfl rfl (by as_aux_lemma => kernel_rfl)); apply run_step rfl; (exact stp_move rfl rfl); apply run_step rfl; (first | (apply call_gate 29; exact stp_callN hE (by as_aux_lemma => kernel_rfl) rfl rfl ⟨⟨.inl rfl, .inl rfl, trivial⟩, rfl, trivial⟩ ⟨⟨_, rfl, .inl rfl⟩, ⟨_, rfl, .inl rfl⟩, trivial⟩ rfl rfl rfl) | (apply call_gate 63; exact stp_callN hS (by as_aux_lemma => kernel_rfl) rfl rfl ⟨rfl, trivial⟩ ⟨⟨_, rfl, .inr rfl⟩, trivial⟩ rfl rfl rfl)); apply run_step rfl; (exact stp_move rfl rfl); apply run_step rfl; (exact stp_extract rfl rfl rfl); apply run_step rfl; (exact stp_extract rfl rfl rfl); apply run_step rfl; (exact stp_assign rfl rfl); apply run_step rfl; (exact stp_assign rfl rfl); refine run_nil ?_; refine fin_seq ?_; refine goes_seq ?_; refine goes_seq ?_; refine goes_region ?_; apply run_step rfl; (exact stp_move rfl rfl); apply run_step rfl; (exact stp_bin rfl rfl rfl rfl); refine run_nil ?_; refine fin_seq ?_)
    refine goes_cond rfl (fun e => by cases e) (fun _ => ?_)
    (refine goes_skip ?_; refine fin_seq ?_; refine goes_seq ?_; refine goes_region ?_; apply run_step rfl; (exact stp_move rfl rfl); apply run_step rfl; (apply call_gate 63; exact stp_callN hS (by as_aux_lemma => kernel_rfl) rfl rfl ⟨rfl, trivial⟩ ⟨⟨_, rfl, .inr rfl⟩, trivial⟩ rfl rfl rfl); apply run_step rfl; (exact stp_assign rfl rfl); refine run_nil ?_; refine fin_seq ?_; refine goes_seq ?_; refine goes_seq ?_; refine goes_region ?_; apply run_step rfl; (exact stp_assign rfl rfl); refine run_nil ?_; refine fin_seq ?_; refine goes_block ?_)
    refine goes_loop (fun i : Nat => St.of [(8, o1 (.sl 13 0 N)), (9, vv (I6 i))] [(13, imOw W)]) (fun i => i ≤ N ∧ ∀ k, k < i → (lget W k).length ≤ 64) (fun i => N - i) 0 ⟨Nat.zero_le _, fun k hk => by omega⟩ (Wk.of ⟨rfl, rfl, trivial⟩ ⟨rfl, trivial⟩ trivial) ?_
    rintro i ⟨hi, hsh⟩
    (refine goes_seq ?_; refine goes_seq ?_; refine goes_region ?_; apply run_step rfl; (exact stp_move rfl rfl); apply run_step rfl; (exact stp_move rfl rfl); apply run_step rfl; (exact stp_len rfl rfl rfl (by as_aux_lemma => kernel_rfl)); apply run_step rfl; (exact stp_bin rfl rfl rfl rfl); refine run_nil ?_; refine fin_seq ?_)
    refine goes_if rfl (fun hlt => ?_) (fun hlt => ?_)
    · have hlt' : i < N := by omega
      have hrw : (irows W)[i]? = some (ivals (lget W i)) := irows_get (by omega)
      (refine goes_skip ?_; refine fin_seq ?_; refine goes_seq ?_; refine goes_block ?_; refine goes_seq ?_; refine goes_region ?_; apply run_step rfl; (exact stp_move rfl rfl); apply run_step rfl; (exact stp_move rfl rfl); apply run_step rfl; (exact stp_ix rfl rfl rfl rfl rfl (by as_aux_lemma => kernel_rfl) (by first | rfl | exact (Int.toNat_of_nonneg (by omega)).symm) (by first | assumption | omega | (simp; omega)) (by first | exact Nat.le_refl _ | exact Nat.le_of_eq (ivals_len _).symm | exact Nat.le_of_eq (irows_len _).symm | (refine Nat.le_trans ?_ (Nat.le_of_eq (ivals_len _).symm); (first | omega | (simp; done) | (simp; omega))) | (refine Nat.le_trans ?_ (Nat.le_of_eq (irows_len _).symm); (first | omega | (simp; done) | (simp; omega))))); apply run_step rfl; (exact stp_loadR rfl (by as_aux_lemma => kernel_rfl) rfl rfl rfl (by first | assumption | exact ivals_get (by assumption) | exact irows_get (by assumption) | exact ivals_get (by omega) | exact irows_get (by omega) | rfl) (by first | exact ivals_len _ | assumption | rfl)); apply run_step rfl; (exact stp_len rfl rfl rfl (by as_aux_lemma => kernel_rfl)); apply run_step rfl; (exact stp_bin rfl rfl rfl rfl); refine run_nil ?_; refine fin_seq ?_)
      refine goes_if rfl (fun hb => ?_) (fun hb => ?_)
      · have hb' : 64 < (lget W i).length := by omega
        have htl : tooLong W = true := tooLong_of hb'
        rw [if_neg (by rw [htl]; simp), if_neg (by rw [htl]; simp), if_pos rfl, if_pos htl]
        (refine goes_seq ?_; refine goes_region ?_; apply run_step rfl; (exact stp_assign rfl rfl); apply run_step rfl; (exact stp_assign rfl rfl); refine run_nil ?_; refine fin_seq ?_; refine goes_ret ?_; refine fin_ret_block ?_; refine fin_ret_then ?_; refine fin_ret_then ?_; refine fin_ret_block ?_; refine fin_ret_then ?_)
        exact fin_ret2 (.inl rfl) rfl (.tmp rfl) (.tmp rfl) trivial trivial
      · (refine goes_skip ?_; refine fin_block ?_; refine fin_seq ?_; refine goes_region ?_; apply run_step rfl; (exact stp_move rfl rfl); apply run_step rfl; (exact stp_add rfl rfl rfl (by first | exact IntWalk.i64_in _ (by omega) | rfl)); apply run_step rfl; (exact stp_assign rfl rfl); refine run_nil ?_)
        exact fin_round (i + 1) ⟨hlt', fun k hk => by
          by_cases e : k = i
          · subst e; omega
          · exact hsh k (by omega)⟩ (by omega) (Wk.of ⟨rfl, rfl, trivial⟩ ⟨rfl, trivial⟩ trivial)
    · obtain rfl : i = N := by omega
      have htl : tooLong W = false := by
        rw [← Bool.not_eq_true]
        intro ht
        unfold tooLong at ht
        rw [List.any_eq_true] at ht
        obtain ⟨w, hw, hlw⟩ := ht
        obtain ⟨j, hj, rfl⟩ := List.getElem_of_mem hw
        have := hsh j (by omega)
        rw [lget_lt hj] at this
        have := of_decide_eq_true hlw
        omega
      rw [if_pos ⟨rfl, htl⟩, if_pos ⟨rfl, htl⟩]
      (refine goes_exit ?_; refine fin_exit_then ?_; refine fin_exit_then ?_; refine fin_exit_eq ?_; refine fin_seq ?_; refine goes_seq ?_; refine goes_region ?_; apply run_step rfl; (exact stp_move rfl rfl); apply run_step rfl; (exact stp_assign rfl rfl); apply run_step rfl; (exact stp_assign rfl rfl); refine run_nil ?_; refine fin_seq ?_; refine goes_ret ?_)
      exact fin_ret2 (.inl rfl) rfl (.tmp (by rw [hWl]; rfl)) (.tmp rfl) ⟨rfl, trivial⟩ trivial
  · have hE := specCT_no g rels ws h1 h2 hk
    have hc := ctC_no hk
    unfold cwC
    rw [if_neg (fun h => hc h.1), if_neg (fun h => hc h.1), if_neg hc]
    (refine goes_seq ?_; refine goes_region ?_; apply run_step rfl; (exact stp_box rfl rfl rfl rfl); apply run_step rfl; (exact stp_assign rfl rfl); apply run_step rfl; (exact stp_assign rfl rfl); refine run_nil ?_; refine fin_seq ?_; refine goes_seq ?_; refine goes_region ?_; apply run_step rfl; (exact stp_loadAgg rfl rfl rfl rfl rfl rfl (by as_aux_lemma => kernel_rfl)); apply run_step rfl; (exact stp_move rfl rfl); apply run_step rfl; (apply call_gate 29; exact stp_callR hE (by as_aux_lemma => kernel_rfl) rfl rfl ⟨⟨.inl rfl, .inl rfl, trivial⟩, rfl, trivial⟩ ⟨⟨_, rfl, .inl rfl⟩, ⟨_, rfl, .inl rfl⟩, trivial⟩ rfl rfl); apply run_step rfl; (exact stp_move rfl rfl); apply run_step rfl; (exact stp_extract rfl rfl rfl); apply run_step rfl; (exact stp_extract rfl rfl rfl); apply run_step rfl; (exact stp_assign rfl rfl); apply run_step rfl; (exact stp_assign rfl rfl); refine run_nil ?_; refine fin_seq ?_; refine goes_seq ?_; refine goes_seq ?_; refine goes_region ?_; apply run_step rfl; (exact stp_move rfl rfl); apply run_step rfl; (exact stp_bin rfl rfl rfl rfl); refine run_nil ?_; refine fin_seq ?_)
    refine goes_cond rfl (fun _ => ?_) (fun e => ?_)
    · (refine goes_seq ?_; refine goes_region ?_; apply run_step rfl; (exact stp_move rfl rfl); apply run_step rfl; (exact stp_assign rfl rfl); apply run_step rfl; (exact stp_assign rfl rfl); refine run_nil ?_; refine fin_seq ?_; refine goes_ret ?_; refine fin_ret_then ?_)
      exact fin_ret2 (.inl rfl) rfl (.tmp rfl) (.tmp rfl) trivial trivial
    · exfalso; simp at e; exact hc e

set_option maxRecDepth 100000 in
set_option maxHeartbeats 2000000 in
theorem implCW_fc (g : Int) (rels ws : List (List Int)) (h1 : Fit rels) (h2 : Fit ws) :
    FC Try.prog 45 [(1002, rowsRo ws), (1003, rowsRo rels)] [pA g rels.length, o1 (.sl 1002 0 ws.length)] (if ctC (g, rels) ws = 0 ∧ tooLong (cwW (g, rels) ws) = false then [(14, imOw (cwW (g, rels) ws))] else [])
      (if ctC (g, rels) ws = 0 ∧ tooLong (cwW (g, rels) ws) = false then .tup [.one (.sl 14 0 (cwW (g, rels) ws).length), .one (.val (I6 0))] else .tup [.one (.val (.slice none 0 0)), .one (.val (I6 (cwC (g, rels) ws)))]) [] := by
  have hC := implCode_fc g rels ws h1 h2
  refine fc_enter (nt := 28) Try.func45 rfl rfl (by simp) fun w0 ω0 => ?_
  by_cases hok : withOk (g, rels) ws = true
  · obtain ⟨ng, rfl, hG⟩ := good_of hok
    rw [withC_ok hok] at hC
    (refine goes_seq ?_; refine goes_region ?_; apply run_step rfl; (exact stp_box rfl rfl rfl rfl); apply run_step rfl; (exact stp_assign rfl rfl); apply run_step rfl; (exact stp_assign rfl rfl); refine run_nil ?_; refine fin_seq ?_; refine goes_seq ?_; refine goes_seq ?_; refine goes_region ?_; apply run_step rfl; (exact stp_loadAgg rfl rfl rfl rfl rfl rfl (by as_aux_lemma => kernel_rfl)); apply run_step rfl; (exact stp_move rfl rfl); apply run_step rfl; (apply call_gate 52; exact stp_callR hC (by as_aux_lemma => kernel_rfl) rfl rfl ⟨⟨.inl rfl, .inl rfl, trivial⟩, rfl, trivial⟩ ⟨⟨_, rfl, .inl rfl⟩, ⟨_, rfl, .inl rfl⟩, trivial⟩ rfl rfl); apply run_step rfl; (exact stp_assign rfl rfl); refine run_nil ?_; refine fin_seq ?_; refine goes_seq ?_; refine goes_region ?_; apply run_step rfl; (exact stp_move rfl rfl); apply run_step rfl; (exact stp_bin rfl rfl rfl rfl); refine run_nil ?_; refine fin_seq ?_)
    refine goes_cond rfl (fun e => by cases e) (fun _ => ?_)
    by_cases hsm : smallOk ((ng : Int), rels) ws = true
    · have hE := implSmall_yes hG hsm
      have hs := smallOk_run hsm
      have hc := ctC_ok ⟨hok, hsm⟩
      have hS := implShort_fc _ ng _ (cosTab_len ng rels ws) hG.pos (cosTab_leads hG hs.1) (cosN_pos hG hs.1) hs.2 hG.hi
      have hB := bfs_ok (cosTab_leads hG hs.1) (cosTab_len ng rels ws) (cosN_pos hG hs.1)
      have hWl : (cwW ((ng : Int), rels) ws).length = cosN ((ng : Int), rels) ws := by rw [cwW_nat]; exact hB.l1
      rw [← cwW_nat] at hS
      unfold cwC
      rw [hc]
      generalize cwW ((ng : Int), rels) ws = W at *
      generalize cosN ((ng : Int), rels) ws = N at *
      generalize cosTab ((ng : Int), rels) ws = T at *
      cases htl : tooLong W with
      | true =>
        rw [if_pos htl, if_pos htl] at hS
        rw [if_neg (by simp), if_neg (by simp), if_pos rfl, if_pos rfl]
        (refine goes_skip ?_; refine fin_seq ?_; refine goes_seq ?_; refine goes_region ?_; apply run_step rfl; (exact stp_loadAgg rfl rfl rfl rfl rfl rfl (by as_aux_lemma => kernel_rfl)); apply run_step rfl; (exact stp_move rfl rfl); apply run_step rfl; (apply call_gate 60; exact stp_callN hE (by as_aux_lemma => kernel_rfl) rfl rfl ⟨⟨.inl rfl, .inl rfl, trivial⟩, rfl, trivial⟩ ⟨⟨_, rfl, .inl rfl⟩, ⟨_, rfl, .inl rfl⟩, trivial⟩ rfl rfl rfl); apply run_step rfl; (exact stp_move rfl rfl); apply run_step rfl; (exact stp_extract rfl rfl rfl); apply run_step rfl; (exact stp_extract rfl rfl rfl); apply run_step rfl; (exact stp_assign rfl rfl); apply run_step rfl; (exact stp_assign rfl rfl); refine run_nil ?_; refine fin_seq ?_; refine goes_seq ?_; refine goes_seq ?_; refine goes_region ?_; apply run_step rfl; (exact stp_move rfl rfl); apply run_step rfl; (exact stp_bin rfl rfl rfl rfl); refine run_nil ?_; refine fin_seq ?_)
        refine goes_cond rfl (fun e => by cases e) (fun _ => ?_)
        (refine goes_skip ?_; refine fin_seq ?_; refine goes_seq ?_; refine goes_region ?_; apply run_step rfl; (exact stp_move rfl rfl); apply run_step rfl; (apply call_gate 66; exact stp_callR hS (by as_aux_lemma => kernel_rfl) rfl rfl ⟨rfl, trivial⟩ ⟨⟨_, rfl, .inr rfl⟩, trivial⟩ rfl rfl); apply run_step rfl; (exact stp_extract rfl rfl rfl); apply run_step rfl; (exact stp_extract rfl rfl rfl); apply run_step rfl; (exact stp_assign rfl rfl); apply run_step rfl; (exact stp_assign rfl rfl); refine run_nil ?_; refine fin_seq ?_; refine goes_ret ?_)
        exact fin_ret2 (.inl rfl) rfl (.tmp rfl) (.tmp rfl) trivial trivial
      | false =>
        rw [if_neg (by rw [htl]; simp), if_neg (by rw [htl]; simp)] at hS
        rw [if_pos ⟨rfl, rfl⟩, if_pos ⟨rfl, rfl⟩]
        (refine goes_skip ?_; refine fin_seq ?_; refine goes_seq ?_; refine goes_region ?_; apply run_step rfl; (exact stp_loadAgg rfl rfl rfl rfl rfl rfl (by as_aux_lemma => kernel_rfl)); apply run_step rfl; (exact stp_move rfl rfl); apply run_step rfl; (apply call_gate 60; exact stp_callN hE (by as_aux_lemma => kernel_rfl) rfl rfl ⟨⟨.inl rfl, .inl rfl, trivial⟩, rfl, trivial⟩ ⟨⟨_, rfl, .inl rfl⟩, ⟨_, rfl, .inl rfl⟩, trivial⟩ rfl rfl rfl); apply run_step rfl; (exact stp_move rfl rfl); apply run_step rfl; (exact stp_extract rfl rfl rfl); apply run_step rfl; (exact stp_extract rfl rfl rfl); apply run_step rfl; (exact stp_assign rfl rfl); apply run_step rfl; (exact stp_assign rfl rfl); refine run_nil ?_; refine fin_seq ?_; refine goes_seq ?_; refine goes_seq ?_; refine goes_region ?_; apply run_step rfl; (exact stp_move rfl rfl); apply run_step rfl; (exact stp_bin rfl rfl rfl rfl); refine run_nil ?_; refine fin_seq ?_)
        refine goes_cond rfl (fun e => by cases e) (fun _ => ?_)
        (refine goes_skip ?_; refine fin_seq ?_; refine goes_seq ?_; refine goes_region ?_; apply run_step rfl; (exact stp_move rfl rfl); apply run_step rfl; (apply call_gate 66; exact stp_callN hS (by as_aux_lemma => kernel_rfl) rfl rfl ⟨rfl, trivial⟩ ⟨⟨_, rfl, .inr rfl⟩, trivial⟩ rfl rfl rfl); apply run_step rfl; (exact stp_extract rfl rfl rfl); apply run_step rfl; (exact stp_extract rfl rfl rfl); apply run_step rfl; (exact stp_assign rfl rfl); apply run_step rfl; (exact stp_assign rfl rfl); refine run_nil ?_; refine fin_seq ?_; refine goes_ret ?_)
        exact fin_ret2 (.inl rfl) rfl (.tmp (by rw [hWl]; rfl)) (.tmp rfl) ⟨rfl, trivial⟩ trivial
    · have hE := implSmall_no hG hsm
      have hc : ctC ((ng : Int), rels) ws = 3 := by unfold ctC; rw [if_pos hok, if_neg hsm]
      unfold cwC
      rw [hc, if_neg (fun h => by cases h.1), if_neg (fun h => by cases h.1), if_neg (by decide)]
      (refine goes_skip ?_; refine fin_seq ?_; refine goes_seq ?_; refine goes_region ?_; apply run_step rfl; (exact stp_loadAgg rfl rfl rfl rfl rfl rfl (by as_aux_lemma => kernel_rfl)); apply run_step rfl; (exact stp_move rfl rfl); apply run_step rfl; (apply call_gate 60; exact stp_callR hE (by as_aux_lemma => kernel_rfl) rfl rfl ⟨⟨.inl rfl, .inl rfl, trivial⟩, rfl, trivial⟩ ⟨⟨_, rfl, .inl rfl⟩, ⟨_, rfl, .inl rfl⟩, trivial⟩ rfl rfl); apply run_step rfl; (exact stp_move rfl rfl); apply run_step rfl; (exact stp_extract rfl rfl rfl); apply run_step rfl; (exact stp_extract rfl rfl rfl); apply run_step rfl; (exact stp_assign rfl rfl); apply run_step rfl; (exact stp_assign rfl rfl); refine run_nil ?_; refine fin_seq ?_; refine goes_seq ?_; refine goes_seq ?_; refine goes_region ?_; apply run_step rfl; (exact stp_move rfl rfl); apply run_step rfl; (exact stp_bin rfl rfl rfl rfl); refine run_nil ?_; refine fin_seq ?_)
      refine goes_cond rfl (fun _ => ?_) (fun e => by cases e)
      (refine goes_seq ?_; refine goes_region ?_; apply run_step rfl; (exact stp_move rfl rfl); apply run_step rfl; (exact stp_assign rfl rfl); apply run_step rfl; (exact stp_assign rfl rfl); refine run_nil ?_; refine fin_seq ?_; refine goes_ret ?_; refine fin_ret_then ?_)
      exact fin_ret2 (.inl rfl) rfl (.tmp rfl) (.tmp rfl) trivial trivial
  · rw [withC_no hok] at hC
    have hc : ctC (g, rels) ws = 1 := by unfold ctC; rw [if_neg hok]
    unfold cwC
    rw [hc, if_neg (fun h => by cases h.1), if_neg (fun h => by cases h.1), if_neg (by decide)]
    (refine goes_seq ?_; refine goes_region ?_; apply run_step rfl; (exact stp_box rfl rfl rfl rfl); apply run_step rfl; (exact stp_assign rfl rfl); apply run_step rfl; (exact stp_assign rfl rfl); refine run_nil ?_; refine fin_seq ?_; refine goes_seq ?_; refine goes_seq ?_; refine goes_region ?_; apply run_step rfl; (exact stp_loadAgg rfl rfl rfl rfl rfl rfl (by as_aux_lemma => kernel_rfl)); apply run_step rfl; (exact stp_move rfl rfl); apply run_step rfl; (apply call_gate 52; exact stp_callR hC (by as_aux_lemma => kernel_rfl) rfl rfl ⟨⟨.inl rfl, .inl rfl, trivial⟩, rfl, trivial⟩ ⟨⟨_, rfl, .inl rfl⟩, ⟨_, rfl, .inl rfl⟩, trivial⟩ rfl rfl); apply run_step rfl; (exact stp_assign rfl rfl); refine run_nil ?_; refine fin_seq ?_; refine goes_seq ?_; refine goes_region ?_; apply run_step rfl; (exact stp_move rfl rfl); apply run_step rfl; (exact stp_bin rfl rfl rfl rfl); refine run_nil ?_; refine fin_seq ?_)
    refine goes_cond rfl (fun _ => ?_) (fun e => by cases e)
    (refine goes_seq ?_; refine goes_region ?_; apply run_step rfl; (exact stp_move rfl rfl); apply run_step rfl; (exact stp_assign rfl rfl); apply run_step rfl; (exact stp_assign rfl rfl); refine run_nil ?_; refine fin_seq ?_; refine goes_ret ?_; refine fin_ret_then ?_)
    exact fin_ret2 (.inl rfl) rfl (.tmp rfl) (.tmp rfl) trivial trivial

theorem cwR_small (d : PresD) (ws : List (List Int)) : (cwR d ws).length ≤ 400 ∧ lenSS (cwR d ws) ≤ 30000 := by
  unfold cwR
  split
  · rename_i hc
    split
    · simp [lenSS]
    · rename_i htl
      have hk : withOk d ws = true ∧ smallOk d ws = true := by
        by_cases h : withOk d ws = true ∧ smallOk d ws = true
        · exact h
        · exact absurd hc (ctC_no h)
      obtain ⟨g, rels⟩ := d
      obtain ⟨ng, rfl, hG⟩ := good_of hk.1
      have hs := smallOk_run hk.2
      have hB := bfs_ok (cosTab_leads hG hs.1) (cosTab_len ng rels ws) (cosN_pos hG hs.1)
      have hWl : (cwW ((ng : Int), rels) ws).length = cosN ((ng : Int), rels) ws := by rw [cwW_nat]; exact hB.l1
      have hN := hs.2
      have h64 : ∀ zs ∈ cwW ((ng : Int), rels) ws, zs.length ≤ 64 := fun zs hz => by
        rcases Nat.lt_or_ge 64 zs.length with h | h
        · exfalso; apply htl
          unfold tooLong
          rw [List.any_eq_true]
          exact ⟨zs, hz, by simpa using h⟩
        · exact h
      have := lenSS_le h64
      have h6 : (cwW ((ng : Int), rels) ws).length * 64 ≤ 400 * 64 := Nat.mul_le_mul_right _ (by omega)
      omega
  · simp [lenSS]
theorem api_cw {f : FuncId} {x : Nat} {d : PresD} {ws : List (List Int)} (hf : Fit d.2 → Fit ws → FC Try.prog f [(1002, rowsRo ws), (1003, rowsRo d.2)] [pA d.1 d.2.length, o1 (.sl 1002 0 ws.length)] (if ctC d ws = 0 ∧ tooLong (cwW d ws) = false then [(x, imOw (cwW d ws))] else [])
      (if ctC d ws = 0 ∧ tooLong (cwW d ws) = false then .tup [.one (.sl x 0 (cwW d ws).length), .one (.val (I6 0))] else .tup [.one (.val (.slice none 0 0)), .one (.val (I6 (cwC d ws)))]) []) {E1 E E1' E' : Nat} {lo hi lo' hi' : Nat} {v v' : Value} (w : World) (h : OwP E1 E w lo hi v d) (h' : OwSS E1' E' w lo' hi' v' ws) :
    Calls Try.prog f #[v, v'] w fun e w' => ∃ r, e = .returned (.tuple #[r, .int .i64 (cwC d ws)]) ∧ OwSS 2 37 w' w.heap.size w'.heap.size r (cwR d ws) ∧ Below w.heap.size w w' := by
  by_cases hk : ctC d ws = 0 ∧ tooLong (cwW d ws) = false
  · rw [if_pos hk, if_pos hk] at hf
    have hr : cwR d ws = cwW d ws := by unfold cwR; rw [if_pos hk.1, if_neg (by rw [hk.2]; simp)]
    have hc : cwC d ws = 0 := by unfold cwC; rw [if_pos hk.1, if_neg (by rw [hk.2]; simp)]
    have hsm := cwR_small d ws
    rw [hr] at hsm ⊢
    rw [hc]
    refine (callPW hf h h').mono ?_
    rintro e w' ⟨v, η, ω, rfl, hd, hm, hb, hn⟩
    obtain ⟨u, u', rfl, h1, h2⟩ := den_tup2 hd
    have h2 : u' = I6 0 := h2
    subst h2
    refine ⟨u, rfl, toSS (x := x) hm hn (lk_self _ _) h1 (by omega) (fun zs hz => ?_), hb⟩
    obtain ⟨j, hj, rfl⟩ := List.getElem_of_mem hz
    have := len_le_lenSS hj
    rw [lget_lt hj] at this
    omega
  · rw [if_neg hk, if_neg hk] at hf
    have hr : cwR d ws = [] := by
      unfold cwR; split
      · split
        · rfl
        · rename_i k1 k2; exact absurd ⟨k1, by simpa using k2⟩ hk
      · rfl
    rw [hr]
    refine (two_vals (callPW hf h h')).mono ?_
    rintro e w' ⟨rfl, hb⟩
    exact ⟨_, rfl, owSS_nil, hb⟩
theorem api_specCW {E1 E E1' E' : Nat} {lo hi lo' hi' : Nat} {v v' : Value} {d : PresD} {ws : List (List Int)} (w : World) (h : OwP E1 E w lo hi v d) (h' : OwSS E1' E' w lo' hi' v' ws) :
    Calls Try.prog 44 #[v, v'] w fun e w' => ∃ r, e = .returned (.tuple #[r, .int .i64 (cwC d ws)]) ∧ OwSS 2 37 w' w.heap.size w'.heap.size r (cwR d ws) ∧ Below w.heap.size w w' := api_cw (fun k1 k2 => specCW_fc d.1 d.2 ws k1 k2) w h h'
theorem api_implCW {E1 E E1' E' : Nat} {lo hi lo' hi' : Nat} {v v' : Value} {d : PresD} {ws : List (List Int)} (w : World) (h : OwP E1 E w lo hi v d) (h' : OwSS E1' E' w lo' hi' v' ws) :
    Calls Try.prog 45 #[v, v'] w fun e w' => ∃ r, e = .returned (.tuple #[r, .int .i64 (cwC d ws)]) ∧ OwSS 2 37 w' w.heap.size w'.heap.size r (cwR d ws) ∧ Below w.heap.size w w' := api_cw (fun k1 k2 => implCW_fc d.1 d.2 ws k1 k2) w h h'
end Go.Proofs.Ytpjglifijdcgnaa

/- ProductOrders. -/
namespace Go.Proofs.Ytpjglifijdcgnaa
open Go.RowKit

/-- the orders of the products of a generator and all generators -/
def poRow (T : List (List Int)) (ng m : Nat) (i : Nat) : List Int := (List.range ng).map fun k : Nat => ordR T [(i : Int), (k : Int)] m
def poL (T : List (List Int)) (ng m : Nat) : List (List Int) := (List.range ng).map (poRow T ng m)
def poR (d : PresD) : List (List Int) := if elC d [] = 0 then poL (cosTab d []) d.1.toNat (cosN d []) else []
theorem poRow_len (T : List (List Int)) (ng m i : Nat) : (poRow T ng m i).length = ng := by simp [poRow]
theorem poL_len (T : List (List Int)) (ng m : Nat) : (poL T ng m).length = ng := by simp [poL]
theorem two_letters {T : List (List Int)} {ng i k : Nat} (hn : T.length = ng) (hi : i < ng) (hk : k < ng) : ∀ z ∈ [(i : Int), (k : Int)], 0 ≤ z ∧ z < T.length := fun z hz => by
  simp at hz
  rcases hz with rfl | rfl <;> omega
theorem FC.nilE {f : FuncId} {g : Int} {rels : List (List Int)} {outs : List (Nm × Ch)} {res : AV} (h : FC Try.prog f [(1004, wRo []), (1003, rowsRo rels)] [pA g rels.length, o1 (.sl 1004 0 0)] outs res []) : FC Try.prog f [(1003, rowsRo rels)] [pA g rels.length, vv (.slice none 0 0)] outs res [] :=
  FC.nil2 (x := 1004) h rfl rfl rfl (fun t av h => by cases h) noFlat

set_option maxRecDepth 100000 in
set_option maxHeartbeats 2000000 in
theorem specPO_yes (ng : Nat) (rels : List (List Int)) (h1 : Fit rels) (hG : Good ng rels []) (hk : elOk ((ng : Int), rels) []) :
    FC Try.prog 38 [(1003, rowsRo rels)] [pA ng rels.length] [(18, imOw (poL (cosTab ((ng : Int), rels) []) ng (cosN ((ng : Int), rels) [])))] (.tup [.one (.sl 18 0 ng), .one (.val (I6 0))]) [] := by
  have hE := (specEl_yes h1 (by simp) hG hk).nilE
  have hs := smallOk_run hk.2.2
  have hng := hG.hi
  have hO : ∀ i k, i < ng → k < ng → FC Try.prog 57 [(1005, imRo (cosTab ((ng : Int), rels) [])), (36, wRo [(i : Int), (k : Int)])] [o1 (.sl 1005 0 ng), o1 (.sl 36 0 2)] [] (vv (I6 (ordR (cosTab ((ng : Int), rels) []) [(i : Int), (k : Int)] (cosN ((ng : Int), rels) [])))) [] := fun i k hi hk =>
    (specOrder_fc _ [(i : Int), (k : Int)] _ ng (cosTab_len _ _ _) (cosTab_leads hG hs.1) (cosTab_invol hG hs.1) (cosN_pos hG hs.1) (by omega) (by omega) (two_letters (cosTab_len _ _ _) hi hk) (by simp)).nm [(1005, 1005), (1004, 36)] (by kernel_rfl)
  refine fc_enter (nt := 45) Try.func38 rfl rfl (by simp) fun w0 ω0 => ?_
  generalize cosN ((ng : Int), rels) [] = N at *
  generalize cosTab ((ng : Int), rels) [] = T at *
  (refine goes_seq ?_; refine goes_region ?_; apply run_step rfl; (exact stp_box rfl rfl rfl rfl); apply run_step rfl; (exact stp_assign rfl rfl); apply run_step rfl; (exact stp_assign rfl rfl); refine run_nil ?_; refine fin_seq ?_; refine goes_seq ?_; refine goes_region ?_; apply run_step rfl; (exact stp_loadAgg rfl rfl rfl rfl rfl rfl (by as_aux_lemma => kernel_rfl)); apply run_step rfl; (apply call_gate 53; exact stp_callN hE (by as_aux_lemma => kernel_rfl) rfl rfl ⟨⟨.inl rfl, .inl rfl, trivial⟩, rfl, trivial⟩ ⟨⟨_, rfl, .inl rfl⟩, trivial⟩ rfl rfl rfl); apply run_step rfl; (exact stp_move rfl rfl); apply run_step rfl; (exact stp_extract rfl rfl rfl); apply run_step rfl; (exact stp_extract rfl rfl rfl); apply run_step rfl; (exact stp_assign rfl rfl); apply run_step rfl; (exact stp_assign rfl rfl); refine run_nil ?_; refine fin_seq ?_; refine goes_seq ?_; refine goes_seq ?_; refine goes_region ?_; apply run_step rfl; (exact stp_move rfl rfl); apply run_step rfl; (exact stp_bin rfl rfl rfl rfl); refine run_nil ?_; refine fin_seq ?_)
  refine goes_cond rfl (fun e => by cases e) (fun _ => ?_)
  (refine goes_skip ?_; refine fin_seq ?_; refine goes_seq ?_; refine goes_region ?_; apply run_step rfl; (exact stp_lit0R (E := 37) (F := 2) rfl (by as_aux_lemma => kernel_rfl)); apply run_step rfl; (exact stp_assign rfl rfl); refine run_nil ?_; refine fin_seq ?_; refine goes_seq ?_; refine goes_seq ?_; refine goes_region ?_; apply run_step rfl; (exact stp_assign rfl rfl); refine run_nil ?_; refine fin_seq ?_; refine goes_block ?_)
  refine goes_loop (fun i : Nat => St.of [(1, o1 (.ptr 1 0)), (4, o1 (.sl 1005 0 ng)), (6, o1 (.sl 18 0 i)), (7, vv (I6 i))] [(1, ⟨true, 28, 2, .flat [.val (I6 ng), .sl 1003 0 rels.length]⟩), (1005, imOw T), (18, imOw ((List.range i).map (poRow T ng N)))]) (fun i => i ≤ ng) (fun i => ng - i) 0 (Nat.zero_le _) (Wk.of ⟨rfl, rfl, rfl, rfl, trivial⟩ ⟨rfl, rfl, rfl, trivial⟩ trivial) ?_
  intro i hi
  (refine goes_seq ?_; refine goes_seq ?_; refine goes_region ?_; apply run_step rfl; (exact stp_move rfl rfl); apply run_step rfl; (exact stp_fieldAddr (d := 0) rfl rfl rfl (by as_aux_lemma => kernel_rfl)); apply run_step rfl; (exact stp_loadF rfl (by as_aux_lemma => kernel_rfl) rfl rfl rfl rfl); apply run_step rfl; (exact stp_bin rfl rfl rfl rfl); refine run_nil ?_; refine fin_seq ?_)
  refine goes_if rfl (fun hlt => ?_) (fun hlt => ?_)
  · have hlt' : i < ng := by omega
    (refine goes_skip ?_; refine fin_seq ?_; refine goes_seq ?_; refine goes_block ?_; refine goes_seq ?_; refine goes_region ?_; apply run_step rfl; (exact stp_lit0 (E := 2) (k := 1) rfl (by as_aux_lemma => kernel_rfl)); apply run_step rfl; (exact stp_assign rfl rfl); refine run_nil ?_; refine fin_seq ?_; refine goes_seq ?_; refine goes_seq ?_; refine goes_region ?_; apply run_step rfl; (exact stp_assign rfl rfl); refine run_nil ?_; refine fin_seq ?_; refine goes_block ?_)
    refine goes_loop (fun k : Nat => St.of [(1, o1 (.ptr 1 0)), (4, o1 (.sl 1005 0 ng)), (6, o1 (.sl 18 0 i)), (7, vv (I6 i)), (8, o1 (.sl 25 0 k)), (9, vv (I6 k))] [(1, ⟨true, 28, 2, .flat [.val (I6 ng), .sl 1003 0 rels.length]⟩), (1005, imOw T), (18, imOw ((List.range i).map (poRow T ng N))), (25, leOw ((List.range k).map fun k : Nat => ordR T [(i : Int), (k : Int)] N))]) (fun k => k ≤ ng) (fun k => ng - k) 0 (Nat.zero_le _) (Wk.of ⟨rfl, rfl, rfl, rfl, rfl, rfl, trivial⟩ ⟨rfl, rfl, rfl, rfl, trivial⟩ trivial) ?_
    intro k hk
    (refine goes_seq ?_; refine goes_seq ?_; refine goes_region ?_; apply run_step rfl; (exact stp_move rfl rfl); apply run_step rfl; (exact stp_fieldAddr (d := 0) rfl rfl rfl (by as_aux_lemma => kernel_rfl)); apply run_step rfl; (exact stp_loadF rfl (by as_aux_lemma => kernel_rfl) rfl rfl rfl rfl); apply run_step rfl; (exact stp_bin rfl rfl rfl rfl); refine run_nil ?_; refine fin_seq ?_)
    refine goes_if rfl (fun hlk => ?_) (fun hlk => ?_)
    · have hlk' : k < ng := by omega
      have hOik := hO i k hlt' hlk'
      have hkl : ((List.range k).map fun k : Nat => ordR T [(i : Int), (k : Int)] N).length = k := by simp
      (refine goes_skip ?_; refine fin_seq ?_; refine goes_seq ?_; refine goes_block ?_; refine goes_region ?_; apply run_step rfl; (exact stp_move rfl rfl); apply run_step rfl; (exact stp_move rfl rfl); apply run_step rfl; (exact stp_move rfl rfl); apply run_step rfl; (exact stp_move rfl rfl); apply run_step rfl; (exact stp_lit2I (E := 2) rfl (by as_aux_lemma => kernel_rfl) rfl rfl); apply run_step rfl; (apply call_gate 57; exact stp_callR hOik (by as_aux_lemma => kernel_rfl) rfl rfl ⟨rfl, rfl, trivial⟩ ⟨⟨_, rfl, .inr rfl⟩, ⟨_, rfl, .inr rfl⟩, trivial⟩ rfl rfl); apply run_step rfl; (exact stp_lit1I (E := 2) rfl (by as_aux_lemma => kernel_rfl) rfl); apply run_step rfl; (exact stp_appI rfl (by as_aux_lemma => kernel_rfl) rfl rfl rfl (by first | rfl | assumption | (simp; done)) rfl rfl (by omega)); apply run_step rfl; (exact stp_assign rfl rfl); refine run_nil ?_; refine fin_block ?_; refine fin_seq ?_; refine goes_region ?_; apply run_step rfl; (exact stp_move rfl rfl); apply run_step rfl; (exact stp_add rfl rfl rfl (by first | exact IntWalk.i64_in _ (by omega) | rfl)); apply run_step rfl; (exact stp_assign rfl rfl); refine run_nil ?_)
      exact fin_round (k + 1) hlk' (by omega) (Wk.of ⟨rfl, rfl, rfl, rfl, rfl, rfl, trivial⟩ ⟨rfl, rfl, rfl, by rw [List.range_succ, List.map_append, List.map_singleton]; rfl, trivial⟩ trivial)
    · obtain rfl : k = ng := by omega
      have hil : ((List.range i).map (poRow T k N)).length = i := by simp
      have hrow : (List.range (i + 1)).map (poRow T k N) = (List.range i).map (poRow T k N) ++ [(List.range k).map fun k : Nat => ordR T [(i : Int), (k : Int)] N] := by rw [List.range_succ (n := i), List.map_append]; rfl
      have hkl : ((List.range k).map fun k : Nat => ordR T [(i : Int), (k : Int)] N).length = k := by simp
      (refine goes_exit ?_; refine fin_exit_then ?_; refine fin_exit_then ?_; refine fin_exit_eq ?_; refine fin_seq ?_; refine goes_region ?_; apply run_step rfl; (exact stp_move rfl rfl); apply run_step rfl; (exact stp_move rfl rfl); apply run_step rfl; (exact stp_lit1 (E := 37) rfl (by as_aux_lemma => kernel_rfl) rfl rfl rfl); apply run_step rfl; (exact stp_appR rfl (by as_aux_lemma => kernel_rfl) rfl rfl (by first | rfl | assumption | (simp; done)) rfl rfl rfl (by first | rfl | assumption | (simp; done)) rfl (by omega)); apply run_step rfl; (exact stp_assign rfl rfl); refine run_nil ?_; refine fin_block ?_; refine fin_seq ?_; refine goes_region ?_; apply run_step rfl; (exact stp_move rfl rfl); apply run_step rfl; (exact stp_add rfl rfl rfl (by first | exact IntWalk.i64_in _ (by omega) | rfl)); apply run_step rfl; (exact stp_assign rfl rfl); refine run_nil ?_)
      exact fin_round (i + 1) hlt' (by omega) (Wk.of ⟨rfl, rfl, rfl, rfl, trivial⟩ ⟨rfl, rfl, by rw [hrow]; rfl, trivial⟩ trivial)
  · obtain rfl : i = ng := by omega
    (refine goes_exit ?_; refine fin_exit_then ?_; refine fin_exit_then ?_; refine fin_exit_eq ?_; refine fin_seq ?_; refine goes_seq ?_; refine goes_region ?_; apply run_step rfl; (exact stp_move rfl rfl); apply run_step rfl; (exact stp_assign rfl rfl); apply run_step rfl; (exact stp_assign rfl rfl); refine run_nil ?_; refine fin_seq ?_; refine goes_ret ?_)
    exact fin_ret2 (.inl rfl) rfl (.tmp rfl) (.tmp rfl) ⟨rfl, trivial⟩ trivial
set_option maxRecDepth 100000 in
set_option maxHeartbeats 1000000 in
theorem specPO_no (g : Int) (rels : List (List Int)) (h1 : Fit rels) (hk : ¬ elOk (g, rels) []) :
    FC Try.prog 38 [(1003, rowsRo rels)] [pA g rels.length] [] (.tup [.one (.val (.slice none 0 0)), .one (.val (I6 (elC (g, rels) [])))]) [] := by
  have hE := (specEl_no h1 (by simp) hk).nilE
  have hc := elC_no hk
  refine fc_enter (nt := 45) Try.func38 rfl rfl (by simp) fun w0 ω0 => ?_
  (refine goes_seq ?_; refine goes_region ?_; apply run_step rfl; (exact stp_box rfl rfl rfl rfl); apply run_step rfl; (exact stp_assign rfl rfl); apply run_step rfl; (exact stp_assign rfl rfl); refine run_nil ?_; refine fin_seq ?_; refine goes_seq ?_; refine goes_region ?_; apply run_step rfl; (exact stp_loadAgg rfl rfl rfl rfl rfl rfl (by as_aux_lemma => kernel_rfl)); apply run_step rfl; (apply call_gate 53; exact stp_callR hE (by as_aux_lemma => kernel_rfl) rfl rfl ⟨⟨.inl rfl, .inl rfl, trivial⟩, rfl, trivial⟩ ⟨⟨_, rfl, .inl rfl⟩, trivial⟩ rfl rfl); apply run_step rfl; (exact stp_move rfl rfl); apply run_step rfl; (exact stp_extract rfl rfl rfl); apply run_step rfl; (exact stp_extract rfl rfl rfl); apply run_step rfl; (exact stp_assign rfl rfl); apply run_step rfl; (exact stp_assign rfl rfl); refine run_nil ?_; refine fin_seq ?_; refine goes_seq ?_; refine goes_seq ?_; refine goes_region ?_; apply run_step rfl; (exact stp_move rfl rfl); apply run_step rfl; (exact stp_bin rfl rfl rfl rfl); refine run_nil ?_; refine fin_seq ?_)
  refine goes_cond rfl (fun _ => ?_) (fun e => ?_)
  · (refine goes_seq ?_; refine goes_region ?_; apply run_step rfl; (exact stp_move rfl rfl); apply run_step rfl; (exact stp_assign rfl rfl); apply run_step rfl; (exact stp_assign rfl rfl); refine run_nil ?_; refine fin_seq ?_; refine goes_ret ?_; refine fin_ret_then ?_)
    exact fin_ret2 (.inl rfl) rfl (.tmp rfl) (.tmp rfl) trivial trivial
  · exfalso; simp at e; exact hc e

set_option maxRecDepth 100000 in
set_option maxHeartbeats 2000000 in
theorem implPO_yes (ng : Nat) (rels : List (List Int)) (h1 : Fit rels) (hG : Good ng rels []) (hk : elOk ((ng : Int), rels) []) :
    FC Try.prog 39 [(1003, rowsRo rels)] [pA ng rels.length] [(6, imOw (poL (cosTab ((ng : Int), rels) []) ng (cosN ((ng : Int), rels) [])))] (.tup [.one (.sl 6 0 ng), .one (.val (I6 0))]) [] := by
  have hE := (implEl_yes h1 (by simp) hG hk).nilE
  have hs := smallOk_run hk.2.2
  have hng := hG.hi
  have hO : ∀ i k, i < ng → k < ng → FC Try.prog 58 [(1005, imRo (cosTab ((ng : Int), rels) [])), (32, wRo [(i : Int), (k : Int)])] [o1 (.sl 1005 0 ng), o1 (.sl 32 0 2)] [] (vv (I6 (ordR (cosTab ((ng : Int), rels) []) [(i : Int), (k : Int)] (cosN ((ng : Int), rels) [])))) [] := fun i k hi hk =>
    (implOrder_fc _ [(i : Int), (k : Int)] _ ng (cosTab_len _ _ _) (cosTab_leads hG hs.1) (cosTab_invol hG hs.1) (cosN_pos hG hs.1) (by omega) (by omega) (two_letters (cosTab_len _ _ _) hi hk) (by simp)).nm [(1005, 1005), (1004, 32)] (by kernel_rfl)
  refine fc_enter (nt := 43) Try.func39 rfl rfl (by simp) fun w0 ω0 => ?_
  generalize cosN ((ng : Int), rels) [] = N at *
  generalize cosTab ((ng : Int), rels) [] = T at *
  (refine goes_seq ?_; refine goes_region ?_; apply run_step rfl; (exact stp_box rfl rfl rfl rfl); apply run_step rfl; (exact stp_assign rfl rfl); apply run_step rfl; (exact stp_assign rfl rfl); refine run_nil ?_; refine fin_seq ?_; refine goes_seq ?_; refine goes_region ?_; apply run_step rfl; (exact stp_loadAgg rfl rfl rfl rfl rfl rfl (by as_aux_lemma => kernel_rfl)); apply run_step rfl; (apply call_gate 55; exact stp_callN hE (by as_aux_lemma => kernel_rfl) rfl rfl ⟨⟨.inl rfl, .inl rfl, trivial⟩, rfl, trivial⟩ ⟨⟨_, rfl, .inl rfl⟩, trivial⟩ rfl rfl rfl); apply run_step rfl; (exact stp_move rfl rfl); apply run_step rfl; (exact stp_extract rfl rfl rfl); apply run_step rfl; (exact stp_extract rfl rfl rfl); apply run_step rfl; (exact stp_assign rfl rfl); apply run_step rfl; (exact stp_assign rfl rfl); refine run_nil ?_; refine fin_seq ?_; refine goes_seq ?_; refine goes_seq ?_; refine goes_region ?_; apply run_step rfl; (exact stp_move rfl rfl); apply run_step rfl; (exact stp_bin rfl rfl rfl rfl); refine run_nil ?_; refine fin_seq ?_)
  refine goes_cond rfl (fun e => by cases e) (fun _ => ?_)
  (refine goes_skip ?_; refine fin_seq ?_; refine goes_seq ?_; refine goes_region ?_; apply run_step rfl; (exact stp_assign rfl rfl); refine run_nil ?_; refine fin_seq ?_; refine goes_seq ?_; refine goes_seq ?_; refine goes_region ?_; apply run_step rfl; (exact stp_fieldAddr (d := 0) rfl rfl rfl (by as_aux_lemma => kernel_rfl)); apply run_step rfl; (exact stp_loadF rfl (by as_aux_lemma => kernel_rfl) rfl rfl rfl rfl); apply run_step rfl; (exact stp_move rfl rfl); refine run_nil ?_; refine fin_seq ?_; refine goes_block ?_)
  refine goes_wk (wk_nil (t := 6) (n := 6) (k := 1) (E := 37) (d := .rows 2 (irows []) []) rfl rfl) ?_
  refine goes_loop (fun i : Nat => St.of [(1, o1 (.ptr 1 0)), (4, o1 (.sl 1005 0 ng)), (6, o1 (.sl 6 0 i)), (19, vv (I6 ng)), (20, vv (I6 i))] [(1, ⟨true, 28, 2, .flat [.val (I6 ng), .sl 1003 0 rels.length]⟩), (1005, imOw T), (6, imOw ((List.range i).map (poRow T ng N)))]) (fun i => i ≤ ng) (fun i => ng - i) 0 (Nat.zero_le _) (Wk.of ⟨rfl, rfl, rfl, rfl, rfl, trivial⟩ ⟨rfl, rfl, rfl, trivial⟩ trivial) ?_
  intro i hi
  (refine goes_seq ?_; refine goes_region ?_; apply run_step rfl; (exact stp_bin rfl rfl rfl rfl); refine run_nil ?_; refine fin_seq ?_; refine goes_seq ?_)
  refine goes_if rfl (fun hlt => ?_) (fun hlt => ?_)
  · have hlt' : i < ng := by omega
    (refine goes_skip ?_; refine fin_seq ?_; refine goes_seq ?_; refine goes_block ?_; refine goes_seq ?_; refine goes_region ?_; apply run_step rfl; (exact stp_move rfl rfl); apply run_step rfl; (exact stp_assign rfl rfl); refine run_nil ?_; refine fin_seq ?_; refine goes_seq ?_; refine goes_region ?_; apply run_step rfl; (exact stp_assign rfl rfl); refine run_nil ?_; refine fin_seq ?_; refine goes_seq ?_; refine goes_seq ?_; refine goes_region ?_; apply run_step rfl; (exact stp_fieldAddr (d := 0) rfl rfl rfl (by as_aux_lemma => kernel_rfl)); apply run_step rfl; (exact stp_loadF rfl (by as_aux_lemma => kernel_rfl) rfl rfl rfl rfl); apply run_step rfl; (exact stp_move rfl rfl); refine run_nil ?_; refine fin_seq ?_; refine goes_block ?_)
    refine goes_wk (wk_nil (t := 8) (n := 8) (k := 1) (E := 2) (d := .vals (ivals [])) rfl rfl) ?_
    refine goes_loop (fun k : Nat => St.of [(1, o1 (.ptr 1 0)), (4, o1 (.sl 1005 0 ng)), (6, o1 (.sl 6 0 i)), (7, vv (I6 i)), (8, o1 (.sl 8 0 k)), (19, vv (I6 ng)), (20, vv (I6 i)), (24, vv (I6 ng)), (25, vv (I6 k))] [(1, ⟨true, 28, 2, .flat [.val (I6 ng), .sl 1003 0 rels.length]⟩), (1005, imOw T), (6, imOw ((List.range i).map (poRow T ng N))), (8, leOw ((List.range k).map fun k : Nat => ordR T [(i : Int), (k : Int)] N))]) (fun k => k ≤ ng) (fun k => ng - k) 0 (Nat.zero_le _) (Wk.of ⟨rfl, rfl, rfl, rfl, rfl, rfl, rfl, rfl, rfl, trivial⟩ ⟨rfl, rfl, rfl, rfl, trivial⟩ trivial) ?_
    intro k hk
    (refine goes_seq ?_; refine goes_region ?_; apply run_step rfl; (exact stp_bin rfl rfl rfl rfl); refine run_nil ?_; refine fin_seq ?_; refine goes_seq ?_)
    refine goes_if rfl (fun hlk => ?_) (fun hlk => ?_)
    · have hlk' : k < ng := by omega
      have hOik := hO i k hlt' hlk'
      have hkl : ((List.range k).map fun k : Nat => ordR T [(i : Int), (k : Int)] N).length = k := by simp
      (refine goes_skip ?_; refine fin_seq ?_; refine goes_seq ?_; refine goes_block ?_; refine goes_seq ?_; refine goes_region ?_; apply run_step rfl; (exact stp_move rfl rfl); apply run_step rfl; (exact stp_assign rfl rfl); refine run_nil ?_; refine fin_seq ?_; refine goes_region ?_; apply run_step rfl; (exact stp_move rfl rfl); apply run_step rfl; (exact stp_move rfl rfl); apply run_step rfl; (exact stp_move rfl rfl); apply run_step rfl; (exact stp_move rfl rfl); apply run_step rfl; (exact stp_lit2I (E := 2) rfl (by as_aux_lemma => kernel_rfl) rfl rfl); apply run_step rfl; (apply call_gate 58; exact stp_callR hOik (by as_aux_lemma => kernel_rfl) rfl rfl ⟨rfl, rfl, trivial⟩ ⟨⟨_, rfl, .inr rfl⟩, ⟨_, rfl, .inr rfl⟩, trivial⟩ rfl rfl); apply run_step rfl; (exact stp_lit1I (E := 2) rfl (by as_aux_lemma => kernel_rfl) rfl); apply run_step rfl; (exact stp_appI rfl (by as_aux_lemma => kernel_rfl) rfl rfl rfl (by first | rfl | assumption | (simp; done)) rfl rfl (by omega)); apply run_step rfl; (exact stp_assign rfl rfl); refine run_nil ?_; refine fin_block ?_; refine fin_seq ?_; refine goes_region ?_; apply run_step rfl; (exact stp_add rfl rfl rfl (by first | exact IntWalk.i64_in _ (by omega) | rfl)); apply run_step rfl; (exact stp_move rfl rfl); refine run_nil ?_)
      exact fin_round (k + 1) hlk' (by omega) (Wk.of ⟨rfl, rfl, rfl, rfl, rfl, rfl, rfl, rfl, rfl, trivial⟩ ⟨rfl, rfl, rfl, by rw [List.range_succ, List.map_append, List.map_singleton]; rfl, trivial⟩ trivial)
    · obtain rfl : k = ng := by omega
      have hil : ((List.range i).map (poRow T k N)).length = i := by simp
      have hrow : (List.range (i + 1)).map (poRow T k N) = (List.range i).map (poRow T k N) ++ [(List.range k).map fun k : Nat => ordR T [(i : Int), (k : Int)] N] := by rw [List.range_succ (n := i), List.map_append]; rfl
      have hkl : ((List.range k).map fun k : Nat => ordR T [(i : Int), (k : Int)] N).length = k := by simp
      (refine goes_exit ?_; refine fin_exit_then ?_; refine fin_exit_then ?_; refine fin_exit_eq ?_; refine fin_seq ?_; refine goes_region ?_; apply run_step rfl; (exact stp_move rfl rfl); apply run_step rfl; (exact stp_move rfl rfl); apply run_step rfl; (exact stp_lit1 (E := 37) rfl (by as_aux_lemma => kernel_rfl) rfl rfl rfl); apply run_step rfl; (exact stp_appR rfl (by as_aux_lemma => kernel_rfl) rfl rfl (by first | rfl | assumption | (simp; done)) rfl rfl rfl (by first | rfl | assumption | (simp; done)) rfl (by omega)); apply run_step rfl; (exact stp_assign rfl rfl); refine run_nil ?_; refine fin_block ?_; refine fin_seq ?_; refine goes_region ?_; apply run_step rfl; (exact stp_add rfl rfl rfl (by first | exact IntWalk.i64_in _ (by omega) | rfl)); apply run_step rfl; (exact stp_move rfl rfl); refine run_nil ?_)
      exact fin_round (i + 1) hlt' (by omega) (Wk.of ⟨rfl, rfl, rfl, rfl, rfl, trivial⟩ ⟨rfl, rfl, by rw [hrow]; rfl, trivial⟩ trivial)
  · obtain rfl : i = ng := by omega
    (refine goes_exit ?_; refine fin_exit_then ?_; refine fin_exit_then ?_; refine fin_exit_eq ?_; refine fin_seq ?_; refine goes_seq ?_; refine goes_region ?_; apply run_step rfl; (exact stp_move rfl rfl); apply run_step rfl; (exact stp_assign rfl rfl); apply run_step rfl; (exact stp_assign rfl rfl); refine run_nil ?_; refine fin_seq ?_; refine goes_ret ?_)
    exact fin_ret2 (.inl rfl) rfl (.tmp rfl) (.tmp rfl) ⟨rfl, trivial⟩ trivial
set_option maxRecDepth 100000 in
set_option maxHeartbeats 1000000 in
theorem implPO_no (g : Int) (rels : List (List Int)) (h1 : Fit rels) (hk : ¬ elOk (g, rels) []) :
    FC Try.prog 39 [(1003, rowsRo rels)] [pA g rels.length] [] (.tup [.one (.val (.slice none 0 0)), .one (.val (I6 (elC (g, rels) [])))]) [] := by
  have hE := (implEl_no h1 (by simp) hk).nilE
  have hc := elC_no hk
  refine fc_enter (nt := 43) Try.func39 rfl rfl (by simp) fun w0 ω0 => ?_
  (refine goes_seq ?_; refine goes_region ?_; apply run_step rfl; (exact stp_box rfl rfl rfl rfl); apply run_step rfl; (exact stp_assign rfl rfl); apply run_step rfl; (exact stp_assign rfl rfl); refine run_nil ?_; refine fin_seq ?_; refine goes_seq ?_; refine goes_region ?_; apply run_step rfl; (exact stp_loadAgg rfl rfl rfl rfl rfl rfl (by as_aux_lemma => kernel_rfl)); apply run_step rfl; (apply call_gate 55; exact stp_callR hE (by as_aux_lemma => kernel_rfl) rfl rfl ⟨⟨.inl rfl, .inl rfl, trivial⟩, rfl, trivial⟩ ⟨⟨_, rfl, .inl rfl⟩, trivial⟩ rfl rfl); apply run_step rfl; (exact stp_move rfl rfl); apply run_step rfl; (exact stp_extract rfl rfl rfl); apply run_step rfl; (exact stp_extract rfl rfl rfl); apply run_step rfl; (exact stp_assign rfl rfl); apply run_step rfl; (exact stp_assign rfl rfl); refine run_nil ?_; refine fin_seq ?_; refine goes_seq ?_; refine goes_seq ?_; refine goes_region ?_; apply run_step rfl; (exact stp_move rfl rfl); apply run_step rfl; (exact stp_bin rfl rfl rfl rfl); refine run_nil ?_; refine fin_seq ?_)
  refine goes_cond rfl (fun _ => ?_) (fun e => ?_)
  · (refine goes_seq ?_; refine goes_region ?_; apply run_step rfl; (exact stp_move rfl rfl); apply run_step rfl; (exact stp_assign rfl rfl); apply run_step rfl; (exact stp_assign rfl rfl); refine run_nil ?_; refine fin_seq ?_; refine goes_ret ?_; refine fin_ret_then ?_)
    exact fin_ret2 (.inl rfl) rfl (.tmp rfl) (.tmp rfl) trivial trivial
  · exfalso; simp at e; exact hc e
theorem poR_small (d : PresD) : (poR d).length ≤ 5 ∧ lenSS (poR d) ≤ 25 := by
  unfold poR
  split
  · rename_i hc
    obtain ⟨g, rels⟩ := d
    have hok : elOk (g, rels) [] := Classical.byContradiction fun h => elC_no h hc
    obtain ⟨ng, rfl, hG⟩ := good_nil hok.1
    have h5 := hG.hi
    rw [show ((ng : Int), rels).1.toNat = ng from rfl]
    have hl := poL_len (cosTab ((ng : Int), rels) []) ng (cosN ((ng : Int), rels) [])
    have := lenSS_le (zss := poL (cosTab ((ng : Int), rels) []) ng (cosN ((ng : Int), rels) [])) (k := 5) fun z hz => by
      obtain ⟨j, _, rfl⟩ := List.mem_map.1 hz
      rw [poRow_len]; omega
    omega
  · simp [lenSS]
theorem api_specPO {E1 E : Nat} {lo hi : Nat} {v : Value} {d : PresD} (w : World) (h : OwP E1 E w lo hi v d) :
    Calls Try.prog 38 #[v] w fun e w' => ∃ r, e = .returned (.tuple #[r, .int .i64 (elC d [])]) ∧ OwSS 2 37 w' w.heap.size w'.heap.size r (poR d) ∧ Below w.heap.size w w' := by
  obtain ⟨g, rels⟩ := d
  by_cases hok : elOk (g, rels) []
  · obtain ⟨ng, rfl, hG⟩ := good_nil hok.1
    have hc := elC_ok hok
    have hr : poR ((ng : Int), rels) = poL (cosTab ((ng : Int), rels) []) ng (cosN ((ng : Int), rels) []) := by unfold poR; rw [if_pos hc]; rfl
    have h5 := hG.hi
    rw [hr, hc]
    refine (callP (d := ((ng : Int), rels)) (fun k1 => specPO_yes ng rels k1 hG hok) h).mono ?_
    rintro e w' ⟨v, η, ω, rfl, hd, hm, hb, hn⟩
    obtain ⟨u, u', rfl, h1, h2⟩ := den_tup2 hd
    have h2 : u' = I6 0 := h2
    subst h2
    refine ⟨u, rfl, toSS (x := 18) hm hn rfl (by rw [poL_len]; exact h1) (by rw [poL_len]; omega) (fun zs hz => ?_), hb⟩
    obtain ⟨j, _, rfl⟩ := List.mem_map.1 hz
    rw [poRow_len]; omega
  · have hc := elC_no hok
    have hr : poR (g, rels) = [] := if_neg hc
    rw [hr]
    refine (two_vals (callP (d := (g, rels)) (fun k1 => specPO_no g rels k1 hok) h)).mono ?_
    rintro e w' ⟨rfl, hb⟩
    exact ⟨_, rfl, owSS_nil, hb⟩
theorem api_implPO {E1 E : Nat} {lo hi : Nat} {v : Value} {d : PresD} (w : World) (h : OwP E1 E w lo hi v d) :
    Calls Try.prog 39 #[v] w fun e w' => ∃ r, e = .returned (.tuple #[r, .int .i64 (elC d [])]) ∧ OwSS 2 37 w' w.heap.size w'.heap.size r (poR d) ∧ Below w.heap.size w w' := by
  obtain ⟨g, rels⟩ := d
  by_cases hok : elOk (g, rels) []
  · obtain ⟨ng, rfl, hG⟩ := good_nil hok.1
    have hc := elC_ok hok
    have hr : poR ((ng : Int), rels) = poL (cosTab ((ng : Int), rels) []) ng (cosN ((ng : Int), rels) []) := by unfold poR; rw [if_pos hc]; rfl
    have h5 := hG.hi
    rw [hr, hc]
    refine (callP (d := ((ng : Int), rels)) (fun k1 => implPO_yes ng rels k1 hG hok) h).mono ?_
    rintro e w' ⟨v, η, ω, rfl, hd, hm, hb, hn⟩
    obtain ⟨u, u', rfl, h1, h2⟩ := den_tup2 hd
    have h2 : u' = I6 0 := h2
    subst h2
    refine ⟨u, rfl, toSS (x := 6) hm hn rfl (by rw [poL_len]; exact h1) (by rw [poL_len]; omega) (fun zs hz => ?_), hb⟩
    obtain ⟨j, _, rfl⟩ := List.mem_map.1 hz
    rw [poRow_len]; omega
  · have hc := elC_no hok
    have hr : poR (g, rels) = [] := if_neg hc
    rw [hr]
    refine (two_vals (callP (d := (g, rels)) (fun k1 => implPO_no g rels k1 hok) h)).mono ?_
    rintro e w' ⟨rfl, hb⟩
    exact ⟨_, rfl, owSS_nil, hb⟩
end Go.Proofs.Ytpjglifijdcgnaa

/- LengthsOf. -/
namespace Go.Proofs.Ytpjglifijdcgnaa
open Go.RowKit

section
variable {P : Program} {nt : Nat} {S : St} {t : Nat} {ty : TypeId} {ps : String} {af : Array Edge} {gd : Option (Nat × Bool)}
/-- a struct of one slice -/
theorem stp_buildS1 {T : TypeId} {x0 : Operand} {b0 : A1} {n0 : Nat} (ht : Nat.blt t nt = true) (hx0 : S.op x0 = some (o1 b0)) (hl0 : b0.len = some n0)
    (hb : ∀ ao n c, P.built T [(0, .slice ao n c)] = some #[.slice ao n c]) :
    Stp P nt ⟨some t, .build T #[(0, x0)], ty, ps, af, gd⟩ S (S.put t (.s (.agg [b0]))) :=
  Stp.of _ fun w0 ω0 η ω a w hs => by
    have d0 : Den1 η b0 (a.eval x0) := hs.opv hx0
    obtain ⟨ao, c, e0⟩ := d0.len_ hl0
    refine ⟨.agg #[a.eval x0], w, ?_, η, ω, hs.putV (by simpa using ht) (⟨_, rfl, by simp, fun j b hb => ?_⟩ : Den2 η (.agg [b0]) _)⟩
    · simp only [execOp]
      have := run_build w T #[(0, .slice ao n0 c)] _ (hb ao n0 c)
      simp [e0, this]
    · match j, hb with
      | 0, hb => simp at hb; subst hb; exact ⟨_, by simp, d0⟩
      | j + 1, hb => simp at hb
end
abbrev mxRo (ng : Nat) : Ch := ⟨false, 69, 1, .flat [.sl 1005 0 ng]⟩
def lensI (L : List Nat) : List Int := L.map fun l : Nat => (l : Int)
theorem lensI_len (L : List Nat) : (lensI L).length = L.length := by simp [lensI]
theorem lensI_get {L : List Nat} {i : Nat} (h : i < L.length) : iget (lensI L) i = ((L[i] : Nat) : Int) := by simp [lensI, iget, h]
theorem take_snoc {L : List Nat} {i : Nat} (h : i < L.length) : L.take (i + 1) = L.take i ++ [L[i]] := by rw [List.take_add_one, List.getElem?_eq_getElem h]; rfl

set_option maxRecDepth 100000 in
set_option maxHeartbeats 1000000 in
theorem flags_fc (T : List (List Int)) (ng n : Nat) (hng : T.length = ng) (hpos : 0 < ng) (hT : Leads T n) :
    FC Try.prog 83 [(1010, mxRo ng), (1005, imRo T)] [o1 (.ptr 1010 0)] [] (vv (I6 n)) [] := by
  have hlen : (irows T).length = ng := by rw [irows_len, hng]
  have hr0 : (lget T 0).length = n := hT.len 0 (by omega)
  have hrow : (irows T)[0]? = some (ivals (lget T 0)) := irows_get (by omega)
  have hSz := sizeE_fc 1005 0 n
  rw [← hr0] at hSz ⊢
  refine fc_enter (nt := 10) Try.func83 rfl rfl (by simp) fun w0 ω0 => ?_
  (refine goes_seq ?_; refine goes_region ?_; apply run_step rfl; (exact stp_assign rfl rfl); refine run_nil ?_; refine fin_seq ?_; refine goes_seq ?_; refine goes_region ?_; apply run_step rfl; (exact stp_move rfl rfl); apply run_step rfl; (exact stp_nilCheck rfl rfl rfl); apply run_step rfl; (exact stp_fieldAddr (d := 0) rfl rfl rfl (by as_aux_lemma => kernel_rfl)); apply run_step rfl; (exact stp_loadF rfl (by as_aux_lemma => kernel_rfl) rfl rfl rfl rfl); apply run_step rfl; (first | exact stp_ix (j := 0) rfl rfl rfl rfl rfl (by as_aux_lemma => kernel_rfl) rfl hpos (Nat.le_of_eq hlen.symm) | (apply call_gate 48; exact stp_callR hSz (by as_aux_lemma => kernel_rfl) rfl rfl ⟨rfl, trivial⟩ trivial rfl rfl)); apply run_step rfl; (exact stp_loadR rfl (by as_aux_lemma => kernel_rfl) rfl rfl rfl (by first | assumption | exact ivals_get (by assumption) | exact irows_get (by assumption) | exact ivals_get (by omega) | exact irows_get (by omega) | rfl) (by first | exact ivals_len _ | assumption | rfl)); apply run_step rfl; (first | exact stp_ix (j := 0) rfl rfl rfl rfl rfl (by as_aux_lemma => kernel_rfl) rfl hpos (Nat.le_of_eq hlen.symm) | (apply call_gate 48; exact stp_callR hSz (by as_aux_lemma => kernel_rfl) rfl rfl ⟨rfl, trivial⟩ trivial rfl rfl)); apply run_step rfl; (exact stp_assign rfl rfl); refine run_nil ?_; refine fin_seq ?_; refine goes_ret ?_)
  exact fin_ret1 (.inl rfl) rfl (.tmp rfl) trivial trivial
set_option maxRecDepth 100000 in
set_option maxHeartbeats 1000000 in
theorem max_fc (L : List Nat) (n : Nat) (hn : L.length = n) (hpos : 0 < n) (hn4 : n ≤ 1000000) :
    FC Try.prog 65 [(1005, leRo (lensI L))] [o1 (.sl 1005 0 n)] [] (vv (I6 ((topL L - 1 : Nat) : Int))) [] := by
  have hl : (lensI L).length = n := by rw [lensI_len]; exact hn
  refine fc_enter (nt := 25) Try.func65 rfl rfl (by simp) fun w0 ω0 => ?_
  (refine goes_seq ?_; refine goes_region ?_; apply run_step rfl; (exact stp_assign rfl rfl); refine run_nil ?_; refine fin_seq ?_; refine goes_seq ?_; refine goes_seq ?_; refine goes_region ?_; apply run_step rfl; (exact stp_move rfl rfl); apply run_step rfl; (exact stp_len rfl rfl rfl (by as_aux_lemma => kernel_rfl)); apply run_step rfl; (exact stp_bin rfl rfl rfl rfl); refine run_nil ?_; refine fin_seq ?_)
  refine goes_if rfl (fun h => ?_) (fun h => ?_)
  · omega
  have hg0 : (ivals (lensI L))[0]? = some (I6 ((topL (L.take 1) - 1 : Nat) : Int)) := by
    rw [ivals_get (by omega), lensI_get (by omega), take_snoc (by omega)]; simp [topL]
  (refine goes_skip ?_; refine fin_seq ?_; refine goes_seq ?_; refine goes_region ?_; apply run_step rfl; (exact stp_move rfl rfl); apply run_step rfl; (exact stp_ix rfl rfl rfl rfl rfl (by as_aux_lemma => kernel_rfl) (by first | rfl | exact (Int.toNat_of_nonneg (by omega)).symm) (by first | assumption | omega | (simp; omega)) (by first | exact Nat.le_refl _ | exact Nat.le_of_eq (ivals_len _).symm | exact Nat.le_of_eq (irows_len _).symm | (refine Nat.le_trans ?_ (Nat.le_of_eq (ivals_len _).symm); (first | omega | (simp; done) | (simp; omega))) | (refine Nat.le_trans ?_ (Nat.le_of_eq (irows_len _).symm); (first | omega | (simp; done) | (simp; omega))))); apply run_step rfl; (exact stp_loadV rfl (by as_aux_lemma => kernel_rfl) rfl rfl rfl (by first | assumption | exact ivals_get (by assumption) | exact irows_get (by assumption) | exact ivals_get (by omega) | exact irows_get (by omega) | rfl)); apply run_step rfl; (exact stp_assign rfl rfl); refine run_nil ?_; refine fin_seq ?_; refine goes_seq ?_; refine goes_seq ?_; refine goes_region ?_; apply run_step rfl; (exact stp_assign rfl rfl); refine run_nil ?_; refine fin_seq ?_; refine goes_block ?_)
  refine goes_loop (fun i : Nat => St.of [(0, o1 (.sl 1005 0 n)), (3, vv (I6 ((topL (L.take i) - 1 : Nat) : Int))), (4, vv (I6 i))] [(1005, leRo (lensI L))]) (fun i => 1 ≤ i ∧ i ≤ n) (fun i => n - i) 1 ⟨Nat.le_refl _, hpos⟩ (Wk.of ⟨rfl, rfl, rfl, trivial⟩ ⟨rfl, trivial⟩ trivial) ?_
  rintro i ⟨hi1, hi2⟩
  (refine goes_seq ?_; refine goes_seq ?_; refine goes_region ?_; apply run_step rfl; (exact stp_move rfl rfl); apply run_step rfl; (exact stp_move rfl rfl); apply run_step rfl; (exact stp_len rfl rfl rfl (by as_aux_lemma => kernel_rfl)); apply run_step rfl; (exact stp_bin rfl rfl rfl rfl); refine run_nil ?_; refine fin_seq ?_)
  refine goes_if rfl (fun hlt => ?_) (fun hlt => ?_)
  · have hlt' : i < L.length := by omega
    have hgi : (ivals (lensI L))[i]? = some (I6 ((L[i] : Nat) : Int)) := by rw [ivals_get (by omega), lensI_get hlt']
    have h1 : 1 ≤ topL (L.take i) := by
      have := lt_topL (L := L.take i) (x := L[0]) (by rw [List.mem_iff_getElem]; exact ⟨0, by simp; omega, by simp⟩)
      omega
    have hnx : max (topL (L.take i) - 1) L[i] = topL (L.take (i + 1)) - 1 := by rw [take_snoc hlt', topL_snoc]; omega
    (refine goes_skip ?_; refine fin_seq ?_; refine goes_seq ?_; refine goes_block ?_; refine goes_region ?_; apply run_step rfl; (exact stp_move rfl rfl); apply run_step rfl; (exact stp_move rfl rfl); apply run_step rfl; (exact stp_move rfl rfl); apply run_step rfl; (exact stp_ix rfl rfl rfl rfl rfl (by as_aux_lemma => kernel_rfl) (by first | rfl | exact (Int.toNat_of_nonneg (by omega)).symm) (by first | assumption | omega | (simp; omega)) (by first | exact Nat.le_refl _ | exact Nat.le_of_eq (ivals_len _).symm | exact Nat.le_of_eq (irows_len _).symm | (refine Nat.le_trans ?_ (Nat.le_of_eq (ivals_len _).symm); (first | omega | (simp; done) | (simp; omega))) | (refine Nat.le_trans ?_ (Nat.le_of_eq (irows_len _).symm); (first | omega | (simp; done) | (simp; omega))))); apply run_step rfl; (exact stp_loadV rfl (by as_aux_lemma => kernel_rfl) rfl rfl rfl (by first | assumption | exact ivals_get (by assumption) | exact irows_get (by assumption) | exact ivals_get (by omega) | exact irows_get (by omega) | rfl)); apply run_step rfl; (exact stp_maxN rfl rfl rfl); apply run_step rfl; (exact stp_assign rfl rfl); refine run_nil ?_; refine fin_block ?_; refine fin_seq ?_; refine goes_region ?_; apply run_step rfl; (exact stp_move rfl rfl); apply run_step rfl; (exact stp_add rfl rfl rfl (by first | exact IntWalk.i64_in _ (by omega) | rfl)); apply run_step rfl; (exact stp_assign rfl rfl); refine run_nil ?_)
    exact fin_round (i + 1) ⟨by omega, by omega⟩ (by omega) (Wk.of ⟨rfl, by rw [← hnx]; rfl, rfl, trivial⟩ ⟨rfl, trivial⟩ trivial)
  · obtain rfl : i = n := by omega
    rw [show L.take i = L by rw [← hn, List.take_length]]
    (refine goes_exit ?_; refine fin_exit_then ?_; refine fin_exit_then ?_; refine fin_exit_eq ?_; refine fin_seq ?_; refine goes_seq ?_; refine goes_region ?_; apply run_step rfl; (exact stp_move rfl rfl); apply run_step rfl; (exact stp_assign rfl rfl); refine run_nil ?_; refine fin_seq ?_; refine goes_ret ?_)
    exact fin_ret1 (.inl rfl) rfl (.tmp rfl) trivial trivial

set_option maxRecDepth 100000 in
set_option maxHeartbeats 2000000 in
theorem far_fc (T : List (List Int)) (ng n : Nat) (hng : T.length = ng) (hpos : 0 < ng) (hT : Leads T n) (hn : 0 < n) (hn4 : n ≤ 400) (hg5 : ng ≤ 5) :
    FC Try.prog 64 [(1010, mxRo ng), (1005, imRo T)] [o1 (.ptr 1010 0), vv (I6 0)] [(14, leOw (farL (bfs T ng n)))] (o1 (.sl 14 0 n)) [] := by
  have hlen : (irows T).length = ng := by rw [irows_len, hng]
  have hFg := flags_fc T ng n hng hpos hT
  have hR : FC Try.prog 71 [(11, ⟨false, 2, 1, .vals (ivals [-1])⟩)] [o1 (.sl 11 0 1), vv (I6 n)] [(14, ⟨true, 2, 1, .vals (ivals (List.replicate n (-1)))⟩)] (o1 (.sl 14 0 n)) [] := repeat1_fc 11 14 n (-1) (by omega) hn
  have hrp : (List.replicate n (-1 : Int)).length = n := by simp
  refine fc_enter (nt := 60) Try.func64 rfl rfl (by simp) fun w0 ω0 => ?_
  (refine goes_seq ?_; refine goes_region ?_; apply run_step rfl; (exact stp_assign rfl rfl); refine run_nil ?_; refine fin_seq ?_; refine goes_seq ?_; refine goes_region ?_; apply run_step rfl; (exact stp_lit1I (E := 2) rfl (by as_aux_lemma => kernel_rfl) rfl); apply run_step rfl; (exact stp_move rfl rfl); apply run_step rfl; (first | (apply call_gate 83; exact stp_callR hFg (by as_aux_lemma => kernel_rfl) rfl rfl ⟨rfl, trivial⟩ ⟨⟨_, rfl, .inl rfl⟩, ⟨_, rfl, .inl rfl⟩, trivial⟩ rfl rfl) | (apply call_gate 71; exact stp_callN hR (by as_aux_lemma => kernel_rfl) rfl rfl ⟨rfl, rfl, trivial⟩ ⟨⟨_, rfl, .inr rfl⟩, trivial⟩ rfl rfl rfl) | exact stp_ix (j := 0) rfl rfl rfl rfl rfl (by as_aux_lemma => kernel_rfl) rfl hn (by rw [ivals_len, hrp]; exact Nat.le_refl _) | exact stp_stI rfl rfl rfl rfl rfl (by rw [hrp]; exact hn) (by as_aux_lemma => kernel_rfl)); apply run_step rfl; (first | (apply call_gate 83; exact stp_callR hFg (by as_aux_lemma => kernel_rfl) rfl rfl ⟨rfl, trivial⟩ ⟨⟨_, rfl, .inl rfl⟩, ⟨_, rfl, .inl rfl⟩, trivial⟩ rfl rfl) | (apply call_gate 71; exact stp_callN hR (by as_aux_lemma => kernel_rfl) rfl rfl ⟨rfl, rfl, trivial⟩ ⟨⟨_, rfl, .inr rfl⟩, trivial⟩ rfl rfl rfl) | exact stp_ix (j := 0) rfl rfl rfl rfl rfl (by as_aux_lemma => kernel_rfl) rfl hn (by rw [ivals_len, hrp]; exact Nat.le_refl _) | exact stp_stI rfl rfl rfl rfl rfl (by rw [hrp]; exact hn) (by as_aux_lemma => kernel_rfl)); apply run_step rfl; (exact stp_assign rfl rfl); refine run_nil ?_; refine fin_seq ?_; refine goes_seq ?_; refine goes_region ?_; apply run_step rfl; (exact stp_move rfl rfl); apply run_step rfl; (exact stp_move rfl rfl); apply run_step rfl; (exact stp_ix rfl rfl rfl rfl rfl (by as_aux_lemma => kernel_rfl) (by first | rfl | exact (Int.toNat_of_nonneg (by omega)).symm) (by first | assumption | omega | (simp; omega)) (by first | exact Nat.le_refl _ | exact Nat.le_of_eq (ivals_len _).symm | exact Nat.le_of_eq (irows_len _).symm | (refine Nat.le_trans ?_ (Nat.le_of_eq (ivals_len _).symm); (first | omega | (simp; done) | (simp; omega))) | (refine Nat.le_trans ?_ (Nat.le_of_eq (irows_len _).symm); (first | omega | (simp; done) | (simp; omega))))); apply run_step rfl; (first | (apply call_gate 83; exact stp_callR hFg (by as_aux_lemma => kernel_rfl) rfl rfl ⟨rfl, trivial⟩ ⟨⟨_, rfl, .inl rfl⟩, ⟨_, rfl, .inl rfl⟩, trivial⟩ rfl rfl) | (apply call_gate 71; exact stp_callN hR (by as_aux_lemma => kernel_rfl) rfl rfl ⟨rfl, rfl, trivial⟩ ⟨⟨_, rfl, .inr rfl⟩, trivial⟩ rfl rfl rfl) | exact stp_ix (j := 0) rfl rfl rfl rfl rfl (by as_aux_lemma => kernel_rfl) rfl hn (by rw [ivals_len, hrp]; exact Nat.le_refl _) | exact stp_stI rfl rfl rfl rfl rfl (by rw [hrp]; exact hn) (by as_aux_lemma => kernel_rfl)); refine run_nil ?_; refine fin_seq ?_; refine goes_seq ?_; refine goes_seq ?_; refine goes_region ?_; apply run_step rfl; (exact stp_move rfl rfl); apply run_step rfl; (exact stp_lit1I (E := 2) rfl (by as_aux_lemma => kernel_rfl) rfl); apply run_step rfl; (exact stp_assign rfl rfl); refine run_nil ?_; refine fin_seq ?_; refine goes_block ?_)
  refine goes_loop (fun q : Nat × BSt × List Int × Nat => St.of [(0, o1 (.ptr 1010 0)), (5, o1 (.sl 14 0 n)), (6, o1 (.sl 19 q.2.2.2 (q.2.1.2.2.length - q.1)))] [(1010, mxRo ng), (1005, imRo T), (14, leOw (farL q.2.1)), (19, leOw (q.2.2.1 ++ q.2.1.2.2.drop q.1))])
    (fun q => q.1 ≤ q.2.1.2.2.length ∧ BOK n q.2.1 ∧ bLoop T ng (n + 1 - q.1) q.1 q.2.1 = bfs T ng n ∧ q.2.2.1.length = q.2.2.2) (fun q => n + 1 - q.1) (0, bStart n, [], 0) ⟨Nat.zero_le _, bStart_ok hn, rfl, rfl⟩ (Wk.of ⟨rfl, rfl, rfl, trivial⟩ ⟨rfl, rfl, by rw [farL_start]; rfl, rfl, trivial⟩ trivial) ?_
  clear hrp
  rintro ⟨i, ⟨W, B, O⟩, pre, o⟩ ⟨hi, hok, hl, hpre⟩
  dsimp only at hi hl hpre ⊢
  have hOn : O.length ≤ n := hok.le
  (refine goes_seq ?_; refine goes_seq ?_; refine goes_region ?_; apply run_step rfl; (exact stp_move rfl rfl); apply run_step rfl; (exact stp_len rfl rfl rfl (by as_aux_lemma => kernel_rfl)); apply run_step rfl; (exact stp_bin rfl rfl rfl rfl); refine run_nil ?_; refine fin_seq ?_)
  refine goes_cond rfl (fun h => ?_) (fun h => ?_)
  · have hlt : i < O.length := by
      have := of_decide_eq_true h; omega
    have hl' : bLoop T ng (n - i) (i + 1) (bRow T ng (iget O i).toNat (W, B, O)) = bfs T ng n := by
      rw [← hl, show n + 1 - i = (n - i) + 1 by omega]; exact (bLoop_step (T := T) (ng := ng) (s := (W, B, O)) hlt).symm
    obtain ⟨c, hc1, hc2, hc3⟩ := hok.q i hlt
    dsimp only at hc1 hc3
    rw [hc1, Int.toNat_natCast] at hl'
    have g1 := qGet hpre hlt hc1
    have gl : (o + (O.length - i)) * 1 ≤ (ivals (pre ++ O.drop i)).length := Nat.le_of_eq (qLen hpre hi)
    have hoi : 0 < O.length - i := by omega
    obtain ⟨s0, hs0⟩ : ∃ s0 : BSt, s0 = (W, B, O) := ⟨_, rfl⟩
    have hro : ∀ m, m ≤ ng → BOK n ((List.range m).foldl (bStep T c) s0) ∧ BGrow n s0 ((List.range m).foldl (bStep T c) s0) := fun m hm => bRow_ok hT hng hc2 (by rw [hs0]; exact hok) m hm
    have hO0 : s0.2.2.length = O.length := by rw [hs0]
    have hc0 : iget s0.2.2 i = (c : Int) := by rw [hs0]; exact hc1
    have hcm : bat s0.2.1 c = true := by rw [hs0]; exact hc3
    have hfin : bLoop T ng (n - i) (i + 1) ((List.range ng).foldl (bStep T c) s0) = bfs T ng n := by rw [hs0]; exact hl'
    (refine goes_skip ?_; refine fin_seq ?_; refine goes_seq ?_; refine goes_block ?_; refine goes_seq ?_; refine goes_region ?_; apply run_step rfl; (exact stp_move rfl rfl); apply run_step rfl; (exact stp_indexAddr (k := 1) (j := 0) rfl rfl rfl rfl rfl (by as_aux_lemma => kernel_rfl) rfl hoi gl (by omega)); apply run_step rfl; (exact stp_loadV rfl (by as_aux_lemma => kernel_rfl) rfl rfl rfl (by first | assumption | exact ivals_get (by assumption) | exact irows_get (by assumption) | exact ivals_get (by omega) | exact irows_get (by omega) | rfl)); apply run_step rfl; (exact stp_assign rfl rfl); refine run_nil ?_; refine fin_seq ?_; refine goes_seq ?_; refine goes_region ?_; apply run_step rfl; (exact stp_move rfl rfl); apply run_step rfl; (exact stp_nilCheck rfl rfl rfl); apply run_step rfl; (exact stp_fieldAddr (d := 0) rfl rfl rfl (by as_aux_lemma => kernel_rfl)); apply run_step rfl; (exact stp_loadF rfl (by as_aux_lemma => kernel_rfl) rfl rfl rfl rfl); apply run_step rfl; (exact stp_len rfl rfl rfl (by as_aux_lemma => kernel_rfl)); apply run_step rfl; (exact stp_move rfl rfl); refine run_nil ?_; refine fin_seq ?_; refine goes_block ?_)
    refine goes_loop (fun q : Nat × BSt × List Int × Nat => St.of [(0, o1 (.ptr 1010 0)), (5, o1 (.sl 14 0 n)), (6, o1 (.sl 19 q.2.2.2 (q.2.1.2.2.length - i))), (7, vv (I6 c)), (31, o1 (.sl 1005 0 ng)), (32, vv (I6 ng)), (33, vv (I6 q.1))] [(1010, mxRo ng), (1005, imRo T), (14, leOw (farL q.2.1)), (19, leOw (q.2.2.1 ++ q.2.1.2.2.drop i))])
      (fun q => q.1 ≤ ng ∧ (List.range q.1).foldl (bStep T c) s0 = q.2.1 ∧ q.2.2.1.length = q.2.2.2) (fun q => ng - q.1) (0, (W, B, O), pre, o) ⟨Nat.zero_le _, hs0, hpre⟩ (Wk.of ⟨rfl, rfl, rfl, rfl, rfl, rfl, rfl, trivial⟩ ⟨rfl, rfl, rfl, rfl, trivial⟩ trivial) ?_
    clear hl hl' hok hs0 hc1 g1 gl hpre hc3
    generalize O.length = on at *
    rintro ⟨g, ⟨W, B, O⟩, pre, o⟩ ⟨hg, hfo, hpre⟩
    dsimp only at hg hfo hpre ⊢
    obtain ⟨hok, grw⟩ := hro g hg
    rw [hfo] at hok grw
    have hOl : O.length ≤ n := hok.le
    have hiO : i < O.length := Nat.lt_of_lt_of_le (by omega) grw.len
    have hWl : W.length = n := hok.l1
    have hFl : (farL (W, B, O)).length = n := by rw [farL_len]; exact hWl
    have hci : iget O i = (c : Int) := (grw.pre i (by omega)).trans hc0
    have hcm' : bat B c = true := (grw.met c hc2 hcm).1
    (refine goes_seq ?_; refine goes_region ?_; apply run_step rfl; (exact stp_bin rfl rfl rfl rfl); refine run_nil ?_; refine fin_seq ?_; refine goes_seq ?_)
    refine goes_if rfl (fun h2 => ?_) (fun h2 => ?_)
    · have hgn : g < ng := by omega
      have hd := bTo_lt hT hc2 (g := g) (by omega)
      have hrl : (lget T g).length = n := hT.len g (by omega)
      have hrow : (irows T)[g]? = some (ivals (lget T g)) := irows_get (by omega)
      obtain ⟨d, hdd⟩ : ∃ d, bTo T c g = d := ⟨_, rfl⟩
      have hst : (List.range (g + 1)).foldl (bStep T c) s0 = bVisit (W, B, O) c g d := by
        rw [List.range_succ, List.foldl_append, hfo, ← hdd]; rfl
      rw [hdd] at hd
      have hgetd : (ivals (lget T g))[c]? = some (I6 (d : Int)) := by rw [ivals_get (by omega), hd.2]
      have hWc : (lget W c).length < O.length := hok.len c
      have hFd : (ivals (farL (W, B, O)))[d]? = some (I6 (iget (farL (W, B, O)) d)) := ivals_get (by omega)
      have hFdv : iget (farL (W, B, O)) d = if bat B d = true then ((lget W d).length : Int) else -1 := farL_get (by show d < W.length; omega)
      have hFcv : iget (farL (W, B, O)) c = ((lget W c).length : Int) := by
        have : iget (farL (W, B, O)) c = if bat B c = true then ((lget W c).length : Int) else -1 := farL_get (by show c < W.length; omega)
        rw [this, if_pos hcm']
      have hdl : d * 1 ≤ 1000000 := by omega
      (refine goes_skip ?_; refine fin_seq ?_; refine goes_seq ?_; refine goes_block ?_; refine goes_seq ?_; refine goes_region ?_; apply run_step rfl; (exact stp_ix rfl rfl rfl rfl rfl (by as_aux_lemma => kernel_rfl) (by first | rfl | exact (Int.toNat_of_nonneg (by omega)).symm) (by first | assumption | omega | (simp; omega)) (by first | exact Nat.le_refl _ | exact Nat.le_of_eq (ivals_len _).symm | exact Nat.le_of_eq (irows_len _).symm | (refine Nat.le_trans ?_ (Nat.le_of_eq (ivals_len _).symm); (first | omega | (simp; done) | (simp; omega))) | (refine Nat.le_trans ?_ (Nat.le_of_eq (irows_len _).symm); (first | omega | (simp; done) | (simp; omega))))); apply run_step rfl; (exact stp_loadR rfl (by as_aux_lemma => kernel_rfl) rfl rfl rfl (by first | assumption | exact ivals_get (by assumption) | exact irows_get (by assumption) | exact ivals_get (by omega) | exact irows_get (by omega) | rfl) (by first | exact ivals_len _ | assumption | rfl)); apply run_step rfl; (exact stp_assign rfl rfl); refine run_nil ?_; refine fin_seq ?_; refine goes_seq ?_; refine goes_region ?_; apply run_step rfl; (exact stp_move rfl rfl); apply run_step rfl; (exact stp_move rfl rfl); apply run_step rfl; (exact stp_ixE rfl rfl rfl rfl rfl (by as_aux_lemma => kernel_rfl) (by first | assumption | exact ivals_get (by assumption) | exact irows_get (by assumption) | exact ivals_get (by omega) | exact irows_get (by omega) | rfl) (by first | rfl | exact (Int.toNat_of_nonneg (by omega)).symm) (by first | assumption | omega | (simp; omega)) (by first | exact Nat.le_refl _ | exact Nat.le_of_eq (ivals_len _).symm | exact Nat.le_of_eq (irows_len _).symm | (refine Nat.le_trans ?_ (Nat.le_of_eq (ivals_len _).symm); (first | omega | (simp; done) | (simp; omega))) | (refine Nat.le_trans ?_ (Nat.le_of_eq (irows_len _).symm); (first | omega | (simp; done) | (simp; omega))))); apply run_step rfl; (exact stp_loadE' rfl (by as_aux_lemma => kernel_rfl) rfl rfl rfl (by first | assumption | exact ivals_get (by assumption) | exact irows_get (by assumption) | exact ivals_get (by omega) | exact irows_get (by omega) | rfl) (by first | assumption | exact ivals_get (by assumption) | exact irows_get (by assumption) | exact ivals_get (by omega) | exact irows_get (by omega) | rfl)); apply run_step rfl; (exact stp_assign rfl rfl); refine run_nil ?_; refine fin_seq ?_; refine goes_seq ?_; refine goes_region ?_; apply run_step rfl; (exact stp_move rfl rfl); apply run_step rfl; (exact stp_move rfl rfl); apply run_step rfl; (exact stp_ix rfl rfl rfl rfl rfl (by as_aux_lemma => kernel_rfl) (by first | rfl | exact (Int.toNat_of_nonneg (by omega)).symm) (by first | assumption | omega | (simp; omega)) (by first | exact Nat.le_refl _ | exact Nat.le_of_eq (ivals_len _).symm | exact Nat.le_of_eq (irows_len _).symm | (refine Nat.le_trans ?_ (Nat.le_of_eq (ivals_len _).symm); (first | omega | (simp; done) | (simp; omega))) | (refine Nat.le_trans ?_ (Nat.le_of_eq (irows_len _).symm); (first | omega | (simp; done) | (simp; omega))))); apply run_step rfl; (exact stp_loadV rfl (by as_aux_lemma => kernel_rfl) rfl rfl rfl (by first | assumption | exact ivals_get (by assumption) | exact irows_get (by assumption) | exact ivals_get (by omega) | exact irows_get (by omega) | rfl)); apply run_step rfl; (exact stp_bin rfl rfl rfl rfl); refine run_nil ?_; refine fin_seq ?_)
      refine goes_cond rfl (fun hb => ?_) (fun hb => ?_)
      · have hb : bat B d = false := by
          cases hbb : bat B d with
          | false => rfl
          | true =>
            have := of_decide_eq_true hb
            rw [hFdv, if_pos hbb] at this
            omega
        have hv : bVisit (W, B, O) c g d = (W.set d (lget W c ++ [(g : Int)]), B.set d true, O ++ [(d : Int)]) := if_neg (by rw [hb]; simp)
        have hFv := farL_visit (g := g) hok hc2 hb hcm'
        rw [hv] at hFv
        have hln : (o + (O.length - i)) * 1 = (ivals (pre ++ O.drop i)).length := qLen hpre (by omega)
        have hFc : (ivals (farL (W, B, O)))[c]? = some (I6 (iget (farL (W, B, O)) c)) := ivals_get (by omega)
        (refine goes_seq ?_; refine goes_region ?_; apply run_step rfl; (exact stp_move rfl rfl); apply run_step rfl; (exact stp_move rfl rfl); apply run_step rfl; (exact stp_move rfl rfl); apply run_step rfl; (exact stp_move rfl rfl); apply run_step rfl; (exact stp_ix rfl rfl rfl rfl rfl (by as_aux_lemma => kernel_rfl) (by first | rfl | exact (Int.toNat_of_nonneg (by omega)).symm) (by first | assumption | omega | (simp; omega)) (by first | exact Nat.le_refl _ | exact Nat.le_of_eq (ivals_len _).symm | exact Nat.le_of_eq (irows_len _).symm | (refine Nat.le_trans ?_ (Nat.le_of_eq (ivals_len _).symm); (first | omega | (simp; done) | (simp; omega))) | (refine Nat.le_trans ?_ (Nat.le_of_eq (irows_len _).symm); (first | omega | (simp; done) | (simp; omega))))); apply run_step rfl; (exact stp_loadV rfl (by as_aux_lemma => kernel_rfl) rfl rfl rfl (by first | assumption | exact ivals_get (by assumption) | exact irows_get (by assumption) | exact ivals_get (by omega) | exact irows_get (by omega) | rfl)); apply run_step rfl; (exact stp_add rfl rfl rfl (by first | exact IntWalk.i64_in _ (by omega) | rfl)); apply run_step rfl; (exact stp_ix rfl rfl rfl rfl rfl (by as_aux_lemma => kernel_rfl) (by first | rfl | exact (Int.toNat_of_nonneg (by omega)).symm) (by first | assumption | omega | (simp; omega)) (by first | exact Nat.le_refl _ | exact Nat.le_of_eq (ivals_len _).symm | exact Nat.le_of_eq (irows_len _).symm | (refine Nat.le_trans ?_ (Nat.le_of_eq (ivals_len _).symm); (first | omega | (simp; done) | (simp; omega))) | (refine Nat.le_trans ?_ (Nat.le_of_eq (irows_len _).symm); (first | omega | (simp; done) | (simp; omega))))); apply run_step rfl; (exact stp_stI rfl rfl rfl rfl rfl (by first | assumption | omega | (simp; omega)) (by as_aux_lemma => kernel_rfl)); refine run_nil ?_; refine fin_seq ?_; refine goes_region ?_; apply run_step rfl; (exact stp_move rfl rfl); apply run_step rfl; (exact stp_move rfl rfl); apply run_step rfl; (exact stp_lit1I (E := 2) rfl (by as_aux_lemma => kernel_rfl) rfl))
        refine run_or rfl (stpor_append (k := 1) (m := 1) (E := 2) rfl (by as_aux_lemma => kernel_rfl) rfl rfl rfl hln rfl (reads_vals (k := 1) rfl rfl rfl rfl (Nat.le_refl _)) (by omega) (by intro v hv; simp [ivals] at hv; subst hv; rfl) (by omega)) ?_ ?_
        · (apply run_step rfl; (exact stp_assign rfl rfl); refine run_nil ?_; refine fin_block ?_; refine fin_seq ?_; refine goes_region ?_; apply run_step rfl; (exact stp_add rfl rfl rfl (by first | exact IntWalk.i64_in _ (by omega) | rfl)); apply run_step rfl; (exact stp_move rfl rfl); refine run_nil ?_)
          exact fin_round (g + 1, (W.set d (lget W c ++ [(g : Int)]), B.set d true, O ++ [(d : Int)]), [], 0) ⟨hgn, hst.trans hv, rfl⟩ (by show ng - (g + 1) < ng - g; omega) (Wk.of ⟨rfl, rfl, congrArg (fun x => some (o1 (.sl 19 0 x))) (by simp; omega), rfl, rfl, rfl, rfl, trivial⟩ ⟨rfl, rfl, congrArg (fun l => some (⟨true, 2, 1, .vals (ivals l)⟩ : Ch)) hFv.symm, congrArg (fun l => some (⟨true, 2, 1, .vals l⟩ : Ch)) (qApp1 hpre (by omega) (d : Int)), trivial⟩ trivial)
        · (apply run_step rfl; (exact stp_assign rfl rfl); refine run_nil ?_; refine fin_block ?_; refine fin_seq ?_; refine goes_region ?_; apply run_step rfl; (exact stp_add rfl rfl rfl (by first | exact IntWalk.i64_in _ (by omega) | rfl)); apply run_step rfl; (exact stp_move rfl rfl); refine run_nil ?_)
          exact fin_round (g + 1, (W.set d (lget W c ++ [(g : Int)]), B.set d true, O ++ [(d : Int)]), pre, o) ⟨hgn, hst.trans hv, hpre⟩ (by show ng - (g + 1) < ng - g; omega) (Wk.of ⟨rfl, rfl, congrArg (fun x => some (o1 (.sl 19 o x))) (by simp; omega), rfl, rfl, rfl, rfl, trivial⟩ ⟨rfl, rfl, congrArg (fun l => some (⟨true, 2, 1, .vals (ivals l)⟩ : Ch)) hFv.symm, congrArg (fun l => some (⟨true, 2, 1, .vals l⟩ : Ch)) (qApp2 (by omega) (d : Int)), trivial⟩ trivial)
      · have hb : bat B d = true := by
          cases hbb : bat B d with
          | true => rfl
          | false =>
            exfalso
            have := of_decide_eq_false hb
            rw [hFdv, if_neg (by rw [hbb]; simp)] at this
            omega
        have hv : bVisit (W, B, O) c g d = (W, B, O) := if_pos hb
        (refine goes_skip ?_; refine fin_block ?_; refine fin_seq ?_; refine goes_region ?_; apply run_step rfl; (exact stp_add rfl rfl rfl (by first | exact IntWalk.i64_in _ (by omega) | rfl)); apply run_step rfl; (exact stp_move rfl rfl); refine run_nil ?_)
        exact fin_round (g + 1, (W, B, O), pre, o) ⟨hgn, hst.trans hv, hpre⟩ (by show ng - (g + 1) < ng - g; omega) (Wk.of ⟨rfl, rfl, rfl, rfl, rfl, rfl, rfl, trivial⟩ ⟨rfl, rfl, rfl, rfl, trivial⟩ trivial)
    · obtain rfl : g = ng := by omega
      have gl : (o + (O.length - i)) * 1 ≤ (ivals (pre ++ O.drop i)).length := Nat.le_of_eq (qLen hpre (by omega))
      (refine goes_exit ?_; refine fin_exit_then ?_; refine fin_exit_then ?_; refine fin_exit_eq ?_; refine fin_block ?_; refine fin_seq ?_; refine goes_region ?_; apply run_step rfl; (exact stp_move rfl rfl); apply run_step rfl; (exact stp_slice (k := 1) (l := 1) rfl rfl rfl rfl (by as_aux_lemma => kernel_rfl) (by omega) (bnd_some rfl rfl) bnd_none (by omega) (Nat.le_refl _) gl); apply run_step rfl; (exact stp_assign rfl rfl); refine run_nil ?_)
      exact fin_round (i + 1, (W, B, O), pre ++ [(c : Int)], o + 1) ⟨hiO, hok, by rw [← hfin, hfo]; show bLoop _ _ (n + 1 - (i + 1)) _ _ = _; rw [show n + 1 - (i + 1) = n - i by omega], by simp; omega⟩ (by show n + 1 - (i + 1) < n + 1 - i; omega) (Wk.of ⟨rfl, rfl, congrArg (fun x => some (o1 (.sl 19 (o + 1) x))) (show O.length - i - 1 = O.length - (i + 1) by omega), trivial⟩ ⟨rfl, rfl, rfl, congrArg (fun l => some (⟨true, 2, 1, .vals (ivals l)⟩ : Ch)) (qNext hiO hci), trivial⟩ trivial)
  · have hio : i = O.length := by
      have := of_decide_eq_false h; omega
    have hOM : bfs T ng n = (W, B, O) := by
      rw [← hl, show n + 1 - i = (n - i) + 1 by omega, bLoop, if_neg (by show ¬ i < O.length; omega)]
    rw [hOM]
    (refine goes_exit ?_; refine fin_exit_then ?_; refine fin_exit_then ?_; refine fin_exit_eq ?_; refine fin_seq ?_; refine goes_seq ?_; refine goes_region ?_; apply run_step rfl; (exact stp_move rfl rfl); apply run_step rfl; (exact stp_assign rfl rfl); refine run_nil ?_; refine fin_seq ?_; refine goes_ret ?_)
    exact fin_ret1 (.inl rfl) rfl (.tmp rfl) ⟨rfl, trivial⟩ trivial

def lnL (d : PresD) : List Nat := (cwW d []).map List.length
def lnR (d : PresD) : List Int := if elC d [] = 0 then hist (lnL d) (topL (lnL d)) else []
theorem hist_le (L : List Nat) {n l : Nat} (h : l < n) : 0 ≤ iget (hist L n) l ∧ iget (hist L n) l ≤ L.length := by
  rw [hist_get h]
  have := List.length_filter_le (fun x => x == l) L
  omega
theorem ln_facts {ng : Nat} {rels : List (List Int)} (hG : Good ng rels []) (hk : elOk ((ng : Int), rels) []) : BOK (cosN ((ng : Int), rels) []) (bfs (cosTab ((ng : Int), rels) []) ng (cosN ((ng : Int), rels) [])) ∧ farL (bfs (cosTab ((ng : Int), rels) []) ng (cosN ((ng : Int), rels) [])) = lensI (lnL ((ng : Int), rels)) ∧ (lnL ((ng : Int), rels)).length = cosN ((ng : Int), rels) [] ∧ topL (lnL ((ng : Int), rels)) ≤ cosN ((ng : Int), rels) [] := by
  have hs := smallOk_run hk.2.2
  have hT := cosTab_leads hG hs.1
  have hp := cosN_pos hG hs.1
  have hB := bfs_ok hT (cosTab_len ng rels []) hp
  have ha := bfs_all hT (cosTab_len ng rels []) hp (cosTab_parent hG hs.1)
  refine ⟨hB, ?_, ?_, ?_⟩
  · rw [farL_all hB ha]
    unfold lnL lensI
    rw [cwW_nat, List.map_map]; rfl
  · unfold lnL
    rw [cwW_nat, List.length_map]; exact hB.l1
  · refine topL_le fun x hx => ?_
    unfold lnL at hx
    rw [cwW_nat] at hx
    obtain ⟨w, hw, rfl⟩ := List.mem_map.1 hx
    obtain ⟨j, hj, rfl⟩ := List.getElem_of_mem hw
    have h1 := hB.len j
    have h2 := hB.le
    rw [lget_lt hj] at h1
    omega

set_option maxRecDepth 100000 in
set_option maxHeartbeats 2000000 in
theorem specLn_yes (ng : Nat) (rels : List (List Int)) (h1 : Fit rels) (hG : Good ng rels []) (hk : elOk ((ng : Int), rels) []) :
    FC Try.prog 40 [(1003, rowsRo rels)] [pA ng rels.length] [(19, leOw (hist (lnL ((ng : Int), rels)) (topL (lnL ((ng : Int), rels)))))] (.tup [.one (.sl 19 0 (topL (lnL ((ng : Int), rels)))), .one (.val (I6 0))]) [] := by
  have hE := (specEl_yes h1 (by simp) hG hk).nilE
  have hs := smallOk_run hk.2.2
  have hng := hG.hi
  have hS := specShort_fc _ ng _ (cosTab_len ng rels []) hG.pos (cosTab_leads hG hs.1) (cosN_pos hG hs.1) hs.2 hG.hi
  obtain ⟨hB, _, hLl, hLt⟩ := ln_facts hG hk
  have hWl : (cwW ((ng : Int), rels) []).length = cosN ((ng : Int), rels) [] := by rw [cwW_nat]; exact hB.l1
  have hLd : lnL ((ng : Int), rels) = (cwW ((ng : Int), rels) []).map List.length := rfl
  rw [← cwW_nat] at hS
  refine fc_enter (nt := 48) Try.func40 rfl rfl (by simp) fun w0 ω0 => ?_
  have hN4 := hs.2
  clear hB hs
  generalize lnL ((ng : Int), rels) = L at *
  generalize cwW ((ng : Int), rels) [] = W at *
  generalize cosN ((ng : Int), rels) [] = N at *
  generalize cosTab ((ng : Int), rels) [] = T at *
  (refine goes_seq ?_; refine goes_region ?_; apply run_step rfl; (exact stp_box rfl rfl rfl rfl); apply run_step rfl; (exact stp_assign rfl rfl); apply run_step rfl; (exact stp_assign rfl rfl); refine run_nil ?_; refine fin_seq ?_; refine goes_seq ?_; refine goes_region ?_; apply run_step rfl; (exact stp_loadAgg rfl rfl rfl rfl rfl rfl (by as_aux_lemma => kernel_rfl)); apply run_step rfl; (first | (apply call_gate 53; exact stp_callN hE (by as_aux_lemma => kernel_rfl) rfl rfl ⟨⟨.inl rfl, .inl rfl, trivial⟩, rfl, trivial⟩ ⟨⟨_, rfl, .inl rfl⟩, trivial⟩ rfl rfl rfl) | (apply call_gate 63; exact stp_callN hS (by as_aux_lemma => kernel_rfl) rfl rfl ⟨rfl, trivial⟩ ⟨⟨_, rfl, .inr rfl⟩, trivial⟩ rfl rfl rfl)); apply run_step rfl; (exact stp_move rfl rfl); apply run_step rfl; (exact stp_extract rfl rfl rfl); apply run_step rfl; (exact stp_extract rfl rfl rfl); apply run_step rfl; (exact stp_assign rfl rfl); apply run_step rfl; (exact stp_assign rfl rfl); refine run_nil ?_; refine fin_seq ?_; refine goes_seq ?_; refine goes_seq ?_; refine goes_region ?_; apply run_step rfl; (exact stp_move rfl rfl); apply run_step rfl; (exact stp_bin rfl rfl rfl rfl); refine run_nil ?_; refine fin_seq ?_)
  refine goes_cond rfl (fun e => by cases e) (fun _ => ?_)
  (refine goes_skip ?_; refine fin_seq ?_; refine goes_seq ?_; refine goes_region ?_; apply run_step rfl; (exact stp_move rfl rfl); apply run_step rfl; (apply call_gate 63; exact stp_callN hS (by as_aux_lemma => kernel_rfl) rfl rfl ⟨rfl, trivial⟩ ⟨⟨_, rfl, .inr rfl⟩, trivial⟩ rfl rfl rfl); apply run_step rfl; (exact stp_lit0 (E := 2) (k := 1) rfl (by as_aux_lemma => kernel_rfl)); apply run_step rfl; (exact stp_assign rfl rfl); apply run_step rfl; (exact stp_assign rfl rfl); refine run_nil ?_; refine fin_seq ?_; refine goes_seq ?_; refine goes_seq ?_; refine goes_region ?_; apply run_step rfl; (exact stp_assign rfl rfl); refine run_nil ?_; refine fin_seq ?_; refine goes_block ?_)
  refine goes_loop (fun i : Nat => St.of [(6, o1 (.sl 13 0 N)), (7, o1 (.sl 19 0 (topL (L.take i)))), (8, vv (I6 i))] [(13, imOw W), (19, leOw (hist (L.take i) (topL (L.take i))))]) (fun i => i ≤ N) (fun i => N - i) 0 (Nat.zero_le _) (Wk.of ⟨rfl, rfl, rfl, trivial⟩ ⟨rfl, rfl, trivial⟩ trivial) ?_
  intro i hi
  (refine goes_seq ?_; refine goes_seq ?_; refine goes_region ?_; apply run_step rfl; (exact stp_move rfl rfl); apply run_step rfl; (exact stp_move rfl rfl); apply run_step rfl; (exact stp_len rfl rfl rfl (by as_aux_lemma => kernel_rfl)); apply run_step rfl; (exact stp_bin rfl rfl rfl rfl); refine run_nil ?_; refine fin_seq ?_)
  refine goes_if rfl (fun hlt => ?_) (fun hlt => ?_)
  · have hlt' : i < L.length := by omega
    have hrw : (irows W)[i]? = some (ivals (lget W i)) := irows_get (by omega)
    have hli : L[i] = (lget W i).length := by
      have : L[i]? = (W.map List.length)[i]? := by rw [hLd]
      rw [List.getElem?_eq_getElem hlt', List.getElem?_map, List.getElem?_eq_getElem (by omega)] at this
      rw [lget_lt (by omega)]
      simpa using this
    have htop : topL (L.take (i + 1)) = max (topL (L.take i)) ((lget W i).length + 1) := by rw [take_snoc hlt', topL_snoc, hli]
    have hln : (lget W i).length < topL L := by rw [← hli]; exact lt_topL (List.getElem_mem _)
    have htk : L.take (i + 1) = L.take i ++ [(lget W i).length] := by rw [take_snoc hlt', hli]
    (refine goes_skip ?_; refine fin_seq ?_; refine goes_seq ?_; refine goes_block ?_; refine goes_seq ?_; refine goes_block ?_)
    refine goes_loop (fun m : Nat => St.of [(6, o1 (.sl 13 0 N)), (7, o1 (.sl 19 0 m)), (8, vv (I6 i))] [(13, imOw W), (19, leOw (hist (L.take i) m))]) (fun m => topL (L.take i) ≤ m ∧ m ≤ max (topL (L.take i)) ((lget W i).length + 1)) (fun m => (lget W i).length + 1 - m) (topL (L.take i)) ⟨Nat.le_refl _, by omega⟩ (Wk.of ⟨rfl, rfl, rfl, trivial⟩ ⟨rfl, rfl, trivial⟩ trivial) ?_
    rintro m ⟨hm1, hm2⟩
    have htl : topL (L.take i) ≤ topL L := topL_le fun x hx => lt_topL (List.mem_of_mem_take hx)
    have hhl : (hist (L.take i) m).length = m := hist_len _ _
    (refine goes_seq ?_; refine goes_seq ?_; refine goes_region ?_; apply run_step rfl; (exact stp_move rfl rfl); apply run_step rfl; (exact stp_len rfl rfl rfl (by as_aux_lemma => kernel_rfl)); apply run_step rfl; (exact stp_move rfl rfl); apply run_step rfl; (exact stp_move rfl rfl); apply run_step rfl; (exact stp_ix rfl rfl rfl rfl rfl (by as_aux_lemma => kernel_rfl) (by first | rfl | exact (Int.toNat_of_nonneg (by omega)).symm) (by first | assumption | omega | (simp; omega)) (by first | exact Nat.le_refl _ | exact Nat.le_of_eq (ivals_len _).symm | exact Nat.le_of_eq (irows_len _).symm | (refine Nat.le_trans ?_ (Nat.le_of_eq (ivals_len _).symm); (first | omega | (simp; done) | (simp; omega))) | (refine Nat.le_trans ?_ (Nat.le_of_eq (irows_len _).symm); (first | omega | (simp; done) | (simp; omega))))); apply run_step rfl; (exact stp_loadR rfl (by as_aux_lemma => kernel_rfl) rfl rfl rfl (by first | assumption | exact ivals_get (by assumption) | exact irows_get (by assumption) | exact ivals_get (by omega) | exact irows_get (by omega) | rfl) (by first | exact ivals_len _ | assumption | rfl)); apply run_step rfl; (exact stp_len rfl rfl rfl (by as_aux_lemma => kernel_rfl)); apply run_step rfl; (exact stp_bin rfl rfl rfl rfl); refine run_nil ?_; refine fin_seq ?_)
    refine goes_if rfl (fun hle => ?_) (fun hle => ?_)
    · have hle' : m ≤ (lget W i).length := by omega
      (refine goes_skip ?_; refine fin_seq ?_; refine goes_block ?_; refine goes_region ?_; apply run_step rfl; (exact stp_move rfl rfl); apply run_step rfl; (exact stp_lit1I (E := 2) rfl (by as_aux_lemma => kernel_rfl) rfl); apply run_step rfl; (exact stp_appI rfl (by as_aux_lemma => kernel_rfl) rfl rfl rfl (by first | rfl | assumption | (simp; done)) rfl rfl (by omega)); apply run_step rfl; (exact stp_assign rfl rfl); refine run_nil ?_; refine fin_block ?_)
      exact fin_round (m + 1) ⟨by omega, by omega⟩ (by omega) (Wk.of ⟨rfl, rfl, rfl, trivial⟩ ⟨rfl, by rw [hist_more hm1]; rfl, trivial⟩ trivial)
    · have hgt : (lget W i).length < m := by omega
      obtain rfl : m = topL (L.take (i + 1)) := by omega
      have hh := hist_le (L.take i) hgt
      have hh2 : (L.take i).length ≤ 400 := by rw [List.length_take]; omega
      have hgl : (ivals (hist (L.take i) (topL (L.take (i + 1)))))[(lget W i).length]? = some (I6 (iget (hist (L.take i) (topL (L.take (i + 1)))) (lget W i).length)) := ivals_get (by omega)
      have hsn := hist_snoc (L := L.take i) hgt
      rw [← htk] at hsn
      (refine goes_exit ?_; refine fin_exit_then ?_; refine fin_exit_then ?_; refine fin_exit_eq ?_; refine fin_seq ?_; refine goes_region ?_; apply run_step rfl; (exact stp_move rfl rfl); apply run_step rfl; (exact stp_move rfl rfl); apply run_step rfl; (exact stp_move rfl rfl); apply run_step rfl; (exact stp_ix rfl rfl rfl rfl rfl (by as_aux_lemma => kernel_rfl) (by first | rfl | exact (Int.toNat_of_nonneg (by omega)).symm) (by first | assumption | omega | (simp; omega)) (by first | exact Nat.le_refl _ | exact Nat.le_of_eq (ivals_len _).symm | exact Nat.le_of_eq (irows_len _).symm | (refine Nat.le_trans ?_ (Nat.le_of_eq (ivals_len _).symm); (first | omega | (simp; done) | (simp; omega))) | (refine Nat.le_trans ?_ (Nat.le_of_eq (irows_len _).symm); (first | omega | (simp; done) | (simp; omega))))); apply run_step rfl; (exact stp_loadR rfl (by as_aux_lemma => kernel_rfl) rfl rfl rfl (by first | assumption | exact ivals_get (by assumption) | exact irows_get (by assumption) | exact ivals_get (by omega) | exact irows_get (by omega) | rfl) (by first | exact ivals_len _ | assumption | rfl)); apply run_step rfl; (exact stp_len rfl rfl rfl (by as_aux_lemma => kernel_rfl)); apply run_step rfl; (exact stp_ix rfl rfl rfl rfl rfl (by as_aux_lemma => kernel_rfl) (by first | rfl | exact (Int.toNat_of_nonneg (by omega)).symm) (by first | assumption | omega | (simp; omega)) (by first | exact Nat.le_refl _ | exact Nat.le_of_eq (ivals_len _).symm | exact Nat.le_of_eq (irows_len _).symm | (refine Nat.le_trans ?_ (Nat.le_of_eq (ivals_len _).symm); (first | omega | (simp; done) | (simp; omega))) | (refine Nat.le_trans ?_ (Nat.le_of_eq (irows_len _).symm); (first | omega | (simp; done) | (simp; omega))))); apply run_step rfl; (exact stp_loadV rfl (by as_aux_lemma => kernel_rfl) rfl rfl rfl (by first | assumption | exact ivals_get (by assumption) | exact irows_get (by assumption) | exact ivals_get (by omega) | exact irows_get (by omega) | rfl)); apply run_step rfl; (exact stp_add rfl rfl rfl (by first | exact IntWalk.i64_in _ (by omega) | rfl)); apply run_step rfl; (exact stp_ix rfl rfl rfl rfl rfl (by as_aux_lemma => kernel_rfl) (by first | rfl | exact (Int.toNat_of_nonneg (by omega)).symm) (by first | assumption | omega | (simp; omega)) (by first | exact Nat.le_refl _ | exact Nat.le_of_eq (ivals_len _).symm | exact Nat.le_of_eq (irows_len _).symm | (refine Nat.le_trans ?_ (Nat.le_of_eq (ivals_len _).symm); (first | omega | (simp; done) | (simp; omega))) | (refine Nat.le_trans ?_ (Nat.le_of_eq (irows_len _).symm); (first | omega | (simp; done) | (simp; omega))))); apply run_step rfl; (exact stp_stI rfl rfl rfl rfl rfl (by first | assumption | omega | (simp; omega)) (by as_aux_lemma => kernel_rfl)); refine run_nil ?_; refine fin_block ?_; refine fin_seq ?_; refine goes_region ?_; apply run_step rfl; (exact stp_move rfl rfl); apply run_step rfl; (exact stp_add rfl rfl rfl (by first | exact IntWalk.i64_in _ (by omega) | rfl)); apply run_step rfl; (exact stp_assign rfl rfl); refine run_nil ?_)
      exact fin_round (i + 1) (by omega) (by omega) (Wk.of ⟨rfl, rfl, rfl, trivial⟩ ⟨rfl, by rw [hsn]; rfl, trivial⟩ trivial)
  · obtain rfl : i = N := by omega
    rw [show L.take i = L by rw [← hLl, List.take_length]]
    (refine goes_exit ?_; refine fin_exit_then ?_; refine fin_exit_then ?_; refine fin_exit_eq ?_; refine fin_seq ?_; refine goes_seq ?_; refine goes_region ?_; apply run_step rfl; (exact stp_move rfl rfl); apply run_step rfl; (exact stp_assign rfl rfl); apply run_step rfl; (exact stp_assign rfl rfl); refine run_nil ?_; refine fin_seq ?_; refine goes_ret ?_)
    exact fin_ret2 (.inl rfl) rfl (.tmp rfl) (.tmp rfl) ⟨rfl, trivial⟩ trivial
set_option maxRecDepth 100000 in
set_option maxHeartbeats 1000000 in
theorem specLn_no (g : Int) (rels : List (List Int)) (h1 : Fit rels) (hk : ¬ elOk (g, rels) []) :
    FC Try.prog 40 [(1003, rowsRo rels)] [pA g rels.length] [] (.tup [.one (.val (.slice none 0 0)), .one (.val (I6 (elC (g, rels) [])))]) [] := by
  have hE := (specEl_no h1 (by simp) hk).nilE
  have hc := elC_no hk
  refine fc_enter (nt := 48) Try.func40 rfl rfl (by simp) fun w0 ω0 => ?_
  (refine goes_seq ?_; refine goes_region ?_; apply run_step rfl; (exact stp_box rfl rfl rfl rfl); apply run_step rfl; (exact stp_assign rfl rfl); apply run_step rfl; (exact stp_assign rfl rfl); refine run_nil ?_; refine fin_seq ?_; refine goes_seq ?_; refine goes_region ?_; apply run_step rfl; (exact stp_loadAgg rfl rfl rfl rfl rfl rfl (by as_aux_lemma => kernel_rfl)); apply run_step rfl; (apply call_gate 53; exact stp_callR hE (by as_aux_lemma => kernel_rfl) rfl rfl ⟨⟨.inl rfl, .inl rfl, trivial⟩, rfl, trivial⟩ ⟨⟨_, rfl, .inl rfl⟩, trivial⟩ rfl rfl); apply run_step rfl; (exact stp_move rfl rfl); apply run_step rfl; (exact stp_extract rfl rfl rfl); apply run_step rfl; (exact stp_extract rfl rfl rfl); apply run_step rfl; (exact stp_assign rfl rfl); apply run_step rfl; (exact stp_assign rfl rfl); refine run_nil ?_; refine fin_seq ?_; refine goes_seq ?_; refine goes_seq ?_; refine goes_region ?_; apply run_step rfl; (exact stp_move rfl rfl); apply run_step rfl; (exact stp_bin rfl rfl rfl rfl); refine run_nil ?_; refine fin_seq ?_)
  refine goes_cond rfl (fun _ => ?_) (fun e => ?_)
  · (refine goes_seq ?_; refine goes_region ?_; apply run_step rfl; (exact stp_move rfl rfl); apply run_step rfl; (exact stp_assign rfl rfl); apply run_step rfl; (exact stp_assign rfl rfl); refine run_nil ?_; refine fin_seq ?_; refine goes_ret ?_; refine fin_ret_then ?_)
    exact fin_ret2 (.inl rfl) rfl (.tmp rfl) (.tmp rfl) trivial trivial
  · exfalso; simp at e; exact hc e
set_option maxRecDepth 100000 in
set_option maxHeartbeats 2000000 in
theorem implLn_yes (ng : Nat) (rels : List (List Int)) (h1 : Fit rels) (hG : Good ng rels []) (hk : elOk ((ng : Int), rels) []) :
    FC Try.prog 41 [(1003, rowsRo rels)] [pA ng rels.length] [(25, leOw (hist (lnL ((ng : Int), rels)) (topL (lnL ((ng : Int), rels)))))] (.tup [.one (.sl 25 0 (topL (lnL ((ng : Int), rels)))), .one (.val (I6 0))]) [] := by
  have hE := (implEl_yes h1 (by simp) hG hk).nilE
  have hs := smallOk_run hk.2.2
  have hng := hG.hi
  obtain ⟨hB, hFar, hLl, hLt⟩ := ln_facts hG hk
  have hpos := cosN_pos hG hs.1
  have hD : FC Try.prog 64 [(20, mxRo ng), (1005, imRo (cosTab ((ng : Int), rels) []))] [o1 (.ptr 20 0), vv (I6 0)] [(21, leOw (farL (bfs (cosTab ((ng : Int), rels) []) ng (cosN ((ng : Int), rels) []))))] (o1 (.sl 21 0 (cosN ((ng : Int), rels) []))) [] :=
    (far_fc _ ng _ (cosTab_len ng rels []) hG.pos (cosTab_leads hG hs.1) hpos hs.2 hng).nm [(1010, 20), (1005, 1005), (14, 21)] (by kernel_rfl)
  rw [hFar] at hD
  have hM : FC Try.prog 65 [(21, leRo (lensI (lnL ((ng : Int), rels))))] [o1 (.sl 21 0 (cosN ((ng : Int), rels) []))] [] (vv (I6 ((topL (lnL ((ng : Int), rels)) - 1 : Nat) : Int))) [] :=
    (max_fc _ _ hLl hpos (by omega)).nm [(1005, 21)] (by kernel_rfl)
  refine fc_enter (nt := 40) Try.func41 rfl rfl (by simp) fun w0 ω0 => ?_
  have hN4 := hs.2
  clear hB hs hFar
  generalize lnL ((ng : Int), rels) = L at *
  generalize cosN ((ng : Int), rels) [] = N at *
  generalize cosTab ((ng : Int), rels) [] = T at *
  have hL1 : 1 ≤ topL L := by
    have := lt_topL (L := L) (x := L[0]) (List.getElem_mem _)
    omega
  (refine goes_seq ?_; refine goes_region ?_; apply run_step rfl; (exact stp_box rfl rfl rfl rfl); apply run_step rfl; (exact stp_assign rfl rfl); apply run_step rfl; (exact stp_assign rfl rfl); refine run_nil ?_; refine fin_seq ?_; refine goes_seq ?_; refine goes_region ?_; apply run_step rfl; (exact stp_loadAgg rfl rfl rfl rfl rfl rfl (by as_aux_lemma => kernel_rfl)); apply run_step rfl; (apply call_gate 55; exact stp_callN hE (by as_aux_lemma => kernel_rfl) rfl rfl ⟨⟨.inl rfl, .inl rfl, trivial⟩, rfl, trivial⟩ ⟨⟨_, rfl, .inl rfl⟩, trivial⟩ rfl rfl rfl); apply run_step rfl; (exact stp_move rfl rfl); apply run_step rfl; (exact stp_extract rfl rfl rfl); apply run_step rfl; (exact stp_extract rfl rfl rfl); apply run_step rfl; (exact stp_assign rfl rfl); apply run_step rfl; (exact stp_assign rfl rfl); refine run_nil ?_; refine fin_seq ?_; refine goes_seq ?_; refine goes_seq ?_; refine goes_region ?_; apply run_step rfl; (exact stp_move rfl rfl); apply run_step rfl; (exact stp_bin rfl rfl rfl rfl); refine run_nil ?_; refine fin_seq ?_)
  refine goes_cond rfl (fun e => by cases e) (fun _ => ?_)
  (refine goes_skip ?_; refine fin_seq ?_; refine goes_seq ?_; refine goes_region ?_; apply run_step rfl; (exact stp_move rfl rfl); apply run_step rfl; (first | exact stp_buildS1 rfl rfl rfl (fun _ _ _ => rfl) | (apply call_gate 64; exact stp_callN hD (by as_aux_lemma => kernel_rfl) rfl rfl ⟨rfl, rfl, trivial⟩ ⟨⟨_, rfl, .inr rfl⟩, ⟨_, rfl, .inr rfl⟩, trivial⟩ rfl rfl rfl) | (apply call_gate 65; exact stp_callR hM (by as_aux_lemma => kernel_rfl) rfl rfl ⟨rfl, trivial⟩ ⟨⟨_, rfl, .inr rfl⟩, trivial⟩ rfl rfl) | exact stp_makeI (n := topL L) (E := 2) rfl (by as_aux_lemma => kernel_rfl) (by as_aux_lemma => kernel_rfl) rfl rfl (by omega) (by omega) (by omega)); apply run_step rfl; (exact stp_box rfl rfl rfl rfl); apply run_step rfl; (first | exact stp_buildS1 rfl rfl rfl (fun _ _ _ => rfl) | (apply call_gate 64; exact stp_callN hD (by as_aux_lemma => kernel_rfl) rfl rfl ⟨rfl, rfl, trivial⟩ ⟨⟨_, rfl, .inr rfl⟩, ⟨_, rfl, .inr rfl⟩, trivial⟩ rfl rfl rfl) | (apply call_gate 65; exact stp_callR hM (by as_aux_lemma => kernel_rfl) rfl rfl ⟨rfl, trivial⟩ ⟨⟨_, rfl, .inr rfl⟩, trivial⟩ rfl rfl) | exact stp_makeI (n := topL L) (E := 2) rfl (by as_aux_lemma => kernel_rfl) (by as_aux_lemma => kernel_rfl) rfl rfl (by omega) (by omega) (by omega)); apply run_step rfl; (exact stp_assign rfl rfl); refine run_nil ?_; refine fin_seq ?_; refine goes_seq ?_; refine goes_region ?_; apply run_step rfl; (exact stp_move rfl rfl); apply run_step rfl; (first | exact stp_buildS1 rfl rfl rfl (fun _ _ _ => rfl) | (apply call_gate 64; exact stp_callN hD (by as_aux_lemma => kernel_rfl) rfl rfl ⟨rfl, rfl, trivial⟩ ⟨⟨_, rfl, .inr rfl⟩, ⟨_, rfl, .inr rfl⟩, trivial⟩ rfl rfl rfl) | (apply call_gate 65; exact stp_callR hM (by as_aux_lemma => kernel_rfl) rfl rfl ⟨rfl, trivial⟩ ⟨⟨_, rfl, .inr rfl⟩, trivial⟩ rfl rfl) | exact stp_makeI (n := topL L) (E := 2) rfl (by as_aux_lemma => kernel_rfl) (by as_aux_lemma => kernel_rfl) rfl rfl (by omega) (by omega) (by omega)); apply run_step rfl; (exact stp_add rfl rfl rfl (by first | exact IntWalk.i64_in _ (by omega) | rfl)); apply run_step rfl; (first | exact stp_buildS1 rfl rfl rfl (fun _ _ _ => rfl) | (apply call_gate 64; exact stp_callN hD (by as_aux_lemma => kernel_rfl) rfl rfl ⟨rfl, rfl, trivial⟩ ⟨⟨_, rfl, .inr rfl⟩, ⟨_, rfl, .inr rfl⟩, trivial⟩ rfl rfl rfl) | (apply call_gate 65; exact stp_callR hM (by as_aux_lemma => kernel_rfl) rfl rfl ⟨rfl, trivial⟩ ⟨⟨_, rfl, .inr rfl⟩, trivial⟩ rfl rfl) | exact stp_makeI (n := topL L) (E := 2) rfl (by as_aux_lemma => kernel_rfl) (by as_aux_lemma => kernel_rfl) rfl rfl (by omega) (by omega) (by omega)); apply run_step rfl; (exact stp_assign rfl rfl); refine run_nil ?_; refine fin_seq ?_; refine goes_seq ?_; refine goes_seq ?_; refine goes_region ?_; apply run_step rfl; (exact stp_move rfl rfl); apply run_step rfl; (exact stp_len rfl rfl rfl (by as_aux_lemma => kernel_rfl)); apply run_step rfl; (exact stp_move rfl rfl); refine run_nil ?_; refine fin_seq ?_; refine goes_block ?_)
  refine goes_loop (fun i : Nat => St.of [(7, o1 (.sl 25 0 (topL L))), (26, o1 (.sl 21 0 N)), (27, vv (.int .i64 N)), (28, vv (.int .i64 i))] [(21, leOw (lensI L)), (25, leOw (hist (L.take i) (topL L)))]) (fun i => i ≤ N) (fun i => N - i) 0 (Nat.zero_le _) (Wk.of ⟨rfl, rfl, rfl, rfl, trivial⟩ ⟨rfl, by rw [show L.take 0 = [] by simp, hist_nil]; rfl, trivial⟩ trivial) ?_
  intro i hi
  (refine goes_seq ?_; refine goes_region ?_; apply run_step rfl; (exact stp_bin rfl rfl rfl rfl); refine run_nil ?_; refine fin_seq ?_; refine goes_seq ?_)
  refine goes_if rfl (fun hlt => ?_) (fun hlt => ?_)
  · have hlt' : i < L.length := by omega
    obtain ⟨l, hl⟩ : ∃ l, L[i] = l := ⟨_, rfl⟩
    have hFl : (lensI L).length = N := by rw [lensI_len]; exact hLl
    have hgi : (ivals (lensI L))[i]? = some (I6 (l : Int)) := by rw [ivals_get (by omega), lensI_get hlt', hl]
    have hgt : l < topL L := by rw [← hl]; exact lt_topL (List.getElem_mem _)
    have hhl : (hist (L.take i) (topL L)).length = topL L := hist_len _ _
    have hh := hist_le (L.take i) hgt
    have hh2 : (L.take i).length ≤ 400 := by rw [List.length_take]; omega
    have hgl : (ivals (hist (L.take i) (topL L)))[l]? = some (I6 (iget (hist (L.take i) (topL L)) l)) := ivals_get (by omega)
    have hsn := hist_snoc (L := L.take i) hgt
    rw [← hl, ← take_snoc hlt', hl] at hsn
    (refine goes_skip ?_; refine fin_seq ?_; refine goes_seq ?_; refine goes_block ?_; refine goes_seq ?_; refine goes_region ?_; apply run_step rfl; (exact stp_ix rfl rfl rfl rfl rfl (by as_aux_lemma => kernel_rfl) (by first | rfl | exact (Int.toNat_of_nonneg (by omega)).symm) (by first | assumption | omega | (simp; omega)) (by first | exact Nat.le_refl _ | exact Nat.le_of_eq (ivals_len _).symm | exact Nat.le_of_eq (irows_len _).symm | (refine Nat.le_trans ?_ (Nat.le_of_eq (ivals_len _).symm); (first | omega | (simp; done) | (simp; omega))) | (refine Nat.le_trans ?_ (Nat.le_of_eq (irows_len _).symm); (first | omega | (simp; done) | (simp; omega))))); apply run_step rfl; (exact stp_loadV rfl (by as_aux_lemma => kernel_rfl) rfl rfl rfl (by first | assumption | exact ivals_get (by assumption) | exact irows_get (by assumption) | exact ivals_get (by omega) | exact irows_get (by omega) | rfl)); apply run_step rfl; (exact stp_assign rfl rfl); refine run_nil ?_; refine fin_seq ?_; refine goes_region ?_; apply run_step rfl; (exact stp_move rfl rfl); apply run_step rfl; (exact stp_move rfl rfl); apply run_step rfl; (exact stp_ix rfl rfl rfl rfl rfl (by as_aux_lemma => kernel_rfl) (by first | rfl | exact (Int.toNat_of_nonneg (by omega)).symm) (by first | assumption | omega | (simp; omega)) (by first | exact Nat.le_refl _ | exact Nat.le_of_eq (ivals_len _).symm | exact Nat.le_of_eq (irows_len _).symm | (refine Nat.le_trans ?_ (Nat.le_of_eq (ivals_len _).symm); (first | omega | (simp; done) | (simp; omega))) | (refine Nat.le_trans ?_ (Nat.le_of_eq (irows_len _).symm); (first | omega | (simp; done) | (simp; omega))))); apply run_step rfl; (exact stp_loadV rfl (by as_aux_lemma => kernel_rfl) rfl rfl rfl (by first | assumption | exact ivals_get (by assumption) | exact irows_get (by assumption) | exact ivals_get (by omega) | exact irows_get (by omega) | rfl)); apply run_step rfl; (exact stp_add rfl rfl rfl (by first | exact IntWalk.i64_in _ (by omega) | rfl)); apply run_step rfl; (exact stp_ix rfl rfl rfl rfl rfl (by as_aux_lemma => kernel_rfl) (by first | rfl | exact (Int.toNat_of_nonneg (by omega)).symm) (by first | assumption | omega | (simp; omega)) (by first | exact Nat.le_refl _ | exact Nat.le_of_eq (ivals_len _).symm | exact Nat.le_of_eq (irows_len _).symm | (refine Nat.le_trans ?_ (Nat.le_of_eq (ivals_len _).symm); (first | omega | (simp; done) | (simp; omega))) | (refine Nat.le_trans ?_ (Nat.le_of_eq (irows_len _).symm); (first | omega | (simp; done) | (simp; omega))))); apply run_step rfl; (exact stp_stI rfl rfl rfl rfl rfl (by first | assumption | omega | (simp; omega)) (by as_aux_lemma => kernel_rfl)); refine run_nil ?_; refine fin_block ?_; refine fin_seq ?_; refine goes_region ?_; apply run_step rfl; (exact stp_add rfl rfl rfl (by first | exact IntWalk.i64_in _ (by omega) | rfl)); apply run_step rfl; (exact stp_move rfl rfl); refine run_nil ?_)
    exact fin_round (i + 1) (by omega) (by omega) (Wk.of ⟨rfl, rfl, rfl, rfl, trivial⟩ ⟨rfl, by rw [hsn]; rfl, trivial⟩ trivial)
  · obtain rfl : i = N := by omega
    rw [show L.take i = L by rw [← hLl, List.take_length]]
    (refine goes_exit ?_; refine fin_exit_then ?_; refine fin_exit_then ?_; refine fin_exit_eq ?_; refine fin_seq ?_; refine goes_seq ?_; refine goes_region ?_; apply run_step rfl; (exact stp_move rfl rfl); apply run_step rfl; (exact stp_assign rfl rfl); apply run_step rfl; (exact stp_assign rfl rfl); refine run_nil ?_; refine fin_seq ?_; refine goes_ret ?_)
    exact fin_ret2 (.inl rfl) rfl (.tmp rfl) (.tmp rfl) ⟨rfl, trivial⟩ trivial
set_option maxRecDepth 100000 in
set_option maxHeartbeats 1000000 in
theorem implLn_no (g : Int) (rels : List (List Int)) (h1 : Fit rels) (hk : ¬ elOk (g, rels) []) :
    FC Try.prog 41 [(1003, rowsRo rels)] [pA g rels.length] [] (.tup [.one (.val (.slice none 0 0)), .one (.val (I6 (elC (g, rels) [])))]) [] := by
  have hE := (implEl_no h1 (by simp) hk).nilE
  have hc := elC_no hk
  refine fc_enter (nt := 40) Try.func41 rfl rfl (by simp) fun w0 ω0 => ?_
  (refine goes_seq ?_; refine goes_region ?_; apply run_step rfl; (exact stp_box rfl rfl rfl rfl); apply run_step rfl; (exact stp_assign rfl rfl); apply run_step rfl; (exact stp_assign rfl rfl); refine run_nil ?_; refine fin_seq ?_; refine goes_seq ?_; refine goes_region ?_; apply run_step rfl; (exact stp_loadAgg rfl rfl rfl rfl rfl rfl (by as_aux_lemma => kernel_rfl)); apply run_step rfl; (apply call_gate 55; exact stp_callR hE (by as_aux_lemma => kernel_rfl) rfl rfl ⟨⟨.inl rfl, .inl rfl, trivial⟩, rfl, trivial⟩ ⟨⟨_, rfl, .inl rfl⟩, trivial⟩ rfl rfl); apply run_step rfl; (exact stp_move rfl rfl); apply run_step rfl; (exact stp_extract rfl rfl rfl); apply run_step rfl; (exact stp_extract rfl rfl rfl); apply run_step rfl; (exact stp_assign rfl rfl); apply run_step rfl; (exact stp_assign rfl rfl); refine run_nil ?_; refine fin_seq ?_; refine goes_seq ?_; refine goes_seq ?_; refine goes_region ?_; apply run_step rfl; (exact stp_move rfl rfl); apply run_step rfl; (exact stp_bin rfl rfl rfl rfl); refine run_nil ?_; refine fin_seq ?_)
  refine goes_cond rfl (fun _ => ?_) (fun e => ?_)
  · (refine goes_seq ?_; refine goes_region ?_; apply run_step rfl; (exact stp_move rfl rfl); apply run_step rfl; (exact stp_assign rfl rfl); apply run_step rfl; (exact stp_assign rfl rfl); refine run_nil ?_; refine fin_seq ?_; refine goes_ret ?_; refine fin_ret_then ?_)
    exact fin_ret2 (.inl rfl) rfl (.tmp rfl) (.tmp rfl) trivial trivial
  · exfalso; simp at e; exact hc e
theorem lnR_small (d : PresD) : (lnR d).length ≤ 400 := by
  unfold lnR
  split
  · rename_i hc
    obtain ⟨g, rels⟩ := d
    have hok : elOk (g, rels) [] := Classical.byContradiction fun h => elC_no h hc
    obtain ⟨ng, rfl, hG⟩ := good_nil hok.1
    obtain ⟨_, _, _, hLt⟩ := ln_facts hG hok
    have hN := (smallOk_run hok.2.2).2
    rw [hist_len]; omega
  · simp
theorem api_specLn {E1 E : Nat} {lo hi : Nat} {v : Value} {d : PresD} (w : World) (h : OwP E1 E w lo hi v d) :
    Calls Try.prog 40 #[v] w fun e w' => ∃ r, e = .returned (.tuple #[r, .int .i64 (elC d [])]) ∧ OwnS 2 w' w.heap.size w'.heap.size r (lnR d) ∧ Below w.heap.size w w' := by
  obtain ⟨g, rels⟩ := d
  by_cases hok : elOk (g, rels) []
  · obtain ⟨ng, rfl, hG⟩ := good_nil hok.1
    have hc := elC_ok hok
    have hr : lnR ((ng : Int), rels) = hist (lnL ((ng : Int), rels)) (topL (lnL ((ng : Int), rels))) := if_pos hc
    obtain ⟨_, _, _, hLt⟩ := ln_facts hG hok
    have hN := (smallOk_run hok.2.2).2
    rw [hr, hc]
    refine (callP (d := ((ng : Int), rels)) (fun k1 => specLn_yes ng rels k1 hG hok) h).mono ?_
    rintro e w' ⟨v, η, ω, rfl, hd, hm, hb, hn⟩
    obtain ⟨u, u', rfl, h1, h2⟩ := den_tup2 hd
    have h2 : u' = I6 0 := h2
    subst h2
    exact ⟨u, rfl, toS (x := 19) hm hn rfl (by rw [hist_len]; exact h1) (by rw [hist_len]; omega), hb⟩
  · have hc := elC_no hok
    have hr : lnR (g, rels) = [] := if_neg hc
    rw [hr]
    refine (two_vals (callP (d := (g, rels)) (fun k1 => specLn_no g rels k1 hok) h)).mono ?_
    rintro e w' ⟨rfl, hb⟩
    exact ⟨_, rfl, ownS_nil, hb⟩
theorem api_implLn {E1 E : Nat} {lo hi : Nat} {v : Value} {d : PresD} (w : World) (h : OwP E1 E w lo hi v d) :
    Calls Try.prog 41 #[v] w fun e w' => ∃ r, e = .returned (.tuple #[r, .int .i64 (elC d [])]) ∧ OwnS 2 w' w.heap.size w'.heap.size r (lnR d) ∧ Below w.heap.size w w' := by
  obtain ⟨g, rels⟩ := d
  by_cases hok : elOk (g, rels) []
  · obtain ⟨ng, rfl, hG⟩ := good_nil hok.1
    have hc := elC_ok hok
    have hr : lnR ((ng : Int), rels) = hist (lnL ((ng : Int), rels)) (topL (lnL ((ng : Int), rels))) := if_pos hc
    obtain ⟨_, _, _, hLt⟩ := ln_facts hG hok
    have hN := (smallOk_run hok.2.2).2
    rw [hr, hc]
    refine (callP (d := ((ng : Int), rels)) (fun k1 => implLn_yes ng rels k1 hG hok) h).mono ?_
    rintro e w' ⟨v, η, ω, rfl, hd, hm, hb, hn⟩
    obtain ⟨u, u', rfl, h1, h2⟩ := den_tup2 hd
    have h2 : u' = I6 0 := h2
    subst h2
    exact ⟨u, rfl, toS (x := 25) hm hn rfl (by rw [hist_len]; exact h1) (by rw [hist_len]; omega), hb⟩
  · have hc := elC_no hok
    have hr : lnR (g, rels) = [] := if_neg hc
    rw [hr]
    refine (two_vals (callP (d := (g, rels)) (fun k1 => implLn_no g rels k1 hok) h)).mono ?_
    rintro e w' ⟨rfl, hb⟩
    exact ⟨_, rfl, ownS_nil, hb⟩
end Go.Proofs.Ytpjglifijdcgnaa

/- The walk of FnExactLengthsOf: true, whatever the arguments. Written by genwalk.py. -/
namespace Go.Proofs.Ytpjglifijdcgnaa
open Go.RowKit

set_option maxHeartbeats 3200000 in
theorem walkLengthsOf {v0 : Value} {d : PresD} (w : World) (h0 : RdP w v0 d) :
    Calls Try.prog 11 #[v0] w fun e w' => e = .returned (.bool true) ∧ Below w.heap.size w w' := by
  have hsz := lnR_small d
  obtain ⟨a0, n0, c0, rfl, hi0⟩ := h0
  have h0 : RdP w (.agg #[.int .i64 d.1, .slice a0 n0 c0]) d := ⟨a0, n0, c0, rfl, hi0⟩
  clear hi0
  have B0 : Below w.heap.size w (w.alloc (.cells #[.int .i64 d.1, .slice a0 n0 c0] 24)) := below_alloc1 w _
  have kb0_0 : Blk (w.alloc (.cells #[.int .i64 d.1, .slice a0 n0 c0] 24)) (w.heap.size) 24 #[.int .i64 d.1, .slice a0 n0 c0] := (blk_at rfl)
  by_cases hx0 : budget1 1048576 (d.2.length + lenSS d.2) < 0
  · go_enter Try.func11, Try.ntmps11
    go_wp2_with fail
    refine (law_usP (1048576) _ (h0.below B0) (by omega) (by omega)).mono ?_
    rintro e w1 ⟨rfl, b1⟩
    have s1 := b1.size
    have B1 : Below w.heap.size w w1 := B0.trans (b1.mono B0.size)
    have kb0_1 : Blk w1 (w.heap.size) 24 #[.int .i64 d.1, .slice a0 n0 c0] := (kb0_0.belowS b1)
    have xkb0_1_0 : w1.cell? ⟨w.heap.size, 0, none⟩ = some (.int .i64 d.1) := kb0_1.cell 0
    have xkb0_1_1 : w1.cell? ⟨w.heap.size, 1, none⟩ = some (.slice a0 n0 c0) := kb0_1.cell 1
    have lkb0_1 : w.heap.size < w1.heap.size := kb0_1.lt
    go_wp2
    go_ret
    exact ⟨rfl, B1⟩
  · obtain ⟨ht0, he0⟩ := budget1_at hx0
    have hn0 : 0 ≤ budget1 1048576 (d.2.length + lenSS d.2) := by omega
    have hm0 : budget1 1048576 (d.2.length + lenSS d.2) ≤ 1048576 := by omega
    have HE0 := Lib.hid he0
    clear he0 hx0
    go_enter Try.func11, Try.ntmps11
    go_wp2_with fail
    refine (law_usP (1048576) _ (h0.below B0) (by omega) (by omega)).mono ?_
    rintro e w1 ⟨rfl, b1⟩
    have s1 := b1.size
    have B1 : Below w.heap.size w w1 := B0.trans (b1.mono B0.size)
    have kb0_1 : Blk w1 (w.heap.size) 24 #[.int .i64 d.1, .slice a0 n0 c0] := (kb0_0.belowS b1)
    have xkb0_1_0 : w1.cell? ⟨w.heap.size, 0, none⟩ = some (.int .i64 d.1) := kb0_1.cell 0
    have xkb0_1_1 : w1.cell? ⟨w.heap.size, 1, none⟩ = some (.slice a0 n0 c0) := kb0_1.cell 1
    have lkb0_1 : w.heap.size < w1.heap.size := kb0_1.lt
    go_wp2_with fail
    refine (law_toP _ (h0.below B1) (by omega)).mono ?_
    rintro e w2 ⟨u2, rfl, o2, b2⟩
    have s2 := b2.size
    have B2 : Below w.heap.size w w2 := B1.trans (b2.mono B1.size)
    have kb0_2 : Blk w2 (w.heap.size) 24 #[.int .i64 d.1, .slice a0 n0 c0] := (kb0_1.belowS b2)
    have xkb0_2_0 : w2.cell? ⟨w.heap.size, 0, none⟩ = some (.int .i64 d.1) := kb0_2.cell 0
    have xkb0_2_1 : w2.cell? ⟨w.heap.size, 1, none⟩ = some (.slice a0 n0 c0) := kb0_2.cell 1
    have lkb0_2 : w.heap.size < w2.heap.size := kb0_2.lt
    clear xkb0_1_0 xkb0_1_1
    go_wp2_with fail
    refine (api_specLn  _ o2 ).mono ?_
    rintro e w3 ⟨u3_0, rfl, o3_0, b3⟩
    have s3 := b3.size
    have B3 : Below w.heap.size w w3 := B2.trans (b3.mono B2.size)
    have kb0_3 : Blk w3 (w.heap.size) 24 #[.int .i64 d.1, .slice a0 n0 c0] := (kb0_2.belowS b3)
    have xkb0_3_0 : w3.cell? ⟨w.heap.size, 0, none⟩ = some (.int .i64 d.1) := kb0_3.cell 0
    have xkb0_3_1 : w3.cell? ⟨w.heap.size, 1, none⟩ = some (.slice a0 n0 c0) := kb0_3.cell 1
    have lkb0_3 : w.heap.size < w3.heap.size := kb0_3.lt
    clear xkb0_2_0 xkb0_2_1
    go_wp2_with fail
    refine (law_toP _ (h0.below B3) (by omega)).mono ?_
    rintro e w4 ⟨u4, rfl, o4, b4⟩
    obtain ⟨au4, nu4, cu4, rfl⟩ := o4.form
    have s4 := b4.size
    have B4 : Below w.heap.size w w4 := B3.trans (b4.mono B3.size)
    have kb0_4 : Blk w4 (w.heap.size) 24 #[.int .i64 d.1, .slice a0 n0 c0] := (kb0_3.belowS b4)
    have xkb0_4_0 : w4.cell? ⟨w.heap.size, 0, none⟩ = some (.int .i64 d.1) := kb0_4.cell 0
    have xkb0_4_1 : w4.cell? ⟨w.heap.size, 1, none⟩ = some (.slice a0 n0 c0) := kb0_4.cell 1
    have lkb0_4 : w.heap.size < w4.heap.size := kb0_4.lt
    clear xkb0_3_0 xkb0_3_1
    go_wp2_with fail
    have bx5 := below_alloc1 w4 (.cells #[.int .i64 d.1, .slice au4 nu4 cu4] 28)
    have kbx0_5 : Blk (w4.alloc (.cells #[.int .i64 d.1, .slice au4 nu4 cu4] 28)) w4.heap.size 28 #[.int .i64 d.1, .slice au4 nu4 cu4] := blk_at rfl
    generalize w4.alloc (.cells #[.int .i64 d.1, .slice au4 nu4 cu4] 28) = w5 at *
    have s5 := bx5.size
    have B5 : Below w.heap.size w w5 := B4.trans (bx5.mono B4.size)
    have kb0_5 : Blk w5 (w.heap.size) 24 #[.int .i64 d.1, .slice a0 n0 c0] := (kb0_4.belowS bx5)
    have xkb0_5_0 : w5.cell? ⟨w.heap.size, 0, none⟩ = some (.int .i64 d.1) := kb0_5.cell 0
    have xkb0_5_1 : w5.cell? ⟨w.heap.size, 1, none⟩ = some (.slice a0 n0 c0) := kb0_5.cell 1
    have lkb0_5 : w.heap.size < w5.heap.size := kb0_5.lt
    have xkbx0_5_0 : w5.cell? ⟨w4.heap.size, 0, none⟩ = some (.int .i64 d.1) := kbx0_5.cell 0
    have xkbx0_5_1 : w5.cell? ⟨w4.heap.size, 1, none⟩ = some (.slice au4 nu4 cu4) := kbx0_5.cell 1
    have lkbx0_5 : w4.heap.size < w5.heap.size := kbx0_5.lt
    clear xkb0_4_0 xkb0_4_1
    refine (api_implLn  _ (o4.below bx5) ).mono ?_
    rintro e w6 ⟨u6_0, rfl, o6_0, b6⟩
    have s6 := b6.size
    have B6 : Below w.heap.size w w6 := B5.trans (b6.mono B5.size)
    have kb0_6 : Blk w6 (w.heap.size) 24 #[.int .i64 d.1, .slice a0 n0 c0] := (kb0_5.belowS b6)
    have xkb0_6_0 : w6.cell? ⟨w.heap.size, 0, none⟩ = some (.int .i64 d.1) := kb0_6.cell 0
    have xkb0_6_1 : w6.cell? ⟨w.heap.size, 1, none⟩ = some (.slice a0 n0 c0) := kb0_6.cell 1
    have lkb0_6 : w.heap.size < w6.heap.size := kb0_6.lt
    have kbx0_6 : Blk w6 (w4.heap.size) 28 #[.int .i64 d.1, .slice au4 nu4 cu4] := (kbx0_5.belowS b6)
    have xkbx0_6_0 : w6.cell? ⟨w4.heap.size, 0, none⟩ = some (.int .i64 d.1) := kbx0_6.cell 0
    have xkbx0_6_1 : w6.cell? ⟨w4.heap.size, 1, none⟩ = some (.slice au4 nu4 cu4) := kbx0_6.cell 1
    have lkbx0_6 : w4.heap.size < w6.heap.size := kbx0_6.lt
    clear xkb0_5_0 xkb0_5_1 xkbx0_5_0 xkbx0_5_1
    go_wp2_with fail
    refine (law_eqS _ o6_0.rd (((o3_0.below b4).below bx5).below b6).rd).mono ?_
    rintro e w7 ⟨rfl, b7⟩
    have s7 := b7.size
    have B7 : Below w.heap.size w w7 := B6.trans (b7.mono B6.size)
    have kb0_7 : Blk w7 (w.heap.size) 24 #[.int .i64 d.1, .slice a0 n0 c0] := (kb0_6.belowS b7)
    have xkb0_7_0 : w7.cell? ⟨w.heap.size, 0, none⟩ = some (.int .i64 d.1) := kb0_7.cell 0
    have xkb0_7_1 : w7.cell? ⟨w.heap.size, 1, none⟩ = some (.slice a0 n0 c0) := kb0_7.cell 1
    have lkb0_7 : w.heap.size < w7.heap.size := kb0_7.lt
    have kbx0_7 : Blk w7 (w4.heap.size) 28 #[.int .i64 d.1, .slice au4 nu4 cu4] := (kbx0_6.belowS b7)
    have xkbx0_7_0 : w7.cell? ⟨w4.heap.size, 0, none⟩ = some (.int .i64 d.1) := kbx0_7.cell 0
    have xkbx0_7_1 : w7.cell? ⟨w4.heap.size, 1, none⟩ = some (.slice au4 nu4 cu4) := kbx0_7.cell 1
    have lkbx0_7 : w4.heap.size < w7.heap.size := kbx0_7.lt
    clear xkb0_6_0 xkb0_6_1 xkbx0_6_0 xkbx0_6_1
    go_wp2_with fail
    have hS7 : ∀ w', Below w7.heap.size w7 w' → (Below w7.heap.size w7 w' ∧ w'.cell? ⟨w.heap.size, 0, none⟩ = some (.int .i64 d.1) ∧ w'.cell? ⟨w.heap.size, 1, none⟩ = some (.slice a0 n0 c0) ∧ w'.cell? ⟨w4.heap.size, 0, none⟩ = some (.int .i64 d.1) ∧ w'.cell? ⟨w4.heap.size, 1, none⟩ = some (.slice au4 nu4 cu4)) := fun w' hb => ⟨hb, (kb0_7.belowS hb).cell 0, (kb0_7.belowS hb).cell 1, (kbx0_7.belowS hb).cell 0, (kbx0_7.belowS hb).cell 1⟩
    have HS7 := Lib.hid hS7
    clear hS7 xkb0_7_0 xkb0_7_1 xkbx0_7_0 xkbx0_7_1
    go_region_held3 (fun w' => Below w7.heap.size w7 w' ∧ w'.cell? ⟨w.heap.size, 0, none⟩ = some (.int .i64 d.1) ∧ w'.cell? ⟨w.heap.size, 1, none⟩ = some (.slice a0 n0 c0) ∧ w'.cell? ⟨w4.heap.size, 0, none⟩ = some (.int .i64 d.1) ∧ w'.cell? ⟨w4.heap.size, 1, none⟩ = some (.slice au4 nu4 cu4))
      (first | exact HS7.out _ (below_drew1 _) | exact HS7.out _ (below_tr (by assumption) (And.left (by assumption))))
      (first | (go_at_call 15; refine (law_toP _ (h0.below ?_) (by omega)).mono ?_; (exact below_tr (And.left (by assumption)) B7); rintro e w907 ⟨u907, rfl, o907, bt907⟩) | (go_at_call 17; refine (law_eqP _ ((((o4.below bx5).below b6).below b7).below (And.left (by assumption))).rd (OwP.rd (by assumption))).mono ?_; rintro e w8 ⟨rfl, be8⟩))
    have b8 : Below w7.heap.size w7 w8 := And.left (by assumption)
    have s8 := b8.size
    have B8 : Below w.heap.size w w8 := B7.trans (b8.mono B7.size)
    have kb0_8 : Blk w8 (w.heap.size) 24 #[.int .i64 d.1, .slice a0 n0 c0] := (kb0_7.belowS b8)
    have xkb0_8_0 : w8.cell? ⟨w.heap.size, 0, none⟩ = some (.int .i64 d.1) := kb0_8.cell 0
    have xkb0_8_1 : w8.cell? ⟨w.heap.size, 1, none⟩ = some (.slice a0 n0 c0) := kb0_8.cell 1
    have lkb0_8 : w.heap.size < w8.heap.size := kb0_8.lt
    have kbx0_8 : Blk w8 (w4.heap.size) 28 #[.int .i64 d.1, .slice au4 nu4 cu4] := (kbx0_7.belowS b8)
    have xkbx0_8_0 : w8.cell? ⟨w4.heap.size, 0, none⟩ = some (.int .i64 d.1) := kbx0_8.cell 0
    have xkbx0_8_1 : w8.cell? ⟨w4.heap.size, 1, none⟩ = some (.slice au4 nu4 cu4) := kbx0_8.cell 1
    have lkbx0_8 : w4.heap.size < w8.heap.size := kbx0_8.lt
    go_wp2_with fail
    refine (law_markP (1) _ ((((o4.below bx5).below b6).below b7).below b8) (by omega) (by omega)).mono ?_
    rintro e w9 ⟨rfl, o9, q9⟩
    have s9 := q9.size
    have B9 : Below w.heap.size w w9 := B8.trans (q9.below (by omega) B8.size)
    have kb0_9 : Blk w9 (w.heap.size) 24 #[.int .i64 d.1, .slice a0 n0 c0] := (kb0_8.only q9 (by omega))
    have xkb0_9_0 : w9.cell? ⟨w.heap.size, 0, none⟩ = some (.int .i64 d.1) := kb0_9.cell 0
    have xkb0_9_1 : w9.cell? ⟨w.heap.size, 1, none⟩ = some (.slice a0 n0 c0) := kb0_9.cell 1
    have lkb0_9 : w.heap.size < w9.heap.size := kb0_9.lt
    have kbx0_9 : Blk w9 (w4.heap.size) 28 #[.int .i64 d.1, .slice au4 nu4 cu4] := (kbx0_8.only q9 (by omega))
    have xkbx0_9_0 : w9.cell? ⟨w4.heap.size, 0, none⟩ = some (.int .i64 d.1) := kbx0_9.cell 0
    have xkbx0_9_1 : w9.cell? ⟨w4.heap.size, 1, none⟩ = some (.slice au4 nu4 cu4) := kbx0_9.cell 1
    have lkbx0_9 : w4.heap.size < w9.heap.size := kbx0_9.lt
    clear xkb0_8_0 xkb0_8_1 xkbx0_8_0 xkbx0_8_1
    go_wp2_with fail
    refine (law_eqS _ (((o6_0.below b7).below b8).only q9 (by omega)).rd ((((((o3_0.below b4).below bx5).below b6).below b7).below b8).only q9 (by omega)).rd).mono ?_
    rintro e w10 ⟨rfl, b10⟩
    have s10 := b10.size
    have B10 : Below w.heap.size w w10 := B9.trans (b10.mono B9.size)
    have kb0_10 : Blk w10 (w.heap.size) 24 #[.int .i64 d.1, .slice a0 n0 c0] := (kb0_9.belowS b10)
    have xkb0_10_0 : w10.cell? ⟨w.heap.size, 0, none⟩ = some (.int .i64 d.1) := kb0_10.cell 0
    have xkb0_10_1 : w10.cell? ⟨w.heap.size, 1, none⟩ = some (.slice a0 n0 c0) := kb0_10.cell 1
    have lkb0_10 : w.heap.size < w10.heap.size := kb0_10.lt
    have kbx0_10 : Blk w10 (w4.heap.size) 28 #[.int .i64 d.1, .slice au4 nu4 cu4] := (kbx0_9.belowS b10)
    have xkbx0_10_0 : w10.cell? ⟨w4.heap.size, 0, none⟩ = some (.int .i64 d.1) := kbx0_10.cell 0
    have xkbx0_10_1 : w10.cell? ⟨w4.heap.size, 1, none⟩ = some (.slice au4 nu4 cu4) := kbx0_10.cell 1
    have lkbx0_10 : w4.heap.size < w10.heap.size := kbx0_10.lt
    clear xkb0_9_0 xkb0_9_1 xkbx0_9_0 xkbx0_9_1
    go_wp2_with fail
    refine (law_markS (1) _ ((((o6_0.below b7).below b8).only q9 (by omega)).below b10) (by omega) (by omega)).mono ?_
    rintro e w11 ⟨rfl, o11, q11⟩
    have s11 := q11.size
    have B11 : Below w.heap.size w w11 := B10.trans (q11.below (by omega) B10.size)
    have kb0_11 : Blk w11 (w.heap.size) 24 #[.int .i64 d.1, .slice a0 n0 c0] := (kb0_10.only q11 (by omega))
    have xkb0_11_0 : w11.cell? ⟨w.heap.size, 0, none⟩ = some (.int .i64 d.1) := kb0_11.cell 0
    have xkb0_11_1 : w11.cell? ⟨w.heap.size, 1, none⟩ = some (.slice a0 n0 c0) := kb0_11.cell 1
    have lkb0_11 : w.heap.size < w11.heap.size := kb0_11.lt
    have kbx0_11 : Blk w11 (w4.heap.size) 28 #[.int .i64 d.1, .slice au4 nu4 cu4] := (kbx0_10.only q11 (by omega))
    have xkbx0_11_0 : w11.cell? ⟨w4.heap.size, 0, none⟩ = some (.int .i64 d.1) := kbx0_11.cell 0
    have xkbx0_11_1 : w11.cell? ⟨w4.heap.size, 1, none⟩ = some (.slice au4 nu4 cu4) := kbx0_11.cell 1
    have lkbx0_11 : w4.heap.size < w11.heap.size := kbx0_11.lt
    clear xkb0_10_0 xkb0_10_1 xkbx0_10_0 xkbx0_10_1
    go_wp2_with fail
    refine (law_heldS (1) _ o11.rd (by omega) (by omega)).mono ?_
    rintro e w12 ⟨rfl, b12⟩
    have s12 := b12.size
    have B12 : Below w.heap.size w w12 := B11.trans (b12.mono B11.size)
    have kb0_12 : Blk w12 (w.heap.size) 24 #[.int .i64 d.1, .slice a0 n0 c0] := (kb0_11.belowS b12)
    have xkb0_12_0 : w12.cell? ⟨w.heap.size, 0, none⟩ = some (.int .i64 d.1) := kb0_12.cell 0
    have xkb0_12_1 : w12.cell? ⟨w.heap.size, 1, none⟩ = some (.slice a0 n0 c0) := kb0_12.cell 1
    have lkb0_12 : w.heap.size < w12.heap.size := kb0_12.lt
    have kbx0_12 : Blk w12 (w4.heap.size) 28 #[.int .i64 d.1, .slice au4 nu4 cu4] := (kbx0_11.belowS b12)
    have xkbx0_12_0 : w12.cell? ⟨w4.heap.size, 0, none⟩ = some (.int .i64 d.1) := kbx0_12.cell 0
    have xkbx0_12_1 : w12.cell? ⟨w4.heap.size, 1, none⟩ = some (.slice au4 nu4 cu4) := kbx0_12.cell 1
    have lkbx0_12 : w4.heap.size < w12.heap.size := kbx0_12.lt
    clear xkb0_11_0 xkb0_11_1 xkbx0_11_0 xkbx0_11_1
    go_wp2_with fail
    refine (law_toP _ (h0.below B12) (by omega)).mono ?_
    rintro e w13 ⟨u13, rfl, o13, b13⟩
    have s13 := b13.size
    have B13 : Below w.heap.size w w13 := B12.trans (b13.mono B12.size)
    have kb0_13 : Blk w13 (w.heap.size) 24 #[.int .i64 d.1, .slice a0 n0 c0] := (kb0_12.belowS b13)
    have xkb0_13_0 : w13.cell? ⟨w.heap.size, 0, none⟩ = some (.int .i64 d.1) := kb0_13.cell 0
    have xkb0_13_1 : w13.cell? ⟨w.heap.size, 1, none⟩ = some (.slice a0 n0 c0) := kb0_13.cell 1
    have lkb0_13 : w.heap.size < w13.heap.size := kb0_13.lt
    have kbx0_13 : Blk w13 (w4.heap.size) 28 #[.int .i64 d.1, .slice au4 nu4 cu4] := (kbx0_12.belowS b13)
    have xkbx0_13_0 : w13.cell? ⟨w4.heap.size, 0, none⟩ = some (.int .i64 d.1) := kbx0_13.cell 0
    have xkbx0_13_1 : w13.cell? ⟨w4.heap.size, 1, none⟩ = some (.slice au4 nu4 cu4) := kbx0_13.cell 1
    have lkbx0_13 : w4.heap.size < w13.heap.size := kbx0_13.lt
    clear xkb0_12_0 xkb0_12_1 xkbx0_12_0 xkbx0_12_1
    go_wp2_with fail
    refine (api_implLn  _ o13 ).mono ?_
    rintro e w14 ⟨u14_0, rfl, o14_0, b14⟩
    have s14 := b14.size
    have B14 : Below w.heap.size w w14 := B13.trans (b14.mono B13.size)
    have kb0_14 : Blk w14 (w.heap.size) 24 #[.int .i64 d.1, .slice a0 n0 c0] := (kb0_13.belowS b14)
    have xkb0_14_0 : w14.cell? ⟨w.heap.size, 0, none⟩ = some (.int .i64 d.1) := kb0_14.cell 0
    have xkb0_14_1 : w14.cell? ⟨w.heap.size, 1, none⟩ = some (.slice a0 n0 c0) := kb0_14.cell 1
    have lkb0_14 : w.heap.size < w14.heap.size := kb0_14.lt
    have kbx0_14 : Blk w14 (w4.heap.size) 28 #[.int .i64 d.1, .slice au4 nu4 cu4] := (kbx0_13.belowS b14)
    have xkbx0_14_0 : w14.cell? ⟨w4.heap.size, 0, none⟩ = some (.int .i64 d.1) := kbx0_14.cell 0
    have xkbx0_14_1 : w14.cell? ⟨w4.heap.size, 1, none⟩ = some (.slice au4 nu4 cu4) := kbx0_14.cell 1
    have lkbx0_14 : w4.heap.size < w14.heap.size := kbx0_14.lt
    clear xkb0_13_0 xkb0_13_1 xkbx0_13_0 xkbx0_13_1
    go_wp2_with fail
    refine (law_eqS _ o14_0.rd (((((((((((o3_0.below b4).below bx5).below b6).below b7).below b8).only q9 (by omega)).below b10).only q11 (by omega)).below b12).below b13).below b14).rd).mono ?_
    rintro e w15 ⟨rfl, b15⟩
    have s15 := b15.size
    have B15 : Below w.heap.size w w15 := B14.trans (b15.mono B14.size)
    have kb0_15 : Blk w15 (w.heap.size) 24 #[.int .i64 d.1, .slice a0 n0 c0] := (kb0_14.belowS b15)
    have xkb0_15_0 : w15.cell? ⟨w.heap.size, 0, none⟩ = some (.int .i64 d.1) := kb0_15.cell 0
    have xkb0_15_1 : w15.cell? ⟨w.heap.size, 1, none⟩ = some (.slice a0 n0 c0) := kb0_15.cell 1
    have lkb0_15 : w.heap.size < w15.heap.size := kb0_15.lt
    have kbx0_15 : Blk w15 (w4.heap.size) 28 #[.int .i64 d.1, .slice au4 nu4 cu4] := (kbx0_14.belowS b15)
    have xkbx0_15_0 : w15.cell? ⟨w4.heap.size, 0, none⟩ = some (.int .i64 d.1) := kbx0_15.cell 0
    have xkbx0_15_1 : w15.cell? ⟨w4.heap.size, 1, none⟩ = some (.slice au4 nu4 cu4) := kbx0_15.cell 1
    have lkbx0_15 : w4.heap.size < w15.heap.size := kbx0_15.lt
    clear xkb0_14_0 xkb0_14_1 xkbx0_14_0 xkbx0_14_1
    go_wp2_with fail
    refine (law_heldS (1) _ ((((o11.below b12).below b13).below b14).below b15).rd (by omega) (by omega)).mono ?_
    rintro e w16 ⟨rfl, b16⟩
    have s16 := b16.size
    have B16 : Below w.heap.size w w16 := B15.trans (b16.mono B15.size)
    have kb0_16 : Blk w16 (w.heap.size) 24 #[.int .i64 d.1, .slice a0 n0 c0] := (kb0_15.belowS b16)
    have xkb0_16_0 : w16.cell? ⟨w.heap.size, 0, none⟩ = some (.int .i64 d.1) := kb0_16.cell 0
    have xkb0_16_1 : w16.cell? ⟨w.heap.size, 1, none⟩ = some (.slice a0 n0 c0) := kb0_16.cell 1
    have lkb0_16 : w.heap.size < w16.heap.size := kb0_16.lt
    have kbx0_16 : Blk w16 (w4.heap.size) 28 #[.int .i64 d.1, .slice au4 nu4 cu4] := (kbx0_15.belowS b16)
    have xkbx0_16_0 : w16.cell? ⟨w4.heap.size, 0, none⟩ = some (.int .i64 d.1) := kbx0_16.cell 0
    have xkbx0_16_1 : w16.cell? ⟨w4.heap.size, 1, none⟩ = some (.slice au4 nu4 cu4) := kbx0_16.cell 1
    have lkbx0_16 : w4.heap.size < w16.heap.size := kbx0_16.lt
    clear xkb0_15_0 xkb0_15_1 xkbx0_15_0 xkbx0_15_1
    go_wp2
    go_ret
    exact ⟨rfl, B16⟩
end Go.Proofs.Ytpjglifijdcgnaa
