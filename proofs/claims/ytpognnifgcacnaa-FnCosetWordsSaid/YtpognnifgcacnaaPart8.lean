/- Shortest words to all cosets: the program's cosetWords. -/
import Derived.Test.YtpognnifgcacnaaPart7
import Derived.Test.YtpognnifgcacnaaPart1
import Derived.Test.YtpognnifgcacnaaPart5
import Derived.Test.YtpognnifgcacnaaProg
import Derived.Test.YtpognnifgcacnaaPart6
import Derived.Deep.AppendLies
import Derived.Deep.DeepCutAuto
import Derived.Deep.CutBlock
import Derived.Test.YtpognnifgcacnaaPart2
import Derived.Test.YtpognnifgcacnaaPart3
namespace Go.Proofs.Ytpognnifgcacnaa
open Go.RowKit

theorem qGet {pre O : List Int} {o i c : Nat} (h : pre.length = o) (hi : i < O.length) (hc : iget O i = (c : Int)) : (ivals (pre ++ O.drop i))[(o + 0) * 1]? = some (I6 (c : Int)) := by
  apply iget_at
  rw [List.getElem?_append_right (by omega), show (o + 0) * 1 - pre.length = 0 by omega, List.getElem?_drop, Nat.add_zero, List.getElem?_eq_getElem hi, ← hc, iget_lt hi]
theorem qLen {pre O : List Int} {o i : Nat} (h : pre.length = o) (hi : i ≤ O.length) : (o + (O.length - i)) * 1 = (ivals (pre ++ O.drop i)).length := by
  rw [ivals_len, List.length_append, List.length_drop, h, Nat.mul_one]
theorem qApp1 {pre O : List Int} {o i : Nat} (h : pre.length = o) (hi : i ≤ O.length) (d : Int) : (ivals (pre ++ O.drop i)).drop (o * 1) ++ ((ivals [d]).drop (0 * 1)).take (1 * 1) = ivals ([] ++ (O ++ [d]).drop i) := by
  have h1 : (ivals (pre ++ O.drop i)).drop (o * 1) = ivals (O.drop i) := by
    rw [show ivals (pre ++ O.drop i) = ivals pre ++ ivals (O.drop i) by simp [ivals], List.drop_append_of_le_length (by rw [ivals_len]; omega), List.drop_of_length_le (by rw [ivals_len]; omega), List.nil_append]
  rw [h1, List.drop_append_of_le_length hi]
  simp [ivals]
theorem qApp2 {pre O : List Int} {i : Nat} (hi : i ≤ O.length) (d : Int) : ivals (pre ++ O.drop i) ++ ((ivals [d]).drop (0 * 1)).take (1 * 1) = ivals (pre ++ (O ++ [d]).drop i) := by
  rw [List.drop_append_of_le_length hi]
  simp [ivals]
theorem qNext {pre O : List Int} {i c : Nat} (hi : i < O.length) (hc : iget O i = (c : Int)) : pre ++ O.drop i = (pre ++ [(c : Int)]) ++ O.drop (i + 1) := by
  rw [List.drop_eq_getElem_cons hi, ← iget_lt hi, hc]; simp

set_option maxRecDepth 100000 in
set_option maxHeartbeats 2000000 in
theorem implShort_fc (T : List (List Int)) (ng n : Nat) (hng : T.length = ng) (hpos : 0 < ng) (hT : Leads T n) (hn : 0 < n) (hn4 : n ≤ 400) (hg5 : ng ≤ 5) :
    FC Try.prog 150 [(1005, imRo T)] [o1 (.sl 1005 0 ng)] (if tooLong (bfs T ng n).1 = true then [] else [(14, imOw (bfs T ng n).1)]) (if tooLong (bfs T ng n).1 = true then .tup [.one (.val (.slice none 0 0)), .one (.val (I6 3))] else .tup [.one (.sl 14 0 n), .one (.val (I6 0))]) [] := by
  have hlen : (irows T).length = ng := by rw [irows_len, hng]
  have hr0 : (lget T 0).length = n := hT.len 0 (by omega)
  have hrow : (irows T)[0]? = some (ivals (lget T 0)) := irows_get (by omega)
  have hSz := sizeR_fc 1005 ng
  refine fc_enter (nt := 72) Try.func150 rfl rfl (by simp) fun w0 ω0 => ?_
  have hbl0 : (bvals (List.replicate n false)).length = n := by rw [bvals_len]; simp
  rw [← hr0] at hbl0
  have hrp : (List.replicate (lget T 0).length false).length = (lget T 0).length := by simp
  (refine goes_seq ?_; refine goes_region ?_; apply run_step rfl; (exact stp_assign rfl rfl); apply run_step rfl; (exact stp_assign rfl rfl); refine run_nil ?_; refine fin_seq ?_; refine goes_seq ?_; refine goes_region ?_; apply run_step rfl; (exact stp_move rfl rfl); apply run_step rfl; (first | exact stp_ix (j := 0) rfl rfl rfl rfl rfl (by as_aux_lemma => kernel_rfl) rfl hpos (Nat.le_of_eq hlen.symm) | exact stp_makeB (E := 4) rfl (by as_aux_lemma => kernel_rfl) (by as_aux_lemma => kernel_rfl) rfl rfl rfl rfl (by omega) | exact stp_ix (j := 0) rfl rfl rfl rfl rfl (by as_aux_lemma => kernel_rfl) rfl (by omega) (Nat.le_of_eq hbl0.symm) | exact stp_stB (bs := List.replicate (lget T 0).length false) rfl rfl rfl rfl rfl (by rw [hrp]; omega) (by as_aux_lemma => kernel_rfl)); apply run_step rfl; (exact stp_loadR rfl (by as_aux_lemma => kernel_rfl) rfl rfl rfl (by first | assumption | exact ivals_get (by assumption) | exact irows_get (by assumption) | exact ivals_get (by omega) | exact irows_get (by omega) | rfl) (by first | exact ivals_len _ | assumption | rfl)); apply run_step rfl; (exact stp_len rfl rfl rfl (by as_aux_lemma => kernel_rfl)); apply run_step rfl; (exact stp_makeR (E := 49) (F := 2) rfl (by as_aux_lemma => kernel_rfl) (by as_aux_lemma => kernel_rfl) (by as_aux_lemma => kernel_rfl) rfl rfl rfl rfl (by omega)); apply run_step rfl; (exact stp_assign rfl rfl); refine run_nil ?_; refine fin_seq ?_; refine goes_seq ?_; refine goes_region ?_; apply run_step rfl; (exact stp_move rfl rfl); apply run_step rfl; (exact stp_len rfl rfl rfl (by as_aux_lemma => kernel_rfl)); apply run_step rfl; (first | exact stp_ix (j := 0) rfl rfl rfl rfl rfl (by as_aux_lemma => kernel_rfl) rfl hpos (Nat.le_of_eq hlen.symm) | exact stp_makeB (E := 4) rfl (by as_aux_lemma => kernel_rfl) (by as_aux_lemma => kernel_rfl) rfl rfl rfl rfl (by omega) | exact stp_ix (j := 0) rfl rfl rfl rfl rfl (by as_aux_lemma => kernel_rfl) rfl (by omega) (Nat.le_of_eq hbl0.symm) | exact stp_stB (bs := List.replicate (lget T 0).length false) rfl rfl rfl rfl rfl (by rw [hrp]; omega) (by as_aux_lemma => kernel_rfl)); apply run_step rfl; (exact stp_assign rfl rfl); refine run_nil ?_; refine fin_seq ?_; refine goes_seq ?_; refine goes_region ?_; apply run_step rfl; (exact stp_move rfl rfl); apply run_step rfl; (first | exact stp_ix (j := 0) rfl rfl rfl rfl rfl (by as_aux_lemma => kernel_rfl) rfl hpos (Nat.le_of_eq hlen.symm) | exact stp_makeB (E := 4) rfl (by as_aux_lemma => kernel_rfl) (by as_aux_lemma => kernel_rfl) rfl rfl rfl rfl (by omega) | exact stp_ix (j := 0) rfl rfl rfl rfl rfl (by as_aux_lemma => kernel_rfl) rfl (by omega) (Nat.le_of_eq hbl0.symm) | exact stp_stB (bs := List.replicate (lget T 0).length false) rfl rfl rfl rfl rfl (by rw [hrp]; omega) (by as_aux_lemma => kernel_rfl)); apply run_step rfl; (first | exact stp_ix (j := 0) rfl rfl rfl rfl rfl (by as_aux_lemma => kernel_rfl) rfl hpos (Nat.le_of_eq hlen.symm) | exact stp_makeB (E := 4) rfl (by as_aux_lemma => kernel_rfl) (by as_aux_lemma => kernel_rfl) rfl rfl rfl rfl (by omega) | exact stp_ix (j := 0) rfl rfl rfl rfl rfl (by as_aux_lemma => kernel_rfl) rfl (by omega) (Nat.le_of_eq hbl0.symm) | exact stp_stB (bs := List.replicate (lget T 0).length false) rfl rfl rfl rfl rfl (by rw [hrp]; omega) (by as_aux_lemma => kernel_rfl)); refine run_nil ?_; refine fin_seq ?_; refine goes_seq ?_; refine goes_seq ?_; refine goes_region ?_; apply run_step rfl; (exact stp_lit1I (E := 2) rfl (by as_aux_lemma => kernel_rfl) rfl); apply run_step rfl; (exact stp_assign rfl rfl); refine run_nil ?_; refine fin_seq ?_; refine goes_block ?_)
  refine goes_loop (fun q : Nat × BSt × List Int × Nat => St.of [(0, o1 (.sl 1005 0 ng)), (4, o1 (.sl 14 0 n)), (5, o1 (.sl 17 0 n)), (6, o1 (.sl 20 q.2.2.2 (q.2.1.2.2.length - q.1)))] [(1005, imRo T), (14, imOw q.2.1.1), (17, boOw q.2.1.2.1), (20, leOw (q.2.2.1 ++ q.2.1.2.2.drop q.1))])
    (fun q => q.1 ≤ q.2.1.2.2.length ∧ BOK n q.2.1 ∧ bLoop T ng (n + 1 - q.1) q.1 q.2.1 = bfs T ng n ∧ q.2.2.1.length = q.2.2.2 ∧ ∀ k, k < q.1 → (lget q.2.1.1 (iget q.2.1.2.2 k).toNat).length ≤ 64) (fun q => n + 1 - q.1) (0, bStart n, [], 0) ⟨Nat.zero_le _, bStart_ok hn, rfl, rfl, fun k hk => by omega⟩ (Wk.of ⟨rfl, by rw [← hr0]; rfl, by rw [← hr0]; rfl, rfl, trivial⟩ ⟨rfl, by rw [← hr0]; rfl, by rw [← hr0]; rfl, rfl, trivial⟩ trivial) ?_
  clear hbl0 hrp
  rintro ⟨i, ⟨W, B, O⟩, pre, o⟩ ⟨hi, hok, hl, hpre, hsh⟩
  dsimp only at hi hl hpre hsh ⊢
  have hOn : O.length ≤ n := hok.le
  (refine goes_seq ?_; refine goes_seq ?_; refine goes_region ?_; apply run_step rfl; (exact stp_move rfl rfl); apply run_step rfl; (exact stp_len rfl rfl rfl (by as_aux_lemma => kernel_rfl)); apply run_step rfl; (exact stp_bin rfl rfl rfl rfl); refine run_nil ?_; refine fin_seq ?_)
  refine goes_cond rfl (fun h => ?_) (fun h => ?_)
  · have hlt : i < O.length := by
      have := of_decide_eq_true h; omega
    have hgrf : BGrow n (W, B, O) (bfs T ng n) := by rw [← hl]; exact (bLoop_ok hT hng _ _ _ hok).2
    have hl' : bLoop T ng (n - i) (i + 1) (bRow T ng (iget O i).toNat (W, B, O)) = bfs T ng n := by
      rw [← hl, show n + 1 - i = (n - i) + 1 by omega]; exact (bLoop_step (T := T) (ng := ng) (s := (W, B, O)) hlt).symm
    obtain ⟨c, hc1, hc2, hc3⟩ := hok.q i hlt
    dsimp only at hc1 hc3
    rw [hc1, Int.toNat_natCast] at hl'
    have g1 := qGet hpre hlt hc1
    have gl : (o + (O.length - i)) * 1 ≤ (ivals (pre ++ O.drop i)).length := Nat.le_of_eq (qLen hpre hi)
    have hWl0 : W.length = n := hok.l1
    have hrW0 : (irows W)[c]? = some (ivals (lget W c)) := irows_get (by omega)
    have hoi : 0 < O.length - i := by omega
    (refine goes_skip ?_; refine fin_seq ?_; refine goes_seq ?_; refine goes_block ?_; refine goes_seq ?_; refine goes_region ?_; apply run_step rfl; (exact stp_move rfl rfl); apply run_step rfl; (exact stp_indexAddr (k := 1) (j := 0) rfl rfl rfl rfl rfl (by as_aux_lemma => kernel_rfl) rfl hoi gl (by omega)); apply run_step rfl; (exact stp_loadV rfl (by as_aux_lemma => kernel_rfl) rfl rfl rfl (by first | assumption | exact ivals_get (by assumption) | exact irows_get (by assumption) | exact ivals_get (by omega) | exact irows_get (by omega) | rfl)); apply run_step rfl; (exact stp_assign rfl rfl); refine run_nil ?_; refine fin_seq ?_; refine goes_seq ?_; refine goes_seq ?_; refine goes_region ?_; apply run_step rfl; (exact stp_move rfl rfl); apply run_step rfl; (exact stp_move rfl rfl); apply run_step rfl; (exact stp_ix rfl rfl rfl rfl rfl (by as_aux_lemma => kernel_rfl) (by first | rfl | exact (Int.toNat_of_nonneg (by omega)).symm) (by first | assumption | omega | (simp; omega)) (by first | exact Nat.le_refl _ | exact Nat.le_of_eq (ivals_len _).symm | exact Nat.le_of_eq (irows_len _).symm | (refine Nat.le_trans ?_ (Nat.le_of_eq (ivals_len _).symm); (first | omega | (simp; done) | (simp; omega))) | (refine Nat.le_trans ?_ (Nat.le_of_eq (irows_len _).symm); (first | omega | (simp; done) | (simp; omega))))); apply run_step rfl; (exact stp_loadR rfl (by as_aux_lemma => kernel_rfl) rfl rfl rfl (by first | assumption | exact ivals_get (by assumption) | exact irows_get (by assumption) | exact ivals_get (by omega) | exact irows_get (by omega) | rfl) (by first | exact ivals_len _ | assumption | rfl)); apply run_step rfl; (exact stp_len rfl rfl rfl (by as_aux_lemma => kernel_rfl)); apply run_step rfl; (exact stp_bin rfl rfl rfl rfl); refine run_nil ?_; refine fin_seq ?_)
    refine goes_if rfl (fun hbig => ?_) (fun hbig => ?_)
    · have hbig' : 64 < (lget W c).length := by omega
      have htl : tooLong (bfs T ng n).1 = true := tooLong_of (d := c) (by rw [(hgrf.met c hc2 hc3).2]; exact hbig')
      rw [if_pos htl, if_pos htl]
      (refine goes_seq ?_; refine goes_region ?_; apply run_step rfl; (exact stp_assign rfl rfl); apply run_step rfl; (exact stp_assign rfl rfl); refine run_nil ?_; refine fin_seq ?_; refine goes_ret ?_; refine fin_ret_then ?_; refine fin_ret_block ?_; refine fin_ret_then ?_; refine fin_ret_then ?_; refine fin_ret_block ?_; refine fin_ret_then ?_)
      exact fin_ret2 (.inl rfl) rfl (.tmp rfl) (.tmp rfl) trivial trivial
    · have hsmall : (lget W c).length ≤ 64 := by omega
      obtain ⟨s0, hs0⟩ : ∃ s0 : BSt, s0 = (W, B, O) := ⟨_, rfl⟩
      have hro : ∀ m, m ≤ ng → BOK n ((List.range m).foldl (bStep T c) s0) ∧ BGrow n s0 ((List.range m).foldl (bStep T c) s0) := fun m hm => bRow_ok hT hng hc2 (by rw [hs0]; exact hok) m hm
      have hO0 : s0.2.2.length = O.length := by rw [hs0]
      have hc0 : iget s0.2.2 i = (c : Int) := by rw [hs0]; exact hc1
      have hfin : bLoop T ng (n - i) (i + 1) ((List.range ng).foldl (bStep T c) s0) = bfs T ng n := by rw [hs0]; exact hl'
      have hsh0 : ∀ k, k < i + 1 → k < s0.2.2.length ∧ (lget s0.1 (iget s0.2.2 k).toNat).length ≤ 64 := fun k hk => by
        rw [hs0]
        refine ⟨by show k < O.length; omega, ?_⟩
        by_cases e : k = i
        · subst e; show (lget W (iget O k).toNat).length ≤ 64; rw [hc1, Int.toNat_natCast]; exact hsmall
        · exact hsh k (by omega)
      have hok0 : BOK n s0 := by rw [hs0]; exact hok
      (refine goes_skip ?_; refine fin_seq ?_; refine goes_seq ?_; refine goes_region ?_; apply run_step rfl; (exact stp_move rfl rfl); apply run_step rfl; (apply call_gate 145; exact stp_callR hSz (by as_aux_lemma => kernel_rfl) rfl rfl ⟨rfl, trivial⟩ trivial rfl rfl); apply run_step rfl; (exact stp_move rfl rfl); refine run_nil ?_; refine fin_seq ?_; refine goes_block ?_)
      refine goes_loop (fun q : Nat × BSt × List Int × Nat => St.of [(0, o1 (.sl 1005 0 ng)), (4, o1 (.sl 14 0 n)), (5, o1 (.sl 17 0 n)), (6, o1 (.sl 20 q.2.2.2 (q.2.1.2.2.length - i))), (7, vv (I6 c)), (36, vv (I6 ng)), (37, vv (I6 q.1))] [(1005, imRo T), (14, imOw q.2.1.1), (17, boOw q.2.1.2.1), (20, leOw (q.2.2.1 ++ q.2.1.2.2.drop i))])
        (fun q => q.1 ≤ ng ∧ (List.range q.1).foldl (bStep T c) s0 = q.2.1 ∧ q.2.2.1.length = q.2.2.2) (fun q => ng - q.1) (0, (W, B, O), pre, o) ⟨Nat.zero_le _, hs0, hpre⟩ (Wk.of ⟨rfl, rfl, rfl, rfl, rfl, rfl, rfl, trivial⟩ ⟨rfl, rfl, rfl, rfl, trivial⟩ trivial) ?_
      clear hl hl' hok hs0 hc1 g1 gl hsh hgrf hbig hWl0 hrW0 hpre hc3 hsmall
      generalize O.length = on at *
      rintro ⟨g, ⟨W, B, O⟩, pre, o⟩ ⟨hg, hfo, hpre⟩
      dsimp only at hg hfo hpre ⊢
      obtain ⟨hok, grw⟩ := hro g hg
      rw [hfo] at hok grw
      have hOl : O.length ≤ n := hok.le
      have hiO : i < O.length := Nat.lt_of_lt_of_le (by omega) grw.len
      have hWl : W.length = n := hok.l1
      have hBl : B.length = n := hok.l2
      have hbl : (bvals B).length = n := by rw [bvals_len]; exact hBl
      have hci : iget O i = (c : Int) := (grw.pre i (by omega)).trans hc0
      (refine goes_seq ?_; refine goes_region ?_; apply run_step rfl; (exact stp_bin rfl rfl rfl rfl); refine run_nil ?_; refine fin_seq ?_; refine goes_seq ?_)
      refine goes_if rfl (fun h2 => ?_) (fun h2 => ?_)
      · have hgn : g < ng := by omega
        have hd := bTo_lt hT hc2 (g := g) (by omega)
        have hrl : (lget T g).length = n := hT.len g (by omega)
        obtain ⟨d, hdd⟩ : ∃ d, bTo T c g = d := ⟨_, rfl⟩
        have hst : (List.range (g + 1)).foldl (bStep T c) s0 = bVisit (W, B, O) c g d := by
          rw [List.range_succ, List.foldl_append, hfo, ← hdd]; rfl
        rw [hdd] at hd
        have hgetd : (ivals (lget T g))[c]? = some (I6 (d : Int)) := by rw [ivals_get (by omega), hd.2]
        have hgb : (bvals B)[d]? = some (.bool (bat B d)) := bvals_get (by omega)
        have hWc : (lget W c).length < O.length := hok.len c
        have hCl := implClone_fc 14 61 c (lget W c).length W (by omega) rfl (by omega)
        (refine goes_skip ?_; refine fin_seq ?_; refine goes_seq ?_; refine goes_block ?_; refine goes_seq ?_; refine goes_region ?_; apply run_step rfl; (exact stp_move rfl rfl); apply run_step rfl; (exact stp_assign rfl rfl); refine run_nil ?_; refine fin_seq ?_; refine goes_seq ?_; refine goes_region ?_; apply run_step rfl; (exact stp_move rfl rfl); apply run_step rfl; (exact stp_move rfl rfl); apply run_step rfl; (exact stp_ix rfl rfl rfl rfl rfl (by as_aux_lemma => kernel_rfl) (by first | rfl | exact (Int.toNat_of_nonneg (by omega)).symm) (by first | assumption | omega | (simp; omega)) (by first | exact Nat.le_refl _ | exact Nat.le_of_eq (ivals_len _).symm | exact Nat.le_of_eq (irows_len _).symm | (refine Nat.le_trans ?_ (Nat.le_of_eq (ivals_len _).symm); (first | omega | (simp; done) | (simp; omega))) | (refine Nat.le_trans ?_ (Nat.le_of_eq (irows_len _).symm); (first | omega | (simp; done) | (simp; omega))))); apply run_step rfl; (exact stp_loadR rfl (by as_aux_lemma => kernel_rfl) rfl rfl rfl (by first | assumption | exact ivals_get (by assumption) | exact irows_get (by assumption) | exact ivals_get (by omega) | exact irows_get (by omega) | rfl) (by first | exact ivals_len _ | assumption | rfl)); apply run_step rfl; (exact stp_move rfl rfl); apply run_step rfl; (exact stp_ixE rfl rfl rfl rfl rfl (by as_aux_lemma => kernel_rfl) (by first | assumption | exact ivals_get (by assumption) | exact irows_get (by assumption) | exact ivals_get (by omega) | exact irows_get (by omega) | rfl) (by first | rfl | exact (Int.toNat_of_nonneg (by omega)).symm) (by first | assumption | omega | (simp; omega)) (by first | exact Nat.le_refl _ | exact Nat.le_of_eq (ivals_len _).symm | exact Nat.le_of_eq (irows_len _).symm | (refine Nat.le_trans ?_ (Nat.le_of_eq (ivals_len _).symm); (first | omega | (simp; done) | (simp; omega))) | (refine Nat.le_trans ?_ (Nat.le_of_eq (irows_len _).symm); (first | omega | (simp; done) | (simp; omega))))); apply run_step rfl; (exact stp_loadE' rfl (by as_aux_lemma => kernel_rfl) rfl rfl rfl (by first | assumption | exact ivals_get (by assumption) | exact irows_get (by assumption) | exact ivals_get (by omega) | exact irows_get (by omega) | rfl) (by first | assumption | exact ivals_get (by assumption) | exact irows_get (by assumption) | exact ivals_get (by omega) | exact irows_get (by omega) | rfl)); apply run_step rfl; (exact stp_assign rfl rfl); refine run_nil ?_; refine fin_seq ?_; refine goes_seq ?_; refine goes_region ?_; apply run_step rfl; (exact stp_move rfl rfl); apply run_step rfl; (exact stp_move rfl rfl); apply run_step rfl; (exact stp_ix rfl rfl rfl rfl rfl (by as_aux_lemma => kernel_rfl) rfl hd.1 (Nat.le_of_eq hbl.symm)); apply run_step rfl; (exact stp_loadV rfl (by as_aux_lemma => kernel_rfl) rfl rfl rfl (by first | assumption | exact ivals_get (by assumption) | exact irows_get (by assumption) | exact ivals_get (by omega) | exact irows_get (by omega) | rfl)); apply run_step rfl; (exact stp_not rfl rfl); refine run_nil ?_; refine fin_seq ?_)
        refine goes_cond rfl (fun hb => ?_) (fun hb => ?_)
        · have hb : bat B d = false := by simpa using hb
          have hv : bVisit (W, B, O) c g d = (W.set d (lget W c ++ [(g : Int)]), B.set d true, O ++ [(d : Int)]) := if_neg (by rw [hb]; simp)
          have hset : (irows W).set d (ivals (lget W c ++ [(g : Int)])) = irows (W.set d (lget W c ++ [(g : Int)])) := irows_set _ _ _
          have hrW : (irows W)[c]? = some (ivals (lget W c)) := irows_get (by omega)
          have hln : (o + (O.length - i)) * 1 = (ivals (pre ++ O.drop i)).length := qLen hpre (by omega)
          (refine goes_seq ?_; refine goes_region ?_; apply run_step rfl; (exact stp_move rfl rfl); apply run_step rfl; (exact stp_move rfl rfl); apply run_step rfl; (first | exact stp_ix rfl rfl rfl rfl rfl (by as_aux_lemma => kernel_rfl) rfl hd.1 (Nat.le_of_eq hbl.symm) | exact stp_stB rfl rfl rfl rfl rfl (by rw [hBl]; exact hd.1) (by as_aux_lemma => kernel_rfl) | (apply call_gate 184; exact stp_callN hCl (by as_aux_lemma => kernel_rfl) rfl rfl ⟨rfl, trivial⟩ ⟨⟨_, rfl, .inr rfl⟩, trivial⟩ rfl rfl rfl) | exact stp_storeRow (n := 14) (z := 61) (i := d) rfl rfl (by simp) rfl rfl (by rw [ivals_len]; simp) rfl (by rw [irows_len, hWl]; exact hd.1) (by as_aux_lemma => kernel_rfl)); apply run_step rfl; (first | exact stp_ix rfl rfl rfl rfl rfl (by as_aux_lemma => kernel_rfl) rfl hd.1 (Nat.le_of_eq hbl.symm) | exact stp_stB rfl rfl rfl rfl rfl (by rw [hBl]; exact hd.1) (by as_aux_lemma => kernel_rfl) | (apply call_gate 184; exact stp_callN hCl (by as_aux_lemma => kernel_rfl) rfl rfl ⟨rfl, trivial⟩ ⟨⟨_, rfl, .inr rfl⟩, trivial⟩ rfl rfl rfl) | exact stp_storeRow (n := 14) (z := 61) (i := d) rfl rfl (by simp) rfl rfl (by rw [ivals_len]; simp) rfl (by rw [irows_len, hWl]; exact hd.1) (by as_aux_lemma => kernel_rfl)); refine run_nil ?_; refine fin_seq ?_; refine goes_seq ?_; refine goes_region ?_; apply run_step rfl; (exact stp_move rfl rfl); apply run_step rfl; (exact stp_move rfl rfl); apply run_step rfl; (exact stp_move rfl rfl); apply run_step rfl; (exact stp_move rfl rfl); apply run_step rfl; (exact stp_ix rfl rfl rfl rfl rfl (by as_aux_lemma => kernel_rfl) (by first | rfl | exact (Int.toNat_of_nonneg (by omega)).symm) (by first | assumption | omega | (simp; omega)) (by first | exact Nat.le_refl _ | exact Nat.le_of_eq (ivals_len _).symm | exact Nat.le_of_eq (irows_len _).symm | (refine Nat.le_trans ?_ (Nat.le_of_eq (ivals_len _).symm); (first | omega | (simp; done) | (simp; omega))) | (refine Nat.le_trans ?_ (Nat.le_of_eq (irows_len _).symm); (first | omega | (simp; done) | (simp; omega))))); apply run_step rfl; (exact stp_loadR rfl (by as_aux_lemma => kernel_rfl) rfl rfl rfl (by first | assumption | exact ivals_get (by assumption) | exact irows_get (by assumption) | exact ivals_get (by omega) | exact irows_get (by omega) | rfl) (by first | exact ivals_len _ | assumption | rfl)); apply run_step rfl; (first | exact stp_ix rfl rfl rfl rfl rfl (by as_aux_lemma => kernel_rfl) rfl hd.1 (Nat.le_of_eq hbl.symm) | exact stp_stB rfl rfl rfl rfl rfl (by rw [hBl]; exact hd.1) (by as_aux_lemma => kernel_rfl) | (apply call_gate 184; exact stp_callN hCl (by as_aux_lemma => kernel_rfl) rfl rfl ⟨rfl, trivial⟩ ⟨⟨_, rfl, .inr rfl⟩, trivial⟩ rfl rfl rfl) | exact stp_storeRow (n := 14) (z := 61) (i := d) rfl rfl (by simp) rfl rfl (by rw [ivals_len]; simp) rfl (by rw [irows_len, hWl]; exact hd.1) (by as_aux_lemma => kernel_rfl)); apply run_step rfl; (exact stp_move rfl rfl); apply run_step rfl; (exact stp_lit1I (E := 2) rfl (by as_aux_lemma => kernel_rfl) rfl); apply run_step rfl; (exact stp_appI rfl (by as_aux_lemma => kernel_rfl) rfl rfl rfl (by first | rfl | assumption | (simp; done)) rfl rfl (by omega)); apply run_step rfl; (exact stp_ix rfl rfl rfl rfl rfl (by as_aux_lemma => kernel_rfl) (by first | rfl | exact (Int.toNat_of_nonneg (by omega)).symm) (by first | assumption | omega | (simp; omega)) (by first | exact Nat.le_refl _ | exact Nat.le_of_eq (ivals_len _).symm | exact Nat.le_of_eq (irows_len _).symm | (refine Nat.le_trans ?_ (Nat.le_of_eq (ivals_len _).symm); (first | omega | (simp; done) | (simp; omega))) | (refine Nat.le_trans ?_ (Nat.le_of_eq (irows_len _).symm); (first | omega | (simp; done) | (simp; omega))))); apply run_step rfl; (first | exact stp_ix rfl rfl rfl rfl rfl (by as_aux_lemma => kernel_rfl) rfl hd.1 (Nat.le_of_eq hbl.symm) | exact stp_stB rfl rfl rfl rfl rfl (by rw [hBl]; exact hd.1) (by as_aux_lemma => kernel_rfl) | (apply call_gate 184; exact stp_callN hCl (by as_aux_lemma => kernel_rfl) rfl rfl ⟨rfl, trivial⟩ ⟨⟨_, rfl, .inr rfl⟩, trivial⟩ rfl rfl rfl) | exact stp_storeRow (n := 14) (z := 61) (i := d) rfl rfl (by simp) rfl rfl (by rw [ivals_len]; simp) rfl (by rw [irows_len, hWl]; exact hd.1) (by as_aux_lemma => kernel_rfl)); refine run_nil ?_; refine fin_seq ?_; refine goes_region ?_; apply run_step rfl; (exact stp_move rfl rfl); apply run_step rfl; (exact stp_move rfl rfl); apply run_step rfl; (exact stp_lit1I (E := 2) rfl (by as_aux_lemma => kernel_rfl) rfl))
          refine run_or rfl (stpor_append (k := 1) (m := 1) (E := 2) rfl (by as_aux_lemma => kernel_rfl) rfl rfl rfl hln rfl (reads_vals (k := 1) rfl rfl rfl rfl (Nat.le_refl _)) (by omega) (by intro v hv; simp [ivals] at hv; subst hv; rfl) (by omega)) ?_ ?_
          · (apply run_step rfl; (exact stp_assign rfl rfl); refine run_nil ?_; refine fin_block ?_; refine fin_seq ?_; refine goes_region ?_; apply run_step rfl; (exact stp_add rfl rfl rfl (by first | exact IntWalk.i64_in _ (by omega) | rfl)); apply run_step rfl; (exact stp_move rfl rfl); refine run_nil ?_)
            exact fin_round (g + 1, (W.set d (lget W c ++ [(g : Int)]), B.set d true, O ++ [(d : Int)]), [], 0) ⟨hgn, hst.trans hv, rfl⟩ (by show ng - (g + 1) < ng - g; omega) (Wk.of ⟨rfl, rfl, rfl, congrArg (fun x => some (o1 (.sl 20 0 x))) (by simp; omega), rfl, rfl, rfl, trivial⟩ ⟨rfl, congrArg (fun l => some (⟨true, 49, 1, .rows 2 l []⟩ : Ch)) hset, rfl, congrArg (fun l => some (⟨true, 2, 1, .vals l⟩ : Ch)) (qApp1 hpre (by omega) (d : Int)), trivial⟩ trivial)
          · (apply run_step rfl; (exact stp_assign rfl rfl); refine run_nil ?_; refine fin_block ?_; refine fin_seq ?_; refine goes_region ?_; apply run_step rfl; (exact stp_add rfl rfl rfl (by first | exact IntWalk.i64_in _ (by omega) | rfl)); apply run_step rfl; (exact stp_move rfl rfl); refine run_nil ?_)
            exact fin_round (g + 1, (W.set d (lget W c ++ [(g : Int)]), B.set d true, O ++ [(d : Int)]), pre, o) ⟨hgn, hst.trans hv, hpre⟩ (by show ng - (g + 1) < ng - g; omega) (Wk.of ⟨rfl, rfl, rfl, congrArg (fun x => some (o1 (.sl 20 o x))) (by simp; omega), rfl, rfl, rfl, trivial⟩ ⟨rfl, congrArg (fun l => some (⟨true, 49, 1, .rows 2 l []⟩ : Ch)) hset, rfl, congrArg (fun l => some (⟨true, 2, 1, .vals l⟩ : Ch)) (qApp2 (by omega) (d : Int)), trivial⟩ trivial)
        · have hb : bat B d = true := by simpa using hb
          have hv : bVisit (W, B, O) c g d = (W, B, O) := if_pos hb
          (refine goes_skip ?_; refine fin_block ?_; refine fin_seq ?_; refine goes_region ?_; apply run_step rfl; (exact stp_add rfl rfl rfl (by first | exact IntWalk.i64_in _ (by omega) | rfl)); apply run_step rfl; (exact stp_move rfl rfl); refine run_nil ?_)
          exact fin_round (g + 1, (W, B, O), pre, o) ⟨hgn, hst.trans hv, hpre⟩ (by show ng - (g + 1) < ng - g; omega) (Wk.of ⟨rfl, rfl, rfl, rfl, rfl, rfl, rfl, trivial⟩ ⟨rfl, rfl, rfl, rfl, trivial⟩ trivial)
      · obtain rfl : g = ng := by omega
        have gl : (o + (O.length - i)) * 1 ≤ (ivals (pre ++ O.drop i)).length := Nat.le_of_eq (qLen hpre (by omega))
        (refine goes_exit ?_; refine fin_exit_then ?_; refine fin_exit_then ?_; refine fin_exit_eq ?_; refine fin_block ?_; refine fin_seq ?_; refine goes_region ?_; apply run_step rfl; (exact stp_move rfl rfl); apply run_step rfl; (exact stp_slice (k := 1) (l := 1) rfl rfl rfl rfl (by as_aux_lemma => kernel_rfl) (by omega) (bnd_some rfl rfl) bnd_none (by omega) (Nat.le_refl _) gl); apply run_step rfl; (exact stp_assign rfl rfl); refine run_nil ?_)
        exact fin_round (i + 1, (W, B, O), pre ++ [(c : Int)], o + 1) ⟨hiO, hok, by rw [← hfin, hfo]; show bLoop _ _ (n + 1 - (i + 1)) _ _ = _; rw [show n + 1 - (i + 1) = n - i by omega], by simp; omega, fun k hk => by
            obtain ⟨q1, q2⟩ := hsh0 k hk
            obtain ⟨e, e1, e2, e3⟩ := hok0.q k q1
            show (lget W (iget O k).toNat).length ≤ 64
            rw [grw.pre k q1, e1, Int.toNat_natCast, (grw.met e e2 e3).2]
            rw [e1, Int.toNat_natCast] at q2; exact q2⟩ (by show n + 1 - (i + 1) < n + 1 - i; omega) (Wk.of ⟨rfl, rfl, rfl, congrArg (fun x => some (o1 (.sl 20 (o + 1) x))) (show O.length - i - 1 = O.length - (i + 1) by omega), trivial⟩ ⟨rfl, rfl, rfl, congrArg (fun l => some (⟨true, 2, 1, .vals (ivals l)⟩ : Ch)) (qNext hiO hci), trivial⟩ trivial)
  · have hio : i = O.length := by
      have := of_decide_eq_false h; omega
    have hOM : bfs T ng n = (W, B, O) := by
      rw [← hl, show n + 1 - i = (n - i) + 1 by omega, bLoop, if_neg (by show ¬ i < O.length; omega)]
    have htl : ¬ tooLong (bfs T ng n).1 = true := fun ht => by
      rw [hOM] at ht
      obtain ⟨k, k1, k2⟩ := tooLong_at hok ht
      dsimp only at k1 k2
      have := hsh k (by omega)
      omega
    rw [if_neg htl, if_neg htl]
    rw [hOM]
    (refine goes_exit ?_; refine fin_exit_then ?_; refine fin_exit_then ?_; refine fin_exit_eq ?_; refine fin_seq ?_; refine goes_seq ?_; refine goes_region ?_; apply run_step rfl; (exact stp_move rfl rfl); apply run_step rfl; (exact stp_assign rfl rfl); apply run_step rfl; (exact stp_assign rfl rfl); refine run_nil ?_; refine fin_seq ?_; refine goes_ret ?_)
    exact fin_ret2 (.inl rfl) rfl (.tmp rfl) (.tmp rfl) ⟨rfl, trivial⟩ trivial
end Go.Proofs.Ytpognnifgcacnaa

/- CosetWords. -/
namespace Go.Proofs.Ytpognnifgcacnaa
open Go.RowKit

def cwW (d : PresD) (ws : List (List Int)) : List (List Int) := (bfs (cosTab d ws) d.1.toNat (cosN d ws)).1
def cwR (d : PresD) (ws : List (List Int)) : List (List Int) := if ctC d ws = 0 then (if tooLong (cwW d ws) = true then [] else cwW d ws) else []
def cwC (d : PresD) (ws : List (List Int)) : Int := if ctC d ws = 0 then (if tooLong (cwW d ws) = true then 3 else 0) else ctC d ws
theorem cwW_nat (ng : Nat) (rels ws : List (List Int)) : cwW ((ng : Int), rels) ws = (bfs (cosTab ((ng : Int), rels) ws) ng (cosN ((ng : Int), rels) ws)).1 := by unfold cwW; rw [Int.toNat_natCast]
theorem bfs_ok {T : List (List Int)} {ng n : Nat} (hT : Leads T n) (hng : T.length = ng) (hn : 0 < n) : BOK n (bfs T ng n) := (bLoop_ok hT hng _ _ _ (bStart_ok hn)).1

set_option maxRecDepth 100000 in
set_option maxHeartbeats 2000000 in
theorem specCW_fc (g : Int) (rels ws : List (List Int)) (h1 : Fit rels) (h2 : Fit ws) :
    FC Try.prog 72 [(1002, rowsRo ws), (1003, rowsRo rels)] [pA g rels.length, o1 (.sl 1002 0 ws.length)] (if ctC (g, rels) ws = 0 ∧ tooLong (cwW (g, rels) ws) = false then [(13, imOw (cwW (g, rels) ws))] else [])
      (if ctC (g, rels) ws = 0 ∧ tooLong (cwW (g, rels) ws) = false then .tup [.one (.sl 13 0 (cwW (g, rels) ws).length), .one (.val (I6 0))] else .tup [.one (.val (.slice none 0 0)), .one (.val (I6 (cwC (g, rels) ws)))]) [] := by
  refine fc_enter (nt := 34) Try.func72 rfl rfl (by simp) fun w0 ω0 => ?_
  by_cases hk : withOk (g, rels) ws = true ∧ smallOk (g, rels) ws = true
  · obtain ⟨ng, rfl, hG⟩ := good_of hk.1
    have hE := specCT_yes ng rels ws h1 h2 hk.1 hG hk.2
    have hs := smallOk_run hk.2
    have hc := ctC_ok hk
    have hS := specShort_fc _ ng _ (cosTab_len ng rels ws) hG.pos (cosTab_leads hG hs.1) (cosN_pos hG hs.1) hs.2 hG.hi
    have hB := bfs_ok (cosTab_leads hG hs.1) (cosTab_len ng rels ws) (cosN_pos hG hs.1)
    have hWl : (cwW ((ng : Int), rels) ws).length = cosN ((ng : Int), rels) ws := by rw [cwW_nat]; exact hB.l1
    rw [← cwW_nat] at hS
    unfold cwC
    rw [hc]
    generalize hW : cwW ((ng : Int), rels) ws = W at *
    have hN4 := hs.2
    generalize cosN ((ng : Int), rels) ws = N at *
    generalize cosTab ((ng : Int), rels) ws = T at *
    (refine goes_seq ?_; refine goes_region ?_; apply run_step rfl; (exact stp_box rfl rfl rfl rfl); apply run_step rfl; (exact stp_assign rfl rfl); apply run_step rfl; (exact stp_assign rfl rfl); refine run_nil ?_; refine fin_seq ?_; refine goes_seq ?_; refine goes_region ?_; apply run_step rfl; (exact stp_loadAgg rfl rfl rfl rfl rfl rfl (by as_aux_lemma => kernel_rfl)); apply run_step rfl; (exact stp_move rfl rfl); apply run_step rfl; (first | (apply call_gate 61; exact stp_callN hE (by as_aux_lemma => kernel_rfl) rfl rfl ⟨⟨.inl rfl, .inl rfl, trivial⟩, rfl, trivial⟩ ⟨⟨_, rfl, .inl rfl⟩, ⟨_, rfl, .inl rfl⟩, trivial⟩ rfl rfl rfl) | (apply call_gate 151; exact stp_callN hS (by as_aux_lemma => kernel_rfl) rfl rfl ⟨rfl, trivial⟩ ⟨⟨_, rfl, .inr rfl⟩, trivial⟩ rfl rfl rfl)); apply run_step rfl; (exact stp_move rfl rfl); apply run_step rfl; (exact stp_extract rfl rfl rfl); apply run_step rfl; (exact stp_extract rfl rfl rfl); apply run_step rfl; (exact stp_assign rfl rfl); apply run_step rfl; (exact stp_assign rfl rfl); refine run_nil ?_; refine fin_seq ?_; refine goes_seq ?_; refine goes_seq ?_; refine goes_region ?_; apply run_step rfl; (exact stp_move rfl rfl); apply run_step rfl; (exact stp_bin rfl rfl rfl rfl); refine run_nil ?_; refine fin_seq ?_)
    refine goes_cond rfl (fun e => by cases e) (fun _ => ?_)
    (refine goes_skip ?_; refine fin_seq ?_; refine goes_seq ?_; refine goes_region ?_; apply run_step rfl; (exact stp_move rfl rfl); apply run_step rfl; (apply call_gate 151; exact stp_callN hS (by as_aux_lemma => kernel_rfl) rfl rfl ⟨rfl, trivial⟩ ⟨⟨_, rfl, .inr rfl⟩, trivial⟩ rfl rfl rfl); apply run_step rfl; (exact stp_assign rfl rfl); refine run_nil ?_; refine fin_seq ?_; refine goes_seq ?_; refine goes_seq ?_; refine goes_region ?_; apply run_step rfl; (exact stp_assign rfl rfl); refine run_nil ?_; refine fin_seq ?_; refine goes_block ?_)
    refine goes_loop (fun i : Nat => St.of [(8, o1 (.sl 13 0 N)), (9, vv (I6 i))] [(13, imOw W)]) (fun i => i ≤ N ∧ ∀ k, k < i → (lget W k).length ≤ 64) (fun i => N - i) 0 ⟨Nat.zero_le _, fun k hk => by omega⟩ (Wk.of ⟨rfl, rfl, trivial⟩ ⟨rfl, trivial⟩ trivial) ?_
    rintro i ⟨hi, hsh⟩
    (refine goes_seq ?_; refine goes_seq ?_; refine goes_region ?_; apply run_step rfl; (exact stp_move rfl rfl); apply run_step rfl; (exact stp_move rfl rfl); apply run_step rfl; (exact stp_len rfl rfl rfl (by as_aux_lemma => kernel_rfl)); apply run_step rfl; (exact stp_bin rfl rfl rfl rfl); refine run_nil ?_; refine fin_seq ?_)
    refine goes_if rfl (fun hlt => ?_) (fun hlt => ?_)
    · have hlt' : i < N := by omega
      have hrw : (irows W)[i]? = some (ivals (lget W i)) := irows_get (by omega)
      (refine goes_skip ?_; refine fin_seq ?_; refine goes_seq ?_; refine goes_block ?_; refine goes_seq ?_; refine goes_region ?_; apply run_step rfl; (exact stp_move rfl rfl); apply run_step rfl; (exact stp_move rfl rfl); apply run_step rfl; (exact stp_ix rfl rfl rfl rfl rfl (by as_aux_lemma => kernel_rfl) (by first | rfl | exact (Int.toNat_of_nonneg (by omega)).symm) (by first | assumption | omega | (simp; omega)) (by first | exact Nat.le_refl _ | exact Nat.le_of_eq (ivals_len _).symm | exact Nat.le_of_eq (irows_len _).symm | (refine Nat.le_trans ?_ (Nat.le_of_eq (ivals_len _).symm); (first | omega | (simp; done) | (simp; omega))) | (refine Nat.le_trans ?_ (Nat.le_of_eq (irows_len _).symm); (first | omega | (simp; done) | (simp; omega))))); apply run_step rfl; (exact stp_loadR rfl (by as_aux_lemma => kernel_rfl) rfl rfl rfl (by first | assumption | exact ivals_get (by assumption) | exact irows_get (by assumption) | exact ivals_get (by omega) | exact irows_get (by omega) | rfl) (by first | exact ivals_len _ | assumption | rfl)); apply run_step rfl; (exact stp_len rfl rfl rfl (by as_aux_lemma => kernel_rfl)); apply run_step rfl; (exact stp_bin rfl rfl rfl rfl); refine run_nil ?_; refine fin_seq ?_)
      refine goes_if rfl (fun hb => ?_) (fun hb => ?_)
      · have hb' : 64 < (lget W i).length := by omega
        have htl : tooLong W = true := tooLong_of hb'
        rw [if_neg (by rw [htl]; simp), if_neg (by rw [htl]; simp), if_pos rfl, if_pos htl]
        (refine goes_seq ?_; refine goes_region ?_; apply run_step rfl; (exact stp_assign rfl rfl); apply run_step rfl; (exact stp_assign rfl rfl); refine run_nil ?_; refine fin_seq ?_; refine goes_ret ?_; refine fin_ret_block ?_; refine fin_ret_then ?_; refine fin_ret_then ?_; refine fin_ret_block ?_; refine fin_ret_then ?_)
        exact fin_ret2 (.inl rfl) rfl (.tmp rfl) (.tmp rfl) trivial trivial
      · (refine goes_skip ?_; refine fin_block ?_; refine fin_seq ?_; refine goes_region ?_; apply run_step rfl; (exact stp_move rfl rfl); apply run_step rfl; (exact stp_add rfl rfl rfl (by first | exact IntWalk.i64_in _ (by omega) | rfl)); apply run_step rfl; (exact stp_assign rfl rfl); refine run_nil ?_)
        exact fin_round (i + 1) ⟨hlt', fun k hk => by
          by_cases e : k = i
          · subst e; omega
          · exact hsh k (by omega)⟩ (by omega) (Wk.of ⟨rfl, rfl, trivial⟩ ⟨rfl, trivial⟩ trivial)
    · obtain rfl : i = N := by omega
      have htl : tooLong W = false := by
        rw [← Bool.not_eq_true]
        intro ht
        unfold tooLong at ht
        rw [List.any_eq_true] at ht
        obtain ⟨w, hw, hlw⟩ := ht
        obtain ⟨j, hj, rfl⟩ := List.getElem_of_mem hw
        have := hsh j (by omega)
        rw [lget_lt hj] at this
        have := of_decide_eq_true hlw
        omega
      rw [if_pos ⟨rfl, htl⟩, if_pos ⟨rfl, htl⟩]
      (refine goes_exit ?_; refine fin_exit_then ?_; refine fin_exit_then ?_; refine fin_exit_eq ?_; refine fin_seq ?_; refine goes_seq ?_; refine goes_region ?_; apply run_step rfl; (exact stp_move rfl rfl); apply run_step rfl; (exact stp_assign rfl rfl); apply run_step rfl; (exact stp_assign rfl rfl); refine run_nil ?_; refine fin_seq ?_; refine goes_ret ?_)
      exact fin_ret2 (.inl rfl) rfl (.tmp (by rw [hWl]; rfl)) (.tmp rfl) ⟨rfl, trivial⟩ trivial
  · have hE := specCT_no g rels ws h1 h2 hk
    have hc := ctC_no hk
    unfold cwC
    rw [if_neg (fun h => hc h.1), if_neg (fun h => hc h.1), if_neg hc]
    (refine goes_seq ?_; refine goes_region ?_; apply run_step rfl; (exact stp_box rfl rfl rfl rfl); apply run_step rfl; (exact stp_assign rfl rfl); apply run_step rfl; (exact stp_assign rfl rfl); refine run_nil ?_; refine fin_seq ?_; refine goes_seq ?_; refine goes_region ?_; apply run_step rfl; (exact stp_loadAgg rfl rfl rfl rfl rfl rfl (by as_aux_lemma => kernel_rfl)); apply run_step rfl; (exact stp_move rfl rfl); apply run_step rfl; (apply call_gate 61; exact stp_callR hE (by as_aux_lemma => kernel_rfl) rfl rfl ⟨⟨.inl rfl, .inl rfl, trivial⟩, rfl, trivial⟩ ⟨⟨_, rfl, .inl rfl⟩, ⟨_, rfl, .inl rfl⟩, trivial⟩ rfl rfl); apply run_step rfl; (exact stp_move rfl rfl); apply run_step rfl; (exact stp_extract rfl rfl rfl); apply run_step rfl; (exact stp_extract rfl rfl rfl); apply run_step rfl; (exact stp_assign rfl rfl); apply run_step rfl; (exact stp_assign rfl rfl); refine run_nil ?_; refine fin_seq ?_; refine goes_seq ?_; refine goes_seq ?_; refine goes_region ?_; apply run_step rfl; (exact stp_move rfl rfl); apply run_step rfl; (exact stp_bin rfl rfl rfl rfl); refine run_nil ?_; refine fin_seq ?_)
    refine goes_cond rfl (fun _ => ?_) (fun e => ?_)
    · (refine goes_seq ?_; refine goes_region ?_; apply run_step rfl; (exact stp_move rfl rfl); apply run_step rfl; (exact stp_assign rfl rfl); apply run_step rfl; (exact stp_assign rfl rfl); refine run_nil ?_; refine fin_seq ?_; refine goes_ret ?_; refine fin_ret_then ?_)
      exact fin_ret2 (.inl rfl) rfl (.tmp rfl) (.tmp rfl) trivial trivial
    · exfalso; simp at e; exact hc e

set_option maxRecDepth 100000 in
set_option maxHeartbeats 2000000 in
theorem implCW_fc (g : Int) (rels ws : List (List Int)) (h1 : Fit rels) (h2 : Fit ws) :
    FC Try.prog 71 [(1002, rowsRo ws), (1003, rowsRo rels)] [pA g rels.length, o1 (.sl 1002 0 ws.length)] (if ctC (g, rels) ws = 0 ∧ tooLong (cwW (g, rels) ws) = false then [(14, imOw (cwW (g, rels) ws))] else [])
      (if ctC (g, rels) ws = 0 ∧ tooLong (cwW (g, rels) ws) = false then .tup [.one (.sl 14 0 (cwW (g, rels) ws).length), .one (.val (I6 0))] else .tup [.one (.val (.slice none 0 0)), .one (.val (I6 (cwC (g, rels) ws)))]) [] := by
  have hC := implCode_fc g rels ws h1 h2
  refine fc_enter (nt := 28) Try.func71 rfl rfl (by simp) fun w0 ω0 => ?_
  by_cases hok : withOk (g, rels) ws = true
  · obtain ⟨ng, rfl, hG⟩ := good_of hok
    rw [withC_ok hok] at hC
    (refine goes_seq ?_; refine goes_region ?_; apply run_step rfl; (exact stp_box rfl rfl rfl rfl); apply run_step rfl; (exact stp_assign rfl rfl); apply run_step rfl; (exact stp_assign rfl rfl); refine run_nil ?_; refine fin_seq ?_; refine goes_seq ?_; refine goes_seq ?_; refine goes_region ?_; apply run_step rfl; (exact stp_loadAgg rfl rfl rfl rfl rfl rfl (by as_aux_lemma => kernel_rfl)); apply run_step rfl; (exact stp_move rfl rfl); apply run_step rfl; (apply call_gate 111; exact stp_callR hC (by as_aux_lemma => kernel_rfl) rfl rfl ⟨⟨.inl rfl, .inl rfl, trivial⟩, rfl, trivial⟩ ⟨⟨_, rfl, .inl rfl⟩, ⟨_, rfl, .inl rfl⟩, trivial⟩ rfl rfl); apply run_step rfl; (exact stp_assign rfl rfl); refine run_nil ?_; refine fin_seq ?_; refine goes_seq ?_; refine goes_region ?_; apply run_step rfl; (exact stp_move rfl rfl); apply run_step rfl; (exact stp_bin rfl rfl rfl rfl); refine run_nil ?_; refine fin_seq ?_)
    refine goes_cond rfl (fun e => by cases e) (fun _ => ?_)
    by_cases hsm : smallOk ((ng : Int), rels) ws = true
    · have hE := implSmall_yes hG hsm
      have hs := smallOk_run hsm
      have hc := ctC_ok ⟨hok, hsm⟩
      have hS := implShort_fc _ ng _ (cosTab_len ng rels ws) hG.pos (cosTab_leads hG hs.1) (cosN_pos hG hs.1) hs.2 hG.hi
      have hB := bfs_ok (cosTab_leads hG hs.1) (cosTab_len ng rels ws) (cosN_pos hG hs.1)
      have hWl : (cwW ((ng : Int), rels) ws).length = cosN ((ng : Int), rels) ws := by rw [cwW_nat]; exact hB.l1
      rw [← cwW_nat] at hS
      unfold cwC
      rw [hc]
      generalize cwW ((ng : Int), rels) ws = W at *
      generalize cosN ((ng : Int), rels) ws = N at *
      generalize cosTab ((ng : Int), rels) ws = T at *
      cases htl : tooLong W with
      | true =>
        rw [if_pos htl, if_pos htl] at hS
        rw [if_neg (by simp), if_neg (by simp), if_pos rfl, if_pos rfl]
        (refine goes_skip ?_; refine fin_seq ?_; refine goes_seq ?_; refine goes_region ?_; apply run_step rfl; (exact stp_loadAgg rfl rfl rfl rfl rfl rfl (by as_aux_lemma => kernel_rfl)); apply run_step rfl; (exact stp_move rfl rfl); apply run_step rfl; (apply call_gate 113; exact stp_callN hE (by as_aux_lemma => kernel_rfl) rfl rfl ⟨⟨.inl rfl, .inl rfl, trivial⟩, rfl, trivial⟩ ⟨⟨_, rfl, .inl rfl⟩, ⟨_, rfl, .inl rfl⟩, trivial⟩ rfl rfl rfl); apply run_step rfl; (exact stp_move rfl rfl); apply run_step rfl; (exact stp_extract rfl rfl rfl); apply run_step rfl; (exact stp_extract rfl rfl rfl); apply run_step rfl; (exact stp_assign rfl rfl); apply run_step rfl; (exact stp_assign rfl rfl); refine run_nil ?_; refine fin_seq ?_; refine goes_seq ?_; refine goes_seq ?_; refine goes_region ?_; apply run_step rfl; (exact stp_move rfl rfl); apply run_step rfl; (exact stp_bin rfl rfl rfl rfl); refine run_nil ?_; refine fin_seq ?_)
        refine goes_cond rfl (fun e => by cases e) (fun _ => ?_)
        (refine goes_skip ?_; refine fin_seq ?_; refine goes_seq ?_; refine goes_region ?_; apply run_step rfl; (exact stp_move rfl rfl); apply run_step rfl; (apply call_gate 150; exact stp_callR hS (by as_aux_lemma => kernel_rfl) rfl rfl ⟨rfl, trivial⟩ ⟨⟨_, rfl, .inr rfl⟩, trivial⟩ rfl rfl); apply run_step rfl; (exact stp_extract rfl rfl rfl); apply run_step rfl; (exact stp_extract rfl rfl rfl); apply run_step rfl; (exact stp_assign rfl rfl); apply run_step rfl; (exact stp_assign rfl rfl); refine run_nil ?_; refine fin_seq ?_; refine goes_ret ?_)
        exact fin_ret2 (.inl rfl) rfl (.tmp rfl) (.tmp rfl) trivial trivial
      | false =>
        rw [if_neg (by rw [htl]; simp), if_neg (by rw [htl]; simp)] at hS
        rw [if_pos ⟨rfl, rfl⟩, if_pos ⟨rfl, rfl⟩]
        (refine goes_skip ?_; refine fin_seq ?_; refine goes_seq ?_; refine goes_region ?_; apply run_step rfl; (exact stp_loadAgg rfl rfl rfl rfl rfl rfl (by as_aux_lemma => kernel_rfl)); apply run_step rfl; (exact stp_move rfl rfl); apply run_step rfl; (apply call_gate 113; exact stp_callN hE (by as_aux_lemma => kernel_rfl) rfl rfl ⟨⟨.inl rfl, .inl rfl, trivial⟩, rfl, trivial⟩ ⟨⟨_, rfl, .inl rfl⟩, ⟨_, rfl, .inl rfl⟩, trivial⟩ rfl rfl rfl); apply run_step rfl; (exact stp_move rfl rfl); apply run_step rfl; (exact stp_extract rfl rfl rfl); apply run_step rfl; (exact stp_extract rfl rfl rfl); apply run_step rfl; (exact stp_assign rfl rfl); apply run_step rfl; (exact stp_assign rfl rfl); refine run_nil ?_; refine fin_seq ?_; refine goes_seq ?_; refine goes_seq ?_; refine goes_region ?_; apply run_step rfl; (exact stp_move rfl rfl); apply run_step rfl; (exact stp_bin rfl rfl rfl rfl); refine run_nil ?_; refine fin_seq ?_)
        refine goes_cond rfl (fun e => by cases e) (fun _ => ?_)
        (refine goes_skip ?_; refine fin_seq ?_; refine goes_seq ?_; refine goes_region ?_; apply run_step rfl; (exact stp_move rfl rfl); apply run_step rfl; (apply call_gate 150; exact stp_callN hS (by as_aux_lemma => kernel_rfl) rfl rfl ⟨rfl, trivial⟩ ⟨⟨_, rfl, .inr rfl⟩, trivial⟩ rfl rfl rfl); apply run_step rfl; (exact stp_extract rfl rfl rfl); apply run_step rfl; (exact stp_extract rfl rfl rfl); apply run_step rfl; (exact stp_assign rfl rfl); apply run_step rfl; (exact stp_assign rfl rfl); refine run_nil ?_; refine fin_seq ?_; refine goes_ret ?_)
        exact fin_ret2 (.inl rfl) rfl (.tmp (by rw [hWl]; rfl)) (.tmp rfl) ⟨rfl, trivial⟩ trivial
    · have hE := implSmall_no hG hsm
      have hc : ctC ((ng : Int), rels) ws = 3 := by unfold ctC; rw [if_pos hok, if_neg hsm]
      unfold cwC
      rw [hc, if_neg (fun h => by cases h.1), if_neg (fun h => by cases h.1), if_neg (by decide)]
      (refine goes_skip ?_; refine fin_seq ?_; refine goes_seq ?_; refine goes_region ?_; apply run_step rfl; (exact stp_loadAgg rfl rfl rfl rfl rfl rfl (by as_aux_lemma => kernel_rfl)); apply run_step rfl; (exact stp_move rfl rfl); apply run_step rfl; (apply call_gate 113; exact stp_callR hE (by as_aux_lemma => kernel_rfl) rfl rfl ⟨⟨.inl rfl, .inl rfl, trivial⟩, rfl, trivial⟩ ⟨⟨_, rfl, .inl rfl⟩, ⟨_, rfl, .inl rfl⟩, trivial⟩ rfl rfl); apply run_step rfl; (exact stp_move rfl rfl); apply run_step rfl; (exact stp_extract rfl rfl rfl); apply run_step rfl; (exact stp_extract rfl rfl rfl); apply run_step rfl; (exact stp_assign rfl rfl); apply run_step rfl; (exact stp_assign rfl rfl); refine run_nil ?_; refine fin_seq ?_; refine goes_seq ?_; refine goes_seq ?_; refine goes_region ?_; apply run_step rfl; (exact stp_move rfl rfl); apply run_step rfl; (exact stp_bin rfl rfl rfl rfl); refine run_nil ?_; refine fin_seq ?_)
      refine goes_cond rfl (fun _ => ?_) (fun e => by cases e)
      (refine goes_seq ?_; refine goes_region ?_; apply run_step rfl; (exact stp_move rfl rfl); apply run_step rfl; (exact stp_assign rfl rfl); apply run_step rfl; (exact stp_assign rfl rfl); refine run_nil ?_; refine fin_seq ?_; refine goes_ret ?_; refine fin_ret_then ?_)
      exact fin_ret2 (.inl rfl) rfl (.tmp rfl) (.tmp rfl) trivial trivial
  · rw [withC_no hok] at hC
    have hc : ctC (g, rels) ws = 1 := by unfold ctC; rw [if_neg hok]
    unfold cwC
    rw [hc, if_neg (fun h => by cases h.1), if_neg (fun h => by cases h.1), if_neg (by decide)]
    (refine goes_seq ?_; refine goes_region ?_; apply run_step rfl; (exact stp_box rfl rfl rfl rfl); apply run_step rfl; (exact stp_assign rfl rfl); apply run_step rfl; (exact stp_assign rfl rfl); refine run_nil ?_; refine fin_seq ?_; refine goes_seq ?_; refine goes_seq ?_; refine goes_region ?_; apply run_step rfl; (exact stp_loadAgg rfl rfl rfl rfl rfl rfl (by as_aux_lemma => kernel_rfl)); apply run_step rfl; (exact stp_move rfl rfl); apply run_step rfl; (apply call_gate 111; exact stp_callR hC (by as_aux_lemma => kernel_rfl) rfl rfl ⟨⟨.inl rfl, .inl rfl, trivial⟩, rfl, trivial⟩ ⟨⟨_, rfl, .inl rfl⟩, ⟨_, rfl, .inl rfl⟩, trivial⟩ rfl rfl); apply run_step rfl; (exact stp_assign rfl rfl); refine run_nil ?_; refine fin_seq ?_; refine goes_seq ?_; refine goes_region ?_; apply run_step rfl; (exact stp_move rfl rfl); apply run_step rfl; (exact stp_bin rfl rfl rfl rfl); refine run_nil ?_; refine fin_seq ?_)
    refine goes_cond rfl (fun _ => ?_) (fun e => by cases e)
    (refine goes_seq ?_; refine goes_region ?_; apply run_step rfl; (exact stp_move rfl rfl); apply run_step rfl; (exact stp_assign rfl rfl); apply run_step rfl; (exact stp_assign rfl rfl); refine run_nil ?_; refine fin_seq ?_; refine goes_ret ?_; refine fin_ret_then ?_)
    exact fin_ret2 (.inl rfl) rfl (.tmp rfl) (.tmp rfl) trivial trivial

theorem cwR_small (d : PresD) (ws : List (List Int)) : (cwR d ws).length ≤ 400 ∧ lenSS (cwR d ws) ≤ 30000 := by
  unfold cwR
  split
  · rename_i hc
    split
    · simp [lenSS]
    · rename_i htl
      have hk : withOk d ws = true ∧ smallOk d ws = true := by
        by_cases h : withOk d ws = true ∧ smallOk d ws = true
        · exact h
        · exact absurd hc (ctC_no h)
      obtain ⟨g, rels⟩ := d
      obtain ⟨ng, rfl, hG⟩ := good_of hk.1
      have hs := smallOk_run hk.2
      have hB := bfs_ok (cosTab_leads hG hs.1) (cosTab_len ng rels ws) (cosN_pos hG hs.1)
      have hWl : (cwW ((ng : Int), rels) ws).length = cosN ((ng : Int), rels) ws := by rw [cwW_nat]; exact hB.l1
      have hN := hs.2
      have h64 : ∀ zs ∈ cwW ((ng : Int), rels) ws, zs.length ≤ 64 := fun zs hz => by
        rcases Nat.lt_or_ge 64 zs.length with h | h
        · exfalso; apply htl
          unfold tooLong
          rw [List.any_eq_true]
          exact ⟨zs, hz, by simpa using h⟩
        · exact h
      have := lenSS_le h64
      have h6 : (cwW ((ng : Int), rels) ws).length * 64 ≤ 400 * 64 := Nat.mul_le_mul_right _ (by omega)
      omega
  · simp [lenSS]
theorem api_cw {f : FuncId} {x : Nat} {d : PresD} {ws : List (List Int)} (hf : Fit d.2 → Fit ws → FC Try.prog f [(1002, rowsRo ws), (1003, rowsRo d.2)] [pA d.1 d.2.length, o1 (.sl 1002 0 ws.length)] (if ctC d ws = 0 ∧ tooLong (cwW d ws) = false then [(x, imOw (cwW d ws))] else [])
      (if ctC d ws = 0 ∧ tooLong (cwW d ws) = false then .tup [.one (.sl x 0 (cwW d ws).length), .one (.val (I6 0))] else .tup [.one (.val (.slice none 0 0)), .one (.val (I6 (cwC d ws)))]) []) {E1 E E1' E' : Nat} {lo hi lo' hi' : Nat} {v v' : Value} (w : World) (h : OwP E1 E w lo hi v d) (h' : OwSS E1' E' w lo' hi' v' ws) :
    Calls Try.prog f #[v, v'] w fun e w' => ∃ r, e = .returned (.tuple #[r, .int .i64 (cwC d ws)]) ∧ OwSS 2 49 w' w.heap.size w'.heap.size r (cwR d ws) ∧ Below w.heap.size w w' := by
  by_cases hk : ctC d ws = 0 ∧ tooLong (cwW d ws) = false
  · rw [if_pos hk, if_pos hk] at hf
    have hr : cwR d ws = cwW d ws := by unfold cwR; rw [if_pos hk.1, if_neg (by rw [hk.2]; simp)]
    have hc : cwC d ws = 0 := by unfold cwC; rw [if_pos hk.1, if_neg (by rw [hk.2]; simp)]
    have hsm := cwR_small d ws
    rw [hr] at hsm ⊢
    rw [hc]
    refine (callPW hf h h').mono ?_
    rintro e w' ⟨v, η, ω, rfl, hd, hm, hb, hn⟩
    obtain ⟨u, u', rfl, h1, h2⟩ := den_tup2 hd
    have h2 : u' = I6 0 := h2
    subst h2
    refine ⟨u, rfl, toSS (x := x) hm hn (lk_self _ _) h1 (by omega) (fun zs hz => ?_), hb⟩
    obtain ⟨j, hj, rfl⟩ := List.getElem_of_mem hz
    have := len_le_lenSS hj
    rw [lget_lt hj] at this
    omega
  · rw [if_neg hk, if_neg hk] at hf
    have hr : cwR d ws = [] := by
      unfold cwR; split
      · split
        · rfl
        · rename_i k1 k2; exact absurd ⟨k1, by simpa using k2⟩ hk
      · rfl
    rw [hr]
    refine (two_vals (callPW hf h h')).mono ?_
    rintro e w' ⟨rfl, hb⟩
    exact ⟨_, rfl, owSS_nil, hb⟩
theorem api_specCW {E1 E E1' E' : Nat} {lo hi lo' hi' : Nat} {v v' : Value} {d : PresD} {ws : List (List Int)} (w : World) (h : OwP E1 E w lo hi v d) (h' : OwSS E1' E' w lo' hi' v' ws) :
    Calls Try.prog 72 #[v, v'] w fun e w' => ∃ r, e = .returned (.tuple #[r, .int .i64 (cwC d ws)]) ∧ OwSS 2 49 w' w.heap.size w'.heap.size r (cwR d ws) ∧ Below w.heap.size w w' := api_cw (fun k1 k2 => specCW_fc d.1 d.2 ws k1 k2) w h h'
theorem api_implCW {E1 E E1' E' : Nat} {lo hi lo' hi' : Nat} {v v' : Value} {d : PresD} {ws : List (List Int)} (w : World) (h : OwP E1 E w lo hi v d) (h' : OwSS E1' E' w lo' hi' v' ws) :
    Calls Try.prog 71 #[v, v'] w fun e w' => ∃ r, e = .returned (.tuple #[r, .int .i64 (cwC d ws)]) ∧ OwSS 2 49 w' w.heap.size w'.heap.size r (cwR d ws) ∧ Below w.heap.size w w' := api_cw (fun k1 k2 => implCW_fc d.1 d.2 ws k1 k2) w h h'
end Go.Proofs.Ytpognnifgcacnaa

/- What the words of cosets tell, of the program's own numbers. No program in sight. -/
namespace Go.Proofs.Ytpognnifgcacnaa

section
variable {ng : Nat} {im : List (List Int)} {less : List Int}
theorem sk_lead (hF : Full ng im less) {b : BSt} (hb : BSk (tableC ng im less) ng (cosM ng im less) b (cosM ng im less) (cosM ng im less) 0) : ∀ d, d < cosM ng im less → Letters ng (lget b.1 d) ∧ leadL (tableC ng im less) (0 : Nat) (lget b.1 d) = (d : Int) := by
  intro d
  induction d using Nat.strongRecOn with
  | _ d ih =>
    intro hd
    rcases Nat.eq_zero_or_pos d with rfl | h0
    · rw [hb.zero]
      exact ⟨fun z hz => by simp at hz, rfl⟩
    · obtain ⟨p, h, e, h1, h2, _, h4⟩ := hb.src d h0 hd
      obtain ⟨k1, k2⟩ := ih p h1 (by omega)
      rw [e]
      refine ⟨fun z hz => ?_, ?_⟩
      · rcases List.mem_append.1 hz with hz | hz
        · exact k1 z hz
        · simp at hz; omega
      · rw [leadL_snoc, k2, Int.toNat_natCast, Int.toNat_natCast]
        have hw := (tab_leads hF).within h (by rw [tab_len]; exact h2) p (by omega)
        unfold bTo at h4
        omega
theorem sk_least (hF : Full ng im less) {b : BSt} (hb : BSk (tableC ng im less) ng (cosM ng im less) b (cosM ng im less) (cosM ng im less) 0) : ∀ (k : Nat) (w : List Int), w.length = k → Letters ng w → leW (lget b.1 (leadL (tableC ng im less) (0 : Nat) w).toNat) w
  | 0, w, hk, _ => by
    obtain rfl : w = [] := List.eq_nil_of_length_eq_zero hk
    show leW (lget b.1 0) []
    rw [hb.zero]; exact .inl rfl
  | k + 1, w, hk, hw => by
    obtain ⟨v, g, rfl⟩ : ∃ v g, w = v ++ [g] := ⟨w.dropLast, w.getLast (by intro e; subst e; simp at hk), (List.dropLast_concat_getLast _).symm⟩
    have hv : Letters ng v := fun z hz => hw z (by simp [hz])
    have hg := hw g (by simp)
    have ih := sk_least hF hb k v (by simpa using hk) hv
    have hT := tab_leads hF
    have hz := cosA_zero (ng := ng) (im := im) (less := less)
    obtain ⟨a, a1, a2⟩ := lead_nat hT (w := v) (by rw [tab_len]; exact hv) hz.1
    rw [a1, Int.toNat_natCast] at ih
    rw [leadL_snoc, a1, Int.toNat_natCast]
    obtain ⟨_, e2⟩ := hb.edge a g.toNat (by omega) (.inl a2)
    have e3 : ((g.toNat : Nat) : Int) = g := by omega
    rw [e3] at e2
    have := ih.app g
    unfold bTo at e2
    exact e2.tr this
end
/-- what the laws ask of the words of cosets -/
structure CwOk (d : PresD) (ws : List (List Int)) (n : Nat) : Prop where
  len : (cwR d ws).length = n
  low : ∀ i, i < n → ∀ z ∈ lget (cwR d ws) i, 0 ≤ z ∧ z < (ctR d ws).length
  home : ∀ i, i < n → leadL (ctR d ws) (0 : Nat) (lget (cwR d ws) i) = (i : Int)
  bef : ∀ i, i + 1 < n → befB (lget (cwR d ws) i) (lget (cwR d ws) (i + 1)) = true
  least : ∀ w : List Int, (∀ z ∈ w, 0 ≤ z ∧ z < (ctR d ws).length) → befB w (lget (cwR d ws) (leadL (ctR d ws) (0 : Nat) w).toNat) = false
theorem cwC_zero {d : PresD} {ws : List (List Int)} (h : cwC d ws = 0) : ctC d ws = 0 ∧ tooLong (cwW d ws) = false := by
  unfold cwC at h
  split at h
  · rename_i h1
    split at h
    · cases h
    · rename_i h2; exact ⟨h1, by simpa using h2⟩
  · exact absurd h (by assumption)
theorem cwR_none {d : PresD} {ws : List (List Int)} (h : cwC d ws ≠ 0) : cwR d ws = [] := by
  unfold cwC at h
  unfold cwR
  split
  · rename_i h1
    rw [if_pos h1] at h
    split
    · rfl
    · rename_i h2; rw [if_neg h2] at h; exact absurd rfl h
  · rfl
theorem cw_ok {d : PresD} {ws : List (List Int)} (h : cwC d ws = 0) : ∃ n, CtOk d ws n ∧ CwOk d ws n := by
  obtain ⟨h1, h2⟩ := cwC_zero h
  obtain ⟨n, H⟩ := ct_ok h1
  refine ⟨n, H, ?_⟩
  obtain ⟨g, rels⟩ := d
  obtain ⟨hw, hsm⟩ := ctC_zero h1
  obtain ⟨ng, rfl, hG⟩ := good_of hw
  have hs := smallOk_run hsm
  have hRan : Ran ng rels ws := ⟨hG.rl, hG.wl, hs.1⟩
  have hF := hRan.full
  have hn : n = cnm ng rels ws := by
    have := H.idxr
    unfold idxR at this
    rw [if_pos hw, cosX_nat, if_neg (by rw [hs.1]; decide), cosN_nat ng rels ws] at this
    have e : (cnm ng rels ws : Nat) = (numbered ng (runC ng rels ws).1 (runC ng rels ws).2.1).1.length := rfl
    omega
  have hR : ctR ((ng : Int), rels) ws = ctb ng rels ws := by unfold ctR; rw [if_pos hw, if_pos hsm]; exact cosTab_nat ng rels ws
  have hW : cwR ((ng : Int), rels) ws = (bfs (ctb ng rels ws) ng (cnm ng rels ws)).1 := by
    unfold cwR
    rw [if_pos h1, if_neg (by rw [h2]; decide)]
    unfold cwW
    have e1 : cosTab ((ng : Int), rels) ws = ctb ng rels ws := cosTab_nat ng rels ws
    have e2 : cosN ((ng : Int), rels) ws = cnm ng rels ws := cosN_nat ng rels ws
    rw [e1, e2]
    rfl
  have hb := bfs_sk hF
  have hl : (ctb ng rels ws).length = ng := ctb_len
  subst hn
  constructor
  · rw [hW]; exact hb.l1
  · intro i hi z hz
    rw [hW] at hz
    rw [hR, hl]; exact (sk_lead hF hb i hi).1 z hz
  · intro i hi
    rw [hR, hW]
    exact (sk_lead hF hb i hi).2
  · intro i hi
    rw [hW]
    exact hb.mono i (i + 1) (by omega) hi
  · intro w hw
    rw [hR, hl] at hw
    rw [hR, hW]
    exact (sk_least hF hb w.length w rfl hw).not
end Go.Proofs.Ytpognnifgcacnaa

/- Draws of words: l11DrawWord, l11Power. -/
namespace Go.Proofs.Ytpognnifgcacnaa
open Go.RowKit

theorem only_grown {lo hi : Nat} {a w w' : World} {row : Option Nat} (h : Only lo hi a w) (hg : w.grownBy w' row) (hr : ∀ g, row = some g → a.heap.size ≤ g) : Only lo hi a w' :=
  ⟨hg.os.trans h.os, hg.tape.trans h.tape, hg.output.trans h.output, Nat.le_trans h.size hg.size, fun k hk hd => (hg.block k (Nat.lt_of_lt_of_le hk h.size) (fun e => by have := hr k e.symm; omega)).trans (h.block k hk hd)⟩
theorem Src.grown {w w' : World} {sb : Nat} {row : Option Nat} (h : Src w sb) (hg : w.grownBy w' row) (hr : ∀ g, row = some g → sb < g) : Src w' sb := by
  obtain ⟨ao, n, c, k, hh, h1, h2, h3, h4⟩ := h.box
  have hlt := h1.lt
  refine ⟨ao, n, c, k, hh, (hg.block sb hlt (fun e => by have := hr sb e.symm; omega)).trans h1, h2, h3, h4.1, fun hn => ?_⟩
  obtain ⟨b, off, e, hb, hc⟩ := h4.2 hn
  refine ⟨b, off, e, hb, fun j hj => ?_⟩
  obtain ⟨x, hx, hcx⟩ := hc j hj
  exact ⟨x, hx, (World.cell?_of_block (hg.block b (World.block_lt_of_cell? w _ hcx) (fun e => by have := hr b e.symm; omega))).trans hcx⟩
/-- a word whose letters lie below n -/
def Low (n : Int) (zs : List Int) : Prop := ∀ z ∈ zs, 0 ≤ z ∧ z < n

set_option maxHeartbeats 3200000 in
theorem drawWord_any (sb : Nat) (letters most : Nat) (w : World) (h : Src w sb) (hsb : sb < w.heap.size) (hl1 : 1 ≤ letters) (hl : letters ≤ 100) (hm : most ≤ 100) :
    Calls Try.prog 130 #[.pointer (some ⟨sb, 0, none⟩), .int .i64 letters, .int .i64 most] w fun e w' => ∃ (ao : Option Addr) (n c : Nat) (zs : List Int), e = .returned (.slice ao n c) ∧ n ≤ most ∧ Low letters zs ∧ Own w' w.heap.size 2 ao n c (zs.map (Value.int .i64)) ∧ Src w' sb ∧ Only sb (sb + 1) w w' := by
  go_enter Try.func130, Try.ntmps130
  have h1 : Src (w.alloc (.cells #[] 2)) sb := h.grown (row := none) (World.grownBy_alloc w _ none) (fun g hg => by cases hg)
  go_wp2_with fail
  refine (next_any sb _ _ h1 (by omega)).mono ?_
  rintro e w2 ⟨r, rfl, -, r2, s2, o2⟩
  have hr := r2 (by omega)
  have O2 : Only sb (sb + 1) w w2 := (only_grown (Only.refl sb (sb + 1) w) (World.grownBy_alloc w _ none) (fun g hg => by cases hg)).trans o2
  have P2 : Own w2 w.heap.size 2 (some ⟨w.heap.size, 0, none⟩) 0 0 [] := (Own.empty_ w _ (Nat.le_refl _)).only o2 (lo' := w.heap.size) (hi' := w.heap.size + 1) (fun g hg => by simp [bk] at hg; omega) (.inr (by omega))
  have z2 := O2.size
  clear h1 o2 r2
  go_wp2_with fail
  go_loopw [7, 8] (fun wv kv wr => ∃ (k a : Nat) (ao : Option Addr) (c : Nat) (zs : List Int), kv = .int .i64 k ∧ wv = .slice ao a c ∧ a + k = r ∧ Low letters zs ∧ Own wr w.heap.size 2 ao a c (zs.map (Value.int .i64)) ∧ Src wr sb ∧ Only sb (sb + 1) w wr) (fun _ kv _ => (intOf kv).toNat)
  case atStart => exact ⟨r, 0, _, 0, [], rfl, rfl, by omega, fun _ h => (by simp at h), P2, s2, O2⟩
  case round =>
    obtain ⟨k, a, ao, c, zs, rfl, rfl, hak, hlow, ho, hs, hO⟩ := hrel
    clear P2 s2 O2 z2
    by_cases hk : 0 < k
    · go_wp2_with fail
      refine (next_any sb _ _ hs (by omega)).mono ?_
      rintro e w3 ⟨q, rfl, -, q2, s3, o3⟩
      have hq := q2 (by omega)
      have hsz := hO.size
      have O3 := hO.trans o3
      have hsz3 := O3.size
      have P3 : Own w3 w.heap.size 2 ao a c (zs.map (Value.int .i64)) := ho.only o3 (lo' := w.heap.size) (hi' := wr.heap.size) (fun g hg => ⟨(ho.lt g hg).1, (ho.lt g hg).2⟩) (.inr (by omega))
      clear q2 o3 hs hO ho
      have hol := P3.lt
      have PH := Lib.hid P3
      clear P3
      go_wp2_with (at_builtin; refine wpList_ap1 etI _ rfl _ _ rfl w.heap.size ao a c _ rfl PH.out (.int .i64 (q : Int)) rfl rfl (by omega) hsz3 ?_; intro ao2 c2 w4 ho2 hg2 hblk)
      have HO := Lib.hid ho2
      have s4 := s3.grown hg2 (fun g hg => by have := (hol g hg).1; omega)
      have O4 := only_grown O3 hg2 (fun g hg => (hol g hg).1)
      clear ho2 hblk s3 O3 hg2
      go_wp2
      go_roundw
      case rel =>
        refine ⟨k - 1, a + 1, ao2, c2, zs ++ [(q : Int)], by go_num, rfl, by omega, fun z hz => ?_, by rw [List.map_append]; exact HO.out, s4, O4⟩
        rcases List.mem_append.1 hz with hz | hz
        · exact hlow z hz
        · simp at hz; omega
      case measure => simp [intOf]; omega
    · obtain rfl : k = 0 := by omega
      go_wp2
      go_ret
      exact ⟨ao, a, c, zs, rfl, by omega, hlow, ho, hs, hO⟩

set_option maxHeartbeats 3200000 in
theorem pick_any (sb : Nat) (ao : Option Addr) (n c : Nat) (zs : List Int) (w : World) (h : Src w sb) (hz : Ints w ao n zs) (hn : 1 ≤ n) (hn2 : n ≤ 100) (hne : bk ao ≠ some sb) :
    Calls Try.prog 124 #[.pointer (some ⟨sb, 0, none⟩), .slice ao n c] w fun e w' => ∃ r : Nat, r < n ∧ e = .returned (.int .i64 (iget zs r)) ∧ Src w' sb ∧ Only sb (sb + 1) w w' := by
  go_enter Try.func124, Try.ntmps124
  go_wp2_with fail
  refine (next_any sb _ _ h (by omega)).mono ?_
  rintro e w2 ⟨r, rfl, -, r2, s2, o2⟩
  have hr := r2 (by omega)
  have hr2 : r < n := by omega
  have hz2 : Ints w2 ao n zs := hz.same fun g hg hlt => o2.block g hlt (by
    have : g ≠ sb := fun e => by subst e; exact hne hg
    omega)
  obtain ⟨b, off, rfl, hc⟩ := hz2.at_ hr2
  clear r2 hz hz2
  go_wp2
  go_ret
  exact ⟨r, hr2, rfl, s2, o2⟩
end Go.Proofs.Ytpognnifgcacnaa

/- IsDiagram, the program's and the reference's. -/
namespace Go.Proofs.Ytpognnifgcacnaa
open Go.RowKit

end Go.Proofs.Ytpognnifgcacnaa

/- The presentation of a diagram: what both call. -/
namespace Go.Proofs.Ytpognnifgcacnaa
open Go.RowKit

theorem repL_succ {α : Type} (zs : List α) (j : Nat) : repL zs (j + 1) = repL zs j ++ zs := by rw [repL_add, repL_one]

theorem wrap64_idN {i : Nat} (h : i ≤ 1048576) : wrap64 (i : Int) = i := by unfold wrap64; omega

theorem meas_down {i : Nat} {z : Int} (h : z = (i : Int)) : (intOf (.int .i64 z)).toNat < (intOf (.int .i64 ((i + 1 : Nat) : Int))).toNat := by subst h; simp [intOf]

set_option maxHeartbeats 400000 in
theorem specPower_any (ao : Option Addr) (n c k : Nat) (zs : List Int) (w : World) (h : Ints w ao n zs) (hk : k ≤ 1048576) (hnk : n * k ≤ 1048576) :
    Calls Try.prog 131 #[.slice ao n c, .int .i64 k] w fun e w' => ∃ ao' c', e = .returned (.slice ao' (n * k) c') ∧ Own w' w.heap.size 2 ao' (n * k) c' ((repL zs k).map (Value.int .i64)) ∧ Below w.heap.size w w' := by
  go_enter Try.func131, Try.ntmps131
  go_wp2
  go_loopw [1, 5] (fun i v wr => ∃ (j a' : Nat) (ao' : Option Addr) (c' : Nat), j ≤ k ∧ i = .int .i64 ((k - j : Nat) : Int) ∧ v = .slice ao' a' c' ∧ a' = n * j ∧ Own wr w.heap.size 2 ao' a' c' ((repL zs j).map (Value.int .i64)) ∧ Below w.heap.size w wr) (fun i _ _ => (intOf i).toNat)
  case atStart => exact ⟨0, 0, _, _, Nat.zero_le _, rfl, rfl, by simp, Own.empty_ w _ (Nat.le_refl _), (Below.refl _ _).alloc (Nat.le_refl _) _⟩
  case round =>
    obtain ⟨j, a', ao', c', hj, rfl, rfl, ha, ho, hb⟩ := hrel
    have HA := Lib.hid ha
    clear ha
    by_cases hlt : j < k
    · have hm : n * (j + 1) ≤ n * k := Nat.mul_le_mul_left _ hlt
      have hm2 : n * (j + 1) = n * j + n := Nat.mul_succ _ _
      have hi := h.below hb
      have hsz : a' + n ≤ 4398046511104 := by have := HA.out; omega
      have hbs := hb.size
      have HE := Lib.hid (show a' + n = n * (j + 1) by have := HA.out; omega)
      obtain ⟨i, hi2⟩ : ∃ i : Nat, k - j = i + 1 := ⟨k - j - 1, by omega⟩
      have HI := Lib.hid (show k - (j + 1) = i by omega)
      have hj1 : j + 1 ≤ k := hlt
      have HW := Lib.hid (wrap64_idN (i := i) (by omega))
      rw [hi2]
      clear hm hm2 hi2 h hnk hj hlt
      go_wp2_with (at_builtin; refine wpList_apN etI _ rfl _ _ rfl w.heap.size _ _ _ _ rfl ho ao n c zs rfl hi hsz hbs ?_; intro ao2 c2 w2 ho2 hg2 hblk)
      have hol := ho.lt
      clear ho hi
      go_wp2
      go_roundw
      case rel =>
        refine ⟨j + 1, _, ao2, c2, hj1, by rw [HI.out, HW.out], rfl, HE.out, ?_, hb.grown hg2 hbs (fun g hg => (hol g hg).1)⟩
        rw [repL_succ, List.map_append]; exact ho2
      case measure => exact meas_down HW.out
    · obtain rfl : j = k := by omega
      rw [Nat.sub_self]
      go_wp2
      go_ret
      rw [← HA.out]
      exact ⟨_, _, rfl, ho, hb⟩
end Go.Proofs.Ytpognnifgcacnaa

/- The presentation of a diagram: the data, and how one relator more is laid. -/
namespace Go.Proofs.Ytpognnifgcacnaa
open Go.RowKit

/-- one element more, at the end of a row of the call's own, in a region that draws its order -/
theorem step_ap1 {P : Program} {S E : TypeId} {z : Value} {bytes : Nat} (et : ET P S E z bytes) {ops : Array Oper} {o : Oper} {a : Act} {Q : Exit → Act → World → Prop} {w : World} {K : Act → World → Prop} {X : Prop} (hg : o.guard = none) (s x : Operand) (ho : o.op = .call { callee := .builtin .append, args := #[s, x], argTypes := #[S, S] })
    (base : Nat) (ao : Option Addr) (n c : Nat) (xs : List Value) (hs : a.eval s = .slice ao n c) (hown : Own w base E ao n c xs) (u : Value) (xb xc : Nat)
    (hx : a.eval x = .slice (some ⟨xb, 0, none⟩) 1 xc) (hc : w.cell? ⟨xb, 0, none⟩ = some u) (hu : u.oneCell' = true) (hn : n + 1 ≤ 4398046511104) (hbase : base ≤ w.heap.size)
    (h : ∀ ao' c' w', Own w' base E ao' (n + 1) c' (xs ++ [u]) → w.grownBy w' (bk ao) → (bk ao' = bk ao ∨ bk ao' = some w.heap.size) → K (a.put o.dst (.slice ao' (n + 1) c')) w') : if Region.wanted o (yielded ops a.tmps) = true then Oper.wp P o a w K Q else X := by
  obtain ⟨i, hi, hz, hsz, hby⟩ := info_parts et.info
  have hw : Region.wanted o (yielded ops a.tmps) = true := by simp [Region.wanted, hg]
  rw [if_pos hw]
  obtain ⟨v', w', hr, h2, h3, h4, h5⟩ := run_append_own_at (P := P) w base S o.type E i z 1 bytes et.und hi hz hsz hby (by rw [et.one]; rfl) (by omega) (.slice ao n c) n xs hown.1 ⟨xb, 0, none⟩ 1 xc [u] rfl
    (by
      intro j u' hu'
      match j, hu' with
      | 0, hu' => simp at hu'; subst hu'; rw [Addr.add_lit]; exact hc)
    (by intro v hv; simp at hv; subst hv; exact hu) (by simp [maxLen]; omega) (by have := et.small; have : (n + 1) * bytes ≤ (n + 1) * 32 := Nat.mul_le_mul_left _ this; omega) hbase
  unfold Oper.wp execOp
  simp only [ho, resolve, invoke, builtin, Sem.run_bind, Sem.run_pure, Result.andThen_ok, List.map_toArray, List.map_cons, List.map_nil, hs, hx, hr]
  obtain ⟨g, cap, rfl, hb, hlt⟩ := h2.form (by omega)
  rw [ownBlock_slice] at h3
  refine h _ _ _ ⟨h2, hn⟩ h3 ?_
  rw [ownBlock_slice, ownBlock_slice] at h5
  exact h5

/-- a list of the call's own, just made, is laid at the end of a row of lists -/
theorem rows_push {T1 E lo : Nat} {wr w2 w3 w4 : World} {ao ao' ao2 : Option Addr} {m c n' c' c2 : Nat} {us : List Value} {ds : List (List Int)} {zs : List Int}
    (hR : OwR (OwS T1) wr lo wr.heap.size E ao m c us ds) (hlo : lo ≤ wr.heap.size) (hb : Below wr.heap.size wr w2) (hu : Own w2 wr.heap.size T1 ao' n' c' (zs.map (Value.int .i64))) (hb3 : Below w2.heap.size w2 w3)
    (hown : Own w4 lo E ao2 (m + 1) c2 (us ++ [.slice ao' n' c'])) (hg : w3.grownBy w4 (bk ao)) (hat : bk ao2 = bk ao ∨ bk ao2 = some w3.heap.size) :
    OwR (OwS T1) w4 lo w4.heap.size E ao2 (m + 1) c2 (us ++ [.slice ao' n' c']) (ds ++ [zs]) := by
  have hR3 : OwR (OwS T1) w3 lo wr.heap.size E ao m c us ds := hR.below (innerS _) (hb.trans (hb3.mono hb.size))
  have s1 := hb.size
  have s2 := hb3.size
  have s3 := hg.size
  have hub : ∀ g, bk ao' = some g → wr.heap.size ≤ g ∧ g < w2.heap.size := hu.lt
  have hne : ∀ g, bk ao' = some g → bk ao ≠ some g := fun g h1 h2 => by have := hub g h1; have := hR.top g h2; omega
  have hu4 : OwS T1 w4 (.slice ao' n' c') zs := (innerS T1).loc (w := w2) ⟨ao', n', c', rfl, hu.mono (Nat.zero_le _)⟩ fun g h => by
    rw [ownBlock_slice] at h
    have := hub g h
    rw [hg.block g (by omega) (fun e => hne g h e.symm)]
    exact hb3.block g this.2
  refine hR3.push (innerS _) hown hg hu4 (in_slice fun g h => ⟨by have := hub g h; omega, by have := hub g h; omega⟩) (fun g h => (hown.lt g h).2) (by omega) ?_ ?_
  · intro g h
    rcases hat with h1 | h1
    · exact .inl (h1 ▸ h)
    · refine .inr fun j u hj e => ?_
      rw [h1] at h; obtain rfl := Option.some.inj h
      have := (hR3.rng j u hj _ e).2
      omega
  · intro g h
    rw [ownBlock_slice] at h
    have hh := hub g h
    refine ⟨fun e => ?_, fun j v hj e => ?_⟩
    · rcases hat with h1 | h1
      · exact hne g h (h1 ▸ e)
      · rw [h1] at e; have := Option.some.inj e; omega
    · have := (hR3.rng j v hj _ e).2; omega
end Go.Proofs.Ytpognnifgcacnaa

/- The laws' helpers on []int64 in the words of Nest. -/
namespace Go.Proofs.Ytpognnifgcacnaa
open Go.RowKit

end Go.Proofs.Ytpognnifgcacnaa

/- The laws' helpers on [][]int64. -/
namespace Go.Proofs.Ytpognnifgcacnaa
open Go.RowKit

theorem etSS : ET Try.prog 39 49 (.slice none 0 0) 24 := ⟨Try.underlying39, by kernel_rfl, rfl, by omega⟩

end Go.Proofs.Ytpognnifgcacnaa

/- The presentation of a diagram: the reference's walk. -/
namespace Go.Proofs.Ytpognnifgcacnaa
open Go.RowKit

/-- the box of the result, the box of p, its relators -/
structure CoxSt (w wr : World) (N : Nat) (ao : Option Addr) (m c : Nat) (us : List Value) (ds : List (List Int)) : Prop where
  res : Blk wr w.heap.size 72 #[.int .i64 0, .slice none 0 0]
  box : Blk wr (w.heap.size + 1) 72 #[.int .i64 N, .slice ao m c]
  row : OwR (OwS 2) wr (w.heap.size + 2) wr.heap.size 49 ao m c us ds
  size : w.heap.size + 2 ≤ wr.heap.size
  below : Below w.heap.size w wr
  few : m ≤ 1000

theorem CoxSt.push {w wr w2 w3 w4 : World} {N m c' n1 c1 c2 : Nat} {ao' a1 ao2 : Option Addr} {us : List Value} {ds : List (List Int)} {zs : List Int} (st : CoxSt w wr N ao' m c' us ds) (hm : m + 1 ≤ 1000)
    (b2 : Below wr.heap.size wr w2) (o1 : Own w2 wr.heap.size 2 a1 n1 c1 (zs.map (Value.int .i64))) (b3 : Below w2.heap.size w2 w3) (o4 : Own w4 (w.heap.size + 2) 49 ao2 (m + 1) c2 (us ++ [.slice a1 n1 c1]))
    (g4 : w3.grownBy w4 (bk ao')) (hat : bk ao2 = bk ao' ∨ bk ao2 = some w3.heap.size) :
    CoxSt w (w4.setCell ⟨w.heap.size + 1, 1, none⟩ (.slice ao2 (m + 1) c2)) N ao2 (m + 1) c2 (us ++ [.slice a1 n1 c1]) (ds ++ [zs]) := by
  have hR := rows_push st.row st.size b2 o1 b3 o4 g4 hat
  have hsz := st.size
  have s2 := b2.size
  have s3 := b3.size
  have s4 := g4.size
  have B4 : Below (w.heap.size + 2) wr w4 := ((b2.trans (b3.mono s2)).mono hsz).grown g4 (by omega) (fun g hg => (st.row.own.lt g hg).1)
  have hh : (w4.setCell ⟨w.heap.size + 1, 1, none⟩ (.slice ao2 (m + 1) c2)).heap.size = w4.heap.size := by simp [World.setCell]
  refine ⟨(st.res.below B4 (by omega)).far (by simp) _, ?_, ?_, by rw [hh]; omega, (st.below.trans (B4.mono (by omega))).setCell (by simp) _, hm⟩
  · have := (st.box.below B4 (by omega)).set_ 1 (.slice ao2 (m + 1) c2)
    simpa using this
  · rw [hh]
    exact hR.same (innerS _) fun g h1 _ _ => Below.heap_setCell _ _ _ _ (by simp; omega)

theorem CoxSt.done {w wr : World} {N m c' : Nat} {ao' : Option Addr} {us : List Value} {ds : List (List Int)} (st : CoxSt w wr N ao' m c' us ds) :
    Blk ((wr.setCell ⟨w.heap.size, 0, none⟩ (.int .i64 N)).setCell ⟨w.heap.size, 1, none⟩ (.slice ao' m c')) w.heap.size 72 #[.int .i64 N, .slice ao' m c'] ∧
    OwR (OwS 2) ((wr.setCell ⟨w.heap.size, 0, none⟩ (.int .i64 N)).setCell ⟨w.heap.size, 1, none⟩ (.slice ao' m c')) (w.heap.size + 2) ((wr.setCell ⟨w.heap.size, 0, none⟩ (.int .i64 N)).setCell ⟨w.heap.size, 1, none⟩ (.slice ao' m c')).heap.size 49 ao' m c' us ds ∧
    Below w.heap.size w ((wr.setCell ⟨w.heap.size, 0, none⟩ (.int .i64 N)).setCell ⟨w.heap.size, 1, none⟩ (.slice ao' m c')) := by
  have hh : ((wr.setCell ⟨w.heap.size, 0, none⟩ (.int .i64 N)).setCell ⟨w.heap.size, 1, none⟩ (.slice ao' m c')).heap.size = wr.heap.size := by simp [World.setCell]
  refine ⟨?_, ?_, (st.below.setCell (by simp) _).setCell (by simp) _⟩
  · have := (st.res.set_ 0 (.int .i64 N)).set_ 1 (.slice ao' m c')
    simpa using this
  · rw [hh]
    exact st.row.same (innerS _) fun g h1 _ _ => by rw [Below.heap_setCell _ _ _ _ (by simp; omega), Below.heap_setCell _ _ _ _ (by simp; omega)]

end Go.Proofs.Ytpognnifgcacnaa

/- Draws of presentations: l11Draw. -/
namespace Go.Proofs.Ytpognnifgcacnaa
open Go.RowKit

theorem Src.far {w w' : World} {sb : Nat} (h : Src w sb) (hs : ∀ g, g ≤ sb → w'.heap[g]? = w.heap[g]?) : Src w' sb := by
  obtain ⟨ao, n, c, k, hh, h1, h2, h3, h4⟩ := h.box
  refine ⟨ao, n, c, k, hh, (hs sb (Nat.le_refl _)).trans h1, h2, h3, h4.1, fun hn => ?_⟩
  obtain ⟨b, off, e, hb, hc⟩ := h4.2 hn
  refine ⟨b, off, e, hb, fun j hj => ?_⟩
  obtain ⟨x, hx, hcx⟩ := hc j hj
  exact ⟨x, hx, (World.cell?_of_block (hs b (by omega))).trans hcx⟩
/-- a presentation being drawn: the source's box sb, the result's rb, that of p at pb -/
structure DrSt (w wr : World) (sb rb pb : Nat) (N : Int) (ao : Option Addr) (m c : Nat) (us : List Value) (ds : List (List Int)) : Prop where
  src : Src wr sb
  res : Blk wr rb 72 #[.int .i64 0, .slice none 0 0]
  box : Blk wr pb 72 #[.int .i64 N, .slice ao m c]
  row : OwR (OwS 2) wr (pb + 1) wr.heap.size 49 ao m c us ds
  lo : sb < w.heap.size ∧ w.heap.size ≤ rb ∧ rb < pb ∧ pb < wr.heap.size
  only : Only sb (sb + 1) w wr
section
variable {w wr : World} {sb rb pb : Nat} {N : Int} {ao : Option Addr} {m c : Nat} {us : List Value} {ds : List (List Int)}
theorem DrSt.next {w2 : World} (st : DrSt w wr sb rb pb N ao m c us ds) (s2 : Src w2 sb) (o2 : Only sb (sb + 1) wr w2) : DrSt w w2 sb rb pb N ao m c us ds :=
  have hl := st.lo
  have hsz := o2.size
  ⟨s2, st.res.only o2 (.inr (by omega)), st.box.only o2 (.inr (by omega)), (st.row.only (innerS _) o2 (.inr (by omega))).mono (Nat.le_refl _) hsz, ⟨hl.1, hl.2.1, hl.2.2.1, by omega⟩, st.only.trans o2⟩
theorem DrSt.push {w2 w3 w4 : World} {n1 c1 c2 : Nat} {a1 ao2 : Option Addr} {zs : List Int} (st : DrSt w wr sb rb pb N ao m c us ds)
    (b2 : Below wr.heap.size wr w2) (o1 : Own w2 wr.heap.size 2 a1 n1 c1 (zs.map (Value.int .i64))) (b3 : Below w2.heap.size w2 w3) (o4 : Own w4 (pb + 1) 49 ao2 (m + 1) c2 (us ++ [.slice a1 n1 c1]))
    (g4 : w3.grownBy w4 (bk ao)) (hat : bk ao2 = bk ao ∨ bk ao2 = some w3.heap.size) :
    DrSt w (w4.setCell ⟨pb, 1, none⟩ (.slice ao2 (m + 1) c2)) sb rb pb N ao2 (m + 1) c2 (us ++ [.slice a1 n1 c1]) (ds ++ [zs]) := by
  have hl := st.lo
  have hR := rows_push st.row (by omega) b2 o1 b3 o4 g4 hat
  have s2 := b2.size
  have s3 := b3.size
  have s4 := g4.size
  have B4 : Below (pb + 1) wr w4 := ((b2.trans (b3.mono s2)).mono (by omega)).grown g4 (by omega) (fun g hg => (st.row.own.lt g hg).1)
  have hh : (w4.setCell ⟨pb, 1, none⟩ (.slice ao2 (m + 1) c2)).heap.size = w4.heap.size := by simp [World.setCell]
  have hne : ∀ g, g ≠ pb → (w4.setCell ⟨pb, 1, none⟩ (.slice ao2 (m + 1) c2)).heap[g]? = w4.heap[g]? := fun g hg => Below.heap_setCell _ _ _ _ (by simpa using hg)
  refine ⟨st.src.far fun g hg => (hne g (by omega)).trans (B4.block g (by omega)), (st.res.below B4 (by omega)).far (by simp; omega) _, ?_, ?_, ⟨hl.1, hl.2.1, hl.2.2.1, by rw [hh]; omega⟩, ?_⟩
  · have := (st.box.below B4 (by omega)).set_ 1 (.slice ao2 (m + 1) c2)
    simpa using this
  · rw [hh]
    exact hR.same (innerS _) fun g h1 _ _ => hne g (by omega)
  · have o := st.only
    exact ⟨B4.os.trans o.os, B4.tape.trans o.tape, B4.output.trans o.output, by rw [hh]; have := o.size; omega, fun k hk hd => by rw [hne k (by omega), B4.block k (by omega)]; exact o.block k hk hd⟩
theorem DrSt.done (st : DrSt w wr sb rb pb N ao m c us ds) :
    Blk ((wr.setCell ⟨rb, 0, none⟩ (.int .i64 N)).setCell ⟨rb, 1, none⟩ (.slice ao m c)) rb 72 #[.int .i64 N, .slice ao m c] ∧
    OwP 2 49 ((wr.setCell ⟨rb, 0, none⟩ (.int .i64 N)).setCell ⟨rb, 1, none⟩ (.slice ao m c)) w.heap.size ((wr.setCell ⟨rb, 0, none⟩ (.int .i64 N)).setCell ⟨rb, 1, none⟩ (.slice ao m c)).heap.size (.agg #[.int .i64 N, .slice ao m c]) (N, ds) ∧
    Src ((wr.setCell ⟨rb, 0, none⟩ (.int .i64 N)).setCell ⟨rb, 1, none⟩ (.slice ao m c)) sb ∧
    Only sb (sb + 1) w ((wr.setCell ⟨rb, 0, none⟩ (.int .i64 N)).setCell ⟨rb, 1, none⟩ (.slice ao m c)) := by
  have hl := st.lo
  have hh : ((wr.setCell ⟨rb, 0, none⟩ (.int .i64 N)).setCell ⟨rb, 1, none⟩ (.slice ao m c)).heap.size = wr.heap.size := by simp [World.setCell]
  have hne : ∀ g, g ≠ rb → ((wr.setCell ⟨rb, 0, none⟩ (.int .i64 N)).setCell ⟨rb, 1, none⟩ (.slice ao m c)).heap[g]? = wr.heap[g]? := fun g hg => by
    rw [Below.heap_setCell _ _ _ _ (by simpa using hg), Below.heap_setCell _ _ _ _ (by simpa using hg)]
  refine ⟨?_, ⟨ao, m, c, us, rfl, ?_⟩, st.src.far fun g hg => hne g (by omega), ?_⟩
  · have := (st.res.set_ 0 (.int .i64 N)).set_ 1 (.slice ao m c)
    simpa using this
  · rw [hh]
    exact (st.row.same (innerS _) fun g h1 _ _ => hne g (by omega)).mono (by omega) (Nat.le_refl _)
  · have o := st.only
    exact ⟨o.os, o.tape, o.output, by rw [hh]; exact o.size, fun k hk hd => by rw [hne k (by omega)]; exact o.block k hk hd⟩
end
/-- what a draw of a presentation leaves -/
def DrawnP (w : World) (sb : Nat) (glo ghi : Int) (most : Nat) (e : Ending) (w' : World) : Prop :=
  ∃ v d, e = .returned v ∧ glo ≤ d.1 ∧ d.1 ≤ ghi ∧ d.2.length ≤ most ∧ OwP 2 49 w' w.heap.size w'.heap.size v d ∧ Src w' sb ∧ Only sb (sb + 1) w w'
theorem pick5 {r : Nat} (h : r < 5) : ∃ L : Nat, iget [2, 3, 3, 3, 4] r = (L : Int) ∧ 2 ≤ L ∧ L ≤ 7 := by
  match r, h with
  | 0, _ => exact ⟨2, rfl, by omega, by omega⟩
  | 1, _ => exact ⟨3, rfl, by omega, by omega⟩
  | 2, _ => exact ⟨3, rfl, by omega, by omega⟩
  | 3, _ => exact ⟨3, rfl, by omega, by omega⟩
  | 4, _ => exact ⟨4, rfl, by omega, by omega⟩
theorem pick6 {r : Nat} (h : r < 6) : ∃ L : Nat, iget [2, 3, 4, 5, 6, 7] r = (L : Int) ∧ 2 ≤ L ∧ L ≤ 7 := by
  match r, h with
  | 0, _ => exact ⟨2, rfl, by omega, by omega⟩
  | 1, _ => exact ⟨3, rfl, by omega, by omega⟩
  | 2, _ => exact ⟨4, rfl, by omega, by omega⟩
  | 3, _ => exact ⟨5, rfl, by omega, by omega⟩
  | 4, _ => exact ⟨6, rfl, by omega, by omega⟩
  | 5, _ => exact ⟨7, rfl, by omega, by omega⟩

set_option maxRecDepth 100000 in
set_option maxHeartbeats 3200000 in
theorem draw_any (sb : Nat) (w : World) (h : Src w sb) (hsb : sb < w.heap.size) :
    Calls Try.prog 190 #[.pointer (some ⟨sb, 0, none⟩)] w (DrawnP w sb 1 4 17) := by
  go_enter Try.func190, Try.ntmps190
  have h1 : Src (w.alloc (.cells #[.int .i64 0, .slice none 0 0] 72)) sb := h.grown (row := none) (World.grownBy_alloc w _ none) (fun g hg => by cases hg)
  have r1 : Blk (w.alloc (.cells #[.int .i64 0, .slice none 0 0] 72)) w.heap.size 72 #[.int .i64 0, .slice none 0 0] := blk_at rfl
  have q1 : Only sb (sb + 1) w (w.alloc (.cells #[.int .i64 0, .slice none 0 0] 72)) := only_grown (Only.refl sb (sb + 1) w) (World.grownBy_alloc w _ none) (fun g hg => by cases hg)
  go_wp2_with fail
  have hz1 : (w.alloc (.cells #[.int .i64 0, .slice none 0 0] 72)).heap.size = w.heap.size + 1 := by simp
  generalize w.alloc (.cells #[.int .i64 0, .slice none 0 0] 72) = w1 at *
  have HZ1 := Lib.hid hz1
  clear hz1
  refine (next_any sb _ _ h1 (by omega)).mono ?_
  rintro e w2 ⟨r, rfl, -, r2, s2, o2⟩
  have hr := r2 (by omega)
  obtain ⟨N, hN⟩ : ∃ N : Nat, (1 : Int) + r = N := ⟨1 + r, by omega⟩
  have hN1 : 1 ≤ N := by omega
  have hN4 : N ≤ 4 := by omega
  have r2' := r1.only o2 (.inr (by omega))
  have hz2 := o2.size
  have q2 := q1.trans o2
  clear o2 h1 r1 q1 r2
  go_wp2_with fail
  have st0 : DrSt w (w2.alloc (.cells #[.int .i64 N, .slice none 0 0] 72)) sb w.heap.size w2.heap.size N none 0 0 [] [] :=
    ⟨s2.grown (row := none) (World.grownBy_alloc w2 _ none) (fun g hg => by cases hg), r2'.alloc _, blk_at rfl, OwR.empty_ (Own.nil_ _ _ _) (fun g hg => by cases hg), ⟨hsb, Nat.le_refl _, by have := HZ1.out; omega, by simp⟩, only_grown q2 (World.grownBy_alloc w2 _ none) (fun g hg => by cases hg)⟩
  have hpb : w.heap.size < w2.heap.size := by have := HZ1.out; omega
  generalize w2.alloc (.cells #[.int .i64 N, .slice none 0 0] 72) = w3 at *
  generalize w2.heap.size = pb at *
  clear s2 q2 r2' hz2 HZ1 hN hr
  go_loopw [5, 6] (fun bv iv wr => ∃ (b k m : Nat) (ao : Option Addr) (c : Nat) (us : List Value) (ds : List (List Int)), bv = .int .i64 b ∧ iv = .int .i64 k ∧ k ≤ N ∧ b ≤ 4 * k ∧ m ≤ 4 * k ∧ DrSt w wr sb w.heap.size pb N ao m c us ds) (fun _ iv _ => N - (intOf iv).toNat)
  case atStart => exact ⟨0, 0, 0, none, 0, [], [], rfl, rfl, Nat.zero_le _, by omega, by omega, st0⟩
  case round =>
    obtain ⟨b, k, m, ao, c, us, ds, rfl, rfl, hk, hb, hm, st⟩ := hrel
    clear st0 w3
    by_cases hlt : k < N
    · have ST := Lib.hid st
      clear st
      go_wp2_with fail
      go_loopw [5, 7] (fun bv iv wr => ∃ (b j m : Nat) (ao : Option Addr) (c : Nat) (us : List Value) (ds : List (List Int)), bv = .int .i64 b ∧ iv = .int .i64 j ∧ k < j ∧ j ≤ N ∧ b ≤ 4 * k + j ∧ m ≤ 4 * k + j ∧ DrSt w wr sb w.heap.size pb N ao m c us ds) (fun _ iv _ => N - (intOf iv).toNat)
      case atStart => exact ⟨b, k + 1, m, ao, c, us, ds, rfl, by simp, by omega, by omega, by omega, by omega, ST.out⟩
      case round =>
        obtain ⟨b, j, m, ao, c, us, ds, rfl, rfl, hkj, hj, hb, hm, st⟩ := hrel
        clear ST
        by_cases hlt2 : j < N
        · have ST := Lib.hid st
          clear st
          go_upto_if 30 with (fail)
          go_cut [5, 8] (fun s5 s8 wx => ∃ b' L : Nat, s5 = .int .i64 b' ∧ s8 = .int .i64 L ∧ b' ≤ 4 * k + j + 1 ∧ 2 ≤ L ∧ L ≤ 7 ∧ DrSt w wx sb w.heap.size pb N ao m c us ds)
          case first =>
            by_cases hjk : j = k + 1
            · subst hjk
              have hP : Ints (wr.alloc (.cells #[.int .i64 2, .int .i64 3, .int .i64 3, .int .i64 3, .int .i64 4] 2)) (some ⟨wr.heap.size, 0, none⟩) 5 [2, 3, 3, 3, 4] := Own.ints (zs := [2, 3, 3, 3, 4]) (own_lit (us := [.int .i64 2, .int .i64 3, .int .i64 3, .int .i64 3, .int .i64 4]) rfl (Nat.le_refl _) (by simp))
              have oP : Only sb (sb + 1) wr (wr.alloc (.cells #[.int .i64 2, .int .i64 3, .int .i64 3, .int .i64 3, .int .i64 4] 2)) := only_grown (Only.refl _ _ _) (World.grownBy_alloc wr _ none) (fun g hg => by cases hg)
              have sP : Src (wr.alloc (.cells #[.int .i64 2, .int .i64 3, .int .i64 3, .int .i64 3, .int .i64 4] 2)) sb := ST.out.src.grown (row := none) (World.grownBy_alloc wr _ none) (fun g hg => by cases hg)
              have hne : bk (some ⟨wr.heap.size, 0, none⟩) ≠ some sb := by have := ST.out.lo; simp [bk]; omega
              go_wp2_with fail
              refine (pick_any sb _ 5 5 [2, 3, 3, 3, 4] _ sP hP (by omega) (by omega) hne).mono ?_
              rintro e w4 ⟨q, hq, rfl, s4, o4⟩
              obtain ⟨L, hL, hL2, hL7⟩ := pick5 hq
              rw [hL]
              have ST4 := Lib.hid (ST.out.next s4 (oP.trans o4))
              clear hL hP oP sP hne s4 o4 hq q ST
              go_upto_if 35 with (fail)
              go_cut [8] (fun s8 wx => ∃ L : Nat, s8 = .int .i64 L ∧ 2 ≤ L ∧ L ≤ 7 ∧ DrSt w wx sb w.heap.size pb N ao m c us ds)
              case first =>
                by_cases hN3 : N < 3
                · have hP : Ints (w4.alloc (.cells #[.int .i64 2, .int .i64 3, .int .i64 4, .int .i64 5, .int .i64 6, .int .i64 7] 2)) (some ⟨w4.heap.size, 0, none⟩) 6 [2, 3, 4, 5, 6, 7] := Own.ints (zs := [2, 3, 4, 5, 6, 7]) (own_lit (us := [.int .i64 2, .int .i64 3, .int .i64 4, .int .i64 5, .int .i64 6, .int .i64 7]) rfl (Nat.le_refl _) (by simp))
                  have oP : Only sb (sb + 1) w4 (w4.alloc (.cells #[.int .i64 2, .int .i64 3, .int .i64 4, .int .i64 5, .int .i64 6, .int .i64 7] 2)) := only_grown (Only.refl _ _ _) (World.grownBy_alloc w4 _ none) (fun g hg => by cases hg)
                  have sP : Src (w4.alloc (.cells #[.int .i64 2, .int .i64 3, .int .i64 4, .int .i64 5, .int .i64 6, .int .i64 7] 2)) sb := ST4.out.src.grown (row := none) (World.grownBy_alloc w4 _ none) (fun g hg => by cases hg)
                  have hne : bk (some ⟨w4.heap.size, 0, none⟩) ≠ some sb := by have := ST4.out.lo; simp [bk]; omega
                  go_wp2_with fail
                  refine (pick_any sb _ 6 6 [2, 3, 4, 5, 6, 7] _ sP hP (by omega) (by omega) hne).mono ?_
                  rintro e w5 ⟨q, hq, rfl, s5, o5⟩
                  obtain ⟨L', hL', hL2', hL7'⟩ := pick6 hq
                  rw [hL']
                  have st5 := ST4.out.next s5 (oP.trans o5)
                  clear hL' hP oP sP hne o5 hq q
                  go_wp2_with fail
                  go_meet
                  case rel => exact ⟨L', rfl, hL2', hL7', st5⟩
                · go_wp2_with fail
                  go_meet
                  case rel => exact ⟨L, rfl, hL2, hL7, ST4.out⟩
              case rest =>
                obtain ⟨L', rfl, hL2', hL7', st5⟩ := hcut
                have ST5 := Lib.hid st5
                clear st5 ST4 hL2 hL7
                by_cases hL3 : 3 < L'
                · by_cases hb1 : 0 < b
                  · go_wp2_with fail
                    go_meet
                    case rel => exact ⟨b + 1, 3, by go_num, by go_num, by omega, by omega, by omega, ST5.out⟩
                  · obtain rfl : b = 0 := by omega
                    by_cases hN4' : N = 4
                    · subst hN4'
                      by_cases hk1 : k = 1
                      · subst hk1
                        go_wp2_with fail
                        go_meet
                        case rel => exact ⟨1, 3, by go_num, by go_num, by omega, by omega, by omega, ST5.out⟩
                      · have hk1' : ((k : Int) == 1) = false := by simp; omega
                        go_wp2_with fail
                        go_meet
                        case rel => exact ⟨1, L', by go_num, by go_num, by omega, by omega, by omega, ST5.out⟩
                    · go_wp2_with fail
                      go_meet
                      case rel => exact ⟨1, L', by go_num, by go_num, by omega, by omega, by omega, ST5.out⟩
                · by_cases hb1 : 1 < b
                  · go_wp2_with fail
                    go_meet
                    case rel => exact ⟨b, L', by go_num, by go_num, by omega, by omega, by omega, ST5.out⟩
                  · by_cases hN4' : N = 4
                    · subst hN4'
                      by_cases hk1 : k = 1
                      · subst hk1
                        go_wp2_with fail
                        go_meet
                        case rel => exact ⟨b, L', by go_num, by go_num, by omega, by omega, by omega, ST5.out⟩
                      · have hk1' : ((k : Int) == 1) = false := by simp; omega
                        go_wp2_with fail
                        go_meet
                        case rel => exact ⟨b, L', by go_num, by go_num, by omega, by omega, by omega, ST5.out⟩
                    · go_wp2_with fail
                      go_meet
                      case rel => exact ⟨b, L', by go_num, by go_num, by omega, by omega, by omega, ST5.out⟩
            · go_wp2_with fail
              go_meet
              case rel => exact ⟨b, 2, rfl, rfl, by omega, by omega, by omega, ST.out⟩
          case rest =>
            obtain ⟨b', L, rfl, rfl, hb', hL2, hL7, st2⟩ := hcut
            have ST2 := Lib.hid st2
            clear st2 ST
            have hlo := ST2.out.lo
            have x1 := ST2.out.box.cell 1
            have f1 := ST2.out.box.frozen 1
            simp at x1
            have hP : Ints (wc.alloc (.cells #[.int .i64 k, .int .i64 (j : Int)] 2)).drew (some ⟨wc.heap.size, 0, none⟩) 2 [(k : Int), (j : Int)] := Own.ints (zs := [(k : Int), (j : Int)]) (own_lit (us := [.int .i64 k, .int .i64 (j : Int)]) rfl (Nat.le_refl _) (by simp))
            have bP : Below wc.heap.size wc (wc.alloc (.cells #[.int .i64 k, .int .i64 (j : Int)] 2)) := below_alloc1 _ _
            have HP := Lib.hid hP
            have BP := Lib.hid bP
            clear hP bP
            go_wp2_with fail
            have xP : (wc.alloc (.cells #[.int .i64 k, .int .i64 (j : Int)] 2)).cell? ⟨pb, 1, none⟩ = some (.slice ao m c) := (ST2.out.box.alloc _).cell 1
            go_region_law (first | (refine step_ap1 (o := ⟨some 63, _, _, _, _, _⟩) etSS rfl (.tmp 56) (.tmp 62) rfl (pb + 1) ao m c us rfl (ST2.out.row.own.below B3) (.slice a1 (2 * L) c1) w2.heap.size 1 rfl ((blk_at rfl).cell 0) rfl (by omega) (by have := B3.size; simp at *; omega) ?_; intro ao2 c2 w4 o4 g4 hat; have B4S : Below (pb + 1) wc w4 := (B3S.grown g4 (by have := B3.size; omega) (fun g hg => (ST2.out.row.own.lt g hg).1)); have x4 : w4.cell? ⟨pb, 1, none⟩ = some (.slice ao m c) := (ST2.out.box.below B4S (by omega)).cell 1; have f4 : w4.frozen? ⟨pb, 1, none⟩ = false := (ST2.out.box.below B4S (by omega)).frozen 1) | (go_simp; go_at_call 131; refine (specPower_any _ 2 2 L [(k : Int), (j : Int)] _ HP.out (by omega) (by omega)).mono ?_; rintro e w2 ⟨a1, c1, rfl, o1, b1⟩; have B2 : Below wc.heap.size wc w2 := below_tr b1 BP.out.drew; have B2S := B2.mono (show pb + 1 ≤ wc.heap.size by omega); have B3 : Below wc.heap.size wc (w2.alloc (.cells #[.slice a1 (2 * L) c1] 49)) := B2.alloc B2.size _; have B3S := B3.mono (show pb + 1 ≤ wc.heap.size by omega); have x2 : w2.cell? ⟨pb, 1, none⟩ = some (.slice ao m c) := (ST2.out.box.below B2S (by omega)).cell 1; have x3 : (w2.alloc (.cells #[.slice a1 (2 * L) c1] 49)).cell? ⟨pb, 1, none⟩ = some (.slice ao m c) := (ST2.out.box.below B3S (by omega)).cell 1))
            all_goals
              have st3 := ST2.out.push B2 (o1.mono (by simp [World.drew])) (below_alloc1 _ _) o4 g4 hat
              generalize w4.setCell ⟨pb, 1, none⟩ (.slice ao2 (m + 1) c2) = wf at *
              clear B2 B2S B3 B3S B4S x1 x2 x3 x4 xP f1 f4 o1 b1 o4 g4 hat ST2 HP BP
              go_wp2_with fail
              go_roundw
              case rel => exact ⟨b', j + 1, m + 1, ao2, c2, _, _, rfl, by go_num, by omega, by omega, by omega, by omega, st3⟩
              case measure => simp [intOf]; omega
        · obtain rfl : j = N := by omega
          go_wp2_with fail
          go_roundw
          case rel => exact ⟨b, k + 1, m, ao, c, us, ds, rfl, by go_num, by omega, by omega, by omega, st⟩
          case measure => simp [intOf]; omega
    · obtain rfl : k = N := by omega
      have ST := Lib.hid st
      have hlo := st.lo
      clear st
      go_wp2_with fail
      refine (next_any sb _ _ ST.out.src (by omega)).mono ?_
      rintro e w4 ⟨q, rfl, -, -, s4, o4⟩
      have ST4 := Lib.hid (ST.out.next s4 o4)
      clear s4 o4 ST
      go_upto_if 67 with (fail)
      go_cut [] (fun wx => ∃ (m : Nat) (ao : Option Addr) (c : Nat) (us : List Value) (ds : List (List Int)), m ≤ 17 ∧ DrSt w wx sb w.heap.size pb k ao m c us ds)
      case first =>
        by_cases hq0 : q = 0
        · subst hq0
          go_wp2_with fail
          have hlo4 := ST4.out.lo
          refine (drawWord_any sb k 6 _ ST4.out.src (by omega) (by omega) (by omega) (by omega)).mono ?_
          rintro e w5 ⟨a5, n5, c5, zs, rfl, hn5, -, o5, s5, q5⟩
          have ST5 := Lib.hid (ST4.out.next s5 q5)
          have hi5 := o5.ints
          have hne5 : ∀ g, bk a5 = some g → sb < g := fun g hg => by have := (o5.lt g hg).1; omega
          clear o5 s5 q5 ST4 hlo4
          by_cases hn0 : 0 < n5
          · have hlo5 := ST5.out.lo
            have x1 := ST5.out.box.cell 1
            have f1 := ST5.out.box.frozen 1
            simp at x1
            have HI5 := Lib.hid hi5
            have S5D : Src w5.drew sb := ⟨ST5.out.src.box⟩
            have O5D : Only sb (sb + 1) w5 w5.drew := ⟨rfl, rfl, rfl, Nat.le_refl _, fun _ _ _ => rfl⟩
            clear hi5
            go_wp2_with fail
            go_region_law (first | (refine step_ap1 (o := ⟨some 82, _, _, _, _, _⟩) etSS rfl (.tmp 75) (.tmp 81) rfl (pb + 1) ao m c us rfl (ST6.out.row.own.below B3) (.slice a1 (n5 * Q) c1) w7.heap.size 1 rfl ((blk_at rfl).cell 0) rfl (by omega) (by have := B3.size; simp at *; omega) ?_; intro ao2 c2 w8 o8 g8 hat; have B4S : Below (pb + 1) w6 w8 := (B3S.grown g8 (by have := B3.size; omega) (fun g hg => (ST6.out.row.own.lt g hg).1)); have x4 : w8.cell? ⟨pb, 1, none⟩ = some (.slice ao m c) := (ST6.out.box.below B4S (by omega)).cell 1; have f4 : w8.frozen? ⟨pb, 1, none⟩ = false := (ST6.out.box.below B4S (by omega)).frozen 1) | (go_simp; go_at_call 120; refine (next_any sb _ _ S5D (by omega)).mono ?_; rintro e w6 ⟨q, rfl, -, r6, s6, q6⟩; have ST6 := Lib.hid (ST5.out.next s6 (Only.trans O5D q6)); have hlo6 := ST6.out.lo; have HI6 := Lib.hid (HI5.out.same (w' := w6) fun g hg hlt => q6.block g hlt (.inr (by have := hne5 g hg; omega))); have r6' := r6 (by omega); obtain ⟨Q, hQ, hQ3⟩ : ∃ Q : Nat, IntKind.i64.wrap (1 + (q : Int)) = (Q : Int) ∧ Q ≤ 3 := ⟨1 + q, by rw [IntWalk.i64_in _ (by omega)]; omega, by omega⟩; clear r6 r6' q6 s6; have y6 : w6.cell? ⟨pb, 1, none⟩ = some (.slice ao m c) := ST6.out.box.cell 1) | (go_simp; go_at_call 131; refine (specPower_any a5 n5 c5 Q zs _ HI6.out (by omega) (by have : n5 * Q ≤ 6 * 3 := Nat.mul_le_mul hn5 hQ3; omega)).mono ?_; rintro e w7 ⟨a1, c1, rfl, o7, b7⟩; have B2 : Below w6.heap.size w6 w7 := b7; have B2S := B2.mono (show pb + 1 ≤ w6.heap.size by omega); have B3 : Below w6.heap.size w6 (w7.alloc (.cells #[.slice a1 (n5 * Q) c1] 49)) := B2.alloc B2.size _; have B3S := B3.mono (show pb + 1 ≤ w6.heap.size by omega); have x2 : w7.cell? ⟨pb, 1, none⟩ = some (.slice ao m c) := (ST6.out.box.below B2S (by omega)).cell 1; have x3 : (w7.alloc (.cells #[.slice a1 (n5 * Q) c1] 49)).cell? ⟨pb, 1, none⟩ = some (.slice ao m c) := (ST6.out.box.below B3S (by omega)).cell 1))
            all_goals
              have st3 := ST6.out.push B2 o7 (below_alloc1 _ _) o8 g8 hat
              generalize w8.setCell ⟨pb, 1, none⟩ (.slice ao2 (m + 1) c2) = wf at *
              clear B2 B2S B3 B3S B4S x1 x2 x3 x4 y6 f1 f4 o7 b7 o8 g8 hat ST5 ST6 HI5 HI6 hQ
              go_wp2_with fail
              go_meet
              case rel => exact ⟨m + 1, ao2, c2, _, _, by omega, st3⟩
          · obtain rfl : n5 = 0 := by omega
            go_wp2_with fail
            go_meet
            case rel => exact ⟨m, ao, c, us, ds, by omega, ST5.out⟩
        · have hq1 : ((q : Int) == 0) = false := by simp; omega
          go_wp2_with fail
          go_meet
          case rel => exact ⟨m, ao, c, us, ds, by omega, ST4.out⟩
      case rest =>
        obtain ⟨m, ao, c, us, ds, hm, st⟩ := hcut
        have x0 := st.box.cell 0
        have x1 := st.box.cell 1
        have y0 := st.res.cell 0
        have y1 := st.res.cell 1
        have f0 := st.res.frozen 0
        have f1 := st.res.frozen 1
        simp at x0 x1 y0 y1
        have ST5 := Lib.hid st
        clear st ST4
        go_wp2_with fail
        have st2 := ST5.out.done
        have hlen := ST5.out.row.len
        generalize (wc.setCell ⟨w.heap.size, 0, none⟩ (.int .i64 k)).setCell ⟨w.heap.size, 1, none⟩ (.slice ao m c) = wf at *
        have e0 := st2.1.cell 0
        have e1 := st2.1.cell 1
        simp at e0 e1
        refine bodyPost_ret (v := .agg #[.int .i64 k, .slice ao m c]) (by simp [results, Try.f190, go_sem, e0, e1]) rfl ⟨_, _, rfl, by simp; omega, by simp; omega, by simp; omega, st2.2.1, st2.2.2.1, st2.2.2.2⟩
end Go.Proofs.Ytpognnifgcacnaa

/- Draws of presentations: l11DrawAny. -/
namespace Go.Proofs.Ytpognnifgcacnaa
open Go.RowKit

section
variable {w w' : World} {lo hi E F : Nat} {ao : Option Addr} {n c : Nat} {xs : List Value} {ds : List (List Int)}
/-- an owned block is of the element's type -/
theorem Own.typ (h : Own w lo E ao n c xs) {g : Nat} (hg : bk ao = some g) : ∃ cs, w.heap[g]? = some (.cells cs E (0, 0)) := by
  rcases h.1.2 with h2 | ⟨g', cap, cur, hv, _, hh, _⟩
  · have h2 := h2.1
    injection h2 with h3; subst h3; cases hg
  · injection hv with h3; subst h3
    obtain rfl := Option.some.inj hg
    exact ⟨cur, hh⟩
theorem OwR.sameT (h : OwR (OwS F) w lo hi E ao n c xs ds) (hs : ∀ g cs t, lo ≤ g → g < hi → w.heap[g]? = some (.cells cs t (0, 0)) → t = E ∨ t = F → w'.heap[g]? = w.heap[g]?) : OwR (OwS F) w' lo hi E ao n c xs ds :=
  { own := h.own.same fun g hg => by
      obtain ⟨cs, hc⟩ := h.own.typ hg
      exact hs g cs E (h.own.lt g hg).1 (h.top g hg) hc (.inl rfl)
    top := h.top, len := h.len, rng := h.rng, out := h.out, apart := h.apart
    el := fun j u d hu hd => by
      obtain ⟨ao', n', c', rfl, ho⟩ := h.el j u d hu hd
      refine ⟨ao', n', c', rfl, ho.same fun g hg => ?_⟩
      obtain ⟨cs, hc⟩ := ho.typ hg
      have hr := h.rng j _ hu g (by rw [ownBlock_slice]; exact hg)
      exact hs g cs F hr.1 hr.2 hc (.inr rfl) }
end
/-- a presentation that lies about its box pb; the result's box is rb -/
structure DaSt (w wr : World) (sb rb pb : Nat) (N : Int) (ao : Option Addr) (m c : Nat) (us : List Value) (ds : List (List Int)) : Prop where
  src : Src wr sb
  res : Blk wr rb 72 #[.int .i64 0, .slice none 0 0]
  box : Blk wr pb 72 #[.int .i64 N, .slice ao m c]
  row : OwR (OwS 2) wr w.heap.size wr.heap.size 49 ao m c us ds
  lo : sb < w.heap.size ∧ w.heap.size ≤ rb ∧ rb < pb ∧ pb < wr.heap.size
  only : Only sb (sb + 1) w wr
section
variable {w wr : World} {sb rb pb : Nat} {N : Int} {ao : Option Addr} {m c : Nat} {us : List Value} {ds : List (List Int)}
theorem DaSt.next {w2 : World} (st : DaSt w wr sb rb pb N ao m c us ds) (s2 : Src w2 sb) (o2 : Only sb (sb + 1) wr w2) : DaSt w w2 sb rb pb N ao m c us ds :=
  have hl := st.lo
  have hsz := o2.size
  ⟨s2, st.res.only o2 (.inr (by omega)), st.box.only o2 (.inr (by omega)), (st.row.only (innerS _) o2 (.inr (by omega))).mono (Nat.le_refl _) hsz, ⟨hl.1, hl.2.1, hl.2.2.1, by omega⟩, st.only.trans o2⟩
/-- a box of a presentation is no block of the row -/
theorem pres_off {w w' : World} {lo hi : Nat} (h : OwR (OwS 2) w lo hi 49 ao m c us ds) {pb : Nat} {cs : Array Value} (hb : Blk w pb 72 cs) (hs : ∀ g, g ≠ pb → lo ≤ g → w'.heap[g]? = w.heap[g]?) : OwR (OwS 2) w' lo hi 49 ao m c us ds :=
  h.sameT fun g cs' t h1 h2 hc ht => hs g (fun e => by
    subst e
    unfold Blk at hb
    rw [hb] at hc
    injection hc with hc
    injection hc with _ hc
    subst hc
    rcases ht with ht | ht <;> exact absurd ht (by decide)) h1
theorem DaSt.set0 (st : DaSt w wr sb rb pb N ao m c us ds) (z : Int) : DaSt w (wr.setCell ⟨pb, 0, none⟩ (.int .i64 z)) sb rb pb z ao m c us ds := by
  have hl := st.lo
  have hh : (wr.setCell ⟨pb, 0, none⟩ (.int .i64 z)).heap.size = wr.heap.size := by simp [World.setCell]
  have hne : ∀ g, g ≠ pb → (wr.setCell ⟨pb, 0, none⟩ (.int .i64 z)).heap[g]? = wr.heap[g]? := fun g hg => Below.heap_setCell _ _ _ _ (by simpa using hg)
  have o := st.only
  refine ⟨st.src.far fun g hg => hne g (by omega), st.res.far (by simp; omega) _, ?_, ?_, by rw [hh]; exact hl, ⟨o.os, o.tape, o.output, by rw [hh]; exact o.size, fun k hk hd => by rw [hne k (by omega)]; exact o.block k hk hd⟩⟩
  · have := st.box.set_ 0 (.int .i64 z)
    simpa using this
  · rw [hh]; exact pres_off st.row st.box fun g hg _ => hne g hg
theorem DaSt.nilled (st : DaSt w wr sb rb pb N ao m c us ds) : DaSt w (wr.setCell ⟨pb, 1, none⟩ (.slice none 0 0)) sb rb pb N none 0 0 [] [] := by
  have hl := st.lo
  have hh : (wr.setCell ⟨pb, 1, none⟩ (.slice none 0 0)).heap.size = wr.heap.size := by simp [World.setCell]
  have hne : ∀ g, g ≠ pb → (wr.setCell ⟨pb, 1, none⟩ (.slice none 0 0)).heap[g]? = wr.heap[g]? := fun g hg => Below.heap_setCell _ _ _ _ (by simpa using hg)
  have o := st.only
  refine ⟨st.src.far fun g hg => hne g (by omega), st.res.far (by simp; omega) _, ?_, OwR.empty_ (Own.nil_ _ _ _) (fun g hg => by cases hg), by rw [hh]; exact hl, ⟨o.os, o.tape, o.output, by rw [hh]; exact o.size, fun k hk hd => by rw [hne k (by omega)]; exact o.block k hk hd⟩⟩
  have := st.box.set_ 1 (.slice none 0 0)
  simpa using this
theorem DaSt.box4 {w2 w3 w4 : World} (st : DaSt w wr sb rb pb N ao m c us ds) (b2 : Below wr.heap.size wr w2) (b3 : Below w2.heap.size w2 w3) (g4 : w3.grownBy w4 (bk ao)) : Blk w4 pb 72 #[.int .i64 N, .slice ao m c] := by
  have hl := st.lo
  have s2 := b2.size
  have s3 := b3.size
  refine Eq.trans ?_ st.box
  rw [g4.block pb (by omega) (fun e => ?_), b3.block pb (by omega), b2.block pb (by omega)]
  obtain ⟨cs', hc⟩ := st.row.own.typ e.symm
  have hx := st.box
  unfold Blk at hx
  rw [hx] at hc
  injection hc with hc
  injection hc with _ hc
  exact absurd hc (by decide)
theorem DaSt.push {w2 w3 w4 : World} {n1 c1 c2 : Nat} {a1 ao2 : Option Addr} {zs : List Int} (st : DaSt w wr sb rb pb N ao m c us ds)
    (b2 : Below wr.heap.size wr w2) (o1 : Own w2 wr.heap.size 2 a1 n1 c1 (zs.map (Value.int .i64))) (b3 : Below w2.heap.size w2 w3) (o4 : Own w4 w.heap.size 49 ao2 (m + 1) c2 (us ++ [.slice a1 n1 c1]))
    (g4 : w3.grownBy w4 (bk ao)) (hat : bk ao2 = bk ao ∨ bk ao2 = some w3.heap.size) :
    DaSt w (w4.setCell ⟨pb, 1, none⟩ (.slice ao2 (m + 1) c2)) sb rb pb N ao2 (m + 1) c2 (us ++ [.slice a1 n1 c1]) (ds ++ [zs]) := by
  have hl := st.lo
  have hR := rows_push st.row (by omega) b2 o1 b3 o4 g4 hat
  have s2 := b2.size
  have s3 := b3.size
  have s4 := g4.size
  have hoff : ∀ x cs, Blk wr x 72 cs → bk ao ≠ some x := fun x cs hx e => by
    obtain ⟨cs', hc⟩ := st.row.own.typ e
    unfold Blk at hx
    rw [hx] at hc
    injection hc with hc
    injection hc with _ hc
    exact absurd hc (by decide)
  have B4 : ∀ g, g < wr.heap.size → bk ao ≠ some g → w4.heap[g]? = wr.heap[g]? := fun g hg hne => by
    rw [g4.block g (by omega) (fun e => hne e.symm), b3.block g (by omega), b2.block g hg]
  have old : ∀ g, g < w.heap.size → w4.heap[g]? = wr.heap[g]? := fun g hg => B4 g (by omega) (fun e => by have := (st.row.own.lt g e).1; omega)
  have hh : (w4.setCell ⟨pb, 1, none⟩ (.slice ao2 (m + 1) c2)).heap.size = w4.heap.size := by simp [World.setCell]
  have hne : ∀ g, g ≠ pb → (w4.setCell ⟨pb, 1, none⟩ (.slice ao2 (m + 1) c2)).heap[g]? = w4.heap[g]? := fun g hg => Below.heap_setCell _ _ _ _ (by simpa using hg)
  have box4 : Blk w4 pb 72 #[.int .i64 N, .slice ao m c] := (B4 pb hl.2.2.2 (hoff pb _ st.box)).trans st.box
  have res4 : Blk w4 rb 72 #[.int .i64 0, .slice none 0 0] := (B4 rb (by omega) (hoff rb _ st.res)).trans st.res
  refine ⟨st.src.far fun g hg => (hne g (by omega)).trans (old g (by omega)), res4.far (by simp; omega) _, ?_, ?_, ⟨hl.1, hl.2.1, hl.2.2.1, by rw [hh]; omega⟩, ?_⟩
  · have := box4.set_ 1 (.slice ao2 (m + 1) c2)
    simpa using this
  · rw [hh]
    exact pres_off hR box4 fun g hg _ => hne g hg
  · have o := st.only
    have s0 := o.size
    have b3o := b3.os
    exact ⟨(g4.os.trans (b3.os.trans b2.os)).trans o.os, (g4.tape.trans (b3.tape.trans b2.tape)).trans o.tape, (g4.output.trans (b3.output.trans b2.output)).trans o.output, by rw [hh]; omega, fun k hk hd => by rw [hne k (by omega), old k hk]; exact o.block k hk hd⟩
theorem DaSt.done (st : DaSt w wr sb rb pb N ao m c us ds) :
    Blk ((wr.setCell ⟨rb, 0, none⟩ (.int .i64 N)).setCell ⟨rb, 1, none⟩ (.slice ao m c)) rb 72 #[.int .i64 N, .slice ao m c] ∧
    OwP 2 49 ((wr.setCell ⟨rb, 0, none⟩ (.int .i64 N)).setCell ⟨rb, 1, none⟩ (.slice ao m c)) w.heap.size ((wr.setCell ⟨rb, 0, none⟩ (.int .i64 N)).setCell ⟨rb, 1, none⟩ (.slice ao m c)).heap.size (.agg #[.int .i64 N, .slice ao m c]) (N, ds) ∧
    Src ((wr.setCell ⟨rb, 0, none⟩ (.int .i64 N)).setCell ⟨rb, 1, none⟩ (.slice ao m c)) sb ∧
    Only sb (sb + 1) w ((wr.setCell ⟨rb, 0, none⟩ (.int .i64 N)).setCell ⟨rb, 1, none⟩ (.slice ao m c)) := by
  have hl := st.lo
  have hh : ((wr.setCell ⟨rb, 0, none⟩ (.int .i64 N)).setCell ⟨rb, 1, none⟩ (.slice ao m c)).heap.size = wr.heap.size := by simp [World.setCell]
  have hne : ∀ g, g ≠ rb → ((wr.setCell ⟨rb, 0, none⟩ (.int .i64 N)).setCell ⟨rb, 1, none⟩ (.slice ao m c)).heap[g]? = wr.heap[g]? := fun g hg => by
    rw [Below.heap_setCell _ _ _ _ (by simpa using hg), Below.heap_setCell _ _ _ _ (by simpa using hg)]
  refine ⟨?_, ⟨ao, m, c, us, rfl, ?_⟩, st.src.far fun g hg => hne g (by omega), ?_⟩
  · have := (st.res.set_ 0 (.int .i64 N)).set_ 1 (.slice ao m c)
    simpa using this
  · rw [hh]
    exact pres_off st.row st.res fun g hg _ => hne g hg
  · have o := st.only
    exact ⟨o.os, o.tape, o.output, by rw [hh]; exact o.size, fun k hk hd => by rw [hne k (by omega)]; exact o.block k hk hd⟩
end
theorem vals_one {w : World} {b : Nat} {u : Value} (h : w.cell? ⟨b, 0, none⟩ = some u) : Vals w (some ⟨b, 0, none⟩) 1 [u] :=
  ⟨rfl, by omega, fun _ => ⟨b, 0, rfl, fun j v hv => by
    cases j with
    | zero => simp at hv; subst hv; exact h
    | succ j => simp at hv⟩⟩
theorem pick4 {r : Nat} {z : Int} (h : r < 4) (h1 : 1 ≤ z) (h2 : z ≤ 4) : 0 ≤ iget [0, 6, z - 1, z + 1] r ∧ iget [0, 6, z - 1, z + 1] r ≤ 6 := by
  match r, h with
  | 0, _ => show (0 : Int) ≤ 0 ∧ (0 : Int) ≤ 6; omega
  | 1, _ => show (0 : Int) ≤ 6 ∧ (6 : Int) ≤ 6; omega
  | 2, _ => show 0 ≤ z - 1 ∧ z - 1 ≤ 6; omega
  | 3, _ => show 0 ≤ z + 1 ∧ z + 1 ≤ 6; omega

set_option maxRecDepth 100000 in
set_option maxHeartbeats 3200000 in
theorem drawAny_any (sb : Nat) (w : World) (h : Src w sb) (hsb : sb < w.heap.size) :
    Calls Try.prog 129 #[.pointer (some ⟨sb, 0, none⟩)] w (DrawnP w sb 0 6 18) := by
  go_enter Try.func129, Try.ntmps129
  have h1 : Src (w.alloc (.cells #[.int .i64 0, .slice none 0 0] 72)) sb := h.grown (row := none) (World.grownBy_alloc w _ none) (fun g hg => by cases hg)
  have r1 : Blk (w.alloc (.cells #[.int .i64 0, .slice none 0 0] 72)) w.heap.size 72 #[.int .i64 0, .slice none 0 0] := blk_at rfl
  have q1 : Only sb (sb + 1) w (w.alloc (.cells #[.int .i64 0, .slice none 0 0] 72)) := only_grown (Only.refl sb (sb + 1) w) (World.grownBy_alloc w _ none) (fun g hg => by cases hg)
  go_wp2_with fail
  have hz1 : (w.alloc (.cells #[.int .i64 0, .slice none 0 0] 72)).heap.size = w.heap.size + 1 := by simp
  generalize w.alloc (.cells #[.int .i64 0, .slice none 0 0] 72) = w1 at *
  have HZ1 := Lib.hid hz1
  refine (draw_any sb _ h1 (by omega)).mono ?_
  clear hz1
  rintro e w2 ⟨v, ⟨N, ds⟩, rfl, hN1, hN4, hds, ho, s2, q2⟩
  obtain ⟨ao, m, c, us, rfl, hrow⟩ := ho
  have hlen := hrow.len
  have r2 := r1.only q2 (.inr (by have := HZ1.out; omega))
  have q3 := q1.trans q2
  have z2 := q2.size
  dsimp only at hN1 hN4 hds hrow
  have hm : m ≤ 17 := by dsimp only at hlen; omega
  clear q1 h1 r1 q2 hlen
  go_wp2_with fail
  have st0 : DaSt w (w2.alloc (.cells #[.int .i64 N, .slice ao m c] 72)) sb w.heap.size w2.heap.size N ao m c us ds :=
    ⟨s2.grown (row := none) (World.grownBy_alloc w2 _ none) (fun g hg => by cases hg), r2.alloc _, blk_at rfl, (hrow.below (innerS _) (below_alloc1 _ _)).mono (by have := HZ1.out; omega) (by simp), ⟨hsb, Nat.le_refl _, by have := HZ1.out; omega, by simp⟩, only_grown q3 (World.grownBy_alloc w2 _ none) (fun g hg => by cases hg)⟩
  have hpb : w.heap.size < w2.heap.size := by have := HZ1.out; omega
  generalize w2.alloc (.cells #[.int .i64 N, .slice ao m c] 72) = w3 at *
  generalize w2.heap.size = pb at *
  clear s2 q3 r2 z2 HZ1 hrow hds
  have ST0 := Lib.hid st0
  clear st0
  refine (next_any sb _ _ ST0.out.src (by omega)).mono ?_
  rintro e w4 ⟨q, rfl, -, -, s4, o4⟩
  have ST := Lib.hid (ST0.out.next s4 o4)
  clear s4 o4 ST0 w3
  go_upto_block 0 with (fail)
  go_cut [] (fun wx => ∃ (N' : Int) (m : Nat) (ao : Option Addr) (c : Nat) (us : List Value) (ds : List (List Int)), 0 ≤ N' ∧ N' ≤ 6 ∧ m ≤ 18 ∧ DaSt w wx sb w.heap.size pb N' ao m c us ds)
  case first =>
    have x0 := ST.out.box.cell 0
    have x1 := ST.out.box.cell 1
    have f0 := ST.out.box.frozen 0
    have f1 := ST.out.box.frozen 1
    have hlo := ST.out.lo
    simp at x0 x1
    by_cases hq0 : q = 0
    · subst hq0
      have hP : Ints (w4.alloc (.cells #[.int .i64 0, .int .i64 6, .int .i64 (N - 1), .int .i64 (N + 1)] 2)) (some ⟨w4.heap.size, 0, none⟩) 4 [0, 6, N - 1, N + 1] := Own.ints (zs := [0, 6, N - 1, N + 1]) (own_lit (us := [.int .i64 0, .int .i64 6, .int .i64 (N - 1), .int .i64 (N + 1)]) rfl (Nat.le_refl _) (by simp))
      have oP : Only sb (sb + 1) w4 (w4.alloc (.cells #[.int .i64 0, .int .i64 6, .int .i64 (N - 1), .int .i64 (N + 1)] 2)) := only_grown (Only.refl _ _ _) (World.grownBy_alloc w4 _ none) (fun g hg => by cases hg)
      have sP : Src (w4.alloc (.cells #[.int .i64 0, .int .i64 6, .int .i64 (N - 1), .int .i64 (N + 1)] 2)) sb := ST.out.src.grown (row := none) (World.grownBy_alloc w4 _ none) (fun g hg => by cases hg)
      have hne : bk (some ⟨w4.heap.size, 0, none⟩) ≠ some sb := by simp [bk]; omega
      go_wp2_with fail
      refine (pick_any sb _ 4 4 [0, 6, N - 1, N + 1] _ sP hP (by omega) (by omega) hne).mono ?_
      rintro e w5 ⟨p, hp, rfl, s5, o5⟩
      have hN := pick4 hp hN1 hN4
      generalize iget [0, 6, N - 1, N + 1] p = M at *
      have ST5 := Lib.hid (ST.out.next s5 (oP.trans o5))
      clear hP oP sP hne s5 o5 hp ST x0 x1 f0 f1
      have f0 := ST5.out.box.frozen 0
      have x0 := ST5.out.box.cell 0
      simp at x0
      have hs := ST5.out.set0 M
      go_wp2_with fail
      go_meet
      case rel => exact ⟨M, m, ao, c, us, ds, hN.1, hN.2, by omega, hs⟩
    · by_cases hq1 : q = 1
      · subst hq1
        have hV : Vals ((w4.alloc (.cells #[] 2)).alloc (.cells #[.slice (some ⟨w4.heap.size, 0, none⟩) 0 0] 49)) (some ⟨w4.heap.size + 1, 0, none⟩) 1 [.slice (some ⟨w4.heap.size, 0, none⟩) 0 0] := vals_one ((blk_at (by simp)).cell 0)
        have HV := Lib.hid hV
        have hO : Own ((w4.alloc (.cells #[] 2)).alloc (.cells #[.slice (some ⟨w4.heap.size, 0, none⟩) 0 0] 49)) w.heap.size 49 ao m c us := (ST.out.row.own.alloc _).alloc _
        have HO := Lib.hid hO
        have hS : w.heap.size ≤ ((w4.alloc (.cells #[] 2)).alloc (.cells #[.slice (some ⟨w4.heap.size, 0, none⟩) 0 0] 49)).heap.size := by simp; omega
        have hw3 : Below w4.heap.size w4 (w4.alloc (.cells #[] 2)) := below_alloc1 _ _
        have HW3 := Lib.hid hw3
        have o1 : Own (w4.alloc (.cells #[] 2)) w4.heap.size 2 (some ⟨w4.heap.size, 0, none⟩) 0 0 (([] : List Int).map (Value.int .i64)) := Own.empty_ w4 _ (Nat.le_refl _)
        have O1 := Lib.hid o1
        clear hV hO hw3 o1
        go_wp2_with (at_builtin; refine wpList_apV etSS _ rfl _ _ rfl w.heap.size ao m c us rfl HO.out (some ⟨w4.heap.size + 1, 0, none⟩) 1 1 [.slice (some ⟨w4.heap.size, 0, none⟩) 0 0] rfl HV.out (by intro u hu; simp at hu; subst hu; rfl) (by omega) hS ?_; intro ao2 c2 w8 o8 g8 hat; have k8 := ST.out.box4 HW3.out (below_alloc1 _ _) g8; have x8 := k8.cell 1; have f8 := k8.frozen 1; simp at x8)
        have hs := ST.out.push HW3.out O1.out (below_alloc1 _ _) o8 g8 hat
        generalize w8.setCell ⟨pb, 1, none⟩ (.slice ao2 (m + 1) c2) = wf at *
        go_meet
        case rel => exact ⟨N, m + 1, ao2, c2, _, _, by omega, by omega, by omega, hs⟩
      · by_cases hq2 : q = 2
        · subst hq2
          have S5D : Src w4.drew sb := ⟨ST.out.src.box⟩
          have O5D : Only sb (sb + 1) w4 w4.drew := ⟨rfl, rfl, rfl, Nat.le_refl _, fun _ _ _ => rfl⟩
          go_wp2_with fail
          go_region_law (first | (refine step_ap1 (o := ⟨some 37, _, _, _, _, _⟩) etSS rfl (.tmp 31) (.tmp 36) rfl w.heap.size ao m c us rfl ((ST6.out.row.own.alloc _).alloc _) (.slice (some ⟨w6.heap.size, 0, none⟩) 1 1) (w6.heap.size + 1) 1 rfl ((blk_at (by simp)).cell 0) rfl (by omega) (by simp; omega) ?_; intro ao2 c2 w8 o8 g8 hat; have k8 := ST6.out.box4 B7 (below_alloc1 _ _) g8; have x8 : w8.cell? ⟨pb, 1, none⟩ = some (.slice ao m c) := k8.cell 1; have f8 := k8.frozen 1) | (go_simp; go_at_call 120; refine (next_any sb _ _ S5D (by omega)).mono ?_; rintro e w6 ⟨q, rfl, -, r6, s6, q6⟩; have ST6 := Lib.hid (ST.out.next s6 (Only.trans O5D q6)); have hlo6 := ST6.out.lo; have r6' := r6 (by omega); have hW : IntKind.i64.wrap ((q : Int) - 1) = (q : Int) - 1 := IntWalk.i64_in _ (by omega); have B7 : Below w6.heap.size w6 (w6.alloc (.cells #[.int .i64 ((q : Int) - 1)] 2)) := below_alloc1 _ _; have y6 : w6.cell? ⟨pb, 1, none⟩ = some (.slice ao m c) := ST6.out.box.cell 1; clear r6 q6 s6))
          all_goals
            have o1 : Own (w6.alloc (.cells #[.int .i64 ((q : Int) - 1)] 2)) w6.heap.size 2 (some ⟨w6.heap.size, 0, none⟩) 1 1 ([((q : Int) - 1)].map (Value.int .i64)) := own_lit (us := [.int .i64 ((q : Int) - 1)]) rfl (Nat.le_refl _) (by simp)
            have hs := ST6.out.push B7 o1 (below_alloc1 _ _) o8 g8 hat
            generalize w8.setCell ⟨pb, 1, none⟩ (.slice ao2 (m + 1) c2) = wf at *
            clear hW o1 o8 g8 hat k8 x8 f8 y6 B7
            go_wp2_with fail
            go_meet
            case rel => exact ⟨N, m + 1, ao2, c2, _, _, by omega, by omega, by omega, hs⟩
        · by_cases hq3 : q = 3
          · subst hq3
            have hs := ST.out.nilled
            go_wp2_with fail
            go_meet
            case rel => exact ⟨N, 0, none, 0, [], [], by omega, by omega, by omega, hs⟩
          · have g0 : ((q : Int) == 0) = false := by simp; omega
            have g1 : ((q : Int) == 1) = false := by simp; omega
            have g2 : ((q : Int) == 2) = false := by simp; omega
            have g3 : ((q : Int) == 3) = false := by simp; omega
            go_wp2_with fail
            go_meet
            case rel => exact ⟨N, m, ao, c, us, ds, by omega, by omega, by omega, ST.out⟩
  case rest =>
    obtain ⟨N', m, ao, c, us, ds, hN0, hN6, hm, st⟩ := hcut
    have x0 := st.box.cell 0
    have x1 := st.box.cell 1
    have y0 := st.res.cell 0
    have y1 := st.res.cell 1
    have f0 := st.res.frozen 0
    have f1 := st.res.frozen 1
    simp at x0 x1 y0 y1
    have ST5 := Lib.hid st
    clear st ST
    go_wp2_with fail
    have st2 := ST5.out.done
    have hlen := ST5.out.row.len
    generalize (wc.setCell ⟨w.heap.size, 0, none⟩ (.int .i64 N')).setCell ⟨w.heap.size, 1, none⟩ (.slice ao m c) = wf at *
    have e0 := st2.1.cell 0
    have e1 := st2.1.cell 1
    simp at e0 e1
    refine bodyPost_ret (v := .agg #[.int .i64 N', .slice ao m c]) (by simp [results, Try.f129, go_sem, e0, e1]) rfl ⟨_, _, rfl, by simp; omega, by simp; omega, by simp; omega, st2.2.1, st2.2.2.1, st2.2.2.2⟩
end Go.Proofs.Ytpognnifgcacnaa

/- Draws of presentations and words: DrawIsIdentityWord. -/
namespace Go.Proofs.Ytpognnifgcacnaa
open Go.RowKit

theorem only_sets (w : World) (b : Nat) (u v : Value) : Only b (b + 1) w ((w.setCell ⟨b, 0, none⟩ u).setCell ⟨b, 1, none⟩ v) :=
  ⟨rfl, rfl, rfl, by simp [World.setCell], fun k hk hd => by rw [Below.heap_setCell _ _ _ _ (by show k ≠ b; omega), Below.heap_setCell _ _ _ _ (by show k ≠ b; omega)]⟩
theorem OwP.mono {E1 E : Nat} {w : World} {lo hi lo' hi' : Nat} {v : Value} {d : PresD} (h : OwP E1 E w lo hi v d) (h1 : lo' ≤ lo) (h2 : hi ≤ hi') : OwP E1 E w lo' hi' v d := by
  obtain ⟨ao, n, c, us, rfl, ho⟩ := h
  exact ⟨ao, n, c, us, rfl, ho.mono h1 h2⟩
theorem OwnS.mono {E : Nat} {w : World} {lo hi lo' hi' : Nat} {v : Value} {zs : List Int} (h : OwnS E w lo hi v zs) (h1 : lo' ≤ lo) (h2 : hi ≤ hi') : OwnS E w lo' hi' v zs := ⟨h.1, h.2.mono h1 h2⟩
theorem below_only {a w w' : World} {B lo hi : Nat} (h : Below B a w) (o : Only lo hi w w') (hB : B ≤ lo) (ha : B ≤ w.heap.size) : Below B a w' :=
  ⟨o.os.trans h.os, o.tape.trans h.tape, o.output.trans h.output, Nat.le_trans h.size o.size, fun i hi => (o.block i (by omega) (.inl (by omega))).trans (h.block i hi)⟩

end Go.Proofs.Ytpognnifgcacnaa

/- Draws of presentations and lists of words: l11DrawSubgroup, DrawCosetTable. -/
namespace Go.Proofs.Ytpognnifgcacnaa
open Go.RowKit

theorem rows_push3 {T1 E lo hi : Nat} {w2 w3 w4 : World} {ao ao' ao2 : Option Addr} {m c n' c' c2 : Nat} {us : List Value} {ds : List (List Int)} {zs : List Int}
    (hR : OwR (OwS T1) w2 lo hi E ao m c us ds) (hlo : lo ≤ hi) (hhi : hi ≤ w2.heap.size) (hu : Own w2 hi T1 ao' n' c' (zs.map (Value.int .i64))) (hb3 : Below w2.heap.size w2 w3)
    (hown : Own w4 lo E ao2 (m + 1) c2 (us ++ [.slice ao' n' c'])) (hg : w3.grownBy w4 (bk ao)) (hat : bk ao2 = bk ao ∨ bk ao2 = some w3.heap.size) :
    OwR (OwS T1) w4 lo w4.heap.size E ao2 (m + 1) c2 (us ++ [.slice ao' n' c']) (ds ++ [zs]) := by
  have hR3 : OwR (OwS T1) w3 lo hi E ao m c us ds := hR.below (innerS _) hb3
  have s2 := hb3.size
  have s3 := hg.size
  have hub : ∀ g, bk ao' = some g → hi ≤ g ∧ g < w2.heap.size := hu.lt
  have hne : ∀ g, bk ao' = some g → bk ao ≠ some g := fun g h1 h2 => by have := hub g h1; have := hR.top g h2; omega
  have hu4 : OwS T1 w4 (.slice ao' n' c') zs := (innerS T1).loc (w := w2) ⟨ao', n', c', rfl, hu.mono (Nat.zero_le _)⟩ fun g h => by
    rw [ownBlock_slice] at h
    have := hub g h
    rw [hg.block g (by omega) (fun e => hne g h e.symm)]
    exact hb3.block g this.2
  refine hR3.push (innerS _) hown hg hu4 (in_slice fun g h => ⟨by have := hub g h; omega, by have := hub g h; omega⟩) (fun g h => (hown.lt g h).2) (by omega) ?_ ?_
  · intro g h
    rcases hat with h1 | h1
    · exact .inl (h1 ▸ h)
    · refine .inr fun j u hj e => ?_
      rw [h1] at h; obtain rfl := Option.some.inj h
      have := (hR3.rng j u hj _ e).2
      omega
  · intro g h
    rw [ownBlock_slice] at h
    have hh := hub g h
    refine ⟨fun e => ?_, fun j v hj e => ?_⟩
    · rcases hat with h1 | h1
      · exact hne g h (h1 ▸ e)
      · rw [h1] at e; have := Option.some.inj e; omega
    · have := (hR3.rng j v hj _ e).2; omega
/-- a list of words being drawn: the source's box sb, that of p at w.heap.size -/
structure SgSt (w wr : World) (sb : Nat) (N : Int) (q : Value) (ao : Option Addr) (m c : Nat) (us : List Value) (ds : List (List Int)) : Prop where
  src : Src wr sb
  box : Blk wr w.heap.size 72 #[.int .i64 N, q]
  row : OwR (OwS 2) wr (w.heap.size + 1) wr.heap.size 49 ao m c us ds
  lo : sb < w.heap.size ∧ w.heap.size < wr.heap.size
  only : Only sb (sb + 1) w wr
section
variable {w wr : World} {sb : Nat} {N : Int} {q : Value} {ao : Option Addr} {m c : Nat} {us : List Value} {ds : List (List Int)}
theorem SgSt.next {w2 : World} (st : SgSt w wr sb N q ao m c us ds) (s2 : Src w2 sb) (o2 : Only sb (sb + 1) wr w2) : SgSt w w2 sb N q ao m c us ds :=
  have hl := st.lo
  have hsz := o2.size
  ⟨s2, st.box.only o2 (.inr (by omega)), (st.row.only (innerS _) o2 (.inr (by omega))).mono (Nat.le_refl _) hsz, ⟨hl.1, by omega⟩, st.only.trans o2⟩
theorem SgSt.push {w2 w3 w4 : World} {n1 c1 c2 : Nat} {a1 ao2 : Option Addr} {zs : List Int} (st : SgSt w wr sb N q ao m c us ds)
    (s2 : Src w2 sb) (q2 : Only sb (sb + 1) wr w2) (o1 : Own w2 wr.heap.size 2 a1 n1 c1 (zs.map (Value.int .i64))) (b3 : Below w2.heap.size w2 w3) (o4 : Own w4 (w.heap.size + 1) 49 ao2 (m + 1) c2 (us ++ [.slice a1 n1 c1]))
    (g4 : w3.grownBy w4 (bk ao)) (hat : bk ao2 = bk ao ∨ bk ao2 = some w3.heap.size) :
    SgSt w w4 sb N q ao2 (m + 1) c2 (us ++ [.slice a1 n1 c1]) (ds ++ [zs]) := by
  have hl := st.lo
  have z2 := q2.size
  have z3 := b3.size
  have z4 := g4.size
  have hR := rows_push3 (st.row.only (innerS _) q2 (.inr (by omega))) (by omega) z2 o1 b3 o4 g4 hat
  have B4 : Below (w.heap.size + 1) w2 w4 := (b3.mono (by omega)).grown g4 (by omega) (fun g hg => (st.row.own.lt g hg).1)
  have o := st.only.trans q2
  exact ⟨s2.far fun g hg => B4.block g (by omega), (st.box.only q2 (.inr (by omega))).below B4 (by omega), hR, ⟨hl.1, by omega⟩, ⟨B4.os.trans o.os, B4.tape.trans o.tape, B4.output.trans o.output, by have := o.size; omega, fun k hk hd => (B4.block k (by omega)).trans (o.block k hk hd)⟩⟩
end
/-- what a draw of a list of words leaves -/
def DrawnW (w : World) (sb : Nat) (e : Ending) (w' : World) : Prop :=
  ∃ v ws, e = .returned v ∧ ws.length ≤ 3 ∧ OwSS 2 49 w' w.heap.size w'.heap.size v ws ∧ Src w' sb ∧ Only sb (sb + 1) w w'

set_option maxRecDepth 100000 in
set_option maxHeartbeats 3200000 in
theorem drawSub_any (sb : Nat) (N : Int) (a2 : Option Addr) (n2 c2 : Nat) (w : World) (h : Src w sb) (hsb : sb < w.heap.size) (hN0 : 0 ≤ N) (hN6 : N ≤ 6) :
    Calls Try.prog 140 #[.pointer (some ⟨sb, 0, none⟩), .agg #[.int .i64 N, .slice a2 n2 c2]] w (DrawnW w sb) := by
  go_enter Try.func140, Try.ntmps140
  go_upto_region 2 with (fail)
  have st0 : SgSt w ((w.alloc (.cells #[.int .i64 N, .slice a2 n2 c2] 72)).alloc (.cells #[] 49)) sb N (.slice a2 n2 c2) (some ⟨w.heap.size + 1, 0, none⟩) 0 0 [] [] := by
    have b2 := below_alloc2 w (.cells #[.int .i64 N, .slice a2 n2 c2] 72) (.cells #[] 49)
    have he := Own.empty_ (w.alloc (.cells #[.int .i64 N, .slice a2 n2 c2] 72)) (base := w.heap.size + 1) 49 (by simp)
    have hs : (w.alloc (.cells #[.int .i64 N, .slice a2 n2 c2] 72)).heap.size = w.heap.size + 1 := by simp
    rw [hs] at he
    exact ⟨h.far fun g hg => b2.block g (by omega), (blk_at rfl).alloc _, OwR.empty_ he (fun g hg => by simp [bk] at hg; simp; omega), ⟨hsb, by simp; omega⟩, ⟨b2.os, b2.tape, b2.output, b2.size, fun k hk _ => b2.block k hk⟩⟩
  generalize (w.alloc (.cells #[.int .i64 N, .slice a2 n2 c2] 72)).alloc (.cells #[] 49) = w1 at *
  have ST0 := Lib.hid st0
  clear st0
  go_wp2_with fail
  refine (next_any sb _ _ ST0.out.src (by omega)).mono ?_
  rintro e w2 ⟨r, rfl, -, r2, s2, q2⟩
  have hr := r2 (by omega)
  have ST1 := Lib.hid (ST0.out.next s2 q2)
  clear r2 s2 q2 ST0
  go_wp2_with fail
  go_loopw [5, 6] (fun ov kv wr => ∃ (k m : Nat) (ao : Option Addr) (c : Nat) (us : List Value) (ds : List (List Int)), kv = .int .i64 k ∧ ov = .slice ao m c ∧ m + k ≤ 2 ∧ SgSt w wr sb N (.slice a2 n2 c2) ao m c us ds) (fun _ kv _ => (intOf kv).toNat)
  case atStart => exact ⟨r, 0, _, 0, [], [], rfl, rfl, by omega, ST1.out⟩
  case round =>
    obtain ⟨k, m, ao, c, us, ds, rfl, rfl, hmk, st⟩ := hrel
    clear ST1 w1
    have hlo := st.lo
    have x0 := st.box.cell 0
    simp at x0
    have ST := Lib.hid st
    clear st
    by_cases hk : 0 < k
    · by_cases hN1 : N ≤ 1
      · go_wp2_with fail
        refine (drawWord_any sb 1 3 _ ST.out.src (by omega) (by omega) (by omega) (by omega)).mono ?_
        rintro e w2 ⟨a1, n1, c1, zs, rfl, hn1, -, o1, s2, q2⟩
        have z2 := q2.size
        have O1 := Lib.hid o1
        have Q2 := Lib.hid q2
        have S2 := Lib.hid s2
        have hV : Vals (w2.alloc (.cells #[.slice a1 n1 c1] 49)) (some ⟨w2.heap.size, 0, none⟩) 1 [.slice a1 n1 c1] := vals_one ((blk_at rfl).cell 0)
        have HV := Lib.hid hV
        have hO : Own (w2.alloc (.cells #[.slice a1 n1 c1] 49)) (w.heap.size + 1) 49 ao m c us := ((ST.out.row.only (innerS _) q2 (.inr (by omega))).own).alloc _
        have HO := Lib.hid hO
        have hS : w.heap.size + 1 ≤ (w2.alloc (.cells #[.slice a1 n1 c1] 49)).heap.size := by simp; omega
        clear o1 q2 s2 hV hO x0
        go_wp2_with (at_builtin; refine wpList_apV etSS _ rfl _ _ rfl (w.heap.size + 1) ao m c us rfl HO.out (some ⟨w2.heap.size, 0, none⟩) 1 1 [.slice a1 n1 c1] rfl HV.out (by intro u hu; simp at hu; subst hu; rfl) (by omega) hS ?_; intro ao2 c3 w8 o8 g8 hat)
        have st8 := ST.out.push S2.out Q2.out O1.out (below_alloc1 _ _) o8 g8 hat
        clear o8 g8 hat HO HV O1 Q2 S2 ST hS
        go_wp2_with fail
        go_roundw
        case rel => exact ⟨k - 1, m + 1, ao2, c3, _, _, by go_num, rfl, by omega, st8⟩
        case measure => first | (simp [intOf]; done) | (simp [intOf]; omega)
      · obtain ⟨L, rfl⟩ : ∃ L : Nat, N = L := ⟨N.toNat, by omega⟩
        go_wp2_with fail
        refine (drawWord_any sb L 3 _ ST.out.src (by omega) (by omega) (by omega) (by omega)).mono ?_
        rintro e w2 ⟨a1, n1, c1, zs, rfl, hn1, -, o1, s2, q2⟩
        have z2 := q2.size
        have O1 := Lib.hid o1
        have Q2 := Lib.hid q2
        have S2 := Lib.hid s2
        have hV : Vals (w2.alloc (.cells #[.slice a1 n1 c1] 49)) (some ⟨w2.heap.size, 0, none⟩) 1 [.slice a1 n1 c1] := vals_one ((blk_at rfl).cell 0)
        have HV := Lib.hid hV
        have hO : Own (w2.alloc (.cells #[.slice a1 n1 c1] 49)) (w.heap.size + 1) 49 ao m c us := ((ST.out.row.only (innerS _) q2 (.inr (by omega))).own).alloc _
        have HO := Lib.hid hO
        have hS : w.heap.size + 1 ≤ (w2.alloc (.cells #[.slice a1 n1 c1] 49)).heap.size := by simp; omega
        clear o1 q2 s2 hV hO x0
        go_wp2_with (at_builtin; refine wpList_apV etSS _ rfl _ _ rfl (w.heap.size + 1) ao m c us rfl HO.out (some ⟨w2.heap.size, 0, none⟩) 1 1 [.slice a1 n1 c1] rfl HV.out (by intro u hu; simp at hu; subst hu; rfl) (by omega) hS ?_; intro ao2 c3 w8 o8 g8 hat)
        have st8 := ST.out.push S2.out Q2.out O1.out (below_alloc1 _ _) o8 g8 hat
        clear o8 g8 hat HO HV O1 Q2 S2 ST hS
        go_wp2_with fail
        go_roundw
        case rel => exact ⟨k - 1, m + 1, ao2, c3, _, _, by go_num, rfl, by omega, st8⟩
        case measure => first | (simp [intOf]; done) | (simp [intOf]; omega)
    · obtain rfl : k = 0 := by omega
      go_wp2_with fail
      refine (next_any sb _ _ ST.out.src (by omega)).mono ?_
      rintro e w4 ⟨q, rfl, -, -, s4, q4⟩
      have z4 := q4.size
      have ST4 := Lib.hid (ST.out.next s4 q4)
      clear s4 q4 ST x0
      by_cases hq : q = 0
      · subst hq
        have x0 := ST4.out.box.cell 0
        simp at x0
        have hV : Vals ((w4.alloc (.cells #[.int .i64 N] 2)).alloc (.cells #[.slice (some ⟨w4.heap.size, 0, none⟩) 1 1] 49)) (some ⟨w4.heap.size + 1, 0, none⟩) 1 [.slice (some ⟨w4.heap.size, 0, none⟩) 1 1] := vals_one ((blk_at (by simp)).cell 0)
        have HV := Lib.hid hV
        have hO : Own ((w4.alloc (.cells #[.int .i64 N] 2)).alloc (.cells #[.slice (some ⟨w4.heap.size, 0, none⟩) 1 1] 49)) (w.heap.size + 1) 49 ao m c us := (ST4.out.row.own.alloc _).alloc _
        have HO := Lib.hid hO
        have hS : w.heap.size + 1 ≤ ((w4.alloc (.cells #[.int .i64 N] 2)).alloc (.cells #[.slice (some ⟨w4.heap.size, 0, none⟩) 1 1] 49)).heap.size := by simp; omega
        have s5 : Src (w4.alloc (.cells #[.int .i64 N] 2)) sb := ST4.out.src.grown (row := none) (World.grownBy_alloc w4 _ none) (fun g hg => by cases hg)
        have q5 : Only sb (sb + 1) w4 (w4.alloc (.cells #[.int .i64 N] 2)) := only_grown (Only.refl _ _ _) (World.grownBy_alloc w4 _ none) (fun g hg => by cases hg)
        have S5 := Lib.hid s5
        have Q5 := Lib.hid q5
        have o1 : Own (w4.alloc (.cells #[.int .i64 N] 2)) w4.heap.size 2 (some ⟨w4.heap.size, 0, none⟩) 1 1 ([N].map (Value.int .i64)) := own_lit (us := [.int .i64 N]) rfl (Nat.le_refl _) (by simp)
        have O1 := Lib.hid o1
        clear hV hO s5 q5 o1
        go_wp2_with (at_builtin; refine wpList_apV etSS _ rfl _ _ rfl (w.heap.size + 1) ao m c us rfl HO.out (some ⟨w4.heap.size + 1, 0, none⟩) 1 1 [.slice (some ⟨w4.heap.size, 0, none⟩) 1 1] rfl HV.out (by intro u hu; simp at hu; subst hu; rfl) (by omega) hS ?_; intro ao2 c3 w8 o8 g8 hat)
        have st8 := ST4.out.push S5.out Q5.out O1.out (below_alloc1 _ _) o8 g8 hat
        have hl8 := st8.row.len
        go_ret
        exact ⟨_, _, rfl, by omega, ⟨_, _, _, _, rfl, st8.row.mono (by omega) (Nat.le_refl _)⟩, st8.src, st8.only⟩
      · have g0 : ((q : Int) == 0) = false := by simp; omega
        go_wp2
        have hl8 := ST4.out.row.len
        go_ret
        exact ⟨_, _, rfl, by omega, ⟨_, _, _, _, rfl, ST4.out.row.mono (by omega) (Nat.le_refl _)⟩, ST4.out.src, ST4.out.only⟩
end Go.Proofs.Ytpognnifgcacnaa

/- Draws of presentations and lists of words: DrawCosetTable, DrawCosetWords, DrawIsNormalSubgroup. -/
namespace Go.Proofs.Ytpognnifgcacnaa
open Go.RowKit

/-- what a draw of a presentation and a list of words leaves -/
def DrawnPWs (w : World) (e : Ending) (w' : World) : Prop :=
  ∃ v d u ws, e = .returned (.tuple #[v, u]) ∧ OwP 2 49 w' w.heap.size w'.heap.size v d ∧ OwSS 2 49 w' w.heap.size w'.heap.size u ws ∧ d.2.length ≤ 18 ∧ ws.length ≤ 3 ∧ Below w.heap.size w w'
theorem OwSS.form {E1 E : Nat} {w : World} {lo hi : Nat} {v : Value} {zss : List (List Int)} (h : OwSS E1 E w lo hi v zss) : ∃ ao n c, v = .slice ao n c ∧ zss.length = n := by
  obtain ⟨ao, n, c, us, rfl, ho⟩ := h
  exact ⟨ao, n, c, rfl, ho.len⟩

set_option maxRecDepth 100000 in
set_option maxHeartbeats 3200000 in
theorem drawCT_any (ao : Option Addr) (n c : Nat) (w : World) (h : Bts w ao n w.heap.size) :
    Calls Try.prog 59 #[.slice ao n c] w (DrawnPWs w) := by
  go_enter Try.func59, Try.ntmps59
  have r1 : Blk (w.alloc (.cells #[.int .i64 0, .slice none 0 0] 72)) w.heap.size 72 #[.int .i64 0, .slice none 0 0] := blk_at rfl
  have b1 : Below w.heap.size w (w.alloc (.cells #[.int .i64 0, .slice none 0 0] 72)) := below_alloc1 _ _
  have t1 : Bts (w.alloc (.cells #[.int .i64 0, .slice none 0 0] 72)) ao n (w.alloc (.cells #[.int .i64 0, .slice none 0 0] 72)).heap.size := by
    obtain ⟨x1, x2⟩ := h.below b1
    exact ⟨x1, fun hn => by obtain ⟨b, off, e, hb, hc⟩ := x2 hn; exact ⟨b, off, e, by simp; omega, hc⟩⟩
  have hz1 : w.heap.size < (w.alloc (.cells #[.int .i64 0, .slice none 0 0] 72)).heap.size := by simp
  go_wp2_with fail
  generalize w.alloc (.cells #[.int .i64 0, .slice none 0 0] 72) = w1 at *
  refine (from_any ao n c w1 t1).mono ?_
  rintro e w2 ⟨rfl, s2, z2, b2⟩
  have r2 := r1.belowS b2
  have B2 := b1.trans (b2.mono (by omega))
  clear r1 b1 t1 b2
  go_wp2_with fail
  refine (drawAny_any _ w2 s2 z2).mono ?_
  rintro e w3 ⟨v, ⟨N, ds⟩, rfl, hN0, hN6, hds, ho, s3, q3⟩
  obtain ⟨a3, n3, c3, rfl⟩ := ho.form
  have r3 := r2.only q3 (.inl hz1)
  have B3 := below_only B2 q3 (by omega) (by omega)
  have z3 := q3.size
  dsimp only at hN0 hN6 hds
  clear r2 B2 s2 q3
  go_upto_region 3 with (fail)
  have r4 := r3.alloc (.cells #[.int .i64 N, .slice a3 n3 c3] 72)
  have k4 : Blk (w3.alloc (.cells #[.int .i64 N, .slice a3 n3 c3] 72)) w3.heap.size 72 #[.int .i64 N, .slice a3 n3 c3] := blk_at rfl
  have o4 := ho.below (below_alloc1 w3 (.cells #[.int .i64 N, .slice a3 n3 c3] 72))
  have s4 := s3.grown (row := none) (World.grownBy_alloc w3 (.cells #[.int .i64 N, .slice a3 n3 c3] 72) none) (fun g hg => by cases hg)
  have B4 := B3.trans ((below_alloc1 w3 (.cells #[.int .i64 N, .slice a3 n3 c3] 72)).mono (by omega))
  have z4 : w3.heap.size < (w3.alloc (.cells #[.int .i64 N, .slice a3 n3 c3] 72)).heap.size := by simp
  generalize w3.alloc (.cells #[.int .i64 N, .slice a3 n3 c3] 72) = w4 at *
  clear r3 ho s3 B3
  have x0 := k4.cell 0
  have x1 := k4.cell 1
  simp at x0 x1
  have y0 := r4.cell 0
  have y1 := r4.cell 1
  have f0 := r4.frozen 0
  have f1 := r4.frozen 1
  simp at y0 y1
  have O4 := Lib.hid o4
  have S4D : Src w4.drew w1.heap.size := ⟨s4.box⟩
  have O4D : Only w1.heap.size (w1.heap.size + 1) w4 w4.drew := ⟨rfl, rfl, rfl, Nat.le_refl _, fun _ _ _ => rfl⟩
  clear o4 s4
  go_region_law ((go_simp; go_at_call 140; refine (drawSub_any w1.heap.size N a3 n3 c3 _ S4D (show w1.heap.size < w4.heap.size by omega) hN0 hN6).mono ?_; rintro e w5 ⟨v5, ws, rfl, hws, o5, s5, q5d⟩; have q5 := Only.trans O4D q5d; have k5 := k4.only q5 (.inr (by omega)); have r5 := r4.only q5 (.inl hz1); have u0 := k5.cell 0; have u1 := k5.cell 1; have v0 := r5.cell 0; have v1 := r5.cell 1; have g0 := r5.frozen 0; have g1 := r5.frozen 1; simp at u0 u1 v0 v1; have B5 := below_only B4 q5 (by omega) (by omega); have O5 := Lib.hid (O4.out.only q5 (.inr (by omega))); have z5 := q5.size; have W5 := Lib.hid (o5.mono (show w4.heap.size ≤ w4.drew.heap.size from Nat.le_refl _) (Nat.le_refl _)); clear q5d o5 s5))
  all_goals
    clear x0 x1 y0 y1 f0 f1 S4D O4D q5 k4 r4 B4 O4
    have qf := only_sets w5 w.heap.size (.int .i64 N) (.slice a3 n3 c3)
    have rf : Blk ((w5.setCell ⟨w.heap.size, 0, none⟩ (.int .i64 N)).setCell ⟨w.heap.size, 1, none⟩ (.slice a3 n3 c3)) w.heap.size 72 #[.int .i64 N, .slice a3 n3 c3] := by
      have := (r5.set_ 0 (.int .i64 N)).set_ 1 (.slice a3 n3 c3)
      simpa using this
    have Bf := (B5.setCell (p := ⟨w.heap.size, 0, none⟩) (Nat.le_refl _) (.int .i64 N)).setCell (p := ⟨w.heap.size, 1, none⟩) (Nat.le_refl _) (.slice a3 n3 c3)
    generalize (w5.setCell ⟨w.heap.size, 0, none⟩ (.int .i64 N)).setCell ⟨w.heap.size, 1, none⟩ (.slice a3 n3 c3) = wf at *
    have zf := qf.size
    have e0 := rf.cell 0
    have e1 := rf.cell 1
    simp at e0 e1
    clear u0 u1 v0 v1 g0 g1 k5 r5 B5
    have hp := (O5.out.only qf (.inr (by omega))).mono (show w.heap.size ≤ w2.heap.size by omega) (show w3.heap.size ≤ wf.heap.size by omega)
    have ho := (W5.out.only qf (.inr (by omega))).mono (show w.heap.size ≤ w4.heap.size by omega) (show w5.heap.size ≤ wf.heap.size by omega)
    go_wp2_with fail
    refine bodyPost_ret (v := .tuple #[.agg #[.int .i64 N, .slice a3 n3 c3], v5]) (by simp [results, Try.f59, go_sem, e0, e1]) rfl ⟨_, _, _, _, rfl, hp, ho, hds, hws, Bf⟩

set_option maxRecDepth 100000 in
set_option maxHeartbeats 3200000 in
theorem drawCW_any (ao : Option Addr) (n c : Nat) (w : World) (h : Bts w ao n w.heap.size) :
    Calls Try.prog 70 #[.slice ao n c] w (DrawnPWs w) := by
  go_enter Try.func70, Try.ntmps70
  have r1 : Blk (w.alloc (.cells #[.int .i64 0, .slice none 0 0] 72)) w.heap.size 72 #[.int .i64 0, .slice none 0 0] := blk_at rfl
  have b1 : Below w.heap.size w (w.alloc (.cells #[.int .i64 0, .slice none 0 0] 72)) := below_alloc1 _ _
  have t1 : Bts (w.alloc (.cells #[.int .i64 0, .slice none 0 0] 72)) ao n (w.alloc (.cells #[.int .i64 0, .slice none 0 0] 72)).heap.size := by
    obtain ⟨x1, x2⟩ := h.below b1
    exact ⟨x1, fun hn => by obtain ⟨b, off, e, hb, hc⟩ := x2 hn; exact ⟨b, off, e, by simp; omega, hc⟩⟩
  have hz1 : w.heap.size < (w.alloc (.cells #[.int .i64 0, .slice none 0 0] 72)).heap.size := by simp
  go_wp2_with fail
  generalize w.alloc (.cells #[.int .i64 0, .slice none 0 0] 72) = w1 at *
  refine (drawCT_any ao n c w1 t1).mono ?_
  rintro e w5 ⟨v3, ⟨N, ds⟩, v5, ws, rfl, op, ow, hds, hws, b5⟩
  obtain ⟨a3, n3, c3, rfl⟩ := op.form
  have z5 := b5.size
  have r5 := r1.belowS b5
  have B5 := b1.trans (b5.mono (by omega))
  have v0 := r5.cell 0
  have v1 := r5.cell 1
  have g0 := r5.frozen 0
  have g1 := r5.frozen 1
  simp at v0 v1
  have O5 := Lib.hid op
  have W5 := Lib.hid ow
  clear r1 b1 t1 b5 op ow
  go_wp2_with fail
  have qf := only_sets w5 w.heap.size (.int .i64 N) (.slice a3 n3 c3)
  have rf : Blk ((w5.setCell ⟨w.heap.size, 0, none⟩ (.int .i64 N)).setCell ⟨w.heap.size, 1, none⟩ (.slice a3 n3 c3)) w.heap.size 72 #[.int .i64 N, .slice a3 n3 c3] := by
    have := (r5.set_ 0 (.int .i64 N)).set_ 1 (.slice a3 n3 c3)
    simpa using this
  have Bf := (B5.setCell (p := ⟨w.heap.size, 0, none⟩) (Nat.le_refl _) (.int .i64 N)).setCell (p := ⟨w.heap.size, 1, none⟩) (Nat.le_refl _) (.slice a3 n3 c3)
  generalize (w5.setCell ⟨w.heap.size, 0, none⟩ (.int .i64 N)).setCell ⟨w.heap.size, 1, none⟩ (.slice a3 n3 c3) = wf at *
  have zf := qf.size
  have e0 := rf.cell 0
  have e1 := rf.cell 1
  simp at e0 e1
  clear v0 v1 g0 g1 r5 B5
  have hp := (O5.out.only qf (.inr (by omega))).mono (show w.heap.size ≤ w1.heap.size by omega) (show w5.heap.size ≤ wf.heap.size by omega)
  have ho := (W5.out.only qf (.inr (by omega))).mono (show w.heap.size ≤ w1.heap.size by omega) (show w5.heap.size ≤ wf.heap.size by omega)
  refine bodyPost_ret (v := .tuple #[.agg #[.int .i64 N, .slice a3 n3 c3], v5]) (by simp [results, Try.f70, go_sem, e0, e1]) rfl ⟨_, _, _, _, rfl, hp, ho, hds, hws, Bf⟩

end Go.Proofs.Ytpognnifgcacnaa

/- The laws' helpers on words and codes: times9, big. -/
namespace Go.Proofs.Ytpognnifgcacnaa
open Go.RowKit

theorem big_any (ao : Option Addr) (n c : Nat) (w : World) : Calls Try.prog 47 #[.slice ao n c] w fun e w' => e = .returned (.bool (decide (4096 < n))) ∧ w' = w := by
  by_cases h : 4096 < n
  · have e0 : decide ((4096 : Int) < n) = true := by simp; omega
    go_enter Try.func47, Try.ntmps47
    go_wp2
    go_ret
    exact ⟨by simp [h], rfl⟩
  · have e0 : decide ((4096 : Int) < n) = false := by simp; omega
    go_enter Try.func47, Try.ntmps47
    go_wp2
    go_ret
    exact ⟨by simp [h], rfl⟩
end Go.Proofs.Ytpognnifgcacnaa

/- The laws' helpers on lists of words: likeInts, same9, run9. -/
namespace Go.Proofs.Ytpognnifgcacnaa
open Go.RowKit

set_option maxHeartbeats 400000 in
theorem likeInts_any (a b : Option Addr) (n ca cb : Nat) (zs : List Int) (w : World) (ha : Ints w a n zs) (hb : Ints w b n zs) :
    Calls Try.prog 142 #[.slice a n ca, .slice b n cb] w fun e w' => e = .returned (.bool true) ∧ ∃ m, w' = w.drewN m := by
  have hla := ha.2.1
  have hl' : ((n : Int) != (n:Int)) = false := by simp
  go_enter Try.func142, Try.ntmps142
  go_wp2
  go_loopw [5] (fun i wr => ∃ k : Nat, k ≤ n ∧ i = .int .i64 k ∧ ∃ m, wr = w.drewN m) (fun i _ => n - (intOf i).toNat)
  case atStart => exact ⟨0, Nat.zero_le _, rfl, 0, rfl⟩
  case round =>
    obtain ⟨k, hk, rfl, m, rfl⟩ := hrel
    by_cases hlt : k < n
    · obtain ⟨ba, oa, rfl, hca⟩ := ha.at_ hlt
      obtain ⟨bb, ob, rfl, hcb⟩ := hb.at_ hlt
      have he' : (iget zs k != iget zs k) = false := by simp
      go_wp2_with fail
      go_quiet (fail)
      go_wp2
      go_roundw
      case rel => exact ⟨k + 1, by omega, by go_num, _, rfl⟩
      case measure => first | (simp [intOf]; done) | (simp [intOf]; omega)
    · obtain rfl : k = n := by omega
      go_wp2
      go_ret
      exact ⟨rfl, _, rfl⟩
set_option maxHeartbeats 400000 in
theorem same9_any {v v' : Value} {zss : List (List Int)} (w : World) (h : RdSS w v zss) (h' : RdSS w v' zss) :
    Calls Try.prog 62 #[v, v'] w fun e w' => e = .returned (.bool true) ∧ Below w.heap.size w w' := by
  obtain ⟨ao, n, c, rfl, hi⟩ := h
  obtain ⟨ao', n', c', rfl, hi'⟩ := h'
  obtain rfl : n = n' := by rw [← hi.1, ← hi'.1]
  have hbd := hi.2.1
  have hl' : ((n : Int) != (n:Int)) = false := by simp
  go_enter Try.func62, Try.ntmps62
  go_wp2
  go_loopw [5] (fun i wr => ∃ k : Nat, k ≤ n ∧ i = .int .i64 k ∧ Below w.heap.size w wr) (fun i _ => n - (intOf i).toNat)
  case atStart => exact ⟨0, Nat.zero_le _, rfl, Below.refl _ _⟩
  case round =>
    obtain ⟨k, hk, rfl, hb⟩ := hrel
    by_cases hlt : k < n
    · obtain ⟨b1, o1, a1, n1, c1, rfl, hc1, hin1⟩ := (hi.below hb).at_ hlt
      obtain ⟨b2, o2, a2, n2, c2, rfl, hc2, hin2⟩ := (hi'.below hb).at_ hlt
      obtain rfl : n1 = n2 := by rw [← hin1.1, ← hin2.1]
      have HH := Lib.hid hi
      have HH' := Lib.hid hi'
      clear hi hi'
      go_wp2_with fail
      go_quiet ((go_at_call 142; exact Calls.quiet_of (likeInts_any a1 a2 n1 c1 c2 (lget zss k) _ (hin1.drewN _) (hin2.drewN _))))
      go_wp2
      go_roundw
      case rel => exact ⟨k + 1, by omega, by go_num, below_drewN hb _⟩
      case measure => first | (simp [intOf]; done) | (simp [intOf]; omega)
    · obtain rfl : k = n := by omega
      go_wp2
      go_ret
      exact ⟨rfl, hb⟩

set_option maxHeartbeats 1600000 in
theorem run9_any {v : Value} {T : List (List Int)} {m : Nat} (a : Option Addr) (n c : Nat) (W : List Int) (x : Nat) (w : World) (h : RdSS w v T) (hW : Ints w a n W) (hT : Leads T m) (hL : ∀ z ∈ W, 0 ≤ z ∧ z < T.length) (hx : x < m) (hm : m ≤ 1048576) :
    Calls Try.prog 68 #[v, .int .i64 x, .slice a n c] w fun e w' => e = .returned (.int .i64 (leadL T x W)) ∧ w = w' := by
  obtain ⟨ao, nt, ct, rfl, hi⟩ := h
  have hn := hW.2.1
  have hnt := hi.2.1
  have hTl := hi.1
  have hWl := hW.1
  have HTL := Lib.hid hTl
  have HWL := Lib.hid hWl
  clear hTl hWl
  go_enter Try.func68, Try.ntmps68
  go_wp2
  go_loopw [1, 7] (fun p i wr => ∃ k y : Nat, k ≤ n ∧ i = .int .i64 k ∧ p = .int .i64 y ∧ y < m ∧ leadL T x (W.take k) = (y : Int) ∧ wr = w) (fun _ i _ => n - (intOf i).toNat)
  case atStart => exact ⟨0, x, Nat.zero_le _, rfl, rfl, hx, rfl, rfl⟩
  case round =>
    obtain ⟨k, y, hk, rfl, rfl, hy, hle, rfl⟩ := hrel
    have HLE := Lib.hid hle
    clear hle
    by_cases hlt : k < n
    · obtain ⟨b1, o1, rfl, hc1⟩ := hW.at_ hlt
      have hz := hL (iget W k) (iget_mem (by rw [HWL.out]; exact hlt))
      obtain ⟨g, hg⟩ : ∃ g : Nat, iget W k = (g : Int) := ⟨(iget W k).toNat, by omega⟩
      have HG := Lib.hid hg
      rw [hg] at hc1
      have hgt : g < nt := by have := HTL.out; omega
      obtain ⟨b2, o2, a2, n2, c2, rfl, hc2, hin2⟩ := hi.at_ hgt
      have hn2 : n2 = m := by rw [← hin2.1]; exact hT.len g (by rw [HTL.out]; exact hgt)
      subst hn2
      obtain ⟨b3, o3, rfl, hc3⟩ := hin2.at_ hy
      have hyz := hT.within g (by rw [HTL.out]; exact hgt) y hy
      obtain ⟨y', hy'⟩ : ∃ y' : Nat, iget (lget T g) y = (y' : Int) := ⟨(iget (lget T g) y).toNat, by omega⟩
      have HY := Lib.hid hy'
      rw [hy'] at hc3 hyz
      have hy2 : y' < n2 := by omega
      have HH := Lib.hid hi
      have HW := Lib.hid hW
      have hlead : leadL T x (W.take (k + 1)) = (y' : Int) := by
        rw [take_iget (by rw [HWL.out]; exact hlt), leadL_snoc, HLE.out, HG.out, Int.toNat_natCast, Int.toNat_natCast]
        exact HY.out
      have HLD := Lib.hid hlead
      clear hi hW hz hg hy' hyz hlead
      go_wp2
      go_roundw
      case rel => exact ⟨k + 1, y', by omega, by go_num, rfl, hy2, HLD.out, trivial⟩
      case measure => first | (simp [intOf]; done) | (simp [intOf]; omega)
    · obtain rfl : k = n := by omega
      have HE : leadL T x W = (y : Int) := by have := HLE.out; rwa [List.take_of_length_le (by have := HWL.out; omega)] at this
      have HE2 := Lib.hid HE
      clear HE
      go_wp2
      go_ret
      exact ⟨by rw [HE2.out]; rfl, rfl⟩
end Go.Proofs.Ytpognnifgcacnaa

/- The laws' before9. -/
namespace Go.Proofs.Ytpognnifgcacnaa
open Go.RowKit

theorem lexB_same {u v : List Int} {k : Nat} (hu : k < u.length) (hv : k < v.length) (e : iget u k = iget v k) : lexB (u.drop k) (v.drop k) = lexB (u.drop (k + 1)) (v.drop (k + 1)) := by
  rw [List.drop_eq_getElem_cons hu, List.drop_eq_getElem_cons hv, ← iget_lt hu, ← iget_lt hv, e]
  conv => lhs; unfold lexB
  rw [if_pos rfl]
theorem lexB_diff {u v : List Int} {k : Nat} (hu : k < u.length) (hv : k < v.length) (e : iget u k ≠ iget v k) : lexB (u.drop k) (v.drop k) = decide (iget u k < iget v k) := by
  rw [List.drop_eq_getElem_cons hu, List.drop_eq_getElem_cons hv, ← iget_lt hu, ← iget_lt hv]
  unfold lexB
  rw [if_neg e]
set_option maxHeartbeats 800000 in
theorem before9_any (a b : Option Addr) (na nb ca cb : Nat) (za zb : List Int) (w : World) (ha : Ints w a na za) (hb : Ints w b nb zb) :
    Calls Try.prog 73 #[.slice a na ca, .slice b nb cb] w fun e w' => e = .returned (.bool (befB za zb)) ∧ ∃ m, w' = w.drewN m := by
  have hla := ha.2.1
  have hlb := hb.2.1
  by_cases hl : na = nb
  · subst hl
    have hl' : ((na : Int) != (na:Int)) = false := by simp
    have hbe : befB za zb = lexB za zb := by unfold befB; rw [if_pos (by rw [ha.1, hb.1])]
    have HBE := Lib.hid hbe
    clear hbe
    go_enter Try.func73, Try.ntmps73
    go_wp2
    go_loopw [5] (fun i wr => ∃ k : Nat, k ≤ na ∧ i = .int .i64 k ∧ lexB za zb = lexB (za.drop k) (zb.drop k) ∧ ∃ m, wr = w.drewN m) (fun i _ => na - (intOf i).toNat)
    case atStart => exact ⟨0, Nat.zero_le _, rfl, rfl, 0, rfl⟩
    case round =>
      obtain ⟨k, hk, rfl, hpre, m, rfl⟩ := hrel
      have HP := Lib.hid hpre
      clear hpre
      by_cases hlt : k < na
      · obtain ⟨ba, oa, rfl, hca⟩ := ha.at_ hlt
        obtain ⟨bb, ob, rfl, hcb⟩ := hb.at_ hlt
        have h1 := ha.1
        have h2 := hb.1
        have H1 := Lib.hid h1
        have H2 := Lib.hid h2
        clear h1 h2
        by_cases he : iget za k = iget zb k
        · have he' : (iget za k != iget zb k) = false := by simp [he]
          have HE := Lib.hid he
          clear he
          go_wp2_with fail
          go_quiet (fail)
          go_wp2
          go_roundw
          case rel => exact ⟨k + 1, by omega, by go_num, HP.out.trans (lexB_same (by rw [H1.out]; exact hlt) (by rw [H2.out]; exact hlt) HE.out), _, rfl⟩
          case measure => first | (simp [intOf]; done) | (simp [intOf]; omega)
        · have he' : (iget za k != iget zb k) = true := by simp [he]
          have HE := Lib.hid he
          clear he
          go_wp2_with fail
          go_quiet (fail)
          go_wp2
          go_quiet (fail)
          go_wp2
          go_ret
          exact ⟨ret_bool (by rw [HBE.out, HP.out, lexB_diff (by rw [H1.out]; exact hlt) (by rw [H2.out]; exact hlt) HE.out]), _, by rw [World.drewN_drewN, World.drewN_drewN]⟩
      · obtain rfl : k = na := by omega
        have h1 := ha.1
        have h2 := hb.1
        have hfin : befB za zb = false := by rw [HBE.out, HP.out, List.drop_of_length_le (by omega), List.drop_of_length_le (by omega)]; rfl
        have HF := Lib.hid hfin
        clear h1 h2 hfin
        go_wp2
        go_ret
        exact ⟨by rw [HF.out]; rfl, _, rfl⟩
  · have hl' : ((na : Int) != (nb:Int)) = true := by simp; omega
    have hbe : befB za zb = decide ((na : Int) < nb) := by
      unfold befB
      rw [ha.1, hb.1, if_neg hl]
      by_cases e : na < nb
      · rw [decide_eq_true e, decide_eq_true (by omega)]
      · rw [decide_eq_false e, decide_eq_false (by omega)]
    rw [hbe]
    clear hbe
    go_enter Try.func73, Try.ntmps73
    go_wp2
    go_ret
    exact ⟨by simp, 0, rfl⟩
end Go.Proofs.Ytpognnifgcacnaa

/- The laws' dice: roll, below. -/
namespace Go.Proofs.Ytpognnifgcacnaa
open Go.RowKit

/-- the dice: their box, the code lies below it -/
structure DSrc (w : World) (sb : Nat) : Prop where
  box : ∃ (ao : Option Addr) (n c k h : Nat), Blk w sb 138 #[.slice ao n c, .int .i64 k, .int .u64 h] ∧ h < 18446744073709551616 ∧ k ≤ n ∧ Bts w ao n sb
theorem DSrc.only {w w' : World} {sb lo hi : Nat} (h : DSrc w sb) (ho : Only lo hi w w') (hl : sb < lo) : DSrc w' sb := by
  obtain ⟨ao, n, c, k, hh, h1, h2, h3, h4⟩ := h.box
  exact ⟨ao, n, c, k, hh, h1.only ho (.inl hl), h2, h3, h4.only ho (by omega)⟩
theorem DSrc.far {w w' : World} {sb : Nat} (h : DSrc w sb) (hs : ∀ g, g ≤ sb → w'.heap[g]? = w.heap[g]?) : DSrc w' sb := by
  obtain ⟨ao, n, c, k, hh, h1, h2, h3, h4⟩ := h.box
  refine ⟨ao, n, c, k, hh, (hs sb (Nat.le_refl _)).trans h1, h2, h3, h4.1, fun hn => ?_⟩
  obtain ⟨b, off, e, hb, hc⟩ := h4.2 hn
  refine ⟨b, off, e, hb, fun j hj => ?_⟩
  obtain ⟨x, hx, hcx⟩ := hc j hj
  exact ⟨x, hx, (World.cell?_of_block (hs b (by omega))).trans hcx⟩

set_option maxHeartbeats 3200000 in
theorem below_any (sb : Nat) (z : Int) (w : World) (h : DSrc w sb) (hz : -4611686018427387904 ≤ z ∧ z ≤ 4611686018427387904) :
    Calls Try.prog 75 #[.pointer (some ⟨sb, 0, none⟩), .int .i64 z] w fun e w' => ∃ r : Nat, e = .returned (.int .i64 r) ∧ (z < 1 → r = 0) ∧ (1 ≤ z → (r : Int) < z) ∧ DSrc w' sb ∧ Only sb (sb + 1) w w' := by
  obtain ⟨ao, n, c, k, hh, hB, h2, h3, h4⟩ := h.box
  have x0 := hB.cell 0
  have x1 := hB.cell 1
  have x2 := hB.cell 2
  have f1 := hB.frozen 1
  have f2 := hB.frozen 2
  simp at x0 x1 x2
  by_cases hz1 : z < 1
  · have e0 : decide (z < 1) = true := by simp [hz1]
    go_enter Try.func75, Try.ntmps75
    go_wp2
    go_ret
    exact ⟨0, rfl, fun _ => rfl, fun h => by omega, h, Only.refl _ _ _⟩
  · have e0 : decide (z < 1) = false := by simp; omega
    go_enter Try.func75, Try.ntmps75
    go_wp2_with fail
    obtain ⟨H, hH1, hH2⟩ := wrap_u64_of (IntKind.u64.wrap ((hh : Int) * 6364136223846793005) + 1442695040888963407)
    rw [hH2]
    obtain ⟨X, hX1, hX2⟩ := low24 ((H : Int) / 8589934592)
    rw [hX2]
    have B1 : Blk (w.setCell ⟨sb, 2, none⟩ (.int .u64 (H : Int))) sb 138 #[.slice ao n c, .int .i64 k, .int .u64 H] := hB.set_ 2 _
    have O1 : Only sb (sb + 1) w (w.setCell ⟨sb, 2, none⟩ (.int .u64 (H : Int))) := only_set _ _ 2 _
    generalize w.setCell ⟨sb, 2, none⟩ (.int .u64 (H : Int)) = w1 at *
    have h5 : Bts w1 ao n sb := h4.only O1 (Nat.le_refl _)
    have y0 := B1.cell 0
    have y1 := B1.cell 1
    have g1 := B1.frozen 1
    simp at y0 y1
    clear x0 x1 x2 f1 f2 hH2 hX2 h4 hB
    have hn := h5.1
    have hzz : (z == 0) = false := by simp; omega
    have fin : ∀ (Y k' : Nat) (w2 : World), Y ≤ 33554432 → k' ≤ n → Blk w2 sb 138 #[.slice ao n c, .int .i64 k', .int .u64 H] → Only sb (sb + 1) w1 w2 → ∃ r : Nat, Ending.returned (Value.int .i64 ((Y : Int) % z)) = Ending.returned (.int .i64 r) ∧ (z < 1 → r = 0) ∧ (1 ≤ z → (r : Int) < z) ∧ DSrc w2 sb ∧ Only sb (sb + 1) w w2 := fun Y k' w2 hY hk' hB2 hO2 => by
      have e2 := Int.emod_nonneg (Y : Int) (show z ≠ 0 by omega)
      have e3 := Int.emod_lt_of_pos (Y : Int) (show 0 < z by omega)
      exact ⟨((Y : Int) % z).toNat, by rw [Int.toNat_of_nonneg e2], fun h => by omega, fun _ => by omega, ⟨ao, n, c, k', H, hB2, hH1, hk', h5.only hO2 (Nat.le_refl _)⟩, O1.trans hO2⟩
    by_cases hk : k < n
    · obtain ⟨b, off, rfl, hb, hc⟩ := h5.2 (by omega)
      obtain ⟨x, hx, hcx⟩ := hc k hk
      go_quiet (fail)
      go_wp2_with fail
      go_quiet (fail)
      go_wp2
      go_ret
      have key := fin (X + x) (k + 1)
      rw [Int.natCast_add] at key
      exact key _ (by omega) (by omega) (B1.set_ 1 (.int .i64 ((k : Int) + 1))) ⟨rfl, rfl, rfl, by simp [World.setCell, World.drewN], fun a ha hd => Below.heap_setCell w1 ⟨sb, 1, none⟩ (.int .i64 ((k : Int) + 1)) a (by show a ≠ sb; omega)⟩
    · go_quiet (fail)
      go_wp2
      go_ret
      exact fin X k _ (by omega) h3 (B1.drewN _) ⟨rfl, rfl, rfl, Nat.le_refl _, fun _ _ _ => rfl⟩

set_option maxRecDepth 100000 in
set_option maxHeartbeats 3200000 in
theorem roll_any (ao : Option Addr) (n c : Nat) (w : World) (h : Bts w ao n w.heap.size) :
    Calls Try.prog 74 #[.slice ao n c, .int .u64 1111] w fun e w' => e = .returned (.pointer (some ⟨w.heap.size, 0, none⟩)) ∧ DSrc w' w.heap.size ∧ w.heap.size < w'.heap.size ∧ Below w.heap.size w w' := by
  have hn := h.1
  go_enter Try.func74, Try.ntmps74
  go_wp2
  go_loopw [6] (fun i wr => ∃ k hh : Nat, k ≤ n ∧ i = .int .i64 k ∧ hh < 18446744073709551616 ∧ Blk wr w.heap.size 138 #[.slice ao n c, .int .i64 0, .int .u64 hh] ∧ Below w.heap.size w wr ∧ w.heap.size < wr.heap.size) (fun i _ => n - (intOf i).toNat)
  case atStart => exact ⟨0, 8533591 + n, Nat.zero_le _, rfl, by omega, blk_at rfl, below_alloc1 _ _, by simp⟩
  case round =>
    obtain ⟨k, hh, hk, rfl, hh1, hB, hb, hs⟩ := hrel
    have done : DSrc wr w.heap.size := ⟨ao, n, c, 0, hh, hB, hh1, Nat.zero_le _, h.below hb⟩
    by_cases hlt : k < n
    · obtain ⟨b, off, rfl, hbb, hc⟩ := (h.below hb).2 (by omega)
      obtain ⟨x, hx, hcx⟩ := hc k hlt
      have x2 := hB.cell 2
      have f2 := hB.frozen 2
      simp at x2
      obtain ⟨A, hA1, hA2⟩ := wrap_u64_of ((hh : Int) * 1099511628211)
      obtain ⟨C, hC1, hC2⟩ := wrap_u64_of ((A : Int) + x)
      obtain ⟨D, hD1, hD2⟩ := wrap_u64_of ((C : Int) + 5)
      have e1 : IntKind.u64.wrap (x : Int) = (x : Int) := by rw [IntKind.wrap_u64]; omega
      have HB := Lib.hid hB
      clear hB hc done h
      go_wp2_with fail
      go_region_law (fail)
      all_goals
        have hb2 := hb.setCell (p := ⟨w.heap.size, 2, none⟩) (Nat.le_refl _) (.int .u64 (D : Int))
        go_wp2
        go_roundw
        case rel => exact ⟨k + 1, D, by omega, by go_num, hD1, HB.out.set_ 2 (.int .u64 (D : Int)), ⟨hb2.os, hb2.tape, hb2.output, hb2.size, hb2.block⟩, by simpa [World.setCell] using hs⟩
        case measure => simp [intOf]; omega
    · obtain rfl : k = n := by omega
      go_wp2
      go_ret
      exact ⟨rfl, done, hs, hb⟩
end Go.Proofs.Ytpognnifgcacnaa

/- The walk of FnCosetWords: true, whatever the draws. Written by gen_wcw.py. -/
namespace Go.Proofs.Ytpognnifgcacnaa
open Go.RowKit

theorem RdSS.at_ {w : World} {ao : Option Addr} {n c : Nat} {zss : List (List Int)} (h : RdSS w (.slice ao n c) zss) {k : Nat} (hk : k < n) :
    ∃ b off a' n' c', ao = some ⟨b, off, none⟩ ∧ w.cell? ⟨b, off + k, none⟩ = some (.slice a' n' c') ∧ Ints w a' n' (lget zss k) := by
  obtain ⟨a1, n1, c1, e, hi⟩ := h
  injection e with e1 e2 e3
  subst e1 e2 e3
  exact hi.at_ hk
theorem Intss.many {w : World} {ao : Option Addr} {n : Nat} {zss : List (List Int)} (h : Intss w ao n zss) : n ≤ 17592186044416 := h.2.1
theorem RdSS.many {w : World} {v : Value} {zss : List (List Int)} (h : RdSS w v zss) : zss.length ≤ 17592186044416 := by
  obtain ⟨a1, n1, c1, e, hi⟩ := h
  rw [hi.1]; exact hi.2.1
set_option maxRecDepth 100000 in
set_option maxHeartbeats 6400000 in
theorem walkCosetWords {ao : Option Addr} {n c : Nat} (w : World) (h : Bts w ao n w.heap.size) :
    Calls Try.prog 13 #[.slice ao n c] w fun e w' => e = .returned (.bool true) ∧ Below w.heap.size w w' := by
  go_enter Try.func13, Try.ntmps13
  go_wp2_with fail
  refine (big_any ao n c w).mono ?_
  rintro e w1 ⟨rfl, hw1⟩
  obtain rfl : w = w1 := hw1.symm
  by_cases hbig : 4096 < n
  · go_wp2
    go_ret
    exact ⟨rfl, Below.refl _ _⟩
  · go_wp2_with fail
    refine (drawCW_any ao n c w h).mono ?_
    rintro e w2 ⟨v, d, u, ws, rfl, op, ow, hd, hws, B2⟩
    obtain ⟨a2, n2, c2, rfl⟩ := op.form
    obtain ⟨a3, n3, c3, rfl, hwl⟩ := ow.form
    have z2 := B2.size
    clear hwl hd hws
    go_upto_region 4 with (fail)
    have bx := below_alloc1 w2 (.cells #[.int .i64 d.1, .slice a2 n2 c2] 72)
    have kb3 : Blk (w2.alloc (.cells #[.int .i64 d.1, .slice a2 n2 c2] 72)) w2.heap.size 72 #[.int .i64 d.1, .slice a2 n2 c2] := blk_at rfl
    generalize w2.alloc (.cells #[.int .i64 d.1, .slice a2 n2 c2] 72) = w3 at *
    have B3 := B2.trans (bx.mono z2)
    have OP3 := Lib.hid (op.below bx)
    have OW3 := Lib.hid (ow.below bx)
    have z3 := bx.size
    have zk := kb3.lt
    clear bx op ow B2
    have ckb0_3 := kb3.cell 0
    simp at ckb0_3
    have ckb1_3 := kb3.cell 1
    simp at ckb1_3
    go_wp2_with fail
    refine (api_implCW _ OP3.out OW3.out).mono ?_
    rintro e w4 ⟨r, rfl, ot, b4⟩
    have z4 := b4.size
    have B4 := B3.trans (b4.mono (by omega))
    have OP4 := Lib.hid (OP3.out.below b4)
    have OW4 := Lib.hid (OW3.out.below b4)
    have kb4 := kb3.belowS b4
    have ckb0_4 := kb4.cell 0
    simp at ckb0_4
    have ckb1_4 := kb4.cell 1
    simp at ckb1_4
    clear B3 OP3 OW3 kb3 ckb0_3 ckb1_3 b4
    obtain ⟨a4, n4, c4, rfl, hl4⟩ := ot.form
    have HL4 := Lib.hid hl4
    clear hl4
    have OL4 := Lib.hid (ot)
    clear ot
    go_wp2_with fail
    refine (api_specCW _ OP4.out OW4.out).mono ?_
    rintro e w5 ⟨r5, rfl, ot, b5⟩
    have z5 := b5.size
    have B5 := B4.trans (b5.mono (by omega))
    have OP5 := Lib.hid (OP4.out.below b5)
    have OW5 := Lib.hid (OW4.out.below b5)
    have kb5 := kb4.belowS b5
    have OL5 := Lib.hid (OL4.out.below b5)
    have ckb0_5 := kb5.cell 0
    simp at ckb0_5
    have ckb1_5 := kb5.cell 1
    simp at ckb1_5
    clear B4 OP4 OW4 kb4 OL4 ckb0_4 ckb1_4 b5
    obtain ⟨a5, n5, c5, rfl, hl5⟩ := ot.form
    clear hl5
    have OU5 := Lib.hid (ot)
    clear ot
    generalize hC : cwC d ws = C at *
    have HC := Lib.hid hC
    clear hC
    go_wp2_with fail
    refine (same9_any _ OL5.out.rd OU5.out.rd).mono ?_
    rintro e w6 ⟨rfl, b6⟩
    have z6 := b6.size
    have B6 := B5.trans (b6.mono (by omega))
    have OP6 := Lib.hid (OP5.out.below b6)
    have OW6 := Lib.hid (OW5.out.below b6)
    have kb6 := kb5.belowS b6
    have OL6 := Lib.hid (OL5.out.below b6)
    have OU6 := Lib.hid (OU5.out.below b6)
    have ckb0_6 := kb6.cell 0
    simp at ckb0_6
    have ckb1_6 := kb6.cell 1
    simp at ckb1_6
    clear B5 OP5 OW5 kb5 OL5 OU5 ckb0_5 ckb1_5 b6
    by_cases hC0 : C = 0
    · skip
      subst hC0
      obtain ⟨m, HT, HW⟩ := cw_ok HC.out
      have HTT := Lib.hid HT
      have HWW := Lib.hid HW
      have hm1 := HT.n1
      have hm4 := HT.n4
      have hn4 : n4 = m := by rw [← HL4.out]; exact HW.len
      subst hn4
      have ht0 := HT.pos
      have hct : ctC d ws = 0 := (cwC_zero HC.out).1
      have HCT := Lib.hid hct
      clear HT HW hct
      go_wp2_with fail
      refine (api_implCT _ OP6.out OW6.out).mono ?_
      rintro e w7 ⟨r, rfl, ot, b7⟩
      have z7 := b7.size
      have B7 := B6.trans (b7.mono (by omega))
      have OP7 := Lib.hid (OP6.out.below b7)
      have OW7 := Lib.hid (OW6.out.below b7)
      have kb7 := kb6.belowS b7
      have OL7 := Lib.hid (OL6.out.below b7)
      have OU7 := Lib.hid (OU6.out.below b7)
      have ckb0_7 := kb7.cell 0
      simp at ckb0_7
      have ckb1_7 := kb7.cell 1
      simp at ckb1_7
      clear B6 OP6 OW6 kb6 OL6 OU6 ckb0_6 ckb1_6 b7
      rw [HCT.out]
      obtain ⟨a6, n6, c6, rfl, hl6⟩ := ot.form
      have HL6 := Lib.hid hl6
      have hn6 : 0 < n6 := by rw [← hl6]; exact ht0
      clear hl6
      have OT7 := Lib.hid (ot)
      clear ot
      obtain ⟨b0, o0, a0, n0, c0, rfl, hc0, hi0⟩ := OT7.out.rd.at_ hn6
      have hn0 : n0 = n4 := by rw [← hi0.1]; exact HTT.out.leads.len 0 ht0
      subst hn0
      simp at hc0
      obtain ⟨bl, ol, al, nl, cl, rfl, hcl, hil⟩ := OL7.out.rd.at_ (show 0 < n0 by omega)
      clear hi0 hil hcl nl cl al
      go_upto_region 13 with (fail)
      go_wp2_with fail
      clear hc0 ckb0_7 ckb1_7
      go_loopw [11] (fun iv wr => ∃ j : Nat, iv = .int .i64 j ∧ j ≤ n0 ∧ Below w7.heap.size w7 wr) (fun iv _ => n0 - (intOf iv).toNat)
      case atStart => exact ⟨0, rfl, Nat.zero_le _, Below.refl _ _⟩
      case round =>
        obtain ⟨j, rfl, hj, hbj⟩ := hrel
        by_cases hlt : j < n0
        · have OTJ := Lib.hid (OT7.out.below hbj)
          have OLJ := Lib.hid (OL7.out.below hbj)
          have zj := hbj.size
          have HBJ := Lib.hid hbj
          clear hbj
          obtain ⟨_, _, a7, n7, c7, e7, hc7, hi7⟩ := OLJ.out.rd.at_ hlt
          injection e7 with e7
          injection e7 with e7 e8
          subst e7 e8
          have HI7 := Lib.hid hi7
          have hlow := HWW.out.low j hlt
          have HLOW := Lib.hid hlow
          clear hi7 hlow
          rcases Nat.eq_zero_or_pos j with rfl | hj0
          · go_upto_region 16 with (fail)
            (refine wp_region_calm (by kernel_rfl) (by kernel_rfl) ?_; (repeat (first | go_big_quiet_skip | (go_big_quiet_want; first | (go_big_quiet_op; go_big_quiet_on) | (apply quiet_val; (· (intro _ hw; have f7 := hw.cell (p := ⟨bl, ol + 0, none⟩) (World.block_lt_of_cell? _ _ hc7); rw [hc7] at f7; simp at f7; go_simp; exact rfl)); go_simp; go_big_quiet_on) | (apply quiet_call; (· (intro _ _; go_simp; exact ⟨rfl, rfl⟩)); (· (intro _ hw; go_at_call 68; refine (run9_any a7 n7 c7 (lget (cwR d ws) 0) 0 _ (OTJ.out.below hw).rd (HI7.out.below hw) HTT.out.leads HLOW.out (by omega) (by omega)).mono ?_; rintro e w2 ⟨rfl, rfl⟩; rw [HWW.out.home 0 hlt]; exact ⟨rfl, hw⟩)); go_simp; go_big_quiet_on)))); refine wpQuiet_nil ?_; intro wq bq)
            have bq2 := HBJ.out.trans (bq.mono zj)
            clear bq hc7
            go_wp2_with fail
            go_roundw
            case rel => first | exact ⟨1, by omega, by omega⟩ | exact ⟨1, by go_num, by omega, bq2⟩
            case measure => first | (simp [intOf]; done) | (simp [intOf]; omega)
          · obtain ⟨i, rfl⟩ : ∃ i, j = i + 1 := ⟨j - 1, by omega⟩
            obtain ⟨_, _, a8, n8, c8, e9, hc8, hi8⟩ := OLJ.out.rd.at_ (show i < n0 by omega)
            injection e9 with e9
            injection e9 with e9 e10
            subst e9 e10
            have HI8 := Lib.hid hi8
            clear hi8
            go_upto_region 16 with (fail)
            have hI1 : IntKind.i64.wrap (((i + 1 : Nat) : Int) - 1) = (i : Int) := by rw [IntWalk.i64_in _ (by omega)]; omega
            have hI2 : IntKind.i64.wrap ((i : Int) + 1 - 1) = (i : Int) := by rw [IntWalk.i64_in _ (by omega)]; omega
            have hI7 : IntKind.i64.wrap (i : Int) = (i : Int) := IntWalk.i64_in _ (by omega)
            have hlt2 : i < n0 := by omega
            have hI3 : (((i + 1 : Nat) : Int) != ((i + 1 : Nat) : Int)) = false := by simp
            have hI4 : ((i : Int) + 1 != (i : Int) + 1) = false := by simp
            have hI5 : decide (0 < ((i + 1 : Nat) : Int)) = true := decide_eq_true (by omega)
            have hI6 : decide (0 < (i : Int) + 1) = true := decide_eq_true (by omega)
            (refine wp_region_calm (by kernel_rfl) (by kernel_rfl) ?_; (repeat (first | go_big_quiet_skip | (go_big_quiet_want; first | (go_big_quiet_op; go_big_quiet_on) | (apply quiet_val; (· (intro _ hw; have f7 := hw.cell (p := ⟨bl, ol + (i + 1), none⟩) (World.block_lt_of_cell? _ _ hc7); rw [hc7] at f7; have f8 := hw.cell (p := ⟨bl, ol + i, none⟩) (World.block_lt_of_cell? _ _ hc8); rw [hc8] at f8; go_simp; exact rfl)); go_simp; go_big_quiet_on) | (apply quiet_call; (· (intro _ _; go_simp; exact ⟨rfl, rfl⟩)); (· (intro _ hw; first | (go_at_call 68; refine (run9_any a7 n7 c7 (lget (cwR d ws) (i + 1)) 0 _ (OTJ.out.below hw).rd (HI7.out.below hw) HTT.out.leads HLOW.out (by omega) (by omega)).mono ?_; rintro e w2 ⟨rfl, rfl⟩; rw [HWW.out.home (i + 1) hlt]; exact ⟨rfl, hw⟩) | (go_at_call 73; refine (before9_any a8 a7 n8 n7 c8 c7 _ _ _ (HI8.out.below hw) (HI7.out.below hw)).mono ?_; rintro e w2 ⟨rfl, mq, rfl⟩; rw [HWW.out.bef i hlt]; exact ⟨rfl, below_drewN hw _⟩))); go_simp; go_big_quiet_on)))); refine wpQuiet_nil ?_; intro wq bq)
            have bq2 := HBJ.out.trans (bq.mono zj)
            clear bq hc7 hc8 hI1 hI2 hI3 hI4 hI5 hI6 hI7
            go_wp2_with fail
            go_roundw
            case rel => first | exact ⟨i + 2, by omega, by omega⟩ | exact ⟨i + 2, by go_num, by omega, bq2⟩
            case measure => first | (simp [intOf]; done) | (simp [intOf]; omega)
        · obtain rfl : j = n0 := by omega
          have zj := hbj.size
          have OTF := Lib.hid (OT7.out.below hbj)
          have OLF := Lib.hid (OL7.out.below hbj)
          have kbf := kb7.belowS hbj
          have BF := B7.trans (hbj.mono (by omega))
          have ht1 := h.below BF
          have tf : Bts wr ao n wr.heap.size := ⟨ht1.1, fun hn => by obtain ⟨b, off, e, hb, hc⟩ := ht1.2 hn; exact ⟨b, off, e, by omega, hc⟩⟩
          clear hbj ht1
          go_wp2_with fail
          refine (roll_any ao n c wr tf).mono ?_
          rintro e w9 ⟨rfl, s9, z9, b9⟩
          have OTG := Lib.hid (OTF.out.below b9)
          have OLG := Lib.hid (OLF.out.below b9)
          have kbg := kbf.belowS b9
          have BG := BF.trans (b9.mono (by omega))
          have hsb : w2.heap.size < wr.heap.size := kbf.lt
          clear tf OTF OLF kbf BF b9
          generalize wr.heap.size = sb at *
          have hal : DSrc (w9.alloc (.cells #[] 2)) sb := s9.far fun g hg => Below.heap_alloc w9 _ g (by omega)
          go_wp2_with fail
          refine (below_any sb 7 _ hal (by omega)).mono ?_
          rintro e wa ⟨r, rfl, -, r2, sa, qa⟩
          have hr := r2 (by omega)
          have qb : Only sb (sb + 1) w9 wa := (only_grown (Only.refl _ _ _) (World.grownBy_alloc w9 (.cells #[] 2) none) (fun g hg => by cases hg)).trans qa
          have Pa : Own wa w9.heap.size 2 (some ⟨w9.heap.size, 0, none⟩) 0 0 [] := (Own.empty_ w9 _ (Nat.le_refl _)).only qa (lo' := w9.heap.size) (hi' := w9.heap.size + 1) (fun g hg => by simp [bk] at hg; omega) (.inr (by omega))
          clear r2 qa hal s9
          have hd1 : d.1 = (n6 : Int) := by rw [← HL6.out]; exact HTT.out.len.symm
          have HD1 := Lib.hid hd1
          have hd2 : 1 ≤ d.1 ∧ d.1 ≤ 17592186044416 := by
            have := OTG.out.rd.many
            rw [HL6.out] at this
            omega
          clear hd1
          have HN6 := Lib.hid (show 0 < n6 from hn6)
          go_wp2_with fail
          go_loopw [13, 14] (fun wv kv wx => ∃ (k a : Nat) (aw : Option Addr) (cw : Nat) (zs : List Int), kv = .int .i64 k ∧ wv = .slice aw a cw ∧ a + k = r ∧ Low d.1 zs ∧ Own wx w9.heap.size 2 aw a cw (zs.map (Value.int .i64)) ∧ DSrc wx sb ∧ Only sb (sb + 1) w9 wx) (fun _ kv _ => (intOf kv).toNat)
          case atStart => exact ⟨r, 0, _, 0, [], rfl, rfl, by omega, fun _ h => (by simp at h), Pa, sa, qb⟩
          case round =>
            obtain ⟨k, a, aw, cw, zs, rfl, rfl, hak, hlow, ho, hs, hO⟩ := hrel
            clear Pa sa qb
            have kbx := kbg.only hO (.inl (by omega))
            have x0 := kbx.cell 0
            simp at x0
            by_cases hk : 0 < k
            · go_wp2_with fail
              refine (below_any sb d.1 _ hs (by omega)).mono ?_
              rintro e w3 ⟨q, rfl, -, q2, s3, o3⟩
              have hq := q2 (by omega)
              have hsz := hO.size
              have O3 := hO.trans o3
              have hsz3 := O3.size
              have P3 : Own w3 w9.heap.size 2 aw a cw (zs.map (Value.int .i64)) := ho.only o3 (lo' := w9.heap.size) (hi' := wr.heap.size) (fun g hg => ⟨(ho.lt g hg).1, (ho.lt g hg).2⟩) (.inr (by omega))
              clear q2 o3 hs hO ho x0 kbx
              have hol := P3.lt
              have PH := Lib.hid P3
              clear P3
              go_wp2_with (at_builtin; refine wpList_ap1 etI _ rfl _ _ rfl w9.heap.size aw a cw _ rfl PH.out (.int .i64 (q : Int)) rfl rfl (by omega) hsz3 ?_; intro ao2 c2 w4 ho2 hg2 hblk)
              have HO := Lib.hid ho2
              have s4 := s3.far (w' := w4) (fun g hg => hg2.block g (by have := s3.box; obtain ⟨_, _, _, _, _, hx, _⟩ := this; have := hx.lt; omega) (fun e => by have := hol g e.symm; omega))
              have O4 := only_grown O3 hg2 (fun g hg => (hol g hg).1)
              clear ho2 hblk s3 O3 hg2
              go_wp2
              go_roundw
              case rel =>
                refine ⟨k - 1, a + 1, ao2, c2, zs ++ [(q : Int)], by go_num, rfl, by omega, fun z hz => ?_, by rw [List.map_append]; exact HO.out, s4, O4⟩
                rcases List.mem_append.1 hz with hz | hz
                · exact hlow z hz
                · simp at hz; omega
              case measure => first | (simp [intOf]; done) | (simp [intOf]; omega)
            · obtain rfl : k = 0 := by omega
              have OTX := Lib.hid (OTG.out.only hO (.inl (by omega)))
              have OLX := Lib.hid (OLG.out.only hO (.inl (by omega)))
              have BX := below_only BG hO (by omega) (by omega)
              have HI := Lib.hid ho.ints
              have hlo2 : ∀ z ∈ zs, 0 ≤ z ∧ z < (ctR d ws).length := fun z hz => by have := hlow z hz; rw [HD1.out] at this; rw [HL6.out]; exact this
              have HLO2 := Lib.hid hlo2
              clear hlo2 hlow ho hs hO kbx x0
              go_wp2_with fail
              refine (run9_any aw a cw zs 0 _ OTX.out.rd HI.out HTT.out.leads HLO2.out (by omega) (by omega)).mono ?_
              rintro e wz ⟨rfl, hwz⟩
              subst hwz
              obtain ⟨y, hy, hy2⟩ : ∃ y : Nat, leadL (ctR d ws) (0 : Nat) zs = (y : Int) ∧ y < j := by
                have := HTT.out.leads.lead (c := ((0 : Nat) : Int)) ⟨by omega, by omega⟩ HLO2.out
                exact ⟨(leadL (ctR d ws) (0 : Nat) zs).toNat, by omega, by omega⟩
              have hle := HWW.out.least zs HLO2.out
              rw [hy, Int.toNat_natCast] at hle
              rw [hy]
              have HLE := Lib.hid hle
              obtain ⟨_, _, a7, n7, c7, e7, hc7, hi7⟩ := OLX.out.rd.at_ hy2
              injection e7 with e7
              injection e7 with e7 e8
              subst e7 e8
              have HI7 := Lib.hid hi7
              clear hi7 hy hle
              go_wp2_with fail
              refine (before9_any aw a7 a n7 cw c7 zs _ _ HI.out HI7.out).mono ?_
              rintro e wz ⟨rfl, mq, rfl⟩
              rw [HLE.out]
              go_wp2
              go_ret
              exact ⟨rfl, below_drewN BX _⟩
    · skip
      have hR := cwR_none (d := d) (ws := ws) (by rw [HC.out]; exact hC0)
      have hn4 : n4 = 0 := by rw [← HL4.out, hR]; rfl
      subst hn4
      clear hR
      have g1 : (C != 0) = true := by simpa using hC0
      go_wp2
      go_ret
      exact ⟨rfl, B6⟩
end Go.Proofs.Ytpognnifgcacnaa
