/- Cosets that some generators lead to: the program's subgroupOf. guards: -/
import Derived.Test.YtpjglifijdcgnaaPart7
import Derived.Test.YtpjglifijdcgnaaPart4
import Derived.Test.YtpjglifijdcgnaaPart1
import Derived.Deep.RegionHeld3
namespace Go.Proofs.Ytpjglifijdcgnaa
open Go.RowKit

set_option maxRecDepth 100000 in
set_option maxHeartbeats 2000000 in
theorem subgroup_fc (T : List (List Int)) (ng n mask : Nat) (hng : T.length = ng) (hpos : 0 < ng) (hT : Leads T n) (hn : 0 < n) (hn4 : n ≤ 400) (hg5 : ng ≤ 5) (hm : mask < 1000) :
    FC Try.prog 62 [(1005, imRo T)] [o1 (.sl 1005 0 ng), vv (I6 mask)] [(14, boOw (mem T ng n mask).1)] (o1 (.sl 14 0 n)) [] := by
  have hlen : (irows T).length = ng := by rw [irows_len, hng]
  have hr0 : (lget T 0).length = n := hT.len 0 (by omega)
  have hrow : (irows T)[0]? = some (ivals (lget T 0)) := irows_get (by omega)
  refine fc_enter (nt := 57) Try.func62 rfl rfl (by simp) fun w0 ω0 => ?_
  have hbl0 : (bvals (List.replicate n false)).length = n := by rw [bvals_len]; simp
  rw [← hr0] at hbl0
  have hrp : (List.replicate (lget T 0).length false).length = (lget T 0).length := by simp
  (refine goes_seq ?_; refine goes_region ?_; apply run_step rfl; (exact stp_assign rfl rfl); refine run_nil ?_; refine fin_seq ?_; refine goes_seq ?_; refine goes_region ?_; apply run_step rfl; (exact stp_move rfl rfl); apply run_step rfl; (first | exact stp_ix (j := 0) rfl rfl rfl rfl rfl (by as_aux_lemma => kernel_rfl) rfl hpos (Nat.le_of_eq hlen.symm) | exact stp_makeB (E := 4) rfl (by as_aux_lemma => kernel_rfl) (by as_aux_lemma => kernel_rfl) rfl rfl rfl rfl (by omega) | exact stp_ix (j := 0) rfl rfl rfl rfl rfl (by as_aux_lemma => kernel_rfl) rfl (by omega) (Nat.le_of_eq hbl0.symm) | exact stp_stB (bs := List.replicate (lget T 0).length false) rfl rfl rfl rfl rfl (by rw [hrp]; omega) (by as_aux_lemma => kernel_rfl)); apply run_step rfl; (exact stp_loadR rfl (by as_aux_lemma => kernel_rfl) rfl rfl rfl (by first | assumption | exact ivals_get (by assumption) | exact irows_get (by assumption) | exact ivals_get (by omega) | exact irows_get (by omega) | rfl) (by first | exact ivals_len _ | assumption | rfl)); apply run_step rfl; (exact stp_len rfl rfl rfl (by as_aux_lemma => kernel_rfl)); apply run_step rfl; (first | exact stp_ix (j := 0) rfl rfl rfl rfl rfl (by as_aux_lemma => kernel_rfl) rfl hpos (Nat.le_of_eq hlen.symm) | exact stp_makeB (E := 4) rfl (by as_aux_lemma => kernel_rfl) (by as_aux_lemma => kernel_rfl) rfl rfl rfl rfl (by omega) | exact stp_ix (j := 0) rfl rfl rfl rfl rfl (by as_aux_lemma => kernel_rfl) rfl (by omega) (Nat.le_of_eq hbl0.symm) | exact stp_stB (bs := List.replicate (lget T 0).length false) rfl rfl rfl rfl rfl (by rw [hrp]; omega) (by as_aux_lemma => kernel_rfl)); apply run_step rfl; (exact stp_assign rfl rfl); refine run_nil ?_; refine fin_seq ?_; refine goes_seq ?_; refine goes_region ?_; apply run_step rfl; (exact stp_move rfl rfl); apply run_step rfl; (first | exact stp_ix (j := 0) rfl rfl rfl rfl rfl (by as_aux_lemma => kernel_rfl) rfl hpos (Nat.le_of_eq hlen.symm) | exact stp_makeB (E := 4) rfl (by as_aux_lemma => kernel_rfl) (by as_aux_lemma => kernel_rfl) rfl rfl rfl rfl (by omega) | exact stp_ix (j := 0) rfl rfl rfl rfl rfl (by as_aux_lemma => kernel_rfl) rfl (by omega) (Nat.le_of_eq hbl0.symm) | exact stp_stB (bs := List.replicate (lget T 0).length false) rfl rfl rfl rfl rfl (by rw [hrp]; omega) (by as_aux_lemma => kernel_rfl)); apply run_step rfl; (first | exact stp_ix (j := 0) rfl rfl rfl rfl rfl (by as_aux_lemma => kernel_rfl) rfl hpos (Nat.le_of_eq hlen.symm) | exact stp_makeB (E := 4) rfl (by as_aux_lemma => kernel_rfl) (by as_aux_lemma => kernel_rfl) rfl rfl rfl rfl (by omega) | exact stp_ix (j := 0) rfl rfl rfl rfl rfl (by as_aux_lemma => kernel_rfl) rfl (by omega) (Nat.le_of_eq hbl0.symm) | exact stp_stB (bs := List.replicate (lget T 0).length false) rfl rfl rfl rfl rfl (by rw [hrp]; omega) (by as_aux_lemma => kernel_rfl)); refine run_nil ?_; refine fin_seq ?_; refine goes_seq ?_; refine goes_seq ?_; refine goes_region ?_; apply run_step rfl; (exact stp_lit1I (E := 2) rfl (by as_aux_lemma => kernel_rfl) rfl); apply run_step rfl; (exact stp_assign rfl rfl); refine run_nil ?_; refine fin_seq ?_; refine goes_block ?_)
  refine goes_loop (fun q : Nat × MSt × List Int × Nat => St.of [(0, o1 (.sl 1005 0 ng)), (1, vv (I6 mask)), (5, o1 (.sl 14 0 n)), (6, o1 (.sl 17 q.2.2.2 (q.2.1.2.length - q.1)))] [(1005, imRo T), (14, boOw q.2.1.1), (17, leOw (q.2.2.1 ++ q.2.1.2.drop q.1))])
    (fun q => q.1 ≤ q.2.1.2.length ∧ MOK n q.2.1 ∧ mLoop T mask ng (n + 1 - q.1) q.1 q.2.1 = mem T ng n mask ∧ q.2.2.1.length = q.2.2.2) (fun q => n + 1 - q.1) (0, mStart n, [], 0) ⟨Nat.zero_le _, mStart_ok hn, rfl, rfl⟩ (Wk.of ⟨rfl, rfl, by rw [← hr0]; rfl, rfl, trivial⟩ ⟨rfl, by rw [← hr0]; rfl, rfl, trivial⟩ trivial) ?_
  clear hbl0 hrp
  rintro ⟨i, ⟨B, O⟩, pre, o⟩ ⟨hi, hok, hl, hpre⟩
  dsimp only at hi hl hpre ⊢
  have hOn : O.length ≤ n := hok.le
  (refine goes_seq ?_; refine goes_seq ?_; refine goes_region ?_; apply run_step rfl; (exact stp_move rfl rfl); apply run_step rfl; (exact stp_len rfl rfl rfl (by as_aux_lemma => kernel_rfl)); apply run_step rfl; (exact stp_bin rfl rfl rfl rfl); refine run_nil ?_; refine fin_seq ?_)
  refine goes_cond rfl (fun h => ?_) (fun h => ?_)
  · have hlt : i < O.length := by
      have := of_decide_eq_true h; omega
    have hl' : mLoop T mask ng (n - i) (i + 1) (mRow T mask ng (iget O i).toNat (B, O)) = mem T ng n mask := by
      rw [← hl, show n + 1 - i = (n - i) + 1 by omega]; exact (mLoop_step (T := T) (ng := ng) (s := (B, O)) hlt).symm
    obtain ⟨c, hc1, hc2, _⟩ := hok.q i hlt
    dsimp only at hc1
    rw [hc1, Int.toNat_natCast] at hl'
    obtain ⟨s0, hs0⟩ : ∃ s0 : MSt, s0 = (B, O) := ⟨_, rfl⟩
    have hro : ∀ m, m ≤ ng → MOK n ((List.range m).foldl (mStep T mask c) s0) ∧ MGrow s0 ((List.range m).foldl (mStep T mask c) s0) := fun m hm => have := mRow_ok (mask := mask) hT hng hc2 (s := s0) (by rw [hs0]; exact hok) m hm; ⟨this.1, this.2.1⟩
    have hO0 : s0.2.length = O.length := by rw [hs0]
    have hc0 : iget s0.2 i = (c : Int) := by rw [hs0]; exact hc1
    have hfin : mLoop T mask ng (n - i) (i + 1) ((List.range ng).foldl (mStep T mask c) s0) = mem T ng n mask := by rw [hs0]; exact hl'
    (refine goes_skip ?_; refine fin_seq ?_; refine goes_seq ?_; refine goes_block ?_; refine goes_seq ?_; refine goes_region ?_; apply run_step rfl; (exact stp_move rfl rfl); apply run_step rfl; (exact stp_len rfl rfl rfl (by as_aux_lemma => kernel_rfl)); apply run_step rfl; (exact stp_move rfl rfl); refine run_nil ?_; refine fin_seq ?_; refine goes_block ?_)
    refine goes_loop (fun q : Nat × MSt × List Int × Nat => St.of [(0, o1 (.sl 1005 0 ng)), (1, vv (I6 mask)), (5, o1 (.sl 14 0 n)), (6, o1 (.sl 17 q.2.2.2 (q.2.1.2.length - i))), (23, o1 (.sl 1005 0 ng)), (24, vv (I6 ng)), (25, vv (I6 q.1))] [(1005, imRo T), (14, boOw q.2.1.1), (17, leOw (q.2.2.1 ++ q.2.1.2.drop i))])
      (fun q => q.1 ≤ ng ∧ (List.range q.1).foldl (mStep T mask c) s0 = q.2.1 ∧ q.2.2.1.length = q.2.2.2) (fun q => ng - q.1) (0, (B, O), pre, o) ⟨Nat.zero_le _, hs0, hpre⟩ (Wk.of ⟨rfl, rfl, rfl, rfl, rfl, rfl, rfl, trivial⟩ ⟨rfl, rfl, rfl, trivial⟩ trivial) ?_
    clear hl hl' hok hs0 hc1 hpre
    generalize O.length = on at *
    rintro ⟨g, ⟨B, O⟩, pre, o⟩ ⟨hg, hfo, hpre⟩
    dsimp only at hg hfo hpre ⊢
    obtain ⟨hok, grw⟩ := hro g hg
    rw [hfo] at hok grw
    have hOl : O.length ≤ n := hok.le
    have hiO : i < O.length := Nat.lt_of_lt_of_le (by omega) grw.len
    have hBl : B.length = n := hok.l
    have hbl : (bvals B).length = n := by rw [bvals_len]; exact hBl
    have hci : iget O i = (c : Int) := (grw.pre i (by omega)).trans hc0
    have gl : (o + (O.length - i)) * 1 ≤ (ivals (pre ++ O.drop i)).length := Nat.le_of_eq (qLen hpre (by omega))
    (refine goes_seq ?_; refine goes_region ?_; apply run_step rfl; (exact stp_bin rfl rfl rfl rfl); refine run_nil ?_; refine fin_seq ?_; refine goes_seq ?_)
    refine goes_if rfl (fun h2 => ?_) (fun h2 => ?_)
    · have hgn : g < ng := by omega
      have hd := bTo_lt hT hc2 (g := g) (by omega)
      have hrl : (lget T g).length = n := hT.len g (by omega)
      have hrowg : (irows T)[g]? = some (ivals (lget T g)) := irows_get (by omega)
      obtain ⟨d, hdd⟩ : ∃ d, bTo T c g = d := ⟨_, rfl⟩
      have hst : (List.range (g + 1)).foldl (mStep T mask c) s0 = if mBit mask g = true ∧ bat B d = false then (B.set d true, O ++ [(d : Int)]) else (B, O) := by
        rw [List.range_succ, List.foldl_append, hfo, ← hdd]; rfl
      rw [hdd] at hd
      have hgetd : (ivals (lget T g))[c]? = some (I6 (d : Int)) := by rw [ivals_get (by omega), hd.2]
      have hgb : (bvals B)[d]? = some (.bool (bat B d)) := bvals_get (by omega)
      have g1 := qGet hpre hiO hci
      have hoi : 0 < O.length - i := by omega
      have no : ∀ (hno : ¬ (mBit mask g = true ∧ bat B d = false)), (List.range (g + 1)).foldl (mStep T mask c) s0 = (B, O) := fun hno => by rw [hst, if_neg hno]
      have hmg : mask < 1000000 := by omega
      have hg64 : g ≤ 64 := by omega
      (refine goes_skip ?_; refine fin_seq ?_; refine goes_seq ?_; refine goes_block ?_; refine goes_seq ?_; refine goes_region ?_; apply run_step rfl; (exact stp_move rfl rfl); apply run_step rfl; (exact stp_ix rfl rfl rfl rfl rfl (by as_aux_lemma => kernel_rfl) (by first | rfl | exact (Int.toNat_of_nonneg (by omega)).symm) (by first | assumption | omega | (simp; omega)) (by first | exact Nat.le_refl _ | exact Nat.le_of_eq (ivals_len _).symm | exact Nat.le_of_eq (irows_len _).symm | (refine Nat.le_trans ?_ (Nat.le_of_eq (ivals_len _).symm); (first | omega | (simp; done) | (simp; omega))) | (refine Nat.le_trans ?_ (Nat.le_of_eq (irows_len _).symm); (first | omega | (simp; done) | (simp; omega))))); apply run_step rfl; (exact stp_loadR rfl (by as_aux_lemma => kernel_rfl) rfl rfl rfl (by first | assumption | exact ivals_get (by assumption) | exact irows_get (by assumption) | exact ivals_get (by omega) | exact irows_get (by omega) | rfl) (by first | exact ivals_len _ | assumption | rfl)); apply run_step rfl; (exact stp_assign rfl rfl); apply run_step rfl; (exact stp_assign rfl rfl); refine run_nil ?_; refine fin_seq ?_; refine goes_seq ?_; refine goes_region ?_; apply run_step rfl; (exact stp_move rfl rfl); apply run_step rfl; (exact stp_move rfl rfl); apply run_step rfl; (first | exact stp_indexAddr (k := 1) (j := 0) rfl rfl rfl rfl rfl (by as_aux_lemma => kernel_rfl) rfl hoi gl (by omega) | exact stp_shrN (g := g) rfl rfl rfl hg64 | exact stp_bit rfl rfl hmg | exact stp_eqBit rfl rfl); apply run_step rfl; (exact stp_loadV rfl (by as_aux_lemma => kernel_rfl) rfl rfl rfl (by first | assumption | exact ivals_get (by assumption) | exact irows_get (by assumption) | exact ivals_get (by omega) | exact irows_get (by omega) | rfl)); apply run_step rfl; (exact stp_ixE rfl rfl rfl rfl rfl (by as_aux_lemma => kernel_rfl) (by first | assumption | exact ivals_get (by assumption) | exact irows_get (by assumption) | exact ivals_get (by omega) | exact irows_get (by omega) | rfl) (by first | rfl | exact (Int.toNat_of_nonneg (by omega)).symm) (by first | assumption | omega | (simp; omega)) (by first | exact Nat.le_refl _ | exact Nat.le_of_eq (ivals_len _).symm | exact Nat.le_of_eq (irows_len _).symm | (refine Nat.le_trans ?_ (Nat.le_of_eq (ivals_len _).symm); (first | omega | (simp; done) | (simp; omega))) | (refine Nat.le_trans ?_ (Nat.le_of_eq (irows_len _).symm); (first | omega | (simp; done) | (simp; omega))))); apply run_step rfl; (exact stp_loadE' rfl (by as_aux_lemma => kernel_rfl) rfl rfl rfl (by first | assumption | exact ivals_get (by assumption) | exact irows_get (by assumption) | exact ivals_get (by omega) | exact irows_get (by omega) | rfl) (by first | assumption | exact ivals_get (by assumption) | exact irows_get (by assumption) | exact ivals_get (by omega) | exact irows_get (by omega) | rfl)); apply run_step rfl; (exact stp_assign rfl rfl); refine run_nil ?_; refine fin_seq ?_; refine goes_seq ?_; refine goes_region ?_; apply run_step rfl; (exact stp_move rfl rfl); apply run_step rfl; (exact stp_move rfl rfl); apply run_step rfl; (first | exact stp_indexAddr (k := 1) (j := 0) rfl rfl rfl rfl rfl (by as_aux_lemma => kernel_rfl) rfl hoi gl (by omega) | exact stp_shrN (g := g) rfl rfl rfl hg64 | exact stp_bit rfl rfl hmg | exact stp_eqBit rfl rfl); apply run_step rfl; (first | exact stp_indexAddr (k := 1) (j := 0) rfl rfl rfl rfl rfl (by as_aux_lemma => kernel_rfl) rfl hoi gl (by omega) | exact stp_shrN (g := g) rfl rfl rfl hg64 | exact stp_bit rfl rfl hmg | exact stp_eqBit rfl rfl); apply run_step rfl; (first | exact stp_indexAddr (k := 1) (j := 0) rfl rfl rfl rfl rfl (by as_aux_lemma => kernel_rfl) rfl hoi gl (by omega) | exact stp_shrN (g := g) rfl rfl rfl hg64 | exact stp_bit rfl rfl hmg | exact stp_eqBit rfl rfl); apply run_step rfl; (exact stp_move rfl rfl))
      refine run_bool 41 rfl (fun hmb => ?_) (fun hmb => ?_)
      · (apply run_gYes rfl rfl rfl; (exact stp_move rfl rfl); apply run_gYes rfl rfl rfl; (exact stp_move rfl rfl); apply run_gYes rfl rfl rfl; (exact stp_ix rfl rfl rfl rfl rfl (by as_aux_lemma => kernel_rfl) rfl hd.1 (Nat.le_of_eq hbl.symm)); apply run_gYes rfl rfl rfl; (exact stp_loadV rfl (by as_aux_lemma => kernel_rfl) rfl rfl rfl (by first | assumption | exact ivals_get (by assumption) | exact irows_get (by assumption) | exact ivals_get (by omega) | exact irows_get (by omega) | rfl)); apply run_gYes rfl rfl rfl; (exact stp_not rfl rfl); apply run_step rfl; (exact stp_pickT rfl rfl rfl); refine run_nil ?_; refine fin_seq ?_)
        refine goes_cond rfl (fun hb => ?_) (fun hb => ?_)
        · have hb : bat B d = false := by simpa using hb
          have hv : (List.range (g + 1)).foldl (mStep T mask c) s0 = (B.set d true, O ++ [(d : Int)]) := by rw [hst, if_pos ⟨hmb, hb⟩]
          have hln : (o + (O.length - i)) * 1 = (ivals (pre ++ O.drop i)).length := qLen hpre (by omega)
          (refine goes_seq ?_; refine goes_region ?_; apply run_step rfl; (exact stp_move rfl rfl); apply run_step rfl; (exact stp_move rfl rfl); apply run_step rfl; (first | exact stp_ix rfl rfl rfl rfl rfl (by as_aux_lemma => kernel_rfl) rfl hd.1 (Nat.le_of_eq hbl.symm) | exact stp_stB rfl rfl rfl rfl rfl (by rw [hBl]; exact hd.1) (by as_aux_lemma => kernel_rfl)); apply run_step rfl; (first | exact stp_ix rfl rfl rfl rfl rfl (by as_aux_lemma => kernel_rfl) rfl hd.1 (Nat.le_of_eq hbl.symm) | exact stp_stB rfl rfl rfl rfl rfl (by rw [hBl]; exact hd.1) (by as_aux_lemma => kernel_rfl)); refine run_nil ?_; refine fin_seq ?_; refine goes_region ?_; apply run_step rfl; (exact stp_move rfl rfl); apply run_step rfl; (exact stp_move rfl rfl); apply run_step rfl; (exact stp_lit1I (E := 2) rfl (by as_aux_lemma => kernel_rfl) rfl))
          refine run_or rfl (stpor_append (k := 1) (m := 1) (E := 2) rfl (by as_aux_lemma => kernel_rfl) rfl rfl rfl hln rfl (reads_vals (k := 1) rfl rfl rfl rfl (Nat.le_refl _)) (by omega) (by intro v hv; simp [ivals] at hv; subst hv; rfl) (by omega)) ?_ ?_
          · (apply run_step rfl; (exact stp_assign rfl rfl); refine run_nil ?_; refine fin_block ?_; refine fin_seq ?_; refine goes_region ?_; apply run_step rfl; (exact stp_add rfl rfl rfl (by first | exact IntWalk.i64_in _ (by omega) | rfl)); apply run_step rfl; (exact stp_move rfl rfl); refine run_nil ?_)
            exact fin_round (g + 1, (B.set d true, O ++ [(d : Int)]), [], 0) ⟨hgn, hv, rfl⟩ (by show ng - (g + 1) < ng - g; omega) (Wk.of ⟨rfl, rfl, rfl, congrArg (fun x => some (o1 (.sl 17 0 x))) (by simp; omega), rfl, rfl, rfl, trivial⟩ ⟨rfl, rfl, congrArg (fun l => some (⟨true, 2, 1, .vals l⟩ : Ch)) (qApp1 hpre (by omega) (d : Int)), trivial⟩ trivial)
          · (apply run_step rfl; (exact stp_assign rfl rfl); refine run_nil ?_; refine fin_block ?_; refine fin_seq ?_; refine goes_region ?_; apply run_step rfl; (exact stp_add rfl rfl rfl (by first | exact IntWalk.i64_in _ (by omega) | rfl)); apply run_step rfl; (exact stp_move rfl rfl); refine run_nil ?_)
            exact fin_round (g + 1, (B.set d true, O ++ [(d : Int)]), pre, o) ⟨hgn, hv, hpre⟩ (by show ng - (g + 1) < ng - g; omega) (Wk.of ⟨rfl, rfl, rfl, congrArg (fun x => some (o1 (.sl 17 o x))) (by simp; omega), rfl, rfl, rfl, trivial⟩ ⟨rfl, rfl, congrArg (fun l => some (⟨true, 2, 1, .vals l⟩ : Ch)) (qApp2 (by omega) (d : Int)), trivial⟩ trivial)
        · have hb : bat B d = true := by simpa using hb
          (refine goes_skip ?_; refine fin_block ?_; refine fin_seq ?_; refine goes_region ?_; apply run_step rfl; (exact stp_add rfl rfl rfl (by first | exact IntWalk.i64_in _ (by omega) | rfl)); apply run_step rfl; (exact stp_move rfl rfl); refine run_nil ?_)
          exact fin_round (g + 1, (B, O), pre, o) ⟨hgn, no (fun h => by rw [hb] at h; cases h.2), hpre⟩ (by show ng - (g + 1) < ng - g; omega) (Wk.of ⟨rfl, rfl, rfl, rfl, rfl, rfl, rfl, trivial⟩ ⟨rfl, rfl, rfl, trivial⟩ trivial)
      · (apply run_gNo rfl rfl rfl rfl rfl; apply run_gNo rfl rfl rfl rfl rfl; apply run_gNo rfl rfl rfl rfl rfl; apply run_gNo rfl rfl rfl rfl rfl; apply run_gNo rfl rfl rfl rfl rfl; apply run_step rfl; (exact stp_pickF rfl rfl rfl); refine run_nil ?_; refine fin_seq ?_)
        refine goes_cond rfl (fun e => by cases e) (fun _ => ?_)
        (refine goes_skip ?_; refine fin_block ?_; refine fin_seq ?_; refine goes_region ?_; apply run_step rfl; (exact stp_add rfl rfl rfl (by first | exact IntWalk.i64_in _ (by omega) | rfl)); apply run_step rfl; (exact stp_move rfl rfl); refine run_nil ?_)
        exact fin_round (g + 1, (B, O), pre, o) ⟨hgn, no (fun h => by rw [hmb] at h; cases h.1), hpre⟩ (by show ng - (g + 1) < ng - g; omega) (Wk.of ⟨rfl, rfl, rfl, rfl, rfl, rfl, rfl, trivial⟩ ⟨rfl, rfl, rfl, trivial⟩ trivial)
    · obtain rfl : g = ng := by omega
      (refine goes_exit ?_; refine fin_exit_then ?_; refine fin_exit_then ?_; refine fin_exit_eq ?_; refine fin_block ?_; refine fin_seq ?_; refine goes_region ?_; apply run_step rfl; (exact stp_move rfl rfl); apply run_step rfl; (exact stp_slice (k := 1) (l := 1) rfl rfl rfl rfl (by as_aux_lemma => kernel_rfl) (by omega) (bnd_some rfl rfl) bnd_none (by omega) (Nat.le_refl _) gl); apply run_step rfl; (exact stp_assign rfl rfl); refine run_nil ?_)
      exact fin_round (i + 1, (B, O), pre ++ [(c : Int)], o + 1) ⟨hiO, hok, by rw [← hfin, hfo]; show mLoop _ _ _ (n + 1 - (i + 1)) _ _ = _; rw [show n + 1 - (i + 1) = n - i by omega], by simp; omega⟩ (by show n + 1 - (i + 1) < n + 1 - i; omega) (Wk.of ⟨rfl, rfl, rfl, congrArg (fun x => some (o1 (.sl 17 (o + 1) x))) (show O.length - i - 1 = O.length - (i + 1) by omega), trivial⟩ ⟨rfl, rfl, congrArg (fun l => some (⟨true, 2, 1, .vals (ivals l)⟩ : Ch)) (qNext hiO hci), trivial⟩ trivial)
  · have hio : i = O.length := by
      have := of_decide_eq_false h; omega
    have hOM : mem T ng n mask = (B, O) := by
      rw [← hl, show n + 1 - i = (n - i) + 1 by omega, mLoop, if_neg (by show ¬ i < O.length; omega)]
    rw [hOM]
    (refine goes_exit ?_; refine fin_exit_then ?_; refine fin_exit_then ?_; refine fin_exit_eq ?_; refine fin_seq ?_; refine goes_seq ?_; refine goes_region ?_; apply run_step rfl; (exact stp_move rfl rfl); apply run_step rfl; (exact stp_assign rfl rfl); refine run_nil ?_; refine fin_seq ?_; refine goes_ret ?_)
    exact fin_ret1 (.inl rfl) rfl (.tmp rfl) ⟨rfl, trivial⟩ trivial
end Go.Proofs.Ytpjglifijdcgnaa

/- Coset enumeration: each generator leads back; words lead back after some times. No program in sight. -/
namespace Go.Proofs.Ytpjglifijdcgnaa

theorem root_root {less : List Int} (h : Down less) {c : Nat} (hc : c < less.length) : root less (root less c) = root less c := root_of (root_fix h c hc).1
theorem root_set {less : List Int} (h : Down less) {lo hi : Nat} (hlt : lo < hi) (hh : hi < less.length) (hl0 : iget less lo = (lo : Int)) (hh0 : iget less hi = (hi : Int)) : ∀ c, c < less.length → root (less.set hi (lo : Int)) c = if root less c = hi then lo else root less c := by
  have hd := down_set h (lo := lo) (hi := hi) (by omega)
  have hlo : iget (less.set hi (lo : Int)) lo = (lo : Int) := by rw [iget_set, if_neg (by omega)]; exact hl0
  intro c
  induction c using Nat.strongRecOn with
  | _ c ih =>
    intro hc
    by_cases e : iget less c = (c : Int)
    · rw [root_of e]
      by_cases e2 : c = hi
      · subst e2
        rw [if_pos rfl]
        have h1 : iget (less.set c (lo : Int)) c = (lo : Int) := by rw [iget_set, if_pos ⟨rfl, hh⟩]
        rw [root_step hd (by rw [List.length_set]; exact hc) (by rw [h1]; omega), h1, Int.toNat_natCast]
        exact root_of hlo
      · rw [if_neg e2]
        exact root_of (by rw [iget_set, if_neg (by omega)]; exact e)
    · have hb := h c hc
      have hne : c ≠ hi := fun e2 => by subst e2; exact e hh0
      have h1 : iget (less.set hi (lo : Int)) c = iget less c := by rw [iget_set, if_neg (by omega)]
      rw [root_step hd (by rw [List.length_set]; exact hc) (by rw [h1]; exact e), h1, root_step h hc e]
      exact ih _ (by omega) (by omega)
theorem root_app {less : List Int} (h : Down less) : ∀ c, c < less.length → root (less ++ [(less.length : Int)]) c = root less c := by
  have hd : Down (less ++ [(less.length : Int)]) := fun c hc => by
    by_cases e : c < less.length
    · rw [iget_app_lt e]; exact h c e
    · obtain rfl : c = less.length := by simp at hc; omega
      rw [iget_app_eq]; omega
  intro c
  induction c using Nat.strongRecOn with
  | _ c ih =>
    intro hc
    have h1 : iget (less ++ [(less.length : Int)]) c = iget less c := iget_app_lt hc
    by_cases e : iget less c = (c : Int)
    · rw [root_of e, root_of (h1.trans e)]
    · have hb := h c hc
      rw [root_step hd (by simp; omega) (by rw [h1]; exact e), h1, root_step h hc e]
      exact ih _ (by omega) (by omega)

/-- equal, as far as the identifications and the queue say -/
inductive Eqv (less : List Int) (q : List (Int × Int)) : Nat → Nat → Prop where
  | refl (a : Nat) : Eqv less q a a
  | symm {a b : Nat} (h : Eqv less q a b) : Eqv less q b a
  | trans {a b c : Nat} (h : Eqv less q a b) (k : Eqv less q b c) : Eqv less q a c
  | root (a : Nat) (h : a < less.length) : Eqv less q a (root less a)
  | pair (p : Int × Int) (h : p ∈ q) : Eqv less q p.1.toNat p.2.toNat
theorem Eqv.mono {less less' : List Int} {q q' : List (Int × Int)} (h1 : ∀ a, a < less.length → Eqv less' q' a (Proofs.Ytpjglifijdcgnaa.root less a)) (h2 : ∀ p ∈ q, Eqv less' q' p.1.toNat p.2.toNat) {a b : Nat} (h : Eqv less q a b) : Eqv less' q' a b := by
  induction h with
  | refl a => exact .refl a
  | symm _ ih => exact .symm ih
  | trans _ _ ih1 ih2 => exact .trans ih1 ih2
  | root a h => exact h1 a h
  | pair p h => exact h2 p h
theorem Eqv.root_eq {less : List Int} (hd : Down less) {a b : Nat} (h : Eqv less [] a b) : Proofs.Ytpjglifijdcgnaa.root less a = Proofs.Ytpjglifijdcgnaa.root less b := by
  induction h with
  | refl a => rfl
  | symm _ ih => exact ih.symm
  | trans _ _ ih1 ih2 => exact ih1.trans ih2
  | root a h => exact (root_root hd h).symm
  | pair p h => simp at h
/-- where a live coset leads, there its generator leads back -/
def Back (ng : Nat) (im : List (List Int)) (less : List Int) (q : List (Int × Int)) : Prop :=
  ∀ c g, c < less.length → iget less c = (c : Int) → g < ng → 0 ≤ ent im c g → 0 ≤ ent im (root less (ent im c g).toNat) g ∧ Eqv less q (ent im (root less (ent im c g).toNat) g).toNat c
theorem mergeUp_spec {ng lo hi : Nat} {im : List (List Int)} {less : List Int} {q : List (Int × Int)} (h : WF ng im less) (hlo : lo < im.length) (hne : lo ≠ hi) : ∀ g, g ≤ ng →
    (∀ c k, (c ≠ lo ∨ g ≤ k) → ent (mergeUp lo hi (im, q) g).1 c k = ent im c k) ∧ (∀ k, k < g → ent (mergeUp lo hi (im, q) g).1 lo k = if ent im hi k < 0 then ent im lo k else if 0 ≤ ent im lo k then ent im lo k else ent im hi k) ∧
    (∀ p ∈ q, p ∈ (mergeUp lo hi (im, q) g).2) ∧ (∀ k, k < g → 0 ≤ ent im hi k → 0 ≤ ent im lo k → (ent im hi k, ent im lo k) ∈ (mergeUp lo hi (im, q) g).2) ∧ ((mergeUp lo hi (im, q) g).1.length = im.length ∧ ∀ c, (lget (mergeUp lo hi (im, q) g).1 c).length = (lget im c).length)
  | 0, _ => ⟨fun _ _ _ => rfl, fun k hk => by omega, fun _ h => h, fun k hk => by omega, rfl, fun _ => rfl⟩
  | g + 1, hg => by
    obtain ⟨h1, h2, h3, h4, h5, h6⟩ := mergeUp_spec h hlo hne g (by omega) (q := q)
    have ehi : ent (mergeUp lo hi (im, q) g).1 hi g = ent im hi g := h1 hi g (.inl (fun e => hne e.symm))
    have elo : ent (mergeUp lo hi (im, q) g).1 lo g = ent im lo g := h1 lo g (.inr (Nat.le_refl _))
    simp only [mergeUp, stepG, ehi, elo]
    split
    · rename_i hn
      refine ⟨fun c k hk => h1 c k (hk.imp id fun h => by omega), fun k hk => ?_, h3, fun k hk a b => ?_, h5, h6⟩
      · by_cases e : k = g
        · subst e; rw [elo, if_pos hn]
        · exact h2 k (by omega)
      · by_cases e : k = g
        · subst e; omega
        · exact h4 k (by omega) a b
    · rename_i hn
      split
      · rename_i hp
        refine ⟨fun c k hk => h1 c k (hk.imp id fun h => by omega), fun k hk => ?_, fun p hp' => by simp [h3 p hp'], fun k hk a b => ?_, h5, h6⟩
        · by_cases e : k = g
          · subst e; rw [elo, if_neg hn, if_pos hp]
          · exact h2 k (by omega)
        · by_cases e : k = g
          · subst e; simp
          · simp [h4 k (by omega) a b]
      · rename_i hp
        have hlen : lo < (mergeUp lo hi (im, q) g).1.length := by rw [h5]; exact hlo
        have hrow : g < (lget (mergeUp lo hi (im, q) g).1 lo).length := by rw [h6, h.row lo hlo]; omega
        refine ⟨fun c k hk => ?_, fun k hk => ?_, h3, fun k hk a b => ?_, by rw [rset_len]; exact h5, fun c => by rw [rset_row]; exact h6 c⟩
        · dsimp only
          rw [ent_rset hlen hrow, if_neg (by rcases hk with hk | hk <;> omega)]
          exact h1 c k (hk.imp id fun h => by omega)
        · dsimp only
          rw [ent_rset hlen hrow]
          by_cases e : k = g
          · subst e; rw [if_pos ⟨rfl, rfl⟩, if_neg hn, if_neg hp]
          · rw [if_neg (by omega)]; exact h2 k (by omega)
        · by_cases e : k = g
          · subst e; omega
          · exact h4 k (by omega) a b
theorem Back.merge {ng lo hi : Nat} {im : List (List Int)} {less : List Int} {p : Int × Int} {q : List (Int × Int)} (h : WF ng im less) (hB : Back ng im less (p :: q)) (hp : p.1.toNat < less.length ∧ p.2.toNat < less.length) (hlt : lo < hi) (hhi : hi < less.length) (hl0 : iget less lo = (lo : Int)) (hh0 : iget less hi = (hi : Int))
    (hr : (root less p.1.toNat = lo ∧ root less p.2.toNat = hi) ∨ (root less p.1.toNat = hi ∧ root less p.2.toNat = lo)) : Back ng (mergeUp lo hi (im, q) ng).1 (less.set hi (lo : Int)) (mergeUp lo hi (im, q) ng).2 := by
  have hil : lo < im.length := by rw [h.len]; omega
  obtain ⟨m1, m2, m3, m4, _⟩ := mergeUp_spec (q := q) h hil (by omega : lo ≠ hi) ng (Nat.le_refl _)
  have hrs := root_set h.down hlt hhi hl0 hh0
  have hd := down_set h.down (lo := lo) (hi := hi) (by omega)
  generalize (mergeUp lo hi (im, q) ng).1 = im' at *
  generalize (mergeUp lo hi (im, q) ng).2 = q' at *
  have hlh : Eqv (less.set hi (lo : Int)) q' hi lo := by
    have := Eqv.root (less := less.set hi (lo : Int)) (q := q') hi (by rw [List.length_set]; exact hhi)
    rwa [hrs hi hhi, root_of hh0, if_pos rfl] at this
  have hroot : ∀ a, a < less.length → Eqv (less.set hi (lo : Int)) q' a (root less a) := fun a ha => by
    have := Eqv.root (less := less.set hi (lo : Int)) (q := q') a (by rw [List.length_set]; exact ha)
    rw [hrs a ha] at this
    by_cases e : root less a = hi
    · rw [if_pos e] at this; rw [e]; exact this.trans hlh.symm
    · rwa [if_neg e] at this
  have hmono : ∀ {a b : Nat}, Eqv less (p :: q) a b → Eqv (less.set hi (lo : Int)) q' a b := fun hab => by
    refine Eqv.mono hroot (fun x hx => ?_) hab
    rcases List.mem_cons.1 hx with rfl | hx
    · have k1 := hroot _ hp.1
      have k2 := hroot _ hp.2
      rcases hr with ⟨r1, r2⟩ | ⟨r1, r2⟩
      · rw [r1] at k1; rw [r2] at k2; exact k1.trans (hlh.symm.trans k2.symm)
      · rw [r1] at k1; rw [r2] at k2; exact k1.trans (hlh.trans k2.symm)
    · exact .pair x (m3 x hx)
  -- the row of lo now
  have elo : ∀ g, g < ng → (0 ≤ ent im lo g → ent im' lo g = ent im lo g) ∧ (0 ≤ ent im hi g → 0 ≤ ent im' lo g ∧ Eqv (less.set hi (lo : Int)) q' (ent im' lo g).toNat (ent im hi g).toNat) := fun g hg => by
    have e := m2 g hg
    refine ⟨fun h0 => ?_, fun h0 => ?_⟩
    · rw [e]; split <;> first | rfl | rw [if_pos h0]
    · by_cases h1 : 0 ≤ ent im lo g
      · rw [e, if_neg (by omega), if_pos h1]
        exact ⟨h1, (Eqv.pair _ (m4 g hg h0 h1)).symm⟩
      · rw [e, if_neg (by omega), if_neg h1]
        exact ⟨h0, .refl _⟩
  -- where a root's entry is now
  have key : ∀ r g, r < less.length → g < ng → 0 ≤ ent im r g → 0 ≤ ent im' (if r = hi then lo else r) g ∧ Eqv (less.set hi (lo : Int)) q' (ent im' (if r = hi then lo else r) g).toNat (ent im r g).toNat := fun r g hr' hg h0 => by
    by_cases e : r = hi
    · subst e; rw [if_pos rfl]; exact (elo g hg).2 h0
    · rw [if_neg e]
      by_cases e2 : r = lo
      · subst e2; rw [(elo g hg).1 h0]; exact ⟨h0, .refl _⟩
      · rw [m1 r g (.inl e2)]; exact ⟨h0, .refl _⟩
  intro c g hc hlive hg h0
  rw [List.length_set] at hc
  have hch : c ≠ hi := fun e => by subst e; rw [iget_set, if_pos ⟨rfl, hhi⟩] at hlive; omega
  have hlv : iget less c = (c : Int) := by rw [iget_set, if_neg (fun e => hch e.1.symm)] at hlive; exact hlive
  -- the entry comes of c itself, or of hi
  have src : (0 ≤ ent im c g ∧ ent im' c g = ent im c g) ∨ (c = lo ∧ ent im c g < 0 ∧ 0 ≤ ent im hi g ∧ ent im' c g = ent im hi g) := by
    by_cases e : c = lo
    · subst e
      have e' := m2 g hg
      by_cases h1 : 0 ≤ ent im c g
      · exact .inl ⟨h1, (elo g hg).1 h1⟩
      · right
        rw [e'] at h0 ⊢
        split at h0
        · omega
        · rename_i h2
          rw [if_neg h2, if_neg h1]
          exact ⟨rfl, by omega, by omega, rfl⟩
    · rw [m1 c g (.inl e)] at h0
      exact .inl ⟨h0, m1 c g (.inl e)⟩
  have hcl : c < im.length := by rw [h.len]; exact hc
  rcases src with ⟨h1, h2⟩ | ⟨rfl, h1, h2, h3⟩
  · rw [h2]
    obtain ⟨k1, k2⟩ := hB c g hc hlv hg h1
    have hel := h.ent c g hcl hg
    have hrl := root_lt h.down (c := (ent im c g).toNat) (by omega)
    rw [hrs _ (by omega)]
    obtain ⟨k3, k4⟩ := key _ g hrl hg k1
    exact ⟨k3, k4.trans (hmono k2)⟩
  · rw [h3]
    obtain ⟨k1, k2⟩ := hB hi g hhi hh0 hg h2
    have hel := h.ent hi g (by rw [h.len]; exact hhi) hg
    have hrl := root_lt h.down (c := (ent im hi g).toNat) (by omega)
    rw [hrs _ (by omega)]
    obtain ⟨k3, k4⟩ := key _ g hrl hg k1
    exact ⟨k3, (k4.trans (hmono k2)).trans hlh⟩
theorem Back.less_q {ng : Nat} {im : List (List Int)} {less : List Int} {q q' : List (Int × Int)} (hB : Back ng im less q) (hq : ∀ p ∈ q, Eqv less q' p.1.toNat p.2.toNat) : Back ng im less q' := fun c g hc hl hg h0 => by
  obtain ⟨k1, k2⟩ := hB c g hc hl hg h0
  exact ⟨k1, k2.mono (fun a ha => .root a ha) hq⟩
theorem identLoop_back {ng n : Nat} : ∀ (f : Nat) (im : List (List Int)) (less : List Int) (q : List (Int × Int)), WF ng im less → less.length = n → QOK n q → fuel ng less q ≤ f → Back ng im less q → Back ng (identLoop ng f im less q).1 (identLoop ng f im less q).2 []
  | 0, im, less, q, h, hn, hq, hf, hB => by
    have : q = [] := List.eq_nil_of_length_eq_zero (by unfold fuel at hf; omega)
    subst this; exact hB
  | f + 1, im, less, [], h, hn, hq, hf, hB => hB
  | f + 1, im, less, p :: q, h, hn, hq, hf, hB => by
    have hp := hq p (by simp)
    have hq' : QOK less.length q := fun x hx => hn ▸ hq x (by simp [hx])
    have hr1 := root_fix h.down p.1.toNat (by omega)
    have hr2 := root_fix h.down p.2.toNat (by omega)
    have hfu : fuel ng less (p :: q) = fuel ng less q + 1 := by unfold fuel; simp; omega
    simp only [identLoop]
    split
    · rename_i he
      refine identLoop_back f im less q h hn (fun x hx => hq x (by simp [hx])) (by omega) (hB.less_q fun x hx => ?_)
      rcases List.mem_cons.1 hx with rfl | hx
      · have k1 := Eqv.root (less := less) (q := q) x.1.toNat (by omega)
        have k2 := Eqv.root (less := less) (q := q) x.2.toNat (by omega)
        rw [he] at k1; exact k1.trans k2.symm
      · exact .pair x hx
    · rename_i hne
      have hid := ident_merge h (hn ▸ hq) hne
      unfold mergeSt at hid
      obtain ⟨_, w1, w2, w3⟩ := hid
      have hroots : iget less (min (root less p.1.toNat) (root less p.2.toNat)) = ((min (root less p.1.toNat) (root less p.2.toNat) : Nat) : Int) ∧ iget less (max (root less p.1.toNat) (root less p.2.toNat)) = ((max (root less p.1.toNat) (root less p.2.toNat) : Nat) : Int) := by
        rcases Nat.le_total (root less p.1.toNat) (root less p.2.toNat) with h5 | h5
        · rw [Nat.min_eq_left h5, Nat.max_eq_right h5]; exact ⟨hr1.1, hr2.1⟩
        · rw [Nat.min_eq_right h5, Nat.max_eq_left h5]; exact ⟨hr2.1, hr1.1⟩
      have hbk := hB.merge h (by omega) (lo := min (root less p.1.toNat) (root less p.2.toNat)) (hi := max (root less p.1.toNat) (root less p.2.toNat)) (by omega) (by omega) hroots.1 hroots.2 (by
        rcases Nat.le_total (root less p.1.toNat) (root less p.2.toNat) with h5 | h5
        · left; rw [Nat.min_eq_left h5, Nat.max_eq_right h5]; exact ⟨rfl, rfl⟩
        · right; rw [Nat.min_eq_right h5, Nat.max_eq_left h5]; exact ⟨rfl, rfl⟩)
      exact identLoop_back f _ _ _ w1 (by rw [List.length_set]; exact hn) (hn ▸ w2) (by omega) hbk
theorem ident_back {ng : Nat} {im : List (List Int)} {less : List Int} {p : Int × Int} (h : WF ng im less) (hq : QOK less.length [p]) (hB : Back ng im less []) : Back ng (ident ng im less [p]).1 (ident ng im less [p]).2 [] :=
  identLoop_back _ im less [p] h rfl hq (Nat.le_refl _) (hB.less_q fun x hx => by simp at hx)

section
variable {ng : Nat} {im : List (List Int)} {less : List Int}
theorem Back.fix (hB : Back ng im less []) (h : WF ng im less) {c g : Nat} (hc : c < less.length) (hl : iget less c = (c : Int)) (hg : g < ng) (h0 : 0 ≤ ent im c g) : 0 ≤ ent im (root less (ent im c g).toNat) g ∧ root less (ent im (root less (ent im c g).toNat) g).toNat = c := by
  obtain ⟨k1, k2⟩ := hB c g hc hl hg h0
  exact ⟨k1, (k2.root_eq h.down).trans (root_of hl)⟩
theorem Back.of (h : ∀ c g, c < less.length → iget less c = (c : Int) → g < ng → 0 ≤ ent im c g → 0 ≤ ent im (root less (ent im c g).toNat) g ∧ root less (ent im (root less (ent im c g).toNat) g).toNat = c) (hw : WF ng im less) : Back ng im less [] := fun c g hc hl hg h0 => by
  obtain ⟨k1, k2⟩ := h c g hc hl hg h0
  refine ⟨k1, ?_⟩
  have he := hw.ent c g (by rw [hw.len]; exact hc) hg
  have hrl := root_lt hw.down (c := (ent im c g).toNat) (by omega)
  have he2 := hw.ent (root less (ent im c g).toNat) g (by rw [hw.len]; exact hrl) hg
  have := Eqv.root (less := less) (q := []) (ent im (root less (ent im c g).toNat) g).toNat (by omega)
  rwa [k2] at this
/-- two cosets become images of each other -/
theorem Back.link (hB : Back ng im less []) (hw : WF ng im less) {c d g : Nat} (hc : c < less.length) (hd : d < less.length) (hlc : iget less c = (c : Int)) (hld : iget less d = (d : Int)) (hg : g < ng) (h1 : ent im c g < 0) (h2 : ent im d g < 0) : Back ng (rset (rset im d g (c : Int)) c g (d : Int)) less [] := by
  have hl := hw.len
  have w1 := hw.set_im (c := d) (g := g) (z := (c : Int)) (by omega) hg (by omega)
  have w2 := w1.set_im (c := c) (g := g) (z := (d : Int)) (by rw [rset_len]; omega) hg (by omega)
  have ee : ∀ a k, ent (rset (rset im d g (c : Int)) c g (d : Int)) a k = if c = a ∧ g = k then (d : Int) else if d = a ∧ g = k then (c : Int) else ent im a k := fun a k => by
    rw [ent_rset (by rw [rset_len]; omega) (by rw [rset_row, hw.row c (by omega)]; exact hg), ent_rset (by omega) (by rw [hw.row d (by omega)]; exact hg)]
  refine Back.of (fun a k ha hla hk h0 => ?_) w2
  have e0 := ee a k
  by_cases e1 : c = a ∧ g = k
  · obtain ⟨rfl, rfl⟩ := e1
    rw [if_pos ⟨rfl, rfl⟩] at e0
    rw [e0, Int.toNat_natCast, root_of hld]
    have e3 := ee d g
    by_cases e2 : c = d
    · subst e2; rw [if_pos ⟨rfl, rfl⟩] at e3; rw [e3, Int.toNat_natCast]; exact ⟨by omega, root_of hlc⟩
    · rw [if_neg (fun h => e2 h.1), if_pos ⟨rfl, rfl⟩] at e3; rw [e3, Int.toNat_natCast]; exact ⟨by omega, root_of hlc⟩
  · rw [if_neg e1] at e0
    by_cases e2 : d = a ∧ g = k
    · obtain ⟨rfl, rfl⟩ := e2
      rw [if_pos ⟨rfl, rfl⟩] at e0
      rw [e0, Int.toNat_natCast, root_of hlc]
      have e3 := ee c g
      rw [if_pos ⟨rfl, rfl⟩] at e3
      rw [e3, Int.toNat_natCast]; exact ⟨by omega, root_of hld⟩
    · rw [if_neg e2] at e0
      rw [e0] at h0 ⊢
      obtain ⟨k1, k2⟩ := hB.fix hw ha hla hk h0
      have n1 : ¬ (c = root less (ent im a k).toNat ∧ g = k) := fun h => by rw [← h.1, ← h.2] at k1; omega
      have n2 : ¬ (d = root less (ent im a k).toNat ∧ g = k) := fun h => by rw [← h.1, ← h.2] at k1; omega
      have e3 := ee (root less (ent im a k).toNat) k
      rw [if_neg n1, if_neg n2] at e3
      rw [e3]
      exact ⟨k1, k2⟩
theorem Back.app (hB : Back ng im less []) (hw : WF ng im less) : Back ng (im ++ [List.replicate ng (-1)]) (less ++ [(less.length : Int)]) [] := by
  have hl := hw.len
  have hra := root_app hw.down
  refine Back.of (fun a k ha hla hk h0 => ?_) hw.app
  by_cases e : a < less.length
  · have e1 : ∀ b, b < less.length → ent (im ++ [List.replicate ng (-1)]) b k = ent im b k := fun b hb => by unfold ent; rw [lget_app_lt (by omega)]
    rw [e1 a e] at h0 ⊢
    rw [iget_app_lt e] at hla
    obtain ⟨k1, k2⟩ := hB.fix hw e hla hk h0
    have he := hw.ent a k (by omega) hk
    have hrl := root_lt hw.down (c := (ent im a k).toNat) (by omega)
    have he2 := hw.ent (root less (ent im a k).toNat) k (by omega) hk
    rw [hra _ (by omega), e1 _ hrl, hra _ (by omega)]
    exact ⟨k1, k2⟩
  · obtain rfl : a = less.length := by simp at ha; omega
    exfalso
    unfold ent at h0
    rw [← hl, lget_app_eq, iget_rep hk] at h0
    omega
theorem Back.next (hB : Back ng im less []) (hw : WF ng im less) {c g : Nat} (hc : c < less.length) (hlc : iget less c = (c : Int)) (hg : g < ng) (hn : less.length ≤ 2000) :
    Back ng (nextC ng im less c g).1 (nextC ng im less c g).2.1 [] ∧ ((nextC ng im less c g).2.2.1 = false → iget (nextC ng im less c g).2.1 (nextC ng im less c g).2.2.2 = ((nextC ng im less c g).2.2.2 : Int)) ∧ (∀ a, a < less.length → iget (nextC ng im less c g).2.1 a = iget less a) := by
  unfold nextC
  split
  · rename_i h0
    have he := hw.ent c g (by rw [hw.len]; exact hc) hg
    exact ⟨hB, fun _ => (root_fix hw.down _ (by omega)).1, fun _ _ => rfl⟩
  · rename_i h0
    split
    · exact ⟨hB, (fun h => nomatch h), fun _ _ => rfl⟩
    · have hl := hw.len
      have b1 := hB.app hw
      have w1 := hw.app
      refine ⟨?_, fun _ => iget_app_eq, fun a ha => iget_app_lt ha⟩
      have hcc : c < (less ++ [(less.length : Int)]).length := by simp; omega
      have := b1.link w1 (c := less.length) (d := c) (g := g) (by simp) hcc iget_app_eq (by rw [iget_app_lt hc]; exact hlc) hg (by unfold ent; rw [← hl, lget_app_eq, iget_rep hg]; omega) (by unfold ent at h0 ⊢; rw [lget_app_lt (by omega)]; omega)
      exact this
end
theorem goC_back {ng n0 : Nat} : ∀ (w : List Nat) (s : List (List Int) × List Int × Bool × Nat), GoOK ng n0 s → Back ng s.1 s.2.1 [] → (s.2.2.1 = false → iget s.2.1 s.2.2.2 = (s.2.2.2 : Int)) → (∀ g ∈ w, g < ng) →
    Back ng (goC ng s w).1 (goC ng s w).2.1 [] ∧ ((goC ng s w).2.2.1 = false → iget (goC ng s w).2.1 (goC ng s w).2.2.2 = ((goC ng s w).2.2.2 : Int)) ∧ (∀ a, a < s.2.1.length → iget (goC ng s w).2.1 a = iget s.2.1 a)
  | [], s, h, hB, hl, _ => ⟨hB, hl, fun _ _ => rfl⟩
  | g :: r, s, h, hB, hl, hg => by
    unfold goC
    split
    · exact ⟨hB, hl, fun _ _ => rfl⟩
    · rename_i hf
      obtain ⟨b1, b2, b3⟩ := hB.next h.wf h.d (hl (by simpa using hf)) (hg g (by simp)) h.hi
      obtain ⟨h1, h2, h3, h4, _⟩ := nextC_ok h.wf h.d (hg g (by simp)) h.hi
      obtain ⟨c1, c2, c3⟩ := goC_back (n0 := n0) r _ ⟨h1, Nat.le_trans h.lo h2, h3, h4⟩ b1 b2 fun x hx => hg x (by simp [hx])
      exact ⟨c1, c2, fun a ha => (c3 a (by omega)).trans (b3 a ha)⟩
theorem closeC_back {ng : Nat} {im : List (List Int)} {less : List Int} {c : Nat} {w : List Nat} (h : WF ng im less) (hB : Back ng im less []) (hc : c < less.length) (hl : iget less c = (c : Int)) (hn : less.length ≤ 2000) (hg : ∀ g ∈ w, g < ng) : Back ng (closeC ng im less c w).1 (closeC ng im less c w).2.1 [] := by
  unfold closeC
  cases hw : w.getLast? with
  | none => exact hB
  | some g =>
    have hgl : g < ng := hg g (List.mem_of_getLast? hw)
    have ok := goC_ok (n0 := less.length) w.dropLast (im, less, false, c) ⟨h, Nat.le_refl _, hn, hc⟩ fun x hx => hg x (List.dropLast_subset _ hx)
    obtain ⟨b1, b2, b3⟩ := goC_back (n0 := less.length) w.dropLast (im, less, false, c) ⟨h, Nat.le_refl _, hn, hc⟩ hB (fun _ => hl) fun x hx => hg x (List.dropLast_subset _ hx)
    generalize goC ng (im, less, false, c) w.dropLast = s at *
    have hcs : c < s.2.1.length := Nat.lt_of_lt_of_le hc ok.lo
    have hlc : iget s.2.1 c = (c : Int) := (b3 c hc).trans hl
    dsimp only
    split
    · exact b1
    · rename_i hf
      have e1 := image_lt ok.wf ok.d hgl
      have e2 := image_lt ok.wf hcs hgl
      have hd := ok.d
      split
      · rename_i he
        exact ident_back ok.wf (fun p hp => by simp at hp; subst hp; exact ⟨⟨he, e1⟩, by omega, by dsimp only; omega⟩) b1
      · rename_i he
        split
        · rename_i hf
          exact ident_back ok.wf (fun p hp => by simp at hp; subst hp; exact ⟨⟨hf, e2⟩, by omega, by dsimp only; omega⟩) b1
        · rename_i hf2
          refine b1.link ok.wf hcs hd hlc (b2 (by simpa using hf)) hgl ?_ ?_
          · unfold image at hf2; split at hf2 <;> omega
          · unfold image at he; split at he <;> omega
/-- well formed, and generators lead back -/
def BK (ng n : Nat) (s : CSt) : Prop := CloseOK ng n s ∧ Back ng s.1 s.2.1 []
theorem close0_back {ng n : Nat} {s : CSt} {w : List Int} (h : BK ng n s) (hn : 0 < n) (hw : Letters ng w) : BK ng n (close0 ng s w) := by
  refine ⟨close0_ok h.1 hn hw, ?_⟩
  have h0 : 0 < s.2.1.length := Nat.lt_of_lt_of_le hn h.1.lo
  unfold close0
  split
  · exact h.2
  · exact closeC_back h.1.wf h.2 h0 (by have := h.1.wf.down 0 h0; omega) h.1.hi hw.nat
theorem close1_back {ng n c : Nat} {s : CSt} {w : List Int} (h : BK ng n s) (hn : c < n) (hw : Letters ng w) : BK ng n (close1 ng c s w) := by
  refine ⟨close1_ok h.1 hn hw, ?_⟩
  unfold close1
  split
  · rename_i hl
    exact closeC_back h.1.wf h.2 (Nat.lt_of_lt_of_le hn h.1.lo) (by unfold liveC at hl; simp at hl; exact hl.1) h.1.hi hw.nat
  · exact h.2
theorem next1_back {ng n c g : Nat} {s : CSt} (h : BK ng n s) (hn : c < n) (hg : g < ng) : BK ng n (next1 ng c s g) := by
  refine ⟨next1_ok h.1 hn hg, ?_⟩
  unfold next1
  split
  · rename_i hl
    exact (h.2.next h.1.wf (Nat.lt_of_lt_of_le hn h.1.lo) (by unfold liveC at hl; simp at hl; exact hl.1) hg h.1.hi).1
  · exact h.2
theorem foldl_back {α : Type} {ng n : Nat} {f : CSt → α → CSt} {p : α → Prop} (hf : ∀ s x, BK ng n s → p x → BK ng n (f s x)) : ∀ (l : List α) (s : CSt), BK ng n s → (∀ x ∈ l, p x) → BK ng n (l.foldl f s)
  | [], s, h, _ => h
  | x :: r, s, h, hp => foldl_back hf r _ (hf s x h (hp x (by simp))) fun y hy => hp y (by simp [hy])
theorem coset1_back {ng n c : Nat} {rels : List (List Int)} {s : CSt} (h : BK ng n s) (hn : c < n) (hr : ∀ w ∈ rels, Letters ng w) : BK ng n (coset1 ng rels c s) :=
  foldl_back (p := fun g => g < ng) (fun s g h hg => next1_back h hn hg) _ _ (foldl_back (p := Letters ng) (fun s w h hw => close1_back h hn hw) _ _ h hr) fun g hg => List.mem_range.1 hg
theorem outer_back {ng n : Nat} {rels : List (List Int)} (hr : ∀ w ∈ rels, Letters ng w) : ∀ (f c : Nat) (s : CSt), BK ng n s → BK ng n (outer ng rels f c s)
  | 0, _, s, h => h
  | f + 1, c, s, h => by
    unfold outer
    split
    · rename_i hc
      have := coset1_back (n := s.2.1.length) ⟨⟨h.1.wf, Nat.le_refl _, h.1.hi⟩, h.2⟩ hc.1 hr
      exact outer_back hr f _ _ ⟨this.1.le h.1.lo, this.2⟩
    · exact h
theorem startC_back (ng : Nat) : BK ng 1 (startC ng) := ⟨startC_ok ng, fun c g hc _ hg h0 => by
  exfalso
  obtain rfl : c = 0 := by simp [startC] at hc; omega
  simp [startC, ent, lget, iget, hg] at h0⟩
theorem runC_back {ng : Nat} {rels words : List (List Int)} (hr : ∀ w ∈ rels, Letters ng w) (hw : ∀ w ∈ words, Letters ng w) : BK ng 1 (runC ng rels words) :=
  outer_back hr _ _ _ (foldl_back (p := Letters ng) (fun s w h hw => close0_back h (by omega) hw) _ _ (startC_back ng) hw)
theorem image_back {ng : Nat} {im : List (List Int)} {less : List Int} (hF : Full ng im less) (hB : Back ng im less []) {c g : Nat} (hc : c < less.length) (hl : iget less c = (c : Int)) (hg : g < ng) : image im less (image im less c g).toNat g = (c : Int) := by
  have h0 := hF.full c hc hl g hg
  obtain ⟨k1, k2⟩ := hB.fix hF.wf hc hl hg h0
  have e : image im less c g = (root less (ent im c g).toNat : Nat) := by unfold image; rw [if_neg (by omega)]
  rw [e, Int.toNat_natCast]
  unfold image
  rw [if_neg (by omega), k2]

/-- the numbers lead back to the cosets -/
def NBack (n : Nat) (s : NSt) : Prop := ∀ d, d < n → 0 ≤ iget s.2 d → iget s.1 (iget s.2 d).toNat = (d : Int)
theorem visit_nback {n : Nat} {less : List Int} {s : NSt} {d : Nat} (h : TOK n less s) (hb : NBack n s) (hd : d < n) : NBack n (visit s d) := by
  unfold visit
  split
  · rename_i hn
    intro e he h0
    dsimp only at h0 ⊢
    rw [iget_set] at h0 ⊢
    split
    · rename_i h1; rw [Int.toNat_natCast, iget_app_eq, h1.1]
    · rename_i h1
      rw [if_neg h1] at h0
      rw [iget_app_lt (by have := h.num e he h0; omega)]
      exact hb e he h0
  · exact hb
theorem row_nback {ng : Nat} {im : List (List Int)} {less : List Int} (hF : Full ng im less) {i : Nat} {s : NSt} (h : TOK less.length less s) (hb : NBack less.length s) (hi : i < s.1.length) : ∀ m, m ≤ ng → NBack less.length ((List.range m).foldl (visitG im less i) s)
  | 0, _ => hb
  | m + 1, hm => by
    have ih := row_nback hF h hb hi m (by omega)
    obtain ⟨h1, h2, _⟩ := tabRow_ok hF h hi m (by omega)
    rw [List.range_succ, List.foldl_append]
    generalize (List.range m).foldl (visitG im less i) s = t at *
    obtain ⟨d, k1, k2, k3, _⟩ := h1.live i (Nat.lt_of_lt_of_le hi h2.len)
    obtain ⟨e, e1, e2, _⟩ := hF.image k2 k3 (g := m) (by omega)
    show NBack less.length (visitG im less i t m)
    unfold visitG
    rw [k1, Int.toNat_natCast, e1, Int.toNat_natCast]
    exact visit_nback h1 ih e2
theorem loop_nback {ng : Nat} {im : List (List Int)} {less : List Int} (hF : Full ng im less) : ∀ (f i : Nat) (s : NSt), TOK less.length less s → NBack less.length s → NBack less.length (tabLoop ng im less f i s)
  | 0, i, s, _, hb => hb
  | f + 1, i, s, h, hb => by
    unfold tabLoop
    split
    · rename_i hlt
      exact loop_nback hF f (i + 1) _ (tabRow_ok hF h hlt ng (Nat.le_refl _)).1 (row_nback hF h hb hlt ng (Nat.le_refl _))
    · exact hb
theorem numbered_nback {ng : Nat} {im : List (List Int)} {less : List Int} (hF : Full ng im less) : NBack less.length (numbered ng im less) :=
  loop_nback hF _ _ _ (tabStart_ok hF) fun d hd h0 => by
    have hp := hF.pos
    have h0 : 0 ≤ iget ((List.replicate less.length (-1)).set 0 0) d := h0
    show iget [0] (iget ((List.replicate less.length (-1)).set 0 0) d).toNat = _
    rw [iget_set] at h0 ⊢
    split
    · rename_i h1; rw [← h1.1]; rfl
    · rename_i h1; rw [if_neg h1, iget_rep hd] at h0; omega
/-- the entry of the table -/
def tEnt (ng : Nat) (im : List (List Int)) (less : List Int) (k g : Nat) : Int := iget (numbered ng im less).2 (image im less (iget (numbered ng im less).1 k).toNat g).toNat
theorem tEnt_back {ng : Nat} {im : List (List Int)} {less : List Int} (hF : Full ng im less) (hB : Back ng im less []) {k g : Nat} (hk : k < (numbered ng im less).1.length) (hg : g < ng) : tEnt ng im less (tEnt ng im less k g).toNat g = (k : Int) := by
  obtain ⟨h, hs⟩ := numbered_ok hF
  obtain ⟨d, h1, h2, h3, h4⟩ := h.live k hk
  obtain ⟨e, e1, e2, e3⟩ := hF.image h2 h3 hg
  have h0 := hs k hk g hg
  have hn := numbered_nback hF e e2
  have hi := image_back hF hB h2 h3 hg
  unfold tEnt
  rw [h1, Int.toNat_natCast, e1, Int.toNat_natCast] at h0 ⊢
  rw [e1, Int.toNat_natCast] at hi
  rw [hn h0, Int.toNat_natCast, hi, Int.toNat_natCast, h4]
end Go.Proofs.Ytpjglifijdcgnaa

/- Orders of words: l11Order, periodOf; OrderOfElement. -/
namespace Go.Proofs.Ytpjglifijdcgnaa
open Go.RowKit

/-- each list of the table is its own inverse -/
def Invol (T : List (List Int)) (m : Nat) : Prop := ∀ g, g < T.length → ∀ x, x < m → iget (lget T g) (iget (lget T g) x).toNat = (x : Int)
theorem leadL_inj {T : List (List Int)} {m : Nat} (hT : Leads T m) (hI : Invol T m) : ∀ (W : List Int), (∀ z ∈ W, 0 ≤ z ∧ z < T.length) → ∀ x y : Int, 0 ≤ x ∧ x < m → 0 ≤ y ∧ y < m → leadL T x W = leadL T y W → x = y
  | [], _, x, y, _, _, h => h
  | g :: r, hW, x, y, hx, hy, h => by
    have hg := hW g (by simp)
    have e := leadL_inj hT hI r (fun z hz => hW z (by simp [hz])) (iget (lget T g.toNat) x.toNat) (iget (lget T g.toNat) y.toNat) (hT.within g.toNat (by omega) x.toNat (by omega)) (hT.within g.toNat (by omega) y.toNat (by omega)) h
    have e1 := hI g.toNat (by omega) x.toNat (by omega)
    have e2 := hI g.toNat (by omega) y.toNat (by omega)
    rw [e] at e1
    omega
/-- where a word leads 0, k times -/
def orbN (T : List (List Int)) (W : List Int) : Nat → Nat
  | 0 => 0
  | k + 1 => (leadL T (orbN T W k : Nat) W).toNat
section
variable {T : List (List Int)} {W : List Int} {m : Nat}
theorem orbN_lt (hT : Leads T m) (hm : 0 < m) (hW : ∀ z ∈ W, 0 ≤ z ∧ z < T.length) : ∀ k, orbN T W k < m
  | 0 => hm
  | k + 1 => by
    have := orbN_lt hT hm hW k
    have := hT.lead (c := (orbN T W k : Nat)) (by omega) hW
    unfold orbN; omega
theorem orbN_lead (hT : Leads T m) (hm : 0 < m) (hW : ∀ z ∈ W, 0 ≤ z ∧ z < T.length) (k : Nat) : leadL T (orbN T W k : Nat) W = (orbN T W (k + 1) : Nat) := by
  have := orbN_lt hT hm hW k
  have := hT.lead (c := (orbN T W k : Nat)) (by omega) hW
  show _ = (((leadL T (orbN T W k : Nat) W).toNat : Nat) : Int)
  omega
theorem orbN_back (hT : Leads T m) (hI : Invol T m) (hm : 0 < m) (hW : ∀ z ∈ W, 0 ≤ z ∧ z < T.length) : ∀ i d, orbN T W i = orbN T W (i + d) → orbN T W d = 0
  | 0, d, h => by rw [Nat.zero_add] at h; exact h.symm
  | i + 1, d, h => by
    have h1 := orbN_lt hT hm hW i
    have h2 := orbN_lt hT hm hW (i + d)
    have e : leadL T (orbN T W i : Nat) W = leadL T (orbN T W (i + d) : Nat) W := by
      rw [orbN_lead hT hm hW, orbN_lead hT hm hW, h, show i + d + 1 = i + 1 + d by omega]
    have := leadL_inj hT hI W hW _ _ (by omega) (by omega) e
    exact orbN_back hT hI hm hW i d (by omega)
end
theorem pigeon : ∀ (m n : Nat) (f : Nat → Nat), (∀ i, i < n → f i < m) → (∀ i j, i < n → j < n → f i = f j → i = j) → n ≤ m
  | 0, n, f, h, _ => by
    rcases Nat.eq_zero_or_pos n with e | e
    · omega
    · have := h 0 e; omega
  | m + 1, 0, f, _, _ => Nat.zero_le _
  | m + 1, n + 1, f, h, hi => by
    have := pigeon m n (fun i => if f i = m then f n else f i) (fun i hin => by
      have h1 := h i (by omega)
      have h2 := h n (by omega)
      have h3 := hi i n (by omega) (by omega)
      split <;> omega) (fun i j hin hjn e => by
      have h3 := hi i n (by omega) (by omega)
      have h4 := hi j n (by omega) (by omega)
      have h5 := hi i j (by omega) (by omega)
      split at e <;> split at e <;> omega)
    omega
def ordR (T : List (List Int)) (W : List Int) (m : Nat) : Int := match (List.range m).find? (fun k => orbN T W (k + 1) == 0) with
  | some k => ((k + 1 : Nat) : Int)
  | none => 0
theorem ord_spec {T : List (List Int)} {W : List Int} {m : Nat} (hT : Leads T m) (hI : Invol T m) (hm : 0 < m) (hW : ∀ z ∈ W, 0 ≤ z ∧ z < T.length) : ∃ p : Nat, ordR T W m = (p : Int) ∧ 1 ≤ p ∧ p ≤ m ∧ orbN T W p = 0 ∧ ∀ j, 1 ≤ j → j < p → orbN T W j ≠ 0 := by
  unfold ordR
  cases hf : (List.range m).find? (fun k => orbN T W (k + 1) == 0) with
  | some k =>
    rw [List.find?_range_eq_some] at hf
    obtain ⟨h1, h2, h3⟩ := hf
    rw [List.mem_range] at h2
    refine ⟨k + 1, rfl, by omega, by omega, by simpa using h1, fun j hj hjk => ?_⟩
    have := h3 (j - 1) (by omega)
    rw [show j - 1 + 1 = j by omega] at this
    simpa using this
  | none =>
    exfalso
    rw [List.find?_eq_none] at hf
    have hne : ∀ d, 1 ≤ d → d ≤ m → orbN T W d ≠ 0 := fun d h1 h2 => by
      have := hf (d - 1) (List.mem_range.2 (by omega))
      rw [show d - 1 + 1 = d by omega] at this
      simpa using this
    have := pigeon m (m + 1) (orbN T W) (fun i _ => orbN_lt hT hm hW i) (fun i j hi hj e => by
      rcases Nat.lt_trichotomy i j with h | h | h
      · exact absurd (orbN_back hT hI hm hW i (j - i) (by rw [show i + (j - i) = j by omega]; exact e)) (hne _ (by omega) (by omega))
      · exact h
      · exact absurd (orbN_back hT hI hm hW j (i - j) (by rw [show j + (i - j) = i by omega]; exact e.symm)) (hne _ (by omega) (by omega)))
    omega
theorem cosTab_invol {ng : Nat} {rels ws : List (List Int)} (h : Good ng rels ws) (hf : (runC ng rels ws).2.2 = false) : Invol (cosTab ((ng : Int), rels) ws) (cosN ((ng : Int), rels) ws) := fun k hk x hx => by
  rw [cosTab_len] at hk
  have hF := full_run h.rl h.wl hf
  rw [cosTab_nat]
  rw [cosN_nat] at hx
  have hr := tableC_entry hF hx hk
  have hb := tEnt_back hF (runC_back h.rl h.wl).2 hx hk
  have he : ∀ y, y < (numbered ng (runC ng rels ws).1 (runC ng rels ws).2.1).1.length → iget (lget (tableC ng (runC ng rels ws).1 (runC ng rels ws).2.1) k) y = tEnt ng (runC ng rels ws).1 (runC ng rels ws).2.1 y k := fun y hy => by
    simp [tableC, lget, iget, hk, hy, tEnt]
  have hr : 0 ≤ tEnt ng (runC ng rels ws).1 (runC ng rels ws).2.1 x k ∧ tEnt ng (runC ng rels ws).1 (runC ng rels ws).2.1 x k < _ := hr
  rw [he x hx, he _ (by omega)]
  exact hb

set_option maxRecDepth 100000 in
set_option maxHeartbeats 1000000 in
theorem specOrder_fc (T : List (List Int)) (W : List Int) (m n : Nat) (hn : T.length = n) (hT : Leads T m) (hI : Invol T m) (hm : 0 < m) (hm4 : m ≤ 1000000) (hn4 : n ≤ 1000000) (hW : ∀ z ∈ W, 0 ≤ z ∧ z < T.length) (hWl : W.length ≤ 1000000000) :
    FC Try.prog 57 [(1005, imRo T), (1004, wRo W)] [o1 (.sl 1005 0 n), o1 (.sl 1004 0 W.length)] [] (vv (I6 (ordR T W m))) [] := by
  obtain ⟨p, hp0, hp1, hp2, hp3, hp4⟩ := ord_spec hT hI hm hW
  have hL : ∀ k, FC Try.prog 54 [(1005, imRo T), (1004, wRo W)] [o1 (.sl 1005 0 n), vv (I6 (orbN T W k : Nat)), o1 (.sl 1004 0 W.length)] [] (vv (I6 (orbN T W (k + 1) : Nat))) [] := fun k => by
    have := specLead_fc T W (orbN T W k) m n hn hT (orbN_lt hT hm hW k) hm4 hn4 hW hWl
    rwa [orbN_lead hT hm hW] at this
  have hL0 : FC Try.prog 54 [(1005, imRo T), (1004, wRo W)] [o1 (.sl 1005 0 n), vv (I6 0), o1 (.sl 1004 0 W.length)] [] (vv (I6 (orbN T W 1 : Nat))) [] := hL 0
  refine fc_enter (nt := 19) Try.func57 rfl rfl (by simp) fun w0 ω0 => ?_
  (refine goes_seq ?_; refine goes_region ?_; apply run_step rfl; (exact stp_assign rfl rfl); refine run_nil ?_; refine fin_seq ?_; refine goes_seq ?_; refine goes_region ?_; apply run_step rfl; (exact stp_assign rfl rfl); refine run_nil ?_; refine fin_seq ?_; refine goes_seq ?_; refine goes_seq ?_; refine goes_region ?_; apply run_step rfl; (exact stp_move rfl rfl); apply run_step rfl; (exact stp_move rfl rfl); apply run_step rfl; (apply call_gate 54; exact stp_callR hL0 (by as_aux_lemma => kernel_rfl) rfl rfl ⟨rfl, rfl, rfl, trivial⟩ ⟨⟨_, rfl, .inl rfl⟩, ⟨_, rfl, .inl rfl⟩, trivial⟩ rfl rfl); apply run_step rfl; (exact stp_assign rfl rfl); refine run_nil ?_; refine fin_seq ?_; refine goes_block ?_)
  refine goes_loop (fun k : Nat => St.of [(0, o1 (.sl 1005 0 n)), (1, o1 (.sl 1004 0 W.length)), (5, vv (I6 (k : Nat))), (6, vv (I6 (orbN T W k : Nat)))] [(1005, imRo T), (1004, wRo W)]) (fun k => 1 ≤ k ∧ k ≤ p) (fun k => p - k) 1 ⟨Nat.le_refl _, hp1⟩ (Wk.of ⟨rfl, rfl, rfl, rfl, trivial⟩ ⟨rfl, rfl, trivial⟩ trivial) ?_
  rintro k ⟨hk1, hk2⟩
  have hLk := hL k
  (refine goes_seq ?_; refine goes_seq ?_; refine goes_region ?_; apply run_step rfl; (exact stp_move rfl rfl); apply run_step rfl; (exact stp_bin rfl rfl rfl rfl); refine run_nil ?_; refine fin_seq ?_)
  refine goes_cond rfl (fun hne => ?_) (fun hne => ?_)
  · have hlt : k < p := by
      rcases Nat.lt_or_ge k p with h | h
      · exact h
      · exfalso
        obtain rfl : k = p := by omega
        simp [hp3] at hne
    (refine goes_skip ?_; refine fin_seq ?_; refine goes_seq ?_; refine goes_block ?_; refine goes_region ?_; apply run_step rfl; (exact stp_move rfl rfl); apply run_step rfl; (exact stp_move rfl rfl); apply run_step rfl; (exact stp_move rfl rfl); apply run_step rfl; (apply call_gate 54; exact stp_callR hLk (by as_aux_lemma => kernel_rfl) rfl rfl ⟨rfl, rfl, rfl, trivial⟩ ⟨⟨_, rfl, .inl rfl⟩, ⟨_, rfl, .inl rfl⟩, trivial⟩ rfl rfl); apply run_step rfl; (exact stp_assign rfl rfl); refine run_nil ?_; refine fin_block ?_; refine fin_seq ?_; refine goes_region ?_; apply run_step rfl; (exact stp_move rfl rfl); apply run_step rfl; (exact stp_add rfl rfl rfl (by first | exact IntWalk.i64_in _ (by omega) | rfl)); apply run_step rfl; (exact stp_assign rfl rfl); refine run_nil ?_)
    exact fin_round (k + 1) ⟨by omega, hlt⟩ (by omega) (Wk.of ⟨rfl, rfl, rfl, rfl, trivial⟩ ⟨rfl, rfl, trivial⟩ trivial)
  · have h0 : orbN T W k = 0 := by simpa using hne
    obtain rfl : k = p := by
      rcases Nat.lt_or_ge k p with h | h
      · exact absurd h0 (hp4 k hk1 h)
      · omega
    rw [hp0]
    (refine goes_exit ?_; refine fin_exit_then ?_; refine fin_exit_then ?_; refine fin_exit_eq ?_; refine fin_seq ?_; refine goes_seq ?_; refine goes_region ?_; apply run_step rfl; (exact stp_move rfl rfl); apply run_step rfl; (exact stp_assign rfl rfl); refine run_nil ?_; refine fin_seq ?_; refine goes_ret ?_)
    exact fin_ret1 (.inl rfl) rfl (.tmp rfl) trivial trivial
set_option maxRecDepth 100000 in
set_option maxHeartbeats 1000000 in
theorem implOrder_fc (T : List (List Int)) (W : List Int) (m n : Nat) (hn : T.length = n) (hT : Leads T m) (hI : Invol T m) (hm : 0 < m) (hm4 : m ≤ 1000000) (hn4 : n ≤ 1000000) (hW : ∀ z ∈ W, 0 ≤ z ∧ z < T.length) (hWl : W.length ≤ 1000000000) :
    FC Try.prog 58 [(1005, imRo T), (1004, wRo W)] [o1 (.sl 1005 0 n), o1 (.sl 1004 0 W.length)] [] (vv (I6 (ordR T W m))) [] := by
  obtain ⟨p, hp0, hp1, hp2, hp3, hp4⟩ := ord_spec hT hI hm hW
  have hL : ∀ k, FC Try.prog 56 [(1005, imRo T), (1004, wRo W)] [o1 (.sl 1005 0 n), o1 (.sl 1004 0 W.length), vv (I6 (orbN T W k : Nat))] [] (vv (I6 (orbN T W (k + 1) : Nat))) [] := fun k => by
    have := implLead_fc T W (orbN T W k) m n hn hT (orbN_lt hT hm hW k) hm4 hn4 hW hWl
    rwa [orbN_lead hT hm hW] at this
  have hL0 : FC Try.prog 56 [(1005, imRo T), (1004, wRo W)] [o1 (.sl 1005 0 n), o1 (.sl 1004 0 W.length), vv (I6 0)] [] (vv (I6 (orbN T W 1 : Nat))) [] := hL 0
  refine fc_enter (nt := 19) Try.func58 rfl rfl (by simp) fun w0 ω0 => ?_
  (refine goes_seq ?_; refine goes_region ?_; apply run_step rfl; (exact stp_assign rfl rfl); refine run_nil ?_; refine fin_seq ?_; refine goes_seq ?_; refine goes_region ?_; apply run_step rfl; (exact stp_assign rfl rfl); refine run_nil ?_; refine fin_seq ?_; refine goes_seq ?_; refine goes_seq ?_; refine goes_region ?_; apply run_step rfl; (exact stp_move rfl rfl); apply run_step rfl; (exact stp_move rfl rfl); apply run_step rfl; (apply call_gate 56; exact stp_callR hL0 (by as_aux_lemma => kernel_rfl) rfl rfl ⟨rfl, rfl, rfl, trivial⟩ ⟨⟨_, rfl, .inl rfl⟩, ⟨_, rfl, .inl rfl⟩, trivial⟩ rfl rfl); apply run_step rfl; (exact stp_assign rfl rfl); refine run_nil ?_; refine fin_seq ?_; refine goes_block ?_)
  refine goes_loop (fun k : Nat => St.of [(0, o1 (.sl 1005 0 n)), (1, o1 (.sl 1004 0 W.length)), (5, vv (I6 (k : Nat))), (6, vv (I6 (orbN T W k : Nat)))] [(1005, imRo T), (1004, wRo W)]) (fun k => 1 ≤ k ∧ k ≤ p) (fun k => p - k) 1 ⟨Nat.le_refl _, hp1⟩ (Wk.of ⟨rfl, rfl, rfl, rfl, trivial⟩ ⟨rfl, rfl, trivial⟩ trivial) ?_
  rintro k ⟨hk1, hk2⟩
  have hLk := hL k
  (refine goes_seq ?_; refine goes_seq ?_; refine goes_region ?_; apply run_step rfl; (exact stp_move rfl rfl); apply run_step rfl; (exact stp_bin rfl rfl rfl rfl); refine run_nil ?_; refine fin_seq ?_)
  refine goes_cond rfl (fun hne => ?_) (fun hne => ?_)
  · have hlt : k < p := by
      rcases Nat.lt_or_ge k p with h | h
      · exact h
      · exfalso
        obtain rfl : k = p := by omega
        simp [hp3] at hne
    (refine goes_skip ?_; refine fin_seq ?_; refine goes_seq ?_; refine goes_block ?_; refine goes_region ?_; apply run_step rfl; (exact stp_move rfl rfl); apply run_step rfl; (exact stp_add rfl rfl rfl (by first | exact IntWalk.i64_in _ (by omega) | rfl)); apply run_step rfl; (exact stp_assign rfl rfl); refine run_nil ?_; refine fin_block ?_; refine fin_seq ?_; refine goes_region ?_; apply run_step rfl; (exact stp_move rfl rfl); apply run_step rfl; (exact stp_move rfl rfl); apply run_step rfl; (exact stp_move rfl rfl); apply run_step rfl; (apply call_gate 56; exact stp_callR hLk (by as_aux_lemma => kernel_rfl) rfl rfl ⟨rfl, rfl, rfl, trivial⟩ ⟨⟨_, rfl, .inl rfl⟩, ⟨_, rfl, .inl rfl⟩, trivial⟩ rfl rfl); apply run_step rfl; (exact stp_assign rfl rfl); refine run_nil ?_)
    exact fin_round (k + 1) ⟨by omega, hlt⟩ (by omega) (Wk.of ⟨rfl, rfl, rfl, rfl, trivial⟩ ⟨rfl, rfl, trivial⟩ trivial)
  · have h0 : orbN T W k = 0 := by simpa using hne
    obtain rfl : k = p := by
      rcases Nat.lt_or_ge k p with h | h
      · exact absurd h0 (hp4 k hk1 h)
      · omega
    rw [hp0]
    (refine goes_exit ?_; refine fin_exit_then ?_; refine fin_exit_then ?_; refine fin_exit_eq ?_; refine fin_seq ?_; refine goes_seq ?_; refine goes_region ?_; apply run_step rfl; (exact stp_move rfl rfl); apply run_step rfl; (exact stp_assign rfl rfl); refine run_nil ?_; refine fin_seq ?_; refine goes_ret ?_)
    exact fin_ret1 (.inl rfl) rfl (.tmp rfl) trivial trivial

def oeR (d : PresD) (W : List Int) : Int := if elC d W = 0 then ordR (cosTab d []) W (cosN d []) else 0
set_option maxRecDepth 100000 in
set_option maxHeartbeats 1000000 in
theorem specOE_fc (g : Int) (rels : List (List Int)) (W : List Int) (h1 : Fit rels) (h2 : W.length ≤ 4398046511104) :
    FC Try.prog 27 [(1004, wRo W), (1003, rowsRo rels)] [pA g rels.length, o1 (.sl 1004 0 W.length)] [] (.tup [.one (.val (I6 (oeR (g, rels) W))), .one (.val (I6 (elC (g, rels) W)))]) [] := by
  refine fc_enter (nt := 20) Try.func27 rfl rfl (by simp) fun w0 ω0 => ?_
  by_cases hk : elOk (g, rels) W
  · obtain ⟨ng, rfl, hG⟩ := good_nil hk.1
    have hE := specEl_yes h1 h2 hG hk
    have hs := smallOk_run hk.2.2
    have hw := word_of hk
    have hL := specOrder_fc _ W _ ng (cosTab_len _ _ _) (cosTab_leads hG hs.1) (cosTab_invol hG hs.1) (cosN_pos hG hs.1) (by omega) (by have := hG.hi; omega) hw.1 hw.2
    have hc := elC_ok hk
    unfold oeR
    rw [hc, if_pos rfl]
    generalize cosN ((ng : Int), rels) [] = N at *
    generalize cosTab ((ng : Int), rels) [] = T at *
    (refine goes_seq ?_; refine goes_region ?_; apply run_step rfl; (exact stp_box rfl rfl rfl rfl); apply run_step rfl; (exact stp_assign rfl rfl); apply run_step rfl; (exact stp_assign rfl rfl); refine run_nil ?_; refine fin_seq ?_; refine goes_seq ?_; refine goes_region ?_; apply run_step rfl; (exact stp_loadAgg rfl rfl rfl rfl rfl rfl (by as_aux_lemma => kernel_rfl)); apply run_step rfl; (exact stp_move rfl rfl); apply run_step rfl; (apply call_gate 53; exact stp_callN hE (by as_aux_lemma => kernel_rfl) rfl rfl ⟨⟨.inl rfl, .inl rfl, trivial⟩, rfl, trivial⟩ ⟨⟨_, rfl, .inl rfl⟩, ⟨_, rfl, .inl rfl⟩, trivial⟩ rfl rfl rfl); apply run_step rfl; (exact stp_move rfl rfl); apply run_step rfl; (exact stp_extract rfl rfl rfl); apply run_step rfl; (exact stp_extract rfl rfl rfl); apply run_step rfl; (exact stp_assign rfl rfl); apply run_step rfl; (exact stp_assign rfl rfl); refine run_nil ?_; refine fin_seq ?_; refine goes_seq ?_; refine goes_seq ?_; refine goes_region ?_; apply run_step rfl; (exact stp_move rfl rfl); apply run_step rfl; (exact stp_bin rfl rfl rfl rfl); refine run_nil ?_; refine fin_seq ?_)
    refine goes_cond rfl (fun e => by cases e) (fun _ => ?_)
    (refine goes_skip ?_; refine fin_seq ?_; refine goes_seq ?_; refine goes_region ?_; apply run_step rfl; (exact stp_move rfl rfl); apply run_step rfl; (exact stp_move rfl rfl); apply run_step rfl; (apply call_gate 57; exact stp_callR hL (by as_aux_lemma => kernel_rfl) rfl rfl ⟨rfl, rfl, trivial⟩ ⟨⟨_, rfl, .inr rfl⟩, ⟨_, rfl, .inl rfl⟩, trivial⟩ rfl rfl); apply run_step rfl; (exact stp_assign rfl rfl); apply run_step rfl; (exact stp_assign rfl rfl); refine run_nil ?_; refine fin_seq ?_; refine goes_ret ?_)
    exact fin_ret2 (.inl rfl) rfl (.tmp rfl) (.tmp rfl) trivial trivial
  · have hE := specEl_no h1 h2 hk
    have hc := elC_no hk
    unfold oeR
    rw [if_neg hc]
    (refine goes_seq ?_; refine goes_region ?_; apply run_step rfl; (exact stp_box rfl rfl rfl rfl); apply run_step rfl; (exact stp_assign rfl rfl); apply run_step rfl; (exact stp_assign rfl rfl); refine run_nil ?_; refine fin_seq ?_; refine goes_seq ?_; refine goes_region ?_; apply run_step rfl; (exact stp_loadAgg rfl rfl rfl rfl rfl rfl (by as_aux_lemma => kernel_rfl)); apply run_step rfl; (exact stp_move rfl rfl); apply run_step rfl; (apply call_gate 53; exact stp_callR hE (by as_aux_lemma => kernel_rfl) rfl rfl ⟨⟨.inl rfl, .inl rfl, trivial⟩, rfl, trivial⟩ ⟨⟨_, rfl, .inl rfl⟩, ⟨_, rfl, .inl rfl⟩, trivial⟩ rfl rfl); apply run_step rfl; (exact stp_move rfl rfl); apply run_step rfl; (exact stp_extract rfl rfl rfl); apply run_step rfl; (exact stp_extract rfl rfl rfl); apply run_step rfl; (exact stp_assign rfl rfl); apply run_step rfl; (exact stp_assign rfl rfl); refine run_nil ?_; refine fin_seq ?_; refine goes_seq ?_; refine goes_seq ?_; refine goes_region ?_; apply run_step rfl; (exact stp_move rfl rfl); apply run_step rfl; (exact stp_bin rfl rfl rfl rfl); refine run_nil ?_; refine fin_seq ?_)
    refine goes_cond rfl (fun _ => ?_) (fun e => ?_)
    · (refine goes_seq ?_; refine goes_region ?_; apply run_step rfl; (exact stp_move rfl rfl); apply run_step rfl; (exact stp_assign rfl rfl); apply run_step rfl; (exact stp_assign rfl rfl); refine run_nil ?_; refine fin_seq ?_; refine goes_ret ?_; refine fin_ret_then ?_)
      exact fin_ret2 (.inl rfl) rfl (.tmp rfl) (.tmp rfl) trivial trivial
    · exfalso; simp at e; exact hc e
set_option maxRecDepth 100000 in
set_option maxHeartbeats 1000000 in
theorem implOE_fc (g : Int) (rels : List (List Int)) (W : List Int) (h1 : Fit rels) (h2 : W.length ≤ 4398046511104) :
    FC Try.prog 28 [(1004, wRo W), (1003, rowsRo rels)] [pA g rels.length, o1 (.sl 1004 0 W.length)] [] (.tup [.one (.val (I6 (oeR (g, rels) W))), .one (.val (I6 (elC (g, rels) W)))]) [] := by
  refine fc_enter (nt := 20) Try.func28 rfl rfl (by simp) fun w0 ω0 => ?_
  by_cases hk : elOk (g, rels) W
  · obtain ⟨ng, rfl, hG⟩ := good_nil hk.1
    have hE := implEl_yes h1 h2 hG hk
    have hs := smallOk_run hk.2.2
    have hw := word_of hk
    have hL := implOrder_fc _ W _ ng (cosTab_len _ _ _) (cosTab_leads hG hs.1) (cosTab_invol hG hs.1) (cosN_pos hG hs.1) (by omega) (by have := hG.hi; omega) hw.1 hw.2
    have hc := elC_ok hk
    unfold oeR
    rw [hc, if_pos rfl]
    generalize cosN ((ng : Int), rels) [] = N at *
    generalize cosTab ((ng : Int), rels) [] = T at *
    (refine goes_seq ?_; refine goes_region ?_; apply run_step rfl; (exact stp_box rfl rfl rfl rfl); apply run_step rfl; (exact stp_assign rfl rfl); apply run_step rfl; (exact stp_assign rfl rfl); refine run_nil ?_; refine fin_seq ?_; refine goes_seq ?_; refine goes_region ?_; apply run_step rfl; (exact stp_loadAgg rfl rfl rfl rfl rfl rfl (by as_aux_lemma => kernel_rfl)); apply run_step rfl; (exact stp_move rfl rfl); apply run_step rfl; (apply call_gate 55; exact stp_callN hE (by as_aux_lemma => kernel_rfl) rfl rfl ⟨⟨.inl rfl, .inl rfl, trivial⟩, rfl, trivial⟩ ⟨⟨_, rfl, .inl rfl⟩, ⟨_, rfl, .inl rfl⟩, trivial⟩ rfl rfl rfl); apply run_step rfl; (exact stp_move rfl rfl); apply run_step rfl; (exact stp_extract rfl rfl rfl); apply run_step rfl; (exact stp_extract rfl rfl rfl); apply run_step rfl; (exact stp_assign rfl rfl); apply run_step rfl; (exact stp_assign rfl rfl); refine run_nil ?_; refine fin_seq ?_; refine goes_seq ?_; refine goes_seq ?_; refine goes_region ?_; apply run_step rfl; (exact stp_move rfl rfl); apply run_step rfl; (exact stp_bin rfl rfl rfl rfl); refine run_nil ?_; refine fin_seq ?_)
    refine goes_cond rfl (fun e => by cases e) (fun _ => ?_)
    (refine goes_skip ?_; refine fin_seq ?_; refine goes_seq ?_; refine goes_region ?_; apply run_step rfl; (exact stp_move rfl rfl); apply run_step rfl; (exact stp_move rfl rfl); apply run_step rfl; (apply call_gate 58; exact stp_callR hL (by as_aux_lemma => kernel_rfl) rfl rfl ⟨rfl, rfl, trivial⟩ ⟨⟨_, rfl, .inr rfl⟩, ⟨_, rfl, .inl rfl⟩, trivial⟩ rfl rfl); apply run_step rfl; (exact stp_assign rfl rfl); apply run_step rfl; (exact stp_assign rfl rfl); refine run_nil ?_; refine fin_seq ?_; refine goes_ret ?_)
    exact fin_ret2 (.inl rfl) rfl (.tmp rfl) (.tmp rfl) trivial trivial
  · have hE := implEl_no h1 h2 hk
    have hc := elC_no hk
    unfold oeR
    rw [if_neg hc]
    (refine goes_seq ?_; refine goes_region ?_; apply run_step rfl; (exact stp_box rfl rfl rfl rfl); apply run_step rfl; (exact stp_assign rfl rfl); apply run_step rfl; (exact stp_assign rfl rfl); refine run_nil ?_; refine fin_seq ?_; refine goes_seq ?_; refine goes_region ?_; apply run_step rfl; (exact stp_loadAgg rfl rfl rfl rfl rfl rfl (by as_aux_lemma => kernel_rfl)); apply run_step rfl; (exact stp_move rfl rfl); apply run_step rfl; (apply call_gate 55; exact stp_callR hE (by as_aux_lemma => kernel_rfl) rfl rfl ⟨⟨.inl rfl, .inl rfl, trivial⟩, rfl, trivial⟩ ⟨⟨_, rfl, .inl rfl⟩, ⟨_, rfl, .inl rfl⟩, trivial⟩ rfl rfl); apply run_step rfl; (exact stp_move rfl rfl); apply run_step rfl; (exact stp_extract rfl rfl rfl); apply run_step rfl; (exact stp_extract rfl rfl rfl); apply run_step rfl; (exact stp_assign rfl rfl); apply run_step rfl; (exact stp_assign rfl rfl); refine run_nil ?_; refine fin_seq ?_; refine goes_seq ?_; refine goes_seq ?_; refine goes_region ?_; apply run_step rfl; (exact stp_move rfl rfl); apply run_step rfl; (exact stp_bin rfl rfl rfl rfl); refine run_nil ?_; refine fin_seq ?_)
    refine goes_cond rfl (fun _ => ?_) (fun e => ?_)
    · (refine goes_seq ?_; refine goes_region ?_; apply run_step rfl; (exact stp_move rfl rfl); apply run_step rfl; (exact stp_assign rfl rfl); apply run_step rfl; (exact stp_assign rfl rfl); refine run_nil ?_; refine fin_seq ?_; refine goes_ret ?_; refine fin_ret_then ?_)
      exact fin_ret2 (.inl rfl) rfl (.tmp rfl) (.tmp rfl) trivial trivial
    · exfalso; simp at e; exact hc e
theorem api_specOE {E1 E E' : Nat} {lo hi lo' hi' : Nat} {v v' : Value} {d : PresD} {W : List Int} (w : World) (h : OwP E1 E w lo hi v d) (h' : OwnS E' w lo' hi' v' W) :
    Calls Try.prog 27 #[v, v'] w fun e w' => e = .returned (.tuple #[.int .i64 (oeR d W), .int .i64 (elC d W)]) ∧ Below w.heap.size w w' := two_vals (callPS (fun k1 k2 => specOE_fc d.1 d.2 W k1 k2) h h')
theorem api_implOE {E1 E E' : Nat} {lo hi lo' hi' : Nat} {v v' : Value} {d : PresD} {W : List Int} (w : World) (h : OwP E1 E w lo hi v d) (h' : OwnS E' w lo' hi' v' W) :
    Calls Try.prog 28 #[v, v'] w fun e w' => e = .returned (.tuple #[.int .i64 (oeR d W), .int .i64 (elC d W)]) ∧ Below w.heap.size w w' := two_vals (callPS (fun k1 k2 => implOE_fc d.1 d.2 W k1 k2) h h')
end Go.Proofs.Ytpjglifijdcgnaa

/- ProductOrders. -/
namespace Go.Proofs.Ytpjglifijdcgnaa
open Go.RowKit

/-- the orders of the products of a generator and all generators -/
def poRow (T : List (List Int)) (ng m : Nat) (i : Nat) : List Int := (List.range ng).map fun k : Nat => ordR T [(i : Int), (k : Int)] m
def poL (T : List (List Int)) (ng m : Nat) : List (List Int) := (List.range ng).map (poRow T ng m)
def poR (d : PresD) : List (List Int) := if elC d [] = 0 then poL (cosTab d []) d.1.toNat (cosN d []) else []
theorem poRow_len (T : List (List Int)) (ng m i : Nat) : (poRow T ng m i).length = ng := by simp [poRow]
theorem poL_len (T : List (List Int)) (ng m : Nat) : (poL T ng m).length = ng := by simp [poL]
theorem two_letters {T : List (List Int)} {ng i k : Nat} (hn : T.length = ng) (hi : i < ng) (hk : k < ng) : ∀ z ∈ [(i : Int), (k : Int)], 0 ≤ z ∧ z < T.length := fun z hz => by
  simp at hz
  rcases hz with rfl | rfl <;> omega
theorem FC.nilE {f : FuncId} {g : Int} {rels : List (List Int)} {outs : List (Nm × Ch)} {res : AV} (h : FC Try.prog f [(1004, wRo []), (1003, rowsRo rels)] [pA g rels.length, o1 (.sl 1004 0 0)] outs res []) : FC Try.prog f [(1003, rowsRo rels)] [pA g rels.length, vv (.slice none 0 0)] outs res [] :=
  FC.nil2 (x := 1004) h rfl rfl rfl (fun t av h => by cases h) noFlat

set_option maxRecDepth 100000 in
set_option maxHeartbeats 2000000 in
theorem specPO_yes (ng : Nat) (rels : List (List Int)) (h1 : Fit rels) (hG : Good ng rels []) (hk : elOk ((ng : Int), rels) []) :
    FC Try.prog 38 [(1003, rowsRo rels)] [pA ng rels.length] [(18, imOw (poL (cosTab ((ng : Int), rels) []) ng (cosN ((ng : Int), rels) [])))] (.tup [.one (.sl 18 0 ng), .one (.val (I6 0))]) [] := by
  have hE := (specEl_yes h1 (by simp) hG hk).nilE
  have hs := smallOk_run hk.2.2
  have hng := hG.hi
  have hO : ∀ i k, i < ng → k < ng → FC Try.prog 57 [(1005, imRo (cosTab ((ng : Int), rels) [])), (36, wRo [(i : Int), (k : Int)])] [o1 (.sl 1005 0 ng), o1 (.sl 36 0 2)] [] (vv (I6 (ordR (cosTab ((ng : Int), rels) []) [(i : Int), (k : Int)] (cosN ((ng : Int), rels) [])))) [] := fun i k hi hk =>
    (specOrder_fc _ [(i : Int), (k : Int)] _ ng (cosTab_len _ _ _) (cosTab_leads hG hs.1) (cosTab_invol hG hs.1) (cosN_pos hG hs.1) (by omega) (by omega) (two_letters (cosTab_len _ _ _) hi hk) (by simp)).nm [(1005, 1005), (1004, 36)] (by kernel_rfl)
  refine fc_enter (nt := 45) Try.func38 rfl rfl (by simp) fun w0 ω0 => ?_
  generalize cosN ((ng : Int), rels) [] = N at *
  generalize cosTab ((ng : Int), rels) [] = T at *
  (refine goes_seq ?_; refine goes_region ?_; apply run_step rfl; (exact stp_box rfl rfl rfl rfl); apply run_step rfl; (exact stp_assign rfl rfl); apply run_step rfl; (exact stp_assign rfl rfl); refine run_nil ?_; refine fin_seq ?_; refine goes_seq ?_; refine goes_region ?_; apply run_step rfl; (exact stp_loadAgg rfl rfl rfl rfl rfl rfl (by as_aux_lemma => kernel_rfl)); apply run_step rfl; (apply call_gate 53; exact stp_callN hE (by as_aux_lemma => kernel_rfl) rfl rfl ⟨⟨.inl rfl, .inl rfl, trivial⟩, rfl, trivial⟩ ⟨⟨_, rfl, .inl rfl⟩, trivial⟩ rfl rfl rfl); apply run_step rfl; (exact stp_move rfl rfl); apply run_step rfl; (exact stp_extract rfl rfl rfl); apply run_step rfl; (exact stp_extract rfl rfl rfl); apply run_step rfl; (exact stp_assign rfl rfl); apply run_step rfl; (exact stp_assign rfl rfl); refine run_nil ?_; refine fin_seq ?_; refine goes_seq ?_; refine goes_seq ?_; refine goes_region ?_; apply run_step rfl; (exact stp_move rfl rfl); apply run_step rfl; (exact stp_bin rfl rfl rfl rfl); refine run_nil ?_; refine fin_seq ?_)
  refine goes_cond rfl (fun e => by cases e) (fun _ => ?_)
  (refine goes_skip ?_; refine fin_seq ?_; refine goes_seq ?_; refine goes_region ?_; apply run_step rfl; (exact stp_lit0R (E := 37) (F := 2) rfl (by as_aux_lemma => kernel_rfl)); apply run_step rfl; (exact stp_assign rfl rfl); refine run_nil ?_; refine fin_seq ?_; refine goes_seq ?_; refine goes_seq ?_; refine goes_region ?_; apply run_step rfl; (exact stp_assign rfl rfl); refine run_nil ?_; refine fin_seq ?_; refine goes_block ?_)
  refine goes_loop (fun i : Nat => St.of [(1, o1 (.ptr 1 0)), (4, o1 (.sl 1005 0 ng)), (6, o1 (.sl 18 0 i)), (7, vv (I6 i))] [(1, ⟨true, 28, 2, .flat [.val (I6 ng), .sl 1003 0 rels.length]⟩), (1005, imOw T), (18, imOw ((List.range i).map (poRow T ng N)))]) (fun i => i ≤ ng) (fun i => ng - i) 0 (Nat.zero_le _) (Wk.of ⟨rfl, rfl, rfl, rfl, trivial⟩ ⟨rfl, rfl, rfl, trivial⟩ trivial) ?_
  intro i hi
  (refine goes_seq ?_; refine goes_seq ?_; refine goes_region ?_; apply run_step rfl; (exact stp_move rfl rfl); apply run_step rfl; (exact stp_fieldAddr (d := 0) rfl rfl rfl (by as_aux_lemma => kernel_rfl)); apply run_step rfl; (exact stp_loadF rfl (by as_aux_lemma => kernel_rfl) rfl rfl rfl rfl); apply run_step rfl; (exact stp_bin rfl rfl rfl rfl); refine run_nil ?_; refine fin_seq ?_)
  refine goes_if rfl (fun hlt => ?_) (fun hlt => ?_)
  · have hlt' : i < ng := by omega
    (refine goes_skip ?_; refine fin_seq ?_; refine goes_seq ?_; refine goes_block ?_; refine goes_seq ?_; refine goes_region ?_; apply run_step rfl; (exact stp_lit0 (E := 2) (k := 1) rfl (by as_aux_lemma => kernel_rfl)); apply run_step rfl; (exact stp_assign rfl rfl); refine run_nil ?_; refine fin_seq ?_; refine goes_seq ?_; refine goes_seq ?_; refine goes_region ?_; apply run_step rfl; (exact stp_assign rfl rfl); refine run_nil ?_; refine fin_seq ?_; refine goes_block ?_)
    refine goes_loop (fun k : Nat => St.of [(1, o1 (.ptr 1 0)), (4, o1 (.sl 1005 0 ng)), (6, o1 (.sl 18 0 i)), (7, vv (I6 i)), (8, o1 (.sl 25 0 k)), (9, vv (I6 k))] [(1, ⟨true, 28, 2, .flat [.val (I6 ng), .sl 1003 0 rels.length]⟩), (1005, imOw T), (18, imOw ((List.range i).map (poRow T ng N))), (25, leOw ((List.range k).map fun k : Nat => ordR T [(i : Int), (k : Int)] N))]) (fun k => k ≤ ng) (fun k => ng - k) 0 (Nat.zero_le _) (Wk.of ⟨rfl, rfl, rfl, rfl, rfl, rfl, trivial⟩ ⟨rfl, rfl, rfl, rfl, trivial⟩ trivial) ?_
    intro k hk
    (refine goes_seq ?_; refine goes_seq ?_; refine goes_region ?_; apply run_step rfl; (exact stp_move rfl rfl); apply run_step rfl; (exact stp_fieldAddr (d := 0) rfl rfl rfl (by as_aux_lemma => kernel_rfl)); apply run_step rfl; (exact stp_loadF rfl (by as_aux_lemma => kernel_rfl) rfl rfl rfl rfl); apply run_step rfl; (exact stp_bin rfl rfl rfl rfl); refine run_nil ?_; refine fin_seq ?_)
    refine goes_if rfl (fun hlk => ?_) (fun hlk => ?_)
    · have hlk' : k < ng := by omega
      have hOik := hO i k hlt' hlk'
      have hkl : ((List.range k).map fun k : Nat => ordR T [(i : Int), (k : Int)] N).length = k := by simp
      (refine goes_skip ?_; refine fin_seq ?_; refine goes_seq ?_; refine goes_block ?_; refine goes_region ?_; apply run_step rfl; (exact stp_move rfl rfl); apply run_step rfl; (exact stp_move rfl rfl); apply run_step rfl; (exact stp_move rfl rfl); apply run_step rfl; (exact stp_move rfl rfl); apply run_step rfl; (exact stp_lit2I (E := 2) rfl (by as_aux_lemma => kernel_rfl) rfl rfl); apply run_step rfl; (apply call_gate 57; exact stp_callR hOik (by as_aux_lemma => kernel_rfl) rfl rfl ⟨rfl, rfl, trivial⟩ ⟨⟨_, rfl, .inr rfl⟩, ⟨_, rfl, .inr rfl⟩, trivial⟩ rfl rfl); apply run_step rfl; (exact stp_lit1I (E := 2) rfl (by as_aux_lemma => kernel_rfl) rfl); apply run_step rfl; (exact stp_appI rfl (by as_aux_lemma => kernel_rfl) rfl rfl rfl (by first | rfl | assumption | (simp; done)) rfl rfl (by omega)); apply run_step rfl; (exact stp_assign rfl rfl); refine run_nil ?_; refine fin_block ?_; refine fin_seq ?_; refine goes_region ?_; apply run_step rfl; (exact stp_move rfl rfl); apply run_step rfl; (exact stp_add rfl rfl rfl (by first | exact IntWalk.i64_in _ (by omega) | rfl)); apply run_step rfl; (exact stp_assign rfl rfl); refine run_nil ?_)
      exact fin_round (k + 1) hlk' (by omega) (Wk.of ⟨rfl, rfl, rfl, rfl, rfl, rfl, trivial⟩ ⟨rfl, rfl, rfl, by rw [List.range_succ, List.map_append, List.map_singleton]; rfl, trivial⟩ trivial)
    · obtain rfl : k = ng := by omega
      have hil : ((List.range i).map (poRow T k N)).length = i := by simp
      have hrow : (List.range (i + 1)).map (poRow T k N) = (List.range i).map (poRow T k N) ++ [(List.range k).map fun k : Nat => ordR T [(i : Int), (k : Int)] N] := by rw [List.range_succ (n := i), List.map_append]; rfl
      have hkl : ((List.range k).map fun k : Nat => ordR T [(i : Int), (k : Int)] N).length = k := by simp
      (refine goes_exit ?_; refine fin_exit_then ?_; refine fin_exit_then ?_; refine fin_exit_eq ?_; refine fin_seq ?_; refine goes_region ?_; apply run_step rfl; (exact stp_move rfl rfl); apply run_step rfl; (exact stp_move rfl rfl); apply run_step rfl; (exact stp_lit1 (E := 37) rfl (by as_aux_lemma => kernel_rfl) rfl rfl rfl); apply run_step rfl; (exact stp_appR rfl (by as_aux_lemma => kernel_rfl) rfl rfl (by first | rfl | assumption | (simp; done)) rfl rfl rfl (by first | rfl | assumption | (simp; done)) rfl (by omega)); apply run_step rfl; (exact stp_assign rfl rfl); refine run_nil ?_; refine fin_block ?_; refine fin_seq ?_; refine goes_region ?_; apply run_step rfl; (exact stp_move rfl rfl); apply run_step rfl; (exact stp_add rfl rfl rfl (by first | exact IntWalk.i64_in _ (by omega) | rfl)); apply run_step rfl; (exact stp_assign rfl rfl); refine run_nil ?_)
      exact fin_round (i + 1) hlt' (by omega) (Wk.of ⟨rfl, rfl, rfl, rfl, trivial⟩ ⟨rfl, rfl, by rw [hrow]; rfl, trivial⟩ trivial)
  · obtain rfl : i = ng := by omega
    (refine goes_exit ?_; refine fin_exit_then ?_; refine fin_exit_then ?_; refine fin_exit_eq ?_; refine fin_seq ?_; refine goes_seq ?_; refine goes_region ?_; apply run_step rfl; (exact stp_move rfl rfl); apply run_step rfl; (exact stp_assign rfl rfl); apply run_step rfl; (exact stp_assign rfl rfl); refine run_nil ?_; refine fin_seq ?_; refine goes_ret ?_)
    exact fin_ret2 (.inl rfl) rfl (.tmp rfl) (.tmp rfl) ⟨rfl, trivial⟩ trivial
set_option maxRecDepth 100000 in
set_option maxHeartbeats 1000000 in
theorem specPO_no (g : Int) (rels : List (List Int)) (h1 : Fit rels) (hk : ¬ elOk (g, rels) []) :
    FC Try.prog 38 [(1003, rowsRo rels)] [pA g rels.length] [] (.tup [.one (.val (.slice none 0 0)), .one (.val (I6 (elC (g, rels) [])))]) [] := by
  have hE := (specEl_no h1 (by simp) hk).nilE
  have hc := elC_no hk
  refine fc_enter (nt := 45) Try.func38 rfl rfl (by simp) fun w0 ω0 => ?_
  (refine goes_seq ?_; refine goes_region ?_; apply run_step rfl; (exact stp_box rfl rfl rfl rfl); apply run_step rfl; (exact stp_assign rfl rfl); apply run_step rfl; (exact stp_assign rfl rfl); refine run_nil ?_; refine fin_seq ?_; refine goes_seq ?_; refine goes_region ?_; apply run_step rfl; (exact stp_loadAgg rfl rfl rfl rfl rfl rfl (by as_aux_lemma => kernel_rfl)); apply run_step rfl; (apply call_gate 53; exact stp_callR hE (by as_aux_lemma => kernel_rfl) rfl rfl ⟨⟨.inl rfl, .inl rfl, trivial⟩, rfl, trivial⟩ ⟨⟨_, rfl, .inl rfl⟩, trivial⟩ rfl rfl); apply run_step rfl; (exact stp_move rfl rfl); apply run_step rfl; (exact stp_extract rfl rfl rfl); apply run_step rfl; (exact stp_extract rfl rfl rfl); apply run_step rfl; (exact stp_assign rfl rfl); apply run_step rfl; (exact stp_assign rfl rfl); refine run_nil ?_; refine fin_seq ?_; refine goes_seq ?_; refine goes_seq ?_; refine goes_region ?_; apply run_step rfl; (exact stp_move rfl rfl); apply run_step rfl; (exact stp_bin rfl rfl rfl rfl); refine run_nil ?_; refine fin_seq ?_)
  refine goes_cond rfl (fun _ => ?_) (fun e => ?_)
  · (refine goes_seq ?_; refine goes_region ?_; apply run_step rfl; (exact stp_move rfl rfl); apply run_step rfl; (exact stp_assign rfl rfl); apply run_step rfl; (exact stp_assign rfl rfl); refine run_nil ?_; refine fin_seq ?_; refine goes_ret ?_; refine fin_ret_then ?_)
    exact fin_ret2 (.inl rfl) rfl (.tmp rfl) (.tmp rfl) trivial trivial
  · exfalso; simp at e; exact hc e

set_option maxRecDepth 100000 in
set_option maxHeartbeats 2000000 in
theorem implPO_yes (ng : Nat) (rels : List (List Int)) (h1 : Fit rels) (hG : Good ng rels []) (hk : elOk ((ng : Int), rels) []) :
    FC Try.prog 39 [(1003, rowsRo rels)] [pA ng rels.length] [(6, imOw (poL (cosTab ((ng : Int), rels) []) ng (cosN ((ng : Int), rels) [])))] (.tup [.one (.sl 6 0 ng), .one (.val (I6 0))]) [] := by
  have hE := (implEl_yes h1 (by simp) hG hk).nilE
  have hs := smallOk_run hk.2.2
  have hng := hG.hi
  have hO : ∀ i k, i < ng → k < ng → FC Try.prog 58 [(1005, imRo (cosTab ((ng : Int), rels) [])), (32, wRo [(i : Int), (k : Int)])] [o1 (.sl 1005 0 ng), o1 (.sl 32 0 2)] [] (vv (I6 (ordR (cosTab ((ng : Int), rels) []) [(i : Int), (k : Int)] (cosN ((ng : Int), rels) [])))) [] := fun i k hi hk =>
    (implOrder_fc _ [(i : Int), (k : Int)] _ ng (cosTab_len _ _ _) (cosTab_leads hG hs.1) (cosTab_invol hG hs.1) (cosN_pos hG hs.1) (by omega) (by omega) (two_letters (cosTab_len _ _ _) hi hk) (by simp)).nm [(1005, 1005), (1004, 32)] (by kernel_rfl)
  refine fc_enter (nt := 43) Try.func39 rfl rfl (by simp) fun w0 ω0 => ?_
  generalize cosN ((ng : Int), rels) [] = N at *
  generalize cosTab ((ng : Int), rels) [] = T at *
  (refine goes_seq ?_; refine goes_region ?_; apply run_step rfl; (exact stp_box rfl rfl rfl rfl); apply run_step rfl; (exact stp_assign rfl rfl); apply run_step rfl; (exact stp_assign rfl rfl); refine run_nil ?_; refine fin_seq ?_; refine goes_seq ?_; refine goes_region ?_; apply run_step rfl; (exact stp_loadAgg rfl rfl rfl rfl rfl rfl (by as_aux_lemma => kernel_rfl)); apply run_step rfl; (apply call_gate 55; exact stp_callN hE (by as_aux_lemma => kernel_rfl) rfl rfl ⟨⟨.inl rfl, .inl rfl, trivial⟩, rfl, trivial⟩ ⟨⟨_, rfl, .inl rfl⟩, trivial⟩ rfl rfl rfl); apply run_step rfl; (exact stp_move rfl rfl); apply run_step rfl; (exact stp_extract rfl rfl rfl); apply run_step rfl; (exact stp_extract rfl rfl rfl); apply run_step rfl; (exact stp_assign rfl rfl); apply run_step rfl; (exact stp_assign rfl rfl); refine run_nil ?_; refine fin_seq ?_; refine goes_seq ?_; refine goes_seq ?_; refine goes_region ?_; apply run_step rfl; (exact stp_move rfl rfl); apply run_step rfl; (exact stp_bin rfl rfl rfl rfl); refine run_nil ?_; refine fin_seq ?_)
  refine goes_cond rfl (fun e => by cases e) (fun _ => ?_)
  (refine goes_skip ?_; refine fin_seq ?_; refine goes_seq ?_; refine goes_region ?_; apply run_step rfl; (exact stp_assign rfl rfl); refine run_nil ?_; refine fin_seq ?_; refine goes_seq ?_; refine goes_seq ?_; refine goes_region ?_; apply run_step rfl; (exact stp_fieldAddr (d := 0) rfl rfl rfl (by as_aux_lemma => kernel_rfl)); apply run_step rfl; (exact stp_loadF rfl (by as_aux_lemma => kernel_rfl) rfl rfl rfl rfl); apply run_step rfl; (exact stp_move rfl rfl); refine run_nil ?_; refine fin_seq ?_; refine goes_block ?_)
  refine goes_wk (wk_nil (t := 6) (n := 6) (k := 1) (E := 37) (d := .rows 2 (irows []) []) rfl rfl) ?_
  refine goes_loop (fun i : Nat => St.of [(1, o1 (.ptr 1 0)), (4, o1 (.sl 1005 0 ng)), (6, o1 (.sl 6 0 i)), (19, vv (I6 ng)), (20, vv (I6 i))] [(1, ⟨true, 28, 2, .flat [.val (I6 ng), .sl 1003 0 rels.length]⟩), (1005, imOw T), (6, imOw ((List.range i).map (poRow T ng N)))]) (fun i => i ≤ ng) (fun i => ng - i) 0 (Nat.zero_le _) (Wk.of ⟨rfl, rfl, rfl, rfl, rfl, trivial⟩ ⟨rfl, rfl, rfl, trivial⟩ trivial) ?_
  intro i hi
  (refine goes_seq ?_; refine goes_region ?_; apply run_step rfl; (exact stp_bin rfl rfl rfl rfl); refine run_nil ?_; refine fin_seq ?_; refine goes_seq ?_)
  refine goes_if rfl (fun hlt => ?_) (fun hlt => ?_)
  · have hlt' : i < ng := by omega
    (refine goes_skip ?_; refine fin_seq ?_; refine goes_seq ?_; refine goes_block ?_; refine goes_seq ?_; refine goes_region ?_; apply run_step rfl; (exact stp_move rfl rfl); apply run_step rfl; (exact stp_assign rfl rfl); refine run_nil ?_; refine fin_seq ?_; refine goes_seq ?_; refine goes_region ?_; apply run_step rfl; (exact stp_assign rfl rfl); refine run_nil ?_; refine fin_seq ?_; refine goes_seq ?_; refine goes_seq ?_; refine goes_region ?_; apply run_step rfl; (exact stp_fieldAddr (d := 0) rfl rfl rfl (by as_aux_lemma => kernel_rfl)); apply run_step rfl; (exact stp_loadF rfl (by as_aux_lemma => kernel_rfl) rfl rfl rfl rfl); apply run_step rfl; (exact stp_move rfl rfl); refine run_nil ?_; refine fin_seq ?_; refine goes_block ?_)
    refine goes_wk (wk_nil (t := 8) (n := 8) (k := 1) (E := 2) (d := .vals (ivals [])) rfl rfl) ?_
    refine goes_loop (fun k : Nat => St.of [(1, o1 (.ptr 1 0)), (4, o1 (.sl 1005 0 ng)), (6, o1 (.sl 6 0 i)), (7, vv (I6 i)), (8, o1 (.sl 8 0 k)), (19, vv (I6 ng)), (20, vv (I6 i)), (24, vv (I6 ng)), (25, vv (I6 k))] [(1, ⟨true, 28, 2, .flat [.val (I6 ng), .sl 1003 0 rels.length]⟩), (1005, imOw T), (6, imOw ((List.range i).map (poRow T ng N))), (8, leOw ((List.range k).map fun k : Nat => ordR T [(i : Int), (k : Int)] N))]) (fun k => k ≤ ng) (fun k => ng - k) 0 (Nat.zero_le _) (Wk.of ⟨rfl, rfl, rfl, rfl, rfl, rfl, rfl, rfl, rfl, trivial⟩ ⟨rfl, rfl, rfl, rfl, trivial⟩ trivial) ?_
    intro k hk
    (refine goes_seq ?_; refine goes_region ?_; apply run_step rfl; (exact stp_bin rfl rfl rfl rfl); refine run_nil ?_; refine fin_seq ?_; refine goes_seq ?_)
    refine goes_if rfl (fun hlk => ?_) (fun hlk => ?_)
    · have hlk' : k < ng := by omega
      have hOik := hO i k hlt' hlk'
      have hkl : ((List.range k).map fun k : Nat => ordR T [(i : Int), (k : Int)] N).length = k := by simp
      (refine goes_skip ?_; refine fin_seq ?_; refine goes_seq ?_; refine goes_block ?_; refine goes_seq ?_; refine goes_region ?_; apply run_step rfl; (exact stp_move rfl rfl); apply run_step rfl; (exact stp_assign rfl rfl); refine run_nil ?_; refine fin_seq ?_; refine goes_region ?_; apply run_step rfl; (exact stp_move rfl rfl); apply run_step rfl; (exact stp_move rfl rfl); apply run_step rfl; (exact stp_move rfl rfl); apply run_step rfl; (exact stp_move rfl rfl); apply run_step rfl; (exact stp_lit2I (E := 2) rfl (by as_aux_lemma => kernel_rfl) rfl rfl); apply run_step rfl; (apply call_gate 58; exact stp_callR hOik (by as_aux_lemma => kernel_rfl) rfl rfl ⟨rfl, rfl, trivial⟩ ⟨⟨_, rfl, .inr rfl⟩, ⟨_, rfl, .inr rfl⟩, trivial⟩ rfl rfl); apply run_step rfl; (exact stp_lit1I (E := 2) rfl (by as_aux_lemma => kernel_rfl) rfl); apply run_step rfl; (exact stp_appI rfl (by as_aux_lemma => kernel_rfl) rfl rfl rfl (by first | rfl | assumption | (simp; done)) rfl rfl (by omega)); apply run_step rfl; (exact stp_assign rfl rfl); refine run_nil ?_; refine fin_block ?_; refine fin_seq ?_; refine goes_region ?_; apply run_step rfl; (exact stp_add rfl rfl rfl (by first | exact IntWalk.i64_in _ (by omega) | rfl)); apply run_step rfl; (exact stp_move rfl rfl); refine run_nil ?_)
      exact fin_round (k + 1) hlk' (by omega) (Wk.of ⟨rfl, rfl, rfl, rfl, rfl, rfl, rfl, rfl, rfl, trivial⟩ ⟨rfl, rfl, rfl, by rw [List.range_succ, List.map_append, List.map_singleton]; rfl, trivial⟩ trivial)
    · obtain rfl : k = ng := by omega
      have hil : ((List.range i).map (poRow T k N)).length = i := by simp
      have hrow : (List.range (i + 1)).map (poRow T k N) = (List.range i).map (poRow T k N) ++ [(List.range k).map fun k : Nat => ordR T [(i : Int), (k : Int)] N] := by rw [List.range_succ (n := i), List.map_append]; rfl
      have hkl : ((List.range k).map fun k : Nat => ordR T [(i : Int), (k : Int)] N).length = k := by simp
      (refine goes_exit ?_; refine fin_exit_then ?_; refine fin_exit_then ?_; refine fin_exit_eq ?_; refine fin_seq ?_; refine goes_region ?_; apply run_step rfl; (exact stp_move rfl rfl); apply run_step rfl; (exact stp_move rfl rfl); apply run_step rfl; (exact stp_lit1 (E := 37) rfl (by as_aux_lemma => kernel_rfl) rfl rfl rfl); apply run_step rfl; (exact stp_appR rfl (by as_aux_lemma => kernel_rfl) rfl rfl (by first | rfl | assumption | (simp; done)) rfl rfl rfl (by first | rfl | assumption | (simp; done)) rfl (by omega)); apply run_step rfl; (exact stp_assign rfl rfl); refine run_nil ?_; refine fin_block ?_; refine fin_seq ?_; refine goes_region ?_; apply run_step rfl; (exact stp_add rfl rfl rfl (by first | exact IntWalk.i64_in _ (by omega) | rfl)); apply run_step rfl; (exact stp_move rfl rfl); refine run_nil ?_)
      exact fin_round (i + 1) hlt' (by omega) (Wk.of ⟨rfl, rfl, rfl, rfl, rfl, trivial⟩ ⟨rfl, rfl, by rw [hrow]; rfl, trivial⟩ trivial)
  · obtain rfl : i = ng := by omega
    (refine goes_exit ?_; refine fin_exit_then ?_; refine fin_exit_then ?_; refine fin_exit_eq ?_; refine fin_seq ?_; refine goes_seq ?_; refine goes_region ?_; apply run_step rfl; (exact stp_move rfl rfl); apply run_step rfl; (exact stp_assign rfl rfl); apply run_step rfl; (exact stp_assign rfl rfl); refine run_nil ?_; refine fin_seq ?_; refine goes_ret ?_)
    exact fin_ret2 (.inl rfl) rfl (.tmp rfl) (.tmp rfl) ⟨rfl, trivial⟩ trivial
set_option maxRecDepth 100000 in
set_option maxHeartbeats 1000000 in
theorem implPO_no (g : Int) (rels : List (List Int)) (h1 : Fit rels) (hk : ¬ elOk (g, rels) []) :
    FC Try.prog 39 [(1003, rowsRo rels)] [pA g rels.length] [] (.tup [.one (.val (.slice none 0 0)), .one (.val (I6 (elC (g, rels) [])))]) [] := by
  have hE := (implEl_no h1 (by simp) hk).nilE
  have hc := elC_no hk
  refine fc_enter (nt := 43) Try.func39 rfl rfl (by simp) fun w0 ω0 => ?_
  (refine goes_seq ?_; refine goes_region ?_; apply run_step rfl; (exact stp_box rfl rfl rfl rfl); apply run_step rfl; (exact stp_assign rfl rfl); apply run_step rfl; (exact stp_assign rfl rfl); refine run_nil ?_; refine fin_seq ?_; refine goes_seq ?_; refine goes_region ?_; apply run_step rfl; (exact stp_loadAgg rfl rfl rfl rfl rfl rfl (by as_aux_lemma => kernel_rfl)); apply run_step rfl; (apply call_gate 55; exact stp_callR hE (by as_aux_lemma => kernel_rfl) rfl rfl ⟨⟨.inl rfl, .inl rfl, trivial⟩, rfl, trivial⟩ ⟨⟨_, rfl, .inl rfl⟩, trivial⟩ rfl rfl); apply run_step rfl; (exact stp_move rfl rfl); apply run_step rfl; (exact stp_extract rfl rfl rfl); apply run_step rfl; (exact stp_extract rfl rfl rfl); apply run_step rfl; (exact stp_assign rfl rfl); apply run_step rfl; (exact stp_assign rfl rfl); refine run_nil ?_; refine fin_seq ?_; refine goes_seq ?_; refine goes_seq ?_; refine goes_region ?_; apply run_step rfl; (exact stp_move rfl rfl); apply run_step rfl; (exact stp_bin rfl rfl rfl rfl); refine run_nil ?_; refine fin_seq ?_)
  refine goes_cond rfl (fun _ => ?_) (fun e => ?_)
  · (refine goes_seq ?_; refine goes_region ?_; apply run_step rfl; (exact stp_move rfl rfl); apply run_step rfl; (exact stp_assign rfl rfl); apply run_step rfl; (exact stp_assign rfl rfl); refine run_nil ?_; refine fin_seq ?_; refine goes_ret ?_; refine fin_ret_then ?_)
    exact fin_ret2 (.inl rfl) rfl (.tmp rfl) (.tmp rfl) trivial trivial
  · exfalso; simp at e; exact hc e
theorem poR_small (d : PresD) : (poR d).length ≤ 5 ∧ lenSS (poR d) ≤ 25 := by
  unfold poR
  split
  · rename_i hc
    obtain ⟨g, rels⟩ := d
    have hok : elOk (g, rels) [] := Classical.byContradiction fun h => elC_no h hc
    obtain ⟨ng, rfl, hG⟩ := good_nil hok.1
    have h5 := hG.hi
    rw [show ((ng : Int), rels).1.toNat = ng from rfl]
    have hl := poL_len (cosTab ((ng : Int), rels) []) ng (cosN ((ng : Int), rels) [])
    have := lenSS_le (zss := poL (cosTab ((ng : Int), rels) []) ng (cosN ((ng : Int), rels) [])) (k := 5) fun z hz => by
      obtain ⟨j, _, rfl⟩ := List.mem_map.1 hz
      rw [poRow_len]; omega
    omega
  · simp [lenSS]
theorem api_specPO {E1 E : Nat} {lo hi : Nat} {v : Value} {d : PresD} (w : World) (h : OwP E1 E w lo hi v d) :
    Calls Try.prog 38 #[v] w fun e w' => ∃ r, e = .returned (.tuple #[r, .int .i64 (elC d [])]) ∧ OwSS 2 37 w' w.heap.size w'.heap.size r (poR d) ∧ Below w.heap.size w w' := by
  obtain ⟨g, rels⟩ := d
  by_cases hok : elOk (g, rels) []
  · obtain ⟨ng, rfl, hG⟩ := good_nil hok.1
    have hc := elC_ok hok
    have hr : poR ((ng : Int), rels) = poL (cosTab ((ng : Int), rels) []) ng (cosN ((ng : Int), rels) []) := by unfold poR; rw [if_pos hc]; rfl
    have h5 := hG.hi
    rw [hr, hc]
    refine (callP (d := ((ng : Int), rels)) (fun k1 => specPO_yes ng rels k1 hG hok) h).mono ?_
    rintro e w' ⟨v, η, ω, rfl, hd, hm, hb, hn⟩
    obtain ⟨u, u', rfl, h1, h2⟩ := den_tup2 hd
    have h2 : u' = I6 0 := h2
    subst h2
    refine ⟨u, rfl, toSS (x := 18) hm hn rfl (by rw [poL_len]; exact h1) (by rw [poL_len]; omega) (fun zs hz => ?_), hb⟩
    obtain ⟨j, _, rfl⟩ := List.mem_map.1 hz
    rw [poRow_len]; omega
  · have hc := elC_no hok
    have hr : poR (g, rels) = [] := if_neg hc
    rw [hr]
    refine (two_vals (callP (d := (g, rels)) (fun k1 => specPO_no g rels k1 hok) h)).mono ?_
    rintro e w' ⟨rfl, hb⟩
    exact ⟨_, rfl, owSS_nil, hb⟩
theorem api_implPO {E1 E : Nat} {lo hi : Nat} {v : Value} {d : PresD} (w : World) (h : OwP E1 E w lo hi v d) :
    Calls Try.prog 39 #[v] w fun e w' => ∃ r, e = .returned (.tuple #[r, .int .i64 (elC d [])]) ∧ OwSS 2 37 w' w.heap.size w'.heap.size r (poR d) ∧ Below w.heap.size w w' := by
  obtain ⟨g, rels⟩ := d
  by_cases hok : elOk (g, rels) []
  · obtain ⟨ng, rfl, hG⟩ := good_nil hok.1
    have hc := elC_ok hok
    have hr : poR ((ng : Int), rels) = poL (cosTab ((ng : Int), rels) []) ng (cosN ((ng : Int), rels) []) := by unfold poR; rw [if_pos hc]; rfl
    have h5 := hG.hi
    rw [hr, hc]
    refine (callP (d := ((ng : Int), rels)) (fun k1 => implPO_yes ng rels k1 hG hok) h).mono ?_
    rintro e w' ⟨v, η, ω, rfl, hd, hm, hb, hn⟩
    obtain ⟨u, u', rfl, h1, h2⟩ := den_tup2 hd
    have h2 : u' = I6 0 := h2
    subst h2
    refine ⟨u, rfl, toSS (x := 6) hm hn rfl (by rw [poL_len]; exact h1) (by rw [poL_len]; omega) (fun zs hz => ?_), hb⟩
    obtain ⟨j, _, rfl⟩ := List.mem_map.1 hz
    rw [poRow_len]; omega
  · have hc := elC_no hok
    have hr : poR (g, rels) = [] := if_neg hc
    rw [hr]
    refine (two_vals (callP (d := (g, rels)) (fun k1 => implPO_no g rels k1 hok) h)).mono ?_
    rintro e w' ⟨rfl, hb⟩
    exact ⟨_, rfl, owSS_nil, hb⟩
end Go.Proofs.Ytpjglifijdcgnaa

/- A memory of names: a region that draws its order and holds guards, walked once. No program in sight. -/
namespace Go.Proofs.Ytpjglifijdcgnaa
open Go.RowKit

section
variable {P : Program} {nt : Nat} {w0 w : World} {ω0 : Beg} {S S1 : St} {Q : Exit → Act → World → Prop} {a : Act}
/-- an operation, run or passed over, as its guard says -/
inductive GSt (P : Program) (nt : Nat) (ops : Array Oper) (o : Oper) (S1 : St) (A : Add) : Prop where
  | run (hg : o.guard = none) (h : Stp P nt o S1 (S1.add A))
  | yes {j d : Nat} {want : Bool} (hg : o.guard = some (j, want)) (hj : (ops[j]?).bind (·.dst) = some d) (hb : S1.sl d = some (vv (.bool want))) (h : Stp P nt o S1 (S1.add A))
  | no {j d : Nat} {want : Bool} (hg : o.guard = some (j, want)) (hj : (ops[j]?).bind (·.dst) = some d) (hb : S1.sl d = some (vv (.bool (!want)))) (ht : o.dst = some A.t) (hn : Nat.blt A.t nt = true) (ha : A.av = vv undef) (hx : A.news = none)
/-- the operations, one behind the other in the text's order: each may look at what it depends on alone -/
inductive DrawG (P : Program) (nt : Nat) (ops0 : Array Oper) (S : St) (cls : List (List Nat)) (sk : List Nat) : List Oper → List Add → List Add → Prop where
  | nil {done : List Add} : DrawG P nt ops0 S cls sk [] done done
  | skip {o : Oper} {rest : List Oper} {done all : List Add} (A : Add) (hs : memN sk done.length = true) (k : DrawG P nt ops0 S cls sk rest (A :: done) all) : DrawG P nt ops0 S cls sk (o :: rest) done all
  | cons {o : Oper} {rest : List Oper} {done all : List Add} (A : Add)
      (h : ∀ S1, (S.partR (memN (cls.getD done.length [])) done).le S1 → GSt P nt ops0 o S1 A) (k : DrawG P nt ops0 S cls sk rest (A :: done) all) : DrawG P nt ops0 S cls sk (o :: rest) done all
theorem DrawG.spec {ops0 : Array Oper} {cls : List (List Nat)} {sk : List Nat} {ops : List Oper} {done all : List Add} (h : DrawG P nt ops0 S cls sk ops done all) : (∃ r, all.reverse = done.reverse ++ r ∧ r.length = ops.length) ∧ ∀ (i : Nat) (o : Oper), ops[i]? = some o → memN sk (done.length + i) = false →
    ∃ A, all.reverse[done.length + i]? = some A ∧ ∀ S1, (S.partR (memN (cls.getD (done.length + i) [])) (all.reverse.take (done.length + i)).reverse).le S1 → GSt P nt ops0 o S1 A := by
  induction h with
  | nil => exact ⟨⟨[], by simp⟩, fun i o h => by simp at h⟩
  | @skip o rest done all A hs k ih =>
    obtain ⟨⟨r, hr, hl⟩, h2⟩ := ih
    refine ⟨⟨A :: r, by rw [hr]; simp, by simp [hl]⟩, fun i o' hi hsk => ?_⟩
    cases i with
    | zero => rw [Nat.add_zero, hs] at hsk; cases hsk
    | succ i =>
      have e : (A :: done).length + i = done.length + (i + 1) := by simp; omega
      rw [← e] at hsk ⊢
      exact h2 i o' (by simpa using hi) hsk
  | @cons o rest done all A h k ih =>
    obtain ⟨⟨r, hr, hl⟩, h2⟩ := ih
    refine ⟨⟨A :: r, by rw [hr]; simp, by simp [hl]⟩, fun i o' hi hsk => ?_⟩
    cases i with
    | zero =>
      simp at hi; subst hi
      refine ⟨A, by rw [hr]; simp, fun S1 hS => h S1 ?_⟩
      have : (all.reverse.take (done.length + 0)).reverse = done := by rw [hr]; simp
      rw [this] at hS
      exact hS
    | succ i =>
      have e : (A :: done).length + i = done.length + (i + 1) := by simp; omega
      rw [← e] at hsk ⊢
      exact h2 i o' (by simpa using hi) hsk

theorem drawG_main {l : List Oper} {nA : Nat} {sk : List Nat} {cls : List (List Nat)} {ds nms : List Nat} {adds done : List Add} (hcl : ClsOK l.toArray nA sk cls) (hdr : DrawG P nt l.toArray (S.clear ds nms) cls sk (l.take nA) [] done) (hdn : done.reverse = adds) (ok : AddsOK adds cls ds nms)
    (hk : Rest P w0 ω0 nt l.toArray Q (l.length - missing sk #[] nA) (doneL nA sk l.length) ((S.clear ds nms).part (fun j => !memN sk j) adds)) :
    ∀ (d : Nat) (L : Array Bool) (a : Act) (w : World), missing sk L nA = d → L.size = l.length → (∀ j, L.getD j false = true → j < nA ∧ memN sk j = false) → (∀ i, L.getD i false = true → ∀ j ∈ cls.getD i [], L.getD j false = true) →
      Sat w0 ω0 nt ((S.clear ds nms).part (fun j => L.getD j false) adds) a w → wpAny P .any l.toArray Q (l.length - missing sk #[] nA + d) L a w := by
  have hsz : nA ≤ l.length := by have := hcl.size; simpa using this
  obtain ⟨⟨r, hr, hrl⟩, hob⟩ := hdr.spec
  rw [hdn] at hr hob
  have hal : adds.length = nA := by rw [hr]; simp [hrl]; omega
  have hfull : ∀ (L : Array Bool) (i : Nat), i ∈ Region.ready .any l.toArray L → (∀ i, L.getD i false = true → ∀ j ∈ cls.getD i [], L.getD j false = true) → (∃ o, l.toArray[i]? = some o ∧ L.getD i true = false) ∧ ∀ j ∈ cls.getD i [], L.getD j false = true := by
    intro L i hi hclosed
    obtain ⟨h0, o, ho, he⟩ := mem_ready.1 hi
    refine ⟨⟨o, ho, h0⟩, fun j hj => ?_⟩
    obtain ⟨e, hem, hb, hje⟩ := hcl.dep i o ho j hj
    have h1 := he e hem hb
    rcases hje with rfl | hje
    · exact h1
    · exact hclosed e.on h1 j hje
  intro d
  induction d with
  | zero =>
    intro L a w hm hs hsub hclosed hsat
    have hall := missing_zero hm
    have hL : L = doneL nA sk l.length := by
      apply Array.ext
      · simp [hs, doneL]
      · intro j h1 h2
        have h3 : L[j]? = some L[j] := Array.getElem?_eq_getElem h1
        have h4 := doneL_at (nA := nA) (sk := sk) (n := l.length) (j := j) (by omega)
        rw [Array.getElem?_eq_getElem h2] at h4
        rw [Option.some.inj h4]
        cases hb : L[j] with
        | true =>
          have := hsub j (by simp [h1, hb])
          simp [this.1, this.2]
        | false =>
          by_cases hj : j < nA
          · cases hsk : memN sk j with
            | true => simp
            | false =>
              have := hall j hj hsk
              simp [h1, hb] at this
          · simp [hj]
    refine hk.go a w ((St.le.wk (part_le (ℓ1 := fun j => !memN sk j) (ℓ2 := fun j => L.getD j false) ok (fun _ _ h => h) fun j A hj hsk => ?_) fun _ _ h => h).go _ _ _ a w hsat) |> fun h => by rw [← hL] at h; exact h
    have hjl : j < adds.length := (List.getElem?_eq_some_iff.1 hj).1
    exact hall j (by omega) (by simpa using hsk)
  | succ d ih =>
    intro L a w hm hs hsub hclosed hsat
    refine ⟨fun hnil => ?_, fun i hi => ?_⟩
    · exfalso
      obtain ⟨j, hj, hjs', hjf, hlo⟩ := missing_least (k := nA) (by omega : missing sk L nA ≠ 0)
      have hjl : j < l.length := by omega
      have hjs : j < L.size := by omega
      have : j ∈ Region.ready .any l.toArray L := by
        refine mem_ready.2 ⟨?_, l[j], by simp [hjl], fun e he hb => ?_⟩
        · simp [hjs] at hjf ⊢
          exact hjf
        · have h5 := hcl.less j l[j] (by simp [hjl]) hj hjs' e he hb
          exact hlo e.on h5.1 h5.2
      rw [hnil] at this; cases this
    · obtain ⟨⟨o, ho, hi0⟩, hdep⟩ := hfull L i hi hclosed
      have hil : i < l.length := by have := (Array.getElem?_eq_some_iff.1 ho).1; simpa using this
      have his : i < L.size := by omega
      have hif : L.getD i false = false := by simp [his] at hi0 ⊢; exact hi0
      have hnl : ¬ (nA ≤ i ∨ memN sk i = true) := fun h => by
        have := missing_full (sk := sk) (L := L) (k := nA) fun j hj hsk => hdep j (hcl.late i o ho h j hj hsk)
        omega
      have hiA : i < nA := by
        rcases Nat.lt_or_ge i nA with h | h
        · exact h
        · exact absurd (.inl h) hnl
      have hisk : memN sk i = false := by
        cases hsk : memN sk i with
        | false => rfl
        | true => exact absurd (.inr hsk) hnl
      have hot : (l.take nA)[i]? = some o := by rw [List.getElem?_take, if_pos hiA]; simpa using ho
      obtain ⟨A, hA, hstp⟩ := hob i o hot (by simpa using hisk)
      simp only [List.length_nil, Nat.zero_add] at hA hstp
      have hle : ((S.clear ds nms).partR (memN (cls.getD i [])) (adds.take i).reverse).le ((S.clear ds nms).part (fun j => L.getD j false) adds) := partR_le ok (fun j B hj => by
          rw [List.reverse_reverse] at hj
          rw [List.getElem?_take] at hj; split at hj
          · exact hj
          · cases hj) fun j B _ hj => hdep j (memN_iff.1 hj)
      have cont : ∀ a' w', Sat w0 ω0 nt (((S.clear ds nms).part (fun j => L.getD j false) adds).add A) a' w' → wpAny P .any l.toArray Q (l.length - missing sk #[] nA + d) (L.setIfInBounds i true) a' w' := fun a' w' hsat' => by
        have hsat2 := (wk_add ok hA hif fun j hj hm' => by have := hclosed j hj i hm'; rw [hif] at this; cases this).go _ _ _ a' w' hsat'
        have hnew : ∀ j, (L.setIfInBounds i true).getD j false = (Nat.beq j i || L.getD j false) := fun j => by
          by_cases e : j = i
          · subst e; simp [his]
          · rw [getD_set_ne false (fun e' => e e'.symm), beq_ne e, Bool.false_or]
        refine ih (L.setIfInBounds i true) a' w' ?_ (by simp [hs]) (fun j hj => ?_) (fun j hj k hk' => ?_) ?_
        · have := missing_set his hif hisk nA hiA; omega
        · rw [hnew] at hj
          by_cases e : j = i
          · rw [e]; exact ⟨hiA, hisk⟩
          · rw [beq_ne e, Bool.false_or] at hj; exact hsub j hj
        · rw [hnew] at hj ⊢
          by_cases e : j = i
          · subst e; rw [hdep k hk']; simp
          · rw [beq_ne e, Bool.false_or] at hj; rw [hclosed j hj k hk']; simp
        · have : (fun j => (L.setIfInBounds i true).getD j false) = fun j => (Nat.beq j i || L.getD j false) := funext hnew
          rw [this]; exact hsat2
      have hy : ∀ {j dd : Nat} {b : Bool}, (l.toArray[j]?).bind (·.dst) = some dd → ((S.clear ds nms).part (fun j => L.getD j false) adds).sl dd = some (vv (.bool b)) → yielded l.toArray a.tmps j = some b := fun {j dd b} hj hb => by
        obtain ⟨η, ω, hs⟩ := hsat
        obtain ⟨u, k1, k2⟩ := hs.slots dd _ hb
        have k2 : u = .bool b := k2
        subst k2
        unfold yielded
        cases hoj : l.toArray[j]? with
        | none => rw [hoj] at hj; cases hj
        | some oj =>
          rw [hoj] at hj
          simp only [Option.bind_some] at hj
          simp [hj, k1]
      unfold wpOp
      simp only [ho]
      cases hstp _ hle with
      | run hg h =>
        rw [if_pos (by simp [Region.wanted, hg])]
        exact .inl (Oper.wp_mono (fun a' w' hsat' => cont a' w' hsat') (h.go w0 ω0 a w Q hsat))
      | yes hg hj hb h =>
        rw [if_pos (by simp [Region.wanted, hg, hy hj hb])]
        exact .inl (Oper.wp_mono (fun a' w' hsat' => cont a' w' hsat') (h.go w0 ω0 a w Q hsat))
      | @no j dd want hg hj hb ht hn ha hx =>
        rw [if_neg (by simp [Region.wanted, hg, hy hj hb])]
        refine cont _ _ ?_
        obtain ⟨η, ω, hs⟩ := hsat
        refine ⟨η, ω, ?_⟩
        have e : ((S.clear ds nms).part (fun j => L.getD j false) adds).add A = ((S.clear ds nms).part (fun j => L.getD j false) adds).put A.t (vv undef) := by unfold St.add; rw [hx, ha]; rfl
        rw [e, ht]
        exact hs.putV (by simpa using hn) rfl

theorem goes_drawG {id : Nat} {l : List Oper} (nA : Nat) (sk : List Nat) (cls : List (List Nat)) (ds nms : List Nat) {done : List Add} (hm : P.follows .mixedOrders = true) (hcl : clsB l.toArray nA sk cls = true) (hdr : DrawG P nt l.toArray (S.clear ds nms) cls sk (l.take nA) [] done) (ok : addsB done.reverse cls ds nms = true)
    (hk : Rest P w0 ω0 nt l.toArray Q (l.length - missing sk #[] nA) (doneL nA sk l.length) ((S.clear ds nms).partR (fun j => !memN sk j) done)) : Goes P w0 ω0 nt S (.region id l.toArray true) Q := by
  have hc := clsB_spec hcl
  have hsz : nA ≤ l.length := by have := hc.size; simpa using this
  have hk' : Rest P w0 ω0 nt l.toArray Q (l.length - missing sk #[] nA) (doneL nA sk l.length) ((S.clear ds nms).part (fun j => !memN sk j) done.reverse) :=
    ⟨fun a w hs => hk.go a w ((St.le.wk (partR_le (addsB_spec ok) (fun _ _ h => h) fun _ _ _ h => h) fun _ _ h => h).go _ _ _ a w hs)⟩
  have hle : ∀ k, missing sk #[] k ≤ k := fun k => by
    induction k with
    | zero => exact Nat.le_refl _
    | succ k ih => simp only [missing]; split <;> omega
  refine ⟨fun a w hs => wp_region_any hm ?_⟩
  have hfin := drawG_main hc hdr rfl (addsB_spec ok) hk' (missing sk #[] nA) (Array.replicate l.length false) a { w with drawn := w.drawn + 1 } ?_ (by simp) (fun j hj => ?_) (fun i hi => ?_) ?_
  · have := hle nA
    rw [show l.length - missing sk #[] nA + missing sk #[] nA = l.length by omega] at hfin
    simpa using hfin
  · have : ∀ k, k ≤ l.length → missing sk (Array.replicate l.length false) k = missing sk #[] k := fun k => by
      induction k with
      | zero => intro _; rfl
      | succ k ih =>
        intro hk
        simp only [missing]
        rw [ih (by omega)]
        have : (Array.replicate l.length false).getD k false = false := by simp [show k < l.length by omega]
        rw [this]; rfl
    exact this nA hsz
  · exfalso
    by_cases h : j < l.length
    · simp [h] at hj
    · simp [h] at hj
  · exfalso
    by_cases h : i < l.length
    · simp [h] at hi
    · simp [h] at hi
  · have h1 := (wk_clear S ds nms).go _ _ _ a _ (sat_drew hs)
    have hf : ∀ j, (Array.replicate l.length false).getD j false = false := fun j => by
      by_cases h : j < l.length <;> simp [h]
    refine (Wk.less (S := S.clear ds nms) (S' := (S.clear ds nms).part (fun j => (Array.replicate l.length false).getD j false) done.reverse) (fun t av h => ?_) (fun x c h => ?_) fun _ _ h => h).go _ _ _ a _ h1
    · have h : (match lkT (fun j => (Array.replicate l.length false).getD j false) 0 done.reverse t with | some av => some av | none => (S.clear ds nms).sl t) = some av := h
      split at h
      · rename_i av' h2
        obtain ⟨j, A, _, h3, _⟩ := lkT_some h2
        rw [hf] at h3; cases h3
      · exact h
    · have h : (match lkN (fun j => (Array.replicate l.length false).getD j false) 0 done.reverse x with | some c => some c | none => (S.clear ds nms).ch x) = some c := h
      split at h
      · rename_i av' h2
        obtain ⟨j, A, _, h3, _⟩ := lkN_some h2
        rw [hf] at h3; cases h3
      · exact h

end
section
variable {P : Program} {nt : Nat} {S : St} {cls : List (List Nat)} {sk : List Nat} {o : Oper} {rest : List Oper} {done all : List Add} {ops0 : Array Oper} {t : Nat} {ty : TypeId} {ps : String} {af : Array Edge} {gd : Option (Nat × Bool)} {x y : Operand}
theorem drawG_put {t : Nat} {av : AV} (hg : o.guard = none) (h : ∀ S1, (S.partR (memN (cls.getD done.length [])) done).le S1 → Stp P nt o S1 (S1.put t av)) (k : DrawG P nt ops0 S cls sk rest (⟨t, av, none⟩ :: done) all) : DrawG P nt ops0 S cls sk (o :: rest) done all := .cons ⟨t, av, none⟩ (fun S1 hS => .run hg (h S1 hS)) k
theorem drawG_yes {t j d : Nat} {want : Bool} {av : AV} (hg : o.guard = some (j, want)) (hj : (ops0[j]?).bind (·.dst) = some d) (hb : (S.partR (memN (cls.getD done.length [])) done).sl d = some (vv (.bool want))) (h : ∀ S1, (S.partR (memN (cls.getD done.length [])) done).le S1 → Stp P nt o S1 (S1.put t av)) (k : DrawG P nt ops0 S cls sk rest (⟨t, av, none⟩ :: done) all) : DrawG P nt ops0 S cls sk (o :: rest) done all := .cons ⟨t, av, none⟩ (fun S1 hS => .yes hg hj (hS.sl _ _ hb) (h S1 hS)) k
theorem drawG_no {t j d : Nat} {want : Bool} (hg : o.guard = some (j, want)) (hj : (ops0[j]?).bind (·.dst) = some d) (hb : (S.partR (memN (cls.getD done.length [])) done).sl d = some (vv (.bool (!want)))) (ht : o.dst = some t) (hn : Nat.blt t nt = true) (k : DrawG P nt ops0 S cls sk rest (⟨t, vv undef, none⟩ :: done) all) : DrawG P nt ops0 S cls sk (o :: rest) done all := .cons ⟨t, vv undef, none⟩ (fun S1 hS => .no hg hj (hS.sl _ _ hb) ht hn rfl rfl) k
/-- whether two truth values are different -/
theorem stp_neqB {xt yt : TypeId} {b b' : Bool} (hT : P.underlying xt = some .bool) (ht : Nat.blt t nt = true) (hx : S.op x = some (vv (.bool b))) (hy : S.op y = some (vv (.bool b'))) : Stp P nt ⟨some t, .binOp .neq xt x y yt, ty, ps, af, gd⟩ S (S.put t (vv (.bool (b != b')))) :=
  Stp.pure rfl ht fun _ _ η _ a w hs => by
    refine ⟨.bool (b != b'), ?_, rfl⟩
    have e : ∀ w : World, (Op.equal xt (.bool b) (.bool b')).run P w = .ok (b == b') w := fun w => run_equal_bool w xt b b' hT
    simp [execOp, hs.opV hx, hs.opV hy, eqGuard, binOp, e, bne]
end
end Go.Proofs.Ytpjglifijdcgnaa

/- The first fault of intersections: the reference's IntersectionFault. guards: -/
namespace Go.Proofs.Ytpjglifijdcgnaa
open Go.RowKit

def brows (l : List (List Bool)) : List (List Value) := l.map bvals
theorem brows_len (l : List (List Bool)) : (brows l).length = l.length := by simp [brows]
def msk (T : List (List Int)) (ng n k : Nat) : List (List Bool) := (List.range k).map fun m => (mem T ng n m).1
theorem msk_len (T : List (List Int)) (ng n k : Nat) : (msk T ng n k).length = k := by simp [msk]
theorem msk_get {T : List (List Int)} {ng n k i : Nat} (h : i < k) : (brows (msk T ng n k))[i]? = some (bvals (mem T ng n i).1) := by simp [brows, msk, h]
theorem msk_snoc (T : List (List Int)) (ng n k : Nat) : brows (msk T ng n k) ++ [bvals (mem T ng n k).1] = brows (msk T ng n (k + 1)) := by
  unfold msk; rw [List.range_succ, List.map_append]; simp [brows]
abbrev brCh (l : List (List Bool)) : Ch := ⟨true, 65, 1, .rows 4 (brows l) []⟩
abbrev flt3 (R : Int × Int × Int) : AV := .tup [.one (.val (I6 R.1)), .one (.val (I6 R.2.1)), .one (.val (I6 R.2.2))]
theorem and_lt {i k m : Nat} (h : i < m) : i &&& k < m := Nat.lt_of_le_of_lt Nat.and_le_left h

set_option maxRecDepth 100000 in
set_option maxHeartbeats 2000000 in
theorem specIF_yes (ng : Nat) (rels : List (List Int)) (h1 : Fit rels) (hG : Good ng rels []) (hk : elOk ((ng : Int), rels) []) :
    FC Try.prog 36 [(1003, rowsRo rels)] [pA ng rels.length] [] (flt3 (fltR (cosTab ((ng : Int), rels) []) ng (cosN ((ng : Int), rels) []))) [] := by
  have hE := (specEl_yes h1 (by simp) hG hk).nilE
  have hs := smallOk_run hk.2.2
  have hng := hG.hi
  have hpos := hG.pos
  have h32 : 2 ^ ng ≤ 32 := Nat.pow_le_pow_right (by decide) hng
  have hT := cosTab_leads hG hs.1
  have hNp := cosN_pos hG hs.1
  have hTl := cosTab_len ng rels []
  have hM : ∀ k : Nat, k < 2 ^ ng → FC Try.prog 61 [(1005, imRo (cosTab ((ng : Int), rels) []))] [o1 (.sl 1005 0 ng), vv (I6 k)] [(34, boOw (mem (cosTab ((ng : Int), rels) []) ng (cosN ((ng : Int), rels) []) k).1)] (o1 (.sl 34 0 (cosN ((ng : Int), rels) []))) [] := fun k hk =>
    (members_fc _ ng _ k hTl hpos hT hNp hs.2 hng (by omega)).nm [(1005, 1005), (14, 34)] (by kernel_rfl)
  have hr0 : (lget (cosTab ((ng : Int), rels) []) 0).length = cosN ((ng : Int), rels) [] := hT.len 0 (by omega)
  refine fc_enter (nt := 87) Try.func36 rfl rfl (by simp) fun w0 ω0 => ?_
  have hN4 := hs.2
  clear hs
  generalize cosN ((ng : Int), rels) [] = N at *
  generalize cosTab ((ng : Int), rels) [] = T at *
  have hml : ∀ m, (mem T ng N m).1.length = N := fun m => (mem_ok hT hTl hNp).l
  have hlen : (irows T).length = ng := by rw [irows_len, hTl]
  have hrow : (irows T)[0]? = some (ivals (lget T 0)) := irows_get (by omega)
  have hng64 : ng ≤ 5 := hng
  (refine goes_seq ?_; refine goes_region ?_; apply run_step rfl; (exact stp_box rfl rfl rfl rfl); apply run_step rfl; (exact stp_assign rfl rfl); apply run_step rfl; (exact stp_assign rfl rfl); apply run_step rfl; (exact stp_assign rfl rfl); refine run_nil ?_; refine fin_seq ?_; refine goes_seq ?_; refine goes_region ?_; apply run_step rfl; (exact stp_loadAgg rfl rfl rfl rfl rfl rfl (by as_aux_lemma => kernel_rfl)); apply run_step rfl; (apply call_gate 53; exact stp_callN hE (by as_aux_lemma => kernel_rfl) rfl rfl ⟨⟨.inl rfl, .inl rfl, trivial⟩, rfl, trivial⟩ ⟨⟨_, rfl, .inl rfl⟩, trivial⟩ rfl rfl rfl); apply run_step rfl; (exact stp_move rfl rfl); apply run_step rfl; (exact stp_extract rfl rfl rfl); apply run_step rfl; (exact stp_extract rfl rfl rfl); apply run_step rfl; (exact stp_assign rfl rfl); apply run_step rfl; (exact stp_assign rfl rfl); refine run_nil ?_; refine fin_seq ?_; refine goes_seq ?_; refine goes_seq ?_; refine goes_region ?_; apply run_step rfl; (exact stp_move rfl rfl); apply run_step rfl; (exact stp_bin rfl rfl rfl rfl); refine run_nil ?_; refine fin_seq ?_)
  refine goes_cond rfl (fun e => by cases e) (fun _ => ?_)
  (refine goes_skip ?_; refine fin_seq ?_; refine goes_seq ?_; refine goes_region ?_; apply run_step rfl; (exact stp_fieldAddr (d := 0) rfl rfl rfl (by as_aux_lemma => kernel_rfl)); apply run_step rfl; (exact stp_loadF rfl (by as_aux_lemma => kernel_rfl) rfl rfl rfl rfl); apply run_step rfl; (first | exact stp_convN (k2 := .u64) rfl rfl (by as_aux_lemma => kernel_rfl) (by as_aux_lemma => kernel_rfl) (by rw [IntKind.wrap_u64]; omega) | exact stp_shl1 (g := ng) rfl rfl rfl hng64 | exact stp_lit0R (E := 65) (F := 4) rfl (by as_aux_lemma => kernel_rfl)); apply run_step rfl; (first | exact stp_convN (k2 := .u64) rfl rfl (by as_aux_lemma => kernel_rfl) (by as_aux_lemma => kernel_rfl) (by rw [IntKind.wrap_u64]; omega) | exact stp_shl1 (g := ng) rfl rfl rfl hng64 | exact stp_lit0R (E := 65) (F := 4) rfl (by as_aux_lemma => kernel_rfl)); apply run_step rfl; (first | exact stp_convN (k2 := .u64) rfl rfl (by as_aux_lemma => kernel_rfl) (by as_aux_lemma => kernel_rfl) (by rw [IntKind.wrap_u64]; omega) | exact stp_shl1 (g := ng) rfl rfl rfl hng64 | exact stp_lit0R (E := 65) (F := 4) rfl (by as_aux_lemma => kernel_rfl)); apply run_step rfl; (exact stp_assign rfl rfl); apply run_step rfl; (exact stp_assign rfl rfl); refine run_nil ?_; refine fin_seq ?_; refine goes_seq ?_; refine goes_seq ?_; refine goes_region ?_; apply run_step rfl; (exact stp_assign rfl rfl); refine run_nil ?_; refine fin_seq ?_; refine goes_block ?_)
  refine goes_loop (fun k : Nat => St.of [(5, o1 (.sl 1005 0 ng)), (7, vv (I6 (2 ^ ng : Nat))), (8, o1 (.sl 25 0 k)), (9, vv (I6 k))] [(1005, imOw T), (25, brCh (msk T ng N k))]) (fun k => k ≤ 2 ^ ng) (fun k => 2 ^ ng - k) 0 (Nat.zero_le _) (Wk.of ⟨rfl, rfl, rfl, rfl, trivial⟩ ⟨rfl, rfl, trivial⟩ trivial) ?_
  intro k hk2
  (refine goes_seq ?_; refine goes_seq ?_; refine goes_region ?_; apply run_step rfl; (exact stp_move rfl rfl); apply run_step rfl; (exact stp_move rfl rfl); apply run_step rfl; (exact stp_bin rfl rfl rfl rfl); refine run_nil ?_; refine fin_seq ?_)
  refine goes_if rfl (fun hlt => ?_) (fun hlt => ?_)
  · have hlt' : k < 2 ^ ng := by omega
    have hMk := hM k hlt'
    have hbl : (bvals (mem T ng N k).1).length = N := by rw [bvals_len]; exact hml k
    have hvl : (brows (msk T ng N k)).length = k := by rw [brows_len, msk_len]
    (refine goes_skip ?_; refine fin_seq ?_; refine goes_seq ?_; refine goes_block ?_; refine goes_region ?_; apply run_step rfl; (exact stp_move rfl rfl); apply run_step rfl; (exact stp_move rfl rfl); apply run_step rfl; (exact stp_move rfl rfl); apply run_step rfl; (first | (apply call_gate 61; exact stp_callN hMk (by as_aux_lemma => kernel_rfl) rfl rfl ⟨rfl, rfl, trivial⟩ ⟨⟨_, rfl, .inr rfl⟩, trivial⟩ rfl rfl rfl) | exact stp_lit1 (E := 65) rfl (by as_aux_lemma => kernel_rfl) rfl rfl rfl | exact stp_appendRow (E := 65) (F := 4) rfl (by as_aux_lemma => kernel_rfl) rfl rfl hvl rfl rfl rfl hbl rfl (by omega)); apply run_step rfl; (first | (apply call_gate 61; exact stp_callN hMk (by as_aux_lemma => kernel_rfl) rfl rfl ⟨rfl, rfl, trivial⟩ ⟨⟨_, rfl, .inr rfl⟩, trivial⟩ rfl rfl rfl) | exact stp_lit1 (E := 65) rfl (by as_aux_lemma => kernel_rfl) rfl rfl rfl | exact stp_appendRow (E := 65) (F := 4) rfl (by as_aux_lemma => kernel_rfl) rfl rfl hvl rfl rfl rfl hbl rfl (by omega)); apply run_step rfl; (first | (apply call_gate 61; exact stp_callN hMk (by as_aux_lemma => kernel_rfl) rfl rfl ⟨rfl, rfl, trivial⟩ ⟨⟨_, rfl, .inr rfl⟩, trivial⟩ rfl rfl rfl) | exact stp_lit1 (E := 65) rfl (by as_aux_lemma => kernel_rfl) rfl rfl rfl | exact stp_appendRow (E := 65) (F := 4) rfl (by as_aux_lemma => kernel_rfl) rfl rfl hvl rfl rfl rfl hbl rfl (by omega)); apply run_step rfl; (exact stp_assign rfl rfl); refine run_nil ?_; refine fin_block ?_; refine fin_seq ?_; refine goes_region ?_; apply run_step rfl; (exact stp_move rfl rfl); apply run_step rfl; (exact stp_add rfl rfl rfl (by first | exact IntWalk.i64_in _ (by omega) | rfl)); apply run_step rfl; (exact stp_assign rfl rfl); refine run_nil ?_)
    exact fin_round (k + 1) hlt' (by omega) (Wk.of ⟨rfl, rfl, rfl, rfl, trivial⟩ ⟨rfl, congrArg (fun l => some (⟨true, 65, 1, .rows 4 l []⟩ : Ch)) (msk_snoc T ng N k), trivial⟩ trivial)
  · obtain rfl : k = 2 ^ ng := by omega
    (refine goes_exit ?_; refine fin_exit_then ?_; refine fin_exit_then ?_; refine fin_exit_eq ?_; refine fin_seq ?_; refine goes_seq ?_; refine goes_seq ?_; refine goes_region ?_; apply run_step rfl; (exact stp_assign rfl rfl); refine run_nil ?_; refine fin_seq ?_; refine goes_block ?_)
    refine goes_loop (fun i : Nat => St.of [(5, o1 (.sl 1005 0 ng)), (7, vv (I6 (2 ^ ng : Nat))), (8, o1 (.sl 25 0 (2 ^ ng))), (10, vv (I6 i))] [(1005, imOw T), (25, brCh (msk T ng N (2 ^ ng)))]) (fun i => i ≤ 2 ^ ng ∧ ∀ i', i' < i → ∀ k', i' < k' → k' < 2 ^ ng → isFault T ng N i' k' = false) (fun i => 2 ^ ng - i) 0 ⟨Nat.zero_le _, fun i' h => by omega⟩ (Wk.of ⟨rfl, rfl, rfl, rfl, trivial⟩ ⟨rfl, rfl, trivial⟩ trivial) ?_
    rintro i ⟨hi, hno2⟩
    (refine goes_seq ?_; refine goes_seq ?_; refine goes_region ?_; apply run_step rfl; (exact stp_move rfl rfl); apply run_step rfl; (exact stp_move rfl rfl); apply run_step rfl; (exact stp_bin rfl rfl rfl rfl); refine run_nil ?_; refine fin_seq ?_)
    refine goes_if rfl (fun hil => ?_) (fun hil => ?_)
    · have hil' : i < 2 ^ ng := by omega
      (refine goes_skip ?_; refine fin_seq ?_; refine goes_seq ?_; refine goes_block ?_; refine goes_seq ?_; refine goes_region ?_; apply run_step rfl; (exact stp_move rfl rfl); apply run_step rfl; (exact stp_add rfl rfl rfl (by first | exact IntWalk.i64_in _ (by omega) | rfl)); apply run_step rfl; (exact stp_assign rfl rfl); refine run_nil ?_; refine fin_seq ?_; refine goes_block ?_)
      refine goes_loop (fun k : Nat => St.of [(5, o1 (.sl 1005 0 ng)), (7, vv (I6 (2 ^ ng : Nat))), (8, o1 (.sl 25 0 (2 ^ ng))), (10, vv (I6 i)), (11, vv (I6 k))] [(1005, imOw T), (25, brCh (msk T ng N (2 ^ ng)))]) (fun k => i < k ∧ k ≤ 2 ^ ng ∧ ∀ k', i < k' → k' < k → isFault T ng N i k' = false) (fun k => 2 ^ ng - k) (i + 1) ⟨by omega, by omega, fun k' h h' => by omega⟩ (Wk.of ⟨rfl, rfl, rfl, rfl, rfl, trivial⟩ ⟨rfl, rfl, trivial⟩ trivial) ?_
      rintro k ⟨hik, hkl, hno⟩
      (refine goes_seq ?_; refine goes_seq ?_; refine goes_region ?_; apply run_step rfl; (exact stp_move rfl rfl); apply run_step rfl; (exact stp_move rfl rfl); apply run_step rfl; (exact stp_bin rfl rfl rfl rfl); refine run_nil ?_; refine fin_seq ?_)
      refine goes_if rfl (fun hkl2 => ?_) (fun hkl2 => ?_)
      · have hkl' : k < 2 ^ ng := by omega
        (refine goes_skip ?_; refine fin_seq ?_; refine goes_seq ?_; refine goes_block ?_; refine goes_seq ?_; refine goes_region ?_; apply run_step rfl; (exact stp_assign rfl rfl); refine run_nil ?_; refine fin_seq ?_; refine goes_block ?_)
        refine goes_loop (fun c : Nat => St.of [(5, o1 (.sl 1005 0 ng)), (7, vv (I6 (2 ^ ng : Nat))), (8, o1 (.sl 25 0 (2 ^ ng))), (10, vv (I6 i)), (11, vv (I6 k)), (12, vv (I6 c))] [(1005, imOw T), (25, brCh (msk T ng N (2 ^ ng)))]) (fun c => c ≤ N ∧ ∀ c', c' < c → faultAt T ng N i k c' = false) (fun c => N - c) 0 ⟨Nat.zero_le _, fun c' h => by omega⟩ (Wk.of ⟨rfl, rfl, rfl, rfl, rfl, rfl, trivial⟩ ⟨rfl, rfl, trivial⟩ trivial) ?_
        rintro c ⟨hc, hnc⟩
        (refine goes_seq ?_; refine goes_seq ?_; refine goes_region ?_; apply run_step rfl; (exact stp_move rfl rfl); apply run_step rfl; (exact stp_move rfl rfl); apply run_step rfl; (exact stp_ix (j := 0) rfl rfl rfl rfl rfl (by as_aux_lemma => kernel_rfl) rfl hpos (Nat.le_of_eq hlen.symm)); apply run_step rfl; (exact stp_loadR rfl (by as_aux_lemma => kernel_rfl) rfl rfl rfl (by first | assumption | exact ivals_get (by assumption) | exact irows_get (by assumption) | exact ivals_get (by omega) | exact irows_get (by omega) | rfl) (by first | exact ivals_len _ | assumption | rfl)); apply run_step rfl; (exact stp_len rfl rfl rfl (by as_aux_lemma => kernel_rfl)); apply run_step rfl; (exact stp_bin rfl rfl rfl rfl); refine run_nil ?_; refine fin_seq ?_)
        refine goes_if rfl (fun hcl => ?_) (fun hcl => ?_)
        · have hcl' : c < N := by omega
          have hvl : (brows (msk T ng N (2 ^ ng))).length = 2 ^ ng := by rw [brows_len, msk_len]
          have haik : i &&& k < 2 ^ ng := and_lt hil'
          have gi := msk_get (T := T) (ng := ng) (n := N) hil'
          have gk := msk_get (T := T) (ng := ng) (n := N) hkl'
          have ga := msk_get (T := T) (ng := ng) (n := N) haik
          have li : (bvals (mem T ng N i).1).length = N := by rw [bvals_len]; exact hml i
          have lk' : (bvals (mem T ng N k).1).length = N := by rw [bvals_len]; exact hml k
          have la : (bvals (mem T ng N (i &&& k)).1).length = N := by rw [bvals_len]; exact hml _
          have bi : (bvals (mem T ng N i).1)[c]? = some (.bool (bat (mem T ng N i).1 c)) := bvals_get (by rw [hml]; exact hcl')
          have bk : (bvals (mem T ng N k).1)[c]? = some (.bool (bat (mem T ng N k).1 c)) := bvals_get (by rw [hml]; exact hcl')
          have ba : (bvals (mem T ng N (i &&& k)).1)[c]? = some (.bool (bat (mem T ng N (i &&& k)).1 c)) := bvals_get (by rw [hml]; exact hcl')
          have hfa : faultAt T ng N i k c = (bat (mem T ng N i).1 c && bat (mem T ng N k).1 c && !bat (mem T ng N (i &&& k)).1 c) := rfl
          have hi32 : i < 1000000 := by omega
          have hk32 : k < 1000000 := by omega
          have skip : ∀ (hf : faultAt T ng N i k c = false), ∀ c', c' < c + 1 → faultAt T ng N i k c' = false := fun hf c' h => by
            by_cases e : c' = c
            · subst e; exact hf
            · exact hnc c' (by omega)
          generalize (mem T ng N (i &&& k)).1 = Ma at *
          (refine goes_skip ?_; refine fin_seq ?_; refine goes_seq ?_; refine goes_block ?_; refine goes_seq ?_; refine goes_region ?_; apply run_step rfl; (exact stp_move rfl rfl); apply run_step rfl; (exact stp_move rfl rfl); apply run_step rfl; (first | exact stp_ix (j := i) rfl rfl rfl rfl rfl (by as_aux_lemma => kernel_rfl) rfl hil' (Nat.le_of_eq hvl.symm) | exact stp_ixE (j := c) rfl rfl rfl rfl rfl (by as_aux_lemma => kernel_rfl) gi rfl hcl' (Nat.le_of_eq li.symm)); apply run_step rfl; (exact stp_loadR rfl (by as_aux_lemma => kernel_rfl) rfl rfl rfl (by first | assumption | exact ivals_get (by assumption) | exact irows_get (by assumption) | exact ivals_get (by omega) | exact irows_get (by omega) | rfl) (by first | exact ivals_len _ | assumption | rfl)); apply run_step rfl; (exact stp_move rfl rfl); apply run_step rfl; (first | exact stp_ix (j := i) rfl rfl rfl rfl rfl (by as_aux_lemma => kernel_rfl) rfl hil' (Nat.le_of_eq hvl.symm) | exact stp_ixE (j := c) rfl rfl rfl rfl rfl (by as_aux_lemma => kernel_rfl) gi rfl hcl' (Nat.le_of_eq li.symm)); apply run_step rfl; (exact stp_loadE' rfl (by as_aux_lemma => kernel_rfl) rfl rfl rfl (by first | assumption | exact ivals_get (by assumption) | exact irows_get (by assumption) | exact ivals_get (by omega) | exact irows_get (by omega) | rfl) (by first | assumption | exact ivals_get (by assumption) | exact irows_get (by assumption) | exact ivals_get (by omega) | exact irows_get (by omega) | rfl)); apply run_step rfl; (exact stp_move rfl rfl))
          refine run_bool 64 rfl (fun e1 => ?_) (fun e1 => ?_)
          · (apply run_gYes rfl rfl rfl; (exact stp_move rfl rfl); apply run_gYes rfl rfl rfl; (exact stp_move rfl rfl); apply run_gYes rfl rfl rfl; (first | exact stp_ix (j := k) rfl rfl rfl rfl rfl (by as_aux_lemma => kernel_rfl) rfl hkl' (Nat.le_of_eq hvl.symm) | exact stp_ixE (j := c) rfl rfl rfl rfl rfl (by as_aux_lemma => kernel_rfl) gk rfl hcl' (Nat.le_of_eq lk'.symm)); apply run_gYes rfl rfl rfl; (exact stp_loadR rfl (by as_aux_lemma => kernel_rfl) rfl rfl rfl (by first | assumption | exact ivals_get (by assumption) | exact irows_get (by assumption) | exact ivals_get (by omega) | exact irows_get (by omega) | rfl) (by first | exact ivals_len _ | assumption | rfl)); apply run_gYes rfl rfl rfl; (exact stp_move rfl rfl); apply run_gYes rfl rfl rfl; (first | exact stp_ix (j := k) rfl rfl rfl rfl rfl (by as_aux_lemma => kernel_rfl) rfl hkl' (Nat.le_of_eq hvl.symm) | exact stp_ixE (j := c) rfl rfl rfl rfl rfl (by as_aux_lemma => kernel_rfl) gk rfl hcl' (Nat.le_of_eq lk'.symm)); apply run_gYes rfl rfl rfl; (exact stp_loadE' rfl (by as_aux_lemma => kernel_rfl) rfl rfl rfl (by first | assumption | exact ivals_get (by assumption) | exact irows_get (by assumption) | exact ivals_get (by omega) | exact irows_get (by omega) | rfl) (by first | assumption | exact ivals_get (by assumption) | exact irows_get (by assumption) | exact ivals_get (by omega) | exact irows_get (by omega) | rfl)); apply run_step rfl; (exact stp_pickT rfl rfl rfl); apply run_step rfl; (exact stp_move rfl rfl))
            refine run_bool 73 rfl (fun e2 => ?_) (fun e2 => ?_)
            · (apply run_gYes rfl rfl rfl; (exact stp_move rfl rfl); apply run_gYes rfl rfl rfl; (exact stp_move rfl rfl); apply run_gYes rfl rfl rfl; (exact stp_move rfl rfl); apply run_gYes rfl rfl rfl; (first | exact stp_andN (a := i) (b := k) rfl rfl rfl hi32 hk32 | exact stp_ix (j := i &&& k) rfl rfl rfl rfl rfl (by as_aux_lemma => kernel_rfl) rfl haik (Nat.le_of_eq hvl.symm) | exact stp_ixE (j := c) rfl rfl rfl rfl rfl (by as_aux_lemma => kernel_rfl) ga rfl hcl' (Nat.le_of_eq la.symm)); apply run_gYes rfl rfl rfl; (first | exact stp_andN (a := i) (b := k) rfl rfl rfl hi32 hk32 | exact stp_ix (j := i &&& k) rfl rfl rfl rfl rfl (by as_aux_lemma => kernel_rfl) rfl haik (Nat.le_of_eq hvl.symm) | exact stp_ixE (j := c) rfl rfl rfl rfl rfl (by as_aux_lemma => kernel_rfl) ga rfl hcl' (Nat.le_of_eq la.symm)); apply run_gYes rfl rfl rfl; (exact stp_loadR rfl (by as_aux_lemma => kernel_rfl) rfl rfl rfl (by first | assumption | exact ivals_get (by assumption) | exact irows_get (by assumption) | exact ivals_get (by omega) | exact irows_get (by omega) | rfl) (by first | exact ivals_len _ | assumption | rfl)); apply run_gYes rfl rfl rfl; (exact stp_move rfl rfl); apply run_gYes rfl rfl rfl; (first | exact stp_andN (a := i) (b := k) rfl rfl rfl hi32 hk32 | exact stp_ix (j := i &&& k) rfl rfl rfl rfl rfl (by as_aux_lemma => kernel_rfl) rfl haik (Nat.le_of_eq hvl.symm) | exact stp_ixE (j := c) rfl rfl rfl rfl rfl (by as_aux_lemma => kernel_rfl) ga rfl hcl' (Nat.le_of_eq la.symm)); apply run_gYes rfl rfl rfl; (exact stp_loadE' rfl (by as_aux_lemma => kernel_rfl) rfl rfl rfl (by first | assumption | exact ivals_get (by assumption) | exact irows_get (by assumption) | exact ivals_get (by omega) | exact irows_get (by omega) | rfl) (by first | assumption | exact ivals_get (by assumption) | exact irows_get (by assumption) | exact ivals_get (by omega) | exact irows_get (by omega) | rfl)); apply run_gYes rfl rfl rfl; (exact stp_not rfl rfl); apply run_step rfl; (exact stp_pickT rfl rfl rfl); refine run_nil ?_; refine fin_seq ?_)
              refine goes_cond rfl (fun e3 => ?_) (fun e3 => ?_)
              · have hy : faultAt T ng N i k c = true := by rw [hfa, e1, e2, e3]; rfl
                rw [fltR_some hik hkl' (isFault_yes hcl' hy) hno hno2]
                (refine goes_seq ?_; refine goes_region ?_; apply run_step rfl; (exact stp_move rfl rfl); apply run_step rfl; (exact stp_move rfl rfl); apply run_step rfl; (exact stp_assign rfl rfl); apply run_step rfl; (exact stp_assign rfl rfl); apply run_step rfl; (exact stp_assign rfl rfl); refine run_nil ?_; refine fin_seq ?_; refine goes_ret ?_; refine fin_ret_block ?_; refine fin_ret_then ?_; refine fin_ret_then ?_; refine fin_ret_block ?_; refine fin_ret_block ?_; refine fin_ret_then ?_; refine fin_ret_then ?_; refine fin_ret_block ?_; refine fin_ret_block ?_; refine fin_ret_then ?_; refine fin_ret_then ?_; refine fin_ret_block ?_; refine fin_ret_then ?_)
                exact fin_ret3 (.inl rfl) rfl (.tmp rfl) (.tmp rfl) (.tmp rfl) trivial trivial
              · (refine goes_skip ?_; refine fin_block ?_; refine fin_seq ?_; refine goes_region ?_; apply run_step rfl; (exact stp_move rfl rfl); apply run_step rfl; (exact stp_add rfl rfl rfl (by first | exact IntWalk.i64_in _ (by omega) | rfl)); apply run_step rfl; (exact stp_assign rfl rfl); refine run_nil ?_)
                exact fin_round (c + 1) ⟨hcl', skip (by rw [hfa, e3]; simp)⟩ (by omega) (Wk.of ⟨rfl, rfl, rfl, rfl, rfl, rfl, trivial⟩ ⟨rfl, rfl, trivial⟩ trivial)
            · (apply run_gNo rfl rfl rfl rfl rfl; apply run_gNo rfl rfl rfl rfl rfl; apply run_gNo rfl rfl rfl rfl rfl; apply run_gNo rfl rfl rfl rfl rfl; apply run_gNo rfl rfl rfl rfl rfl; apply run_gNo rfl rfl rfl rfl rfl; apply run_gNo rfl rfl rfl rfl rfl; apply run_gNo rfl rfl rfl rfl rfl; apply run_gNo rfl rfl rfl rfl rfl; apply run_gNo rfl rfl rfl rfl rfl; apply run_step rfl; (exact stp_pickF rfl rfl rfl); refine run_nil ?_; refine fin_seq ?_)
              refine goes_cond rfl (fun e => by cases e) (fun _ => ?_)
              (refine goes_skip ?_; refine fin_block ?_; refine fin_seq ?_; refine goes_region ?_; apply run_step rfl; (exact stp_move rfl rfl); apply run_step rfl; (exact stp_add rfl rfl rfl (by first | exact IntWalk.i64_in _ (by omega) | rfl)); apply run_step rfl; (exact stp_assign rfl rfl); refine run_nil ?_)
              exact fin_round (c + 1) ⟨hcl', skip (by rw [hfa, e2]; simp)⟩ (by omega) (Wk.of ⟨rfl, rfl, rfl, rfl, rfl, rfl, trivial⟩ ⟨rfl, rfl, trivial⟩ trivial)
          · (apply run_gNo rfl rfl rfl rfl rfl; apply run_gNo rfl rfl rfl rfl rfl; apply run_gNo rfl rfl rfl rfl rfl; apply run_gNo rfl rfl rfl rfl rfl; apply run_gNo rfl rfl rfl rfl rfl; apply run_gNo rfl rfl rfl rfl rfl; apply run_gNo rfl rfl rfl rfl rfl; apply run_step rfl; (exact stp_pickF rfl rfl rfl); apply run_step rfl; (exact stp_move rfl rfl); apply run_gNo rfl rfl rfl rfl rfl; apply run_gNo rfl rfl rfl rfl rfl; apply run_gNo rfl rfl rfl rfl rfl; apply run_gNo rfl rfl rfl rfl rfl; apply run_gNo rfl rfl rfl rfl rfl; apply run_gNo rfl rfl rfl rfl rfl; apply run_gNo rfl rfl rfl rfl rfl; apply run_gNo rfl rfl rfl rfl rfl; apply run_gNo rfl rfl rfl rfl rfl; apply run_gNo rfl rfl rfl rfl rfl; apply run_step rfl; (exact stp_pickF rfl rfl rfl); refine run_nil ?_; refine fin_seq ?_)
            refine goes_cond rfl (fun e => by cases e) (fun _ => ?_)
            (refine goes_skip ?_; refine fin_block ?_; refine fin_seq ?_; refine goes_region ?_; apply run_step rfl; (exact stp_move rfl rfl); apply run_step rfl; (exact stp_add rfl rfl rfl (by first | exact IntWalk.i64_in _ (by omega) | rfl)); apply run_step rfl; (exact stp_assign rfl rfl); refine run_nil ?_)
            exact fin_round (c + 1) ⟨hcl', skip (by rw [hfa, e1]; simp)⟩ (by omega) (Wk.of ⟨rfl, rfl, rfl, rfl, rfl, rfl, trivial⟩ ⟨rfl, rfl, trivial⟩ trivial)
        · obtain rfl : c = N := by omega
          (refine goes_exit ?_; refine fin_exit_then ?_; refine fin_exit_then ?_; refine fin_exit_eq ?_; refine fin_block ?_; refine fin_seq ?_; refine goes_region ?_; apply run_step rfl; (exact stp_move rfl rfl); apply run_step rfl; (exact stp_add rfl rfl rfl (by first | exact IntWalk.i64_in _ (by omega) | rfl)); apply run_step rfl; (exact stp_assign rfl rfl); refine run_nil ?_)
          exact fin_round (k + 1) ⟨by omega, hkl', fun k' h h' => by
            by_cases e : k' = k
            · subst e; exact isFault_no hnc
            · exact hno k' h (by omega)⟩ (by omega) (Wk.of ⟨rfl, rfl, rfl, rfl, rfl, trivial⟩ ⟨rfl, rfl, trivial⟩ trivial)
      · obtain rfl : k = 2 ^ ng := by omega
        (refine goes_exit ?_; refine fin_exit_then ?_; refine fin_exit_then ?_; refine fin_exit_eq ?_; refine fin_block ?_; refine fin_seq ?_; refine goes_region ?_; apply run_step rfl; (exact stp_move rfl rfl); apply run_step rfl; (exact stp_add rfl rfl rfl (by first | exact IntWalk.i64_in _ (by omega) | rfl)); apply run_step rfl; (exact stp_assign rfl rfl); refine run_nil ?_)
        exact fin_round (i + 1) ⟨hil', fun i' h => by
          by_cases e : i' = i
          · subst e; exact hno
          · exact hno2 i' (by omega)⟩ (by omega) (Wk.of ⟨rfl, rfl, rfl, rfl, trivial⟩ ⟨rfl, rfl, trivial⟩ trivial)
    · obtain rfl : i = 2 ^ ng := by omega
      rw [fltR_none hno2]
      (refine goes_exit ?_; refine fin_exit_then ?_; refine fin_exit_then ?_; refine fin_exit_eq ?_; refine fin_seq ?_; refine goes_seq ?_; refine goes_region ?_; apply run_step rfl; (exact stp_assign rfl rfl); apply run_step rfl; (exact stp_assign rfl rfl); apply run_step rfl; (exact stp_assign rfl rfl); refine run_nil ?_; refine fin_seq ?_; refine goes_ret ?_)
      exact fin_ret3 (.inl rfl) rfl (.tmp rfl) (.tmp rfl) (.tmp rfl) trivial trivial
end Go.Proofs.Ytpjglifijdcgnaa

/- The first fault of intersections: the program's IntersectionFault. guards: -/
namespace Go.Proofs.Ytpjglifijdcgnaa
open Go.RowKit

set_option maxRecDepth 100000 in
set_option maxHeartbeats 2000000 in
theorem implIF_yes (ng : Nat) (rels : List (List Int)) (h1 : Fit rels) (hG : Good ng rels []) (hk : elOk ((ng : Int), rels) []) :
    FC Try.prog 37 [(1003, rowsRo rels)] [pA ng rels.length] [] (flt3 (fltR (cosTab ((ng : Int), rels) []) ng (cosN ((ng : Int), rels) []))) [] := by
  have hE := (implEl_yes h1 (by simp) hG hk).nilE
  have hs := smallOk_run hk.2.2
  have hng := hG.hi
  have hpos := hG.pos
  have h32 : 2 ^ ng ≤ 32 := Nat.pow_le_pow_right (by decide) hng
  have hT := cosTab_leads hG hs.1
  have hNp := cosN_pos hG hs.1
  have hTl := cosTab_len ng rels []
  have hM : ∀ k : Nat, k < 2 ^ ng → FC Try.prog 62 [(1005, imRo (cosTab ((ng : Int), rels) []))] [o1 (.sl 1005 0 ng), vv (I6 k)] [(14, boOw (mem (cosTab ((ng : Int), rels) []) ng (cosN ((ng : Int), rels) []) k).1)] (o1 (.sl 14 0 (cosN ((ng : Int), rels) []))) [] := fun k hk =>
    subgroup_fc _ ng _ k hTl hpos hT hNp hs.2 hng (by omega)
  refine fc_enter (nt := 71) Try.func37 rfl rfl (by simp) fun w0 ω0 => ?_
  have hN4 := hs.2
  clear hs
  generalize cosN ((ng : Int), rels) [] = N at *
  generalize cosTab ((ng : Int), rels) [] = T at *
  have hml : ∀ m, (mem T ng N m).1.length = N := fun m => (mem_ok hT hTl hNp).l
  have hng64 : ng ≤ 5 := hng
  (refine goes_seq ?_; refine goes_region ?_; apply run_step rfl; (exact stp_box rfl rfl rfl rfl); apply run_step rfl; (exact stp_assign rfl rfl); apply run_step rfl; (exact stp_assign rfl rfl); apply run_step rfl; (exact stp_assign rfl rfl); refine run_nil ?_; refine fin_seq ?_; refine goes_seq ?_; refine goes_region ?_; apply run_step rfl; (exact stp_loadAgg rfl rfl rfl rfl rfl rfl (by as_aux_lemma => kernel_rfl)); apply run_step rfl; (apply call_gate 55; exact stp_callN hE (by as_aux_lemma => kernel_rfl) rfl rfl ⟨⟨.inl rfl, .inl rfl, trivial⟩, rfl, trivial⟩ ⟨⟨_, rfl, .inl rfl⟩, trivial⟩ rfl rfl rfl); apply run_step rfl; (exact stp_move rfl rfl); apply run_step rfl; (exact stp_extract rfl rfl rfl); apply run_step rfl; (exact stp_extract rfl rfl rfl); apply run_step rfl; (exact stp_assign rfl rfl); apply run_step rfl; (exact stp_assign rfl rfl); refine run_nil ?_; refine fin_seq ?_; refine goes_seq ?_; refine goes_seq ?_; refine goes_region ?_; apply run_step rfl; (exact stp_move rfl rfl); apply run_step rfl; (exact stp_bin rfl rfl rfl rfl); refine run_nil ?_; refine fin_seq ?_)
  refine goes_cond rfl (fun e => by cases e) (fun _ => ?_)
  (refine goes_skip ?_; refine fin_seq ?_; refine goes_seq ?_; refine goes_region ?_; apply run_step rfl; (exact stp_fieldAddr (d := 0) rfl rfl rfl (by as_aux_lemma => kernel_rfl)); apply run_step rfl; (exact stp_loadF rfl (by as_aux_lemma => kernel_rfl) rfl rfl rfl rfl); apply run_step rfl; (exact stp_shl1 (g := ng) rfl rfl rfl hng64); apply run_step rfl; (exact stp_assign rfl rfl); refine run_nil ?_; refine fin_seq ?_; refine goes_seq ?_; refine goes_seq ?_; refine goes_region ?_; apply run_step rfl; (exact stp_move rfl rfl); apply run_step rfl; (exact stp_move rfl rfl); refine run_nil ?_; refine fin_seq ?_; refine goes_block ?_)
  refine goes_loop (fun i : Nat => St.of [(5, o1 (.sl 1005 0 ng)), (7, vv (I6 (2 ^ ng : Nat))), (25, vv (I6 (2 ^ ng : Nat))), (26, vv (I6 i))] [(1005, imOw T)]) (fun i => i ≤ 2 ^ ng ∧ ∀ i', i' < i → ∀ k', i' < k' → k' < 2 ^ ng → isFault T ng N i' k' = false) (fun i => 2 ^ ng - i) 0 ⟨Nat.zero_le _, fun i' h => by omega⟩ (Wk.of ⟨rfl, rfl, rfl, rfl, trivial⟩ ⟨rfl, trivial⟩ trivial) ?_
  rintro i ⟨hi, hno2⟩
  (refine goes_seq ?_; refine goes_region ?_; apply run_step rfl; (exact stp_bin rfl rfl rfl rfl); refine run_nil ?_; refine fin_seq ?_; refine goes_seq ?_)
  refine goes_if rfl (fun hil => ?_) (fun hil => ?_)
  · have hil' : i < 2 ^ ng := by omega
    (refine goes_skip ?_; refine fin_seq ?_; refine goes_seq ?_; refine goes_block ?_; refine goes_seq ?_; refine goes_region ?_; apply run_step rfl; (exact stp_move rfl rfl); apply run_step rfl; (exact stp_assign rfl rfl); refine run_nil ?_; refine fin_seq ?_; refine goes_seq ?_; refine goes_region ?_; apply run_step rfl; (exact stp_move rfl rfl); apply run_step rfl; (exact stp_add rfl rfl rfl (by first | exact IntWalk.i64_in _ (by omega) | rfl)); apply run_step rfl; (exact stp_assign rfl rfl); refine run_nil ?_; refine fin_seq ?_; refine goes_block ?_)
    refine goes_loop (fun k : Nat => St.of [(5, o1 (.sl 1005 0 ng)), (7, vv (I6 (2 ^ ng : Nat))), (8, vv (I6 i)), (9, vv (I6 k)), (25, vv (I6 (2 ^ ng : Nat))), (26, vv (I6 i))] [(1005, imOw T)]) (fun k => i < k ∧ k ≤ 2 ^ ng ∧ ∀ k', i < k' → k' < k → isFault T ng N i k' = false) (fun k => 2 ^ ng - k) (i + 1) ⟨by omega, by omega, fun k' h h' => by omega⟩ (Wk.of ⟨rfl, rfl, rfl, rfl, rfl, rfl, trivial⟩ ⟨rfl, trivial⟩ trivial) ?_
    rintro k ⟨hik, hkl, hno⟩
    (refine goes_seq ?_; refine goes_seq ?_; refine goes_region ?_; apply run_step rfl; (exact stp_move rfl rfl); apply run_step rfl; (exact stp_move rfl rfl); apply run_step rfl; (exact stp_bin rfl rfl rfl rfl); refine run_nil ?_; refine fin_seq ?_)
    refine goes_if rfl (fun hkl2 => ?_) (fun hkl2 => ?_)
    · have hkl' : k < 2 ^ ng := by omega
      have haik : i &&& k < 2 ^ ng := and_lt hil'
      have hi32 : i < 1000000 := by omega
      have hk32 : k < 1000000 := by omega
      have m1 := (hM i hil').nm [(1005, 1005), (14, 38)] (by kernel_rfl)
      have m2 := (hM k hkl').nm [(1005, 1005), (14, 41)] (by kernel_rfl)
      have m3 := (hM (i &&& k) haik).nm [(1005, 1005), (14, 46)] (by kernel_rfl)
      have m1 : FC Try.prog 62 [(1005, imRo T)] [o1 (.sl 1005 0 ng), vv (I6 i)] [(38, boOw (mem T ng N i).1)] (o1 (.sl 38 0 N)) [] := m1
      have m2 : FC Try.prog 62 [(1005, imRo T)] [o1 (.sl 1005 0 ng), vv (I6 k)] [(41, boOw (mem T ng N k).1)] (o1 (.sl 41 0 N)) [] := m2
      have m3 : FC Try.prog 62 [(1005, imRo T)] [o1 (.sl 1005 0 ng), vv (I6 (i &&& k : Nat))] [(46, boOw (mem T ng N (i &&& k)).1)] (o1 (.sl 46 0 N)) [] := m3
      have li : (bvals (mem T ng N i).1).length = N := by rw [bvals_len]; exact hml i
      have lk' : (bvals (mem T ng N k).1).length = N := by rw [bvals_len]; exact hml k
      have la : (bvals (mem T ng N (i &&& k)).1).length = N := by rw [bvals_len]; exact hml _
      have hfs : ∀ c, c < N → faultAt' T ng N i k c = faultAt T ng N i k c := fun c hc => fault_same hT hTl hNp i k hc
      (refine goes_skip ?_; refine fin_seq ?_; refine goes_seq ?_; refine goes_block ?_; refine goes_seq ?_; refine goes_region ?_; apply run_step rfl; (exact stp_move rfl rfl); apply run_step rfl; (exact stp_move rfl rfl); apply run_step rfl; (first | exact stp_andN (a := i) (b := k) rfl rfl rfl hi32 hk32 | (apply call_gate 62; first | exact stp_callN m1 (by as_aux_lemma => kernel_rfl) rfl rfl ⟨rfl, rfl, trivial⟩ ⟨⟨_, rfl, .inr rfl⟩, trivial⟩ rfl rfl rfl | exact stp_callN m2 (by as_aux_lemma => kernel_rfl) rfl rfl ⟨rfl, rfl, trivial⟩ ⟨⟨_, rfl, .inr rfl⟩, trivial⟩ rfl rfl rfl | exact stp_callN m3 (by as_aux_lemma => kernel_rfl) rfl rfl ⟨rfl, rfl, trivial⟩ ⟨⟨_, rfl, .inr rfl⟩, trivial⟩ rfl rfl rfl)); apply run_step rfl; (exact stp_move rfl rfl); apply run_step rfl; (exact stp_move rfl rfl); apply run_step rfl; (first | exact stp_andN (a := i) (b := k) rfl rfl rfl hi32 hk32 | (apply call_gate 62; first | exact stp_callN m1 (by as_aux_lemma => kernel_rfl) rfl rfl ⟨rfl, rfl, trivial⟩ ⟨⟨_, rfl, .inr rfl⟩, trivial⟩ rfl rfl rfl | exact stp_callN m2 (by as_aux_lemma => kernel_rfl) rfl rfl ⟨rfl, rfl, trivial⟩ ⟨⟨_, rfl, .inr rfl⟩, trivial⟩ rfl rfl rfl | exact stp_callN m3 (by as_aux_lemma => kernel_rfl) rfl rfl ⟨rfl, rfl, trivial⟩ ⟨⟨_, rfl, .inr rfl⟩, trivial⟩ rfl rfl rfl)); apply run_step rfl; (exact stp_move rfl rfl); apply run_step rfl; (exact stp_move rfl rfl); apply run_step rfl; (exact stp_move rfl rfl); apply run_step rfl; (first | exact stp_andN (a := i) (b := k) rfl rfl rfl hi32 hk32 | (apply call_gate 62; first | exact stp_callN m1 (by as_aux_lemma => kernel_rfl) rfl rfl ⟨rfl, rfl, trivial⟩ ⟨⟨_, rfl, .inr rfl⟩, trivial⟩ rfl rfl rfl | exact stp_callN m2 (by as_aux_lemma => kernel_rfl) rfl rfl ⟨rfl, rfl, trivial⟩ ⟨⟨_, rfl, .inr rfl⟩, trivial⟩ rfl rfl rfl | exact stp_callN m3 (by as_aux_lemma => kernel_rfl) rfl rfl ⟨rfl, rfl, trivial⟩ ⟨⟨_, rfl, .inr rfl⟩, trivial⟩ rfl rfl rfl)); apply run_step rfl; (first | exact stp_andN (a := i) (b := k) rfl rfl rfl hi32 hk32 | (apply call_gate 62; first | exact stp_callN m1 (by as_aux_lemma => kernel_rfl) rfl rfl ⟨rfl, rfl, trivial⟩ ⟨⟨_, rfl, .inr rfl⟩, trivial⟩ rfl rfl rfl | exact stp_callN m2 (by as_aux_lemma => kernel_rfl) rfl rfl ⟨rfl, rfl, trivial⟩ ⟨⟨_, rfl, .inr rfl⟩, trivial⟩ rfl rfl rfl | exact stp_callN m3 (by as_aux_lemma => kernel_rfl) rfl rfl ⟨rfl, rfl, trivial⟩ ⟨⟨_, rfl, .inr rfl⟩, trivial⟩ rfl rfl rfl)); apply run_step rfl; (exact stp_assign rfl rfl); apply run_step rfl; (exact stp_assign rfl rfl); apply run_step rfl; (exact stp_assign rfl rfl); refine run_nil ?_; refine fin_seq ?_; refine goes_seq ?_; refine goes_region ?_; apply run_step rfl; (exact stp_move rfl rfl); apply run_step rfl; (exact stp_len rfl rfl rfl (by as_aux_lemma => kernel_rfl)); apply run_step rfl; (exact stp_move rfl rfl); refine run_nil ?_; refine fin_seq ?_; refine goes_block ?_)
      refine goes_loop (fun c : Nat => St.of [(5, o1 (.sl 1005 0 ng)), (7, vv (I6 (2 ^ ng : Nat))), (8, vv (I6 i)), (9, vv (I6 k)), (10, o1 (.sl 38 0 N)), (11, o1 (.sl 41 0 N)), (12, o1 (.sl 46 0 N)), (25, vv (I6 (2 ^ ng : Nat))), (26, vv (I6 i)), (48, vv (I6 N)), (49, vv (I6 c))] [(1005, imOw T), (38, boOw (mem T ng N i).1), (41, boOw (mem T ng N k).1), (46, boOw (mem T ng N (i &&& k)).1)]) (fun c => c ≤ N ∧ ∀ c', c' < c → faultAt T ng N i k c' = false) (fun c => N - c) 0 ⟨Nat.zero_le _, fun c' h => by omega⟩ (Wk.of ⟨rfl, rfl, rfl, rfl, rfl, rfl, rfl, rfl, rfl, rfl, rfl, trivial⟩ ⟨rfl, rfl, rfl, rfl, trivial⟩ trivial) ?_
      rintro c ⟨hc, hnc⟩
      (refine goes_seq ?_; refine goes_region ?_; apply run_step rfl; (exact stp_bin rfl rfl rfl rfl); refine run_nil ?_; refine fin_seq ?_; refine goes_seq ?_)
      refine goes_if rfl (fun hcl => ?_) (fun hcl => ?_)
      · have hcl' : c < N := by omega
        have bi : (bvals (mem T ng N i).1)[c]? = some (.bool (bat (mem T ng N i).1 c)) := bvals_get (by rw [hml]; exact hcl')
        have bk : (bvals (mem T ng N k).1)[c]? = some (.bool (bat (mem T ng N k).1 c)) := bvals_get (by rw [hml]; exact hcl')
        have ba : (bvals (mem T ng N (i &&& k)).1)[c]? = some (.bool (bat (mem T ng N (i &&& k)).1 c)) := bvals_get (by rw [hml]; exact hcl')
        have hfa : faultAt T ng N i k c = (bat (mem T ng N (i &&& k)).1 c != (bat (mem T ng N i).1 c && bat (mem T ng N k).1 c)) := (hfs c hcl').symm
        have skip : ∀ (hf : faultAt T ng N i k c = false), ∀ c', c' < c + 1 → faultAt T ng N i k c' = false := fun hf c' h => by
          by_cases e : c' = c
          · subst e; exact hf
          · exact hnc c' (by omega)
        clear hfs m1 m2 m3 hM
        generalize (mem T ng N (i &&& k)).1 = Ma at *
        generalize (mem T ng N i).1 = Mi at *
        generalize (mem T ng N k).1 = Mk at *
        (refine goes_skip ?_; refine fin_seq ?_; refine goes_seq ?_; refine goes_block ?_; refine goes_seq ?_; refine goes_region ?_; apply run_step rfl; (exact stp_move rfl rfl); apply run_step rfl; (exact stp_assign rfl rfl); refine run_nil ?_; refine fin_seq ?_; refine goes_seq ?_)
        cases e1 : bat Mi c with
        | true =>
          rw [e1] at bi hfa
          apply goes_drawG 15 [] [[], [], [0, 1], [0, 1, 2], [], [], [4, 5], [4, 5, 6], [4, 5, 6, 7], [4, 5, 6, 7, 8], [4, 5, 6, 7, 8], [4, 5, 6, 7, 8, 9, 10], [4, 5, 6, 7, 8, 9, 10, 11], [4, 5, 6, 7, 8, 9, 10, 11, 12], [0, 1, 2, 3, 4, 5, 6, 7, 8, 9, 10, 11, 12, 13]] [52, 53, 54, 55, 56, 57, 58, 59, 60, 61, 62, 63, 64, 65, 66] [] (by kernel_rfl) (by kernel_rfl)
          · (apply drawG_put rfl; (intro S1 hS; exact stp_move rfl (hS.op rfl)); apply drawG_put rfl; (intro S1 hS; exact stp_move rfl (hS.op rfl)); (first | (apply drawG_put rfl; (focus (intro S1 hS; first | exact stp_ix (j := c) rfl (hS.op rfl) (hS.op rfl) (hS.ch _ _ rfl) rfl (by as_aux_lemma => kernel_rfl) rfl hcl' (Nat.le_of_eq la.symm) | exact stp_ix (j := c) rfl (hS.op rfl) (hS.op rfl) (hS.ch _ _ rfl) rfl (by as_aux_lemma => kernel_rfl) rfl hcl' (Nat.le_of_eq li.symm) | exact stp_neqB (by as_aux_lemma => kernel_rfl) rfl (hS.op rfl) (hS.op rfl)))) | (apply drawG_yes rfl rfl rfl; (focus (intro S1 hS; exact stp_ix (j := c) rfl (hS.op rfl) (hS.op rfl) (hS.ch _ _ rfl) rfl (by as_aux_lemma => kernel_rfl) rfl hcl' (Nat.le_of_eq lk'.symm))))); apply drawG_put rfl; (intro S1 hS; exact stp_loadV rfl (by as_aux_lemma => kernel_rfl) (hS.op rfl) (hS.ch _ _ rfl) rfl (by first | assumption | exact ivals_get (by assumption) | exact irows_get (by assumption) | exact ivals_get (by omega) | exact irows_get (by omega) | rfl)); apply drawG_put rfl; (intro S1 hS; exact stp_move rfl (hS.op rfl)); apply drawG_put rfl; (intro S1 hS; exact stp_move rfl (hS.op rfl)); (first | (apply drawG_put rfl; (focus (intro S1 hS; first | exact stp_ix (j := c) rfl (hS.op rfl) (hS.op rfl) (hS.ch _ _ rfl) rfl (by as_aux_lemma => kernel_rfl) rfl hcl' (Nat.le_of_eq la.symm) | exact stp_ix (j := c) rfl (hS.op rfl) (hS.op rfl) (hS.ch _ _ rfl) rfl (by as_aux_lemma => kernel_rfl) rfl hcl' (Nat.le_of_eq li.symm) | exact stp_neqB (by as_aux_lemma => kernel_rfl) rfl (hS.op rfl) (hS.op rfl)))) | (apply drawG_yes rfl rfl rfl; (focus (intro S1 hS; exact stp_ix (j := c) rfl (hS.op rfl) (hS.op rfl) (hS.ch _ _ rfl) rfl (by as_aux_lemma => kernel_rfl) rfl hcl' (Nat.le_of_eq lk'.symm))))); apply drawG_put rfl; (intro S1 hS; exact stp_loadV rfl (by as_aux_lemma => kernel_rfl) (hS.op rfl) (hS.ch _ _ rfl) rfl (by first | assumption | exact ivals_get (by assumption) | exact irows_get (by assumption) | exact ivals_get (by omega) | exact irows_get (by omega) | rfl)); apply drawG_put rfl; (intro S1 hS; exact stp_move rfl (hS.op rfl)); apply drawG_yes rfl rfl rfl; (intro S1 hS; exact stp_move rfl (hS.op rfl)); apply drawG_yes rfl rfl rfl; (intro S1 hS; exact stp_move rfl (hS.op rfl)); (first | (apply drawG_put rfl; (focus (intro S1 hS; first | exact stp_ix (j := c) rfl (hS.op rfl) (hS.op rfl) (hS.ch _ _ rfl) rfl (by as_aux_lemma => kernel_rfl) rfl hcl' (Nat.le_of_eq la.symm) | exact stp_ix (j := c) rfl (hS.op rfl) (hS.op rfl) (hS.ch _ _ rfl) rfl (by as_aux_lemma => kernel_rfl) rfl hcl' (Nat.le_of_eq li.symm) | exact stp_neqB (by as_aux_lemma => kernel_rfl) rfl (hS.op rfl) (hS.op rfl)))) | (apply drawG_yes rfl rfl rfl; (focus (intro S1 hS; exact stp_ix (j := c) rfl (hS.op rfl) (hS.op rfl) (hS.ch _ _ rfl) rfl (by as_aux_lemma => kernel_rfl) rfl hcl' (Nat.le_of_eq lk'.symm))))); apply drawG_yes rfl rfl rfl; (intro S1 hS; exact stp_loadV rfl (by as_aux_lemma => kernel_rfl) (hS.op rfl) (hS.ch _ _ rfl) rfl (by first | assumption | exact ivals_get (by assumption) | exact irows_get (by assumption) | exact ivals_get (by omega) | exact irows_get (by omega) | rfl)); apply drawG_put rfl; (intro S1 hS; exact stp_pickT rfl (hS.op rfl) (hS.op rfl)); (first | (apply drawG_put rfl; (focus (intro S1 hS; first | exact stp_ix (j := c) rfl (hS.op rfl) (hS.op rfl) (hS.ch _ _ rfl) rfl (by as_aux_lemma => kernel_rfl) rfl hcl' (Nat.le_of_eq la.symm) | exact stp_ix (j := c) rfl (hS.op rfl) (hS.op rfl) (hS.ch _ _ rfl) rfl (by as_aux_lemma => kernel_rfl) rfl hcl' (Nat.le_of_eq li.symm) | exact stp_neqB (by as_aux_lemma => kernel_rfl) rfl (hS.op rfl) (hS.op rfl)))) | (apply drawG_yes rfl rfl rfl; (focus (intro S1 hS; exact stp_ix (j := c) rfl (hS.op rfl) (hS.op rfl) (hS.ch _ _ rfl) rfl (by as_aux_lemma => kernel_rfl) rfl hcl' (Nat.le_of_eq lk'.symm))))); exact DrawG.nil)
          · rfl
          ((refine rest_done (by as_aux_lemma => kernel_rfl) ?_; skip))
          (refine fin_seq ?_)
          refine goes_cond rfl (fun e3 => ?_) (fun e3 => ?_)
          · have hy : faultAt T ng N i k c = true := by rw [hfa, Bool.true_and]; exact e3
            rw [fltR_some hik hkl' (isFault_yes hcl' hy) hno hno2]
            (refine goes_seq ?_; refine goes_region ?_; apply run_step rfl; (exact stp_move rfl rfl); apply run_step rfl; (exact stp_move rfl rfl); apply run_step rfl; (exact stp_assign rfl rfl); apply run_step rfl; (exact stp_assign rfl rfl); apply run_step rfl; (exact stp_assign rfl rfl); refine run_nil ?_; refine fin_seq ?_; refine goes_ret ?_; refine fin_ret_block ?_; refine fin_ret_then ?_; refine fin_ret_then ?_; refine fin_ret_block ?_; refine fin_ret_block ?_; refine fin_ret_then ?_; refine fin_ret_then ?_; refine fin_ret_block ?_; refine fin_ret_block ?_; refine fin_ret_then ?_; refine fin_ret_then ?_; refine fin_ret_block ?_; refine fin_ret_then ?_)
            exact fin_ret3 (.inl rfl) rfl (.tmp rfl) (.tmp rfl) (.tmp rfl) trivial trivial
          · (refine goes_skip ?_; refine fin_block ?_; refine fin_seq ?_; refine goes_region ?_; apply run_step rfl; (exact stp_add rfl rfl rfl (by first | exact IntWalk.i64_in _ (by omega) | rfl)); apply run_step rfl; (exact stp_move rfl rfl); refine run_nil ?_)
            exact fin_round (c + 1) ⟨hcl', skip (by rw [hfa, Bool.true_and]; exact e3)⟩ (by omega) (Wk.of ⟨rfl, rfl, rfl, rfl, rfl, rfl, rfl, rfl, rfl, rfl, rfl, trivial⟩ ⟨rfl, rfl, rfl, rfl, trivial⟩ trivial)
        | false =>
          rw [e1] at bi hfa
          apply goes_drawG 15 [] [[], [], [0, 1], [0, 1, 2], [], [], [4, 5], [4, 5, 6], [4, 5, 6, 7], [4, 5, 6, 7, 8], [4, 5, 6, 7, 8], [4, 5, 6, 7, 8, 9, 10], [4, 5, 6, 7, 8, 9, 10, 11], [4, 5, 6, 7, 8, 9, 10, 11, 12], [0, 1, 2, 3, 4, 5, 6, 7, 8, 9, 10, 11, 12, 13]] [52, 53, 54, 55, 56, 57, 58, 59, 60, 61, 62, 63, 64, 65, 66] [] (by kernel_rfl) (by kernel_rfl)
          · (apply drawG_put rfl; (intro S1 hS; exact stp_move rfl (hS.op rfl)); apply drawG_put rfl; (intro S1 hS; exact stp_move rfl (hS.op rfl)); (first | (apply drawG_put rfl; (focus (intro S1 hS; first | exact stp_ix (j := c) rfl (hS.op rfl) (hS.op rfl) (hS.ch _ _ rfl) rfl (by as_aux_lemma => kernel_rfl) rfl hcl' (Nat.le_of_eq la.symm) | exact stp_ix (j := c) rfl (hS.op rfl) (hS.op rfl) (hS.ch _ _ rfl) rfl (by as_aux_lemma => kernel_rfl) rfl hcl' (Nat.le_of_eq li.symm) | exact stp_neqB (by as_aux_lemma => kernel_rfl) rfl (hS.op rfl) (hS.op rfl))))); apply drawG_put rfl; (intro S1 hS; exact stp_loadV rfl (by as_aux_lemma => kernel_rfl) (hS.op rfl) (hS.ch _ _ rfl) rfl (by first | assumption | exact ivals_get (by assumption) | exact irows_get (by assumption) | exact ivals_get (by omega) | exact irows_get (by omega) | rfl)); apply drawG_put rfl; (intro S1 hS; exact stp_move rfl (hS.op rfl)); apply drawG_put rfl; (intro S1 hS; exact stp_move rfl (hS.op rfl)); (first | (apply drawG_put rfl; (focus (intro S1 hS; first | exact stp_ix (j := c) rfl (hS.op rfl) (hS.op rfl) (hS.ch _ _ rfl) rfl (by as_aux_lemma => kernel_rfl) rfl hcl' (Nat.le_of_eq la.symm) | exact stp_ix (j := c) rfl (hS.op rfl) (hS.op rfl) (hS.ch _ _ rfl) rfl (by as_aux_lemma => kernel_rfl) rfl hcl' (Nat.le_of_eq li.symm) | exact stp_neqB (by as_aux_lemma => kernel_rfl) rfl (hS.op rfl) (hS.op rfl))))); apply drawG_put rfl; (intro S1 hS; exact stp_loadV rfl (by as_aux_lemma => kernel_rfl) (hS.op rfl) (hS.ch _ _ rfl) rfl (by first | assumption | exact ivals_get (by assumption) | exact irows_get (by assumption) | exact ivals_get (by omega) | exact irows_get (by omega) | rfl)); apply drawG_put rfl; (intro S1 hS; exact stp_move rfl (hS.op rfl)); apply drawG_no rfl rfl rfl rfl rfl; apply drawG_no rfl rfl rfl rfl rfl; apply drawG_no rfl rfl rfl rfl rfl; apply drawG_no rfl rfl rfl rfl rfl; apply drawG_put rfl; (intro S1 hS; exact stp_pickF rfl (hS.op rfl) (hS.op rfl)); (first | (apply drawG_put rfl; (focus (intro S1 hS; first | exact stp_ix (j := c) rfl (hS.op rfl) (hS.op rfl) (hS.ch _ _ rfl) rfl (by as_aux_lemma => kernel_rfl) rfl hcl' (Nat.le_of_eq la.symm) | exact stp_ix (j := c) rfl (hS.op rfl) (hS.op rfl) (hS.ch _ _ rfl) rfl (by as_aux_lemma => kernel_rfl) rfl hcl' (Nat.le_of_eq li.symm) | exact stp_neqB (by as_aux_lemma => kernel_rfl) rfl (hS.op rfl) (hS.op rfl))))); exact DrawG.nil)
          · rfl
          ((refine rest_done (by as_aux_lemma => kernel_rfl) ?_; skip))
          (refine fin_seq ?_)
          refine goes_cond rfl (fun e3 => ?_) (fun e3 => ?_)
          · have hy : faultAt T ng N i k c = true := by rw [hfa, Bool.false_and]; exact e3
            rw [fltR_some hik hkl' (isFault_yes hcl' hy) hno hno2]
            (refine goes_seq ?_; refine goes_region ?_; apply run_step rfl; (exact stp_move rfl rfl); apply run_step rfl; (exact stp_move rfl rfl); apply run_step rfl; (exact stp_assign rfl rfl); apply run_step rfl; (exact stp_assign rfl rfl); apply run_step rfl; (exact stp_assign rfl rfl); refine run_nil ?_; refine fin_seq ?_; refine goes_ret ?_; refine fin_ret_block ?_; refine fin_ret_then ?_; refine fin_ret_then ?_; refine fin_ret_block ?_; refine fin_ret_block ?_; refine fin_ret_then ?_; refine fin_ret_then ?_; refine fin_ret_block ?_; refine fin_ret_block ?_; refine fin_ret_then ?_; refine fin_ret_then ?_; refine fin_ret_block ?_; refine fin_ret_then ?_)
            exact fin_ret3 (.inl rfl) rfl (.tmp rfl) (.tmp rfl) (.tmp rfl) trivial trivial
          · (refine goes_skip ?_; refine fin_block ?_; refine fin_seq ?_; refine goes_region ?_; apply run_step rfl; (exact stp_add rfl rfl rfl (by first | exact IntWalk.i64_in _ (by omega) | rfl)); apply run_step rfl; (exact stp_move rfl rfl); refine run_nil ?_)
            exact fin_round (c + 1) ⟨hcl', skip (by rw [hfa, Bool.false_and]; exact e3)⟩ (by omega) (Wk.of ⟨rfl, rfl, rfl, rfl, rfl, rfl, rfl, rfl, rfl, rfl, rfl, trivial⟩ ⟨rfl, rfl, rfl, rfl, trivial⟩ trivial)
      · obtain rfl : c = N := by omega
        (refine goes_exit ?_; refine fin_exit_then ?_; refine fin_exit_then ?_; refine fin_exit_eq ?_; refine fin_block ?_; refine fin_seq ?_; refine goes_region ?_; apply run_step rfl; (exact stp_move rfl rfl); apply run_step rfl; (exact stp_add rfl rfl rfl (by first | exact IntWalk.i64_in _ (by omega) | rfl)); apply run_step rfl; (exact stp_assign rfl rfl); refine run_nil ?_)
        exact fin_round (k + 1) ⟨by omega, hkl', fun k' h h' => by
          by_cases e : k' = k
          · subst e; exact isFault_no hnc
          · exact hno k' h (by omega)⟩ (by omega) (Wk.of ⟨rfl, rfl, rfl, rfl, rfl, rfl, trivial⟩ ⟨rfl, trivial⟩ trivial)
    · obtain rfl : k = 2 ^ ng := by omega
      (refine goes_exit ?_; refine fin_exit_then ?_; refine fin_exit_then ?_; refine fin_exit_eq ?_; refine fin_block ?_; refine fin_seq ?_; refine goes_region ?_; apply run_step rfl; (exact stp_add rfl rfl rfl (by first | exact IntWalk.i64_in _ (by omega) | rfl)); apply run_step rfl; (exact stp_move rfl rfl); refine run_nil ?_)
      exact fin_round (i + 1) ⟨hil', fun i' h => by
        by_cases e : i' = i
        · subst e; exact hno
        · exact hno2 i' (by omega)⟩ (by omega) (Wk.of ⟨rfl, rfl, rfl, rfl, trivial⟩ ⟨rfl, trivial⟩ trivial)
  · obtain rfl : i = 2 ^ ng := by omega
    rw [fltR_none hno2]
    (refine goes_exit ?_; refine fin_exit_then ?_; refine fin_exit_then ?_; refine fin_exit_eq ?_; refine fin_seq ?_; refine goes_seq ?_; refine goes_region ?_; apply run_step rfl; (exact stp_assign rfl rfl); apply run_step rfl; (exact stp_assign rfl rfl); apply run_step rfl; (exact stp_assign rfl rfl); refine run_nil ?_; refine fin_seq ?_; refine goes_ret ?_)
    exact fin_ret3 (.inl rfl) rfl (.tmp rfl) (.tmp rfl) (.tmp rfl) trivial trivial
end Go.Proofs.Ytpjglifijdcgnaa

/- IntersectionFault, in words. -/
namespace Go.Proofs.Ytpjglifijdcgnaa
open Go.RowKit

set_option maxRecDepth 100000 in
set_option maxHeartbeats 1000000 in
theorem specIF_no (g : Int) (rels : List (List Int)) (h1 : Fit rels) (hk : ¬ elOk (g, rels) []) :
    FC Try.prog 36 [(1003, rowsRo rels)] [pA g rels.length] [] (flt3 (0, 0, elC (g, rels) [])) [] := by
  have hE := (specEl_no h1 (by simp) hk).nilE
  have hc := elC_no hk
  refine fc_enter (nt := 87) Try.func36 rfl rfl (by simp) fun w0 ω0 => ?_
  (refine goes_seq ?_; refine goes_region ?_; apply run_step rfl; (exact stp_box rfl rfl rfl rfl); apply run_step rfl; (exact stp_assign rfl rfl); apply run_step rfl; (exact stp_assign rfl rfl); apply run_step rfl; (exact stp_assign rfl rfl); refine run_nil ?_; refine fin_seq ?_; refine goes_seq ?_; refine goes_region ?_; apply run_step rfl; (exact stp_loadAgg rfl rfl rfl rfl rfl rfl (by as_aux_lemma => kernel_rfl)); apply run_step rfl; (apply call_gate 53; exact stp_callR hE (by as_aux_lemma => kernel_rfl) rfl rfl ⟨⟨.inl rfl, .inl rfl, trivial⟩, rfl, trivial⟩ ⟨⟨_, rfl, .inl rfl⟩, trivial⟩ rfl rfl); apply run_step rfl; (exact stp_move rfl rfl); apply run_step rfl; (exact stp_extract rfl rfl rfl); apply run_step rfl; (exact stp_extract rfl rfl rfl); apply run_step rfl; (exact stp_assign rfl rfl); apply run_step rfl; (exact stp_assign rfl rfl); refine run_nil ?_; refine fin_seq ?_; refine goes_seq ?_; refine goes_seq ?_; refine goes_region ?_; apply run_step rfl; (exact stp_move rfl rfl); apply run_step rfl; (exact stp_bin rfl rfl rfl rfl); refine run_nil ?_; refine fin_seq ?_)
  refine goes_cond rfl (fun _ => ?_) (fun e => ?_)
  · (refine goes_seq ?_; refine goes_region ?_; apply run_step rfl; (exact stp_move rfl rfl); apply run_step rfl; (exact stp_assign rfl rfl); apply run_step rfl; (exact stp_assign rfl rfl); apply run_step rfl; (exact stp_assign rfl rfl); refine run_nil ?_; refine fin_seq ?_; refine goes_ret ?_; refine fin_ret_then ?_)
    exact fin_ret3 (.inl rfl) rfl (.tmp rfl) (.tmp rfl) (.tmp rfl) trivial trivial
  · exfalso; simp at e; exact hc e
set_option maxRecDepth 100000 in
set_option maxHeartbeats 1000000 in
theorem implIF_no (g : Int) (rels : List (List Int)) (h1 : Fit rels) (hk : ¬ elOk (g, rels) []) :
    FC Try.prog 37 [(1003, rowsRo rels)] [pA g rels.length] [] (flt3 (0, 0, elC (g, rels) [])) [] := by
  have hE := (implEl_no h1 (by simp) hk).nilE
  have hc := elC_no hk
  refine fc_enter (nt := 71) Try.func37 rfl rfl (by simp) fun w0 ω0 => ?_
  (refine goes_seq ?_; refine goes_region ?_; apply run_step rfl; (exact stp_box rfl rfl rfl rfl); apply run_step rfl; (exact stp_assign rfl rfl); apply run_step rfl; (exact stp_assign rfl rfl); apply run_step rfl; (exact stp_assign rfl rfl); refine run_nil ?_; refine fin_seq ?_; refine goes_seq ?_; refine goes_region ?_; apply run_step rfl; (exact stp_loadAgg rfl rfl rfl rfl rfl rfl (by as_aux_lemma => kernel_rfl)); apply run_step rfl; (apply call_gate 55; exact stp_callR hE (by as_aux_lemma => kernel_rfl) rfl rfl ⟨⟨.inl rfl, .inl rfl, trivial⟩, rfl, trivial⟩ ⟨⟨_, rfl, .inl rfl⟩, trivial⟩ rfl rfl); apply run_step rfl; (exact stp_move rfl rfl); apply run_step rfl; (exact stp_extract rfl rfl rfl); apply run_step rfl; (exact stp_extract rfl rfl rfl); apply run_step rfl; (exact stp_assign rfl rfl); apply run_step rfl; (exact stp_assign rfl rfl); refine run_nil ?_; refine fin_seq ?_; refine goes_seq ?_; refine goes_seq ?_; refine goes_region ?_; apply run_step rfl; (exact stp_move rfl rfl); apply run_step rfl; (exact stp_bin rfl rfl rfl rfl); refine run_nil ?_; refine fin_seq ?_)
  refine goes_cond rfl (fun _ => ?_) (fun e => ?_)
  · (refine goes_seq ?_; refine goes_region ?_; apply run_step rfl; (exact stp_move rfl rfl); apply run_step rfl; (exact stp_assign rfl rfl); apply run_step rfl; (exact stp_assign rfl rfl); apply run_step rfl; (exact stp_assign rfl rfl); refine run_nil ?_; refine fin_seq ?_; refine goes_ret ?_; refine fin_ret_then ?_)
    exact fin_ret3 (.inl rfl) rfl (.tmp rfl) (.tmp rfl) (.tmp rfl) trivial trivial
  · exfalso; simp at e; exact hc e
def ifR (d : PresD) : Int × Int × Int := if elC d [] = 0 then fltR (cosTab d []) d.1.toNat (cosN d []) else (0, 0, elC d [])
theorem specIF_fc (g : Int) (rels : List (List Int)) (h1 : Fit rels) : FC Try.prog 36 [(1003, rowsRo rels)] [pA g rels.length] [] (flt3 (ifR (g, rels))) [] := by
  by_cases hk : elOk (g, rels) []
  · obtain ⟨ng, rfl, hG⟩ := good_nil hk.1
    have e : ifR ((ng : Int), rels) = fltR (cosTab ((ng : Int), rels) []) ng (cosN ((ng : Int), rels) []) := if_pos (elC_ok hk)
    rw [e]; exact specIF_yes ng rels h1 hG hk
  · have e : ifR (g, rels) = (0, 0, elC (g, rels) []) := if_neg (elC_no hk)
    rw [e]; exact specIF_no g rels h1 hk
theorem implIF_fc (g : Int) (rels : List (List Int)) (h1 : Fit rels) : FC Try.prog 37 [(1003, rowsRo rels)] [pA g rels.length] [] (flt3 (ifR (g, rels))) [] := by
  by_cases hk : elOk (g, rels) []
  · obtain ⟨ng, rfl, hG⟩ := good_nil hk.1
    have e : ifR ((ng : Int), rels) = fltR (cosTab ((ng : Int), rels) []) ng (cosN ((ng : Int), rels) []) := if_pos (elC_ok hk)
    rw [e]; exact implIF_yes ng rels h1 hG hk
  · have e : ifR (g, rels) = (0, 0, elC (g, rels) []) := if_neg (elC_no hk)
    rw [e]; exact implIF_no g rels h1 hk
theorem three_vals {P : Program} {f : FuncId} {args : Array Value} {w : World} {a b c : Value} {outs : List (Nm × Ch)} (h : Calls P f args w fun e w' => ∃ v η ω, e = .returned v ∧ Den η (.tup [.one (.val a), .one (.val b), .one (.val c)]) v ∧ Mem η ω w' (fun x => lk x outs) ∧ Below w.heap.size w w' ∧ ∀ b, b < w.heap.size → ω b = none) :
    Calls P f args w fun e w' => e = .returned (.tuple #[a, b, c]) ∧ Below w.heap.size w w' := by
  refine h.mono ?_
  rintro e w' ⟨v, η, ω, rfl, ⟨us, rfl, hl, ha⟩, _, hb, _⟩
  obtain ⟨u0, g0, d0⟩ := ha 0 _ rfl
  obtain ⟨u1, g1, d1⟩ := ha 1 _ rfl
  obtain ⟨u2, g2, d2⟩ := ha 2 _ rfl
  have d0 : u0 = a := d0
  have d1 : u1 = b := d1
  have d2 : u2 = c := d2
  subst d0 d1 d2
  refine ⟨?_, hb⟩
  match us, hl with
  | ⟨[p, q, r]⟩, _ => simp at g0 g1 g2; rw [g0, g1, g2]
theorem api_specIF {E1 E : Nat} {lo hi : Nat} {v : Value} {d : PresD} (w : World) (h : OwP E1 E w lo hi v d) :
    Calls Try.prog 36 #[v] w fun e w' => e = .returned (.tuple #[.int .i64 (ifR d).1, .int .i64 (ifR d).2.1, .int .i64 (ifR d).2.2]) ∧ Below w.heap.size w w' := three_vals (callP (fun k1 => specIF_fc d.1 d.2 k1) h)
theorem api_implIF {E1 E : Nat} {lo hi : Nat} {v : Value} {d : PresD} (w : World) (h : OwP E1 E w lo hi v d) :
    Calls Try.prog 37 #[v] w fun e w' => e = .returned (.tuple #[.int .i64 (ifR d).1, .int .i64 (ifR d).2.1, .int .i64 (ifR d).2.2]) ∧ Below w.heap.size w w' := three_vals (callP (fun k1 => implIF_fc d.1 d.2 k1) h)
end Go.Proofs.Ytpjglifijdcgnaa

/- The walk of FnExactIntersectionFault: true, whatever the arguments. Written by genwalk.py. -/
namespace Go.Proofs.Ytpjglifijdcgnaa
open Go.RowKit

set_option maxHeartbeats 3200000 in
theorem walkIntersectionFault {v0 : Value} {d : PresD} (w : World) (h0 : RdP w v0 d) :
    Calls Try.prog 9 #[v0] w fun e w' => e = .returned (.bool true) ∧ Below w.heap.size w w' := by
  obtain ⟨a0, n0, c0, rfl, hi0⟩ := h0
  have h0 : RdP w (.agg #[.int .i64 d.1, .slice a0 n0 c0]) d := ⟨a0, n0, c0, rfl, hi0⟩
  clear hi0
  have B0 : Below w.heap.size w (w.alloc (.cells #[.int .i64 d.1, .slice a0 n0 c0] 24)) := below_alloc1 w _
  have kb0_0 : Blk (w.alloc (.cells #[.int .i64 d.1, .slice a0 n0 c0] 24)) (w.heap.size) 24 #[.int .i64 d.1, .slice a0 n0 c0] := (blk_at rfl)
  by_cases hx0 : budget1 1048576 (d.2.length + lenSS d.2) < 0
  · go_enter Try.func9, Try.ntmps9
    go_wp2_with fail
    refine (law_usP (1048576) _ (h0.below B0) (by omega) (by omega)).mono ?_
    rintro e w1 ⟨rfl, b1⟩
    have s1 := b1.size
    have B1 : Below w.heap.size w w1 := B0.trans (b1.mono B0.size)
    have kb0_1 : Blk w1 (w.heap.size) 24 #[.int .i64 d.1, .slice a0 n0 c0] := (kb0_0.belowS b1)
    have xkb0_1_0 : w1.cell? ⟨w.heap.size, 0, none⟩ = some (.int .i64 d.1) := kb0_1.cell 0
    have xkb0_1_1 : w1.cell? ⟨w.heap.size, 1, none⟩ = some (.slice a0 n0 c0) := kb0_1.cell 1
    have lkb0_1 : w.heap.size < w1.heap.size := kb0_1.lt
    go_wp2
    go_ret
    exact ⟨rfl, B1⟩
  · obtain ⟨ht0, he0⟩ := budget1_at hx0
    have hn0 : 0 ≤ budget1 1048576 (d.2.length + lenSS d.2) := by omega
    have hm0 : budget1 1048576 (d.2.length + lenSS d.2) ≤ 1048576 := by omega
    have HE0 := Lib.hid he0
    clear he0 hx0
    go_enter Try.func9, Try.ntmps9
    go_wp2_with fail
    refine (law_usP (1048576) _ (h0.below B0) (by omega) (by omega)).mono ?_
    rintro e w1 ⟨rfl, b1⟩
    have s1 := b1.size
    have B1 : Below w.heap.size w w1 := B0.trans (b1.mono B0.size)
    have kb0_1 : Blk w1 (w.heap.size) 24 #[.int .i64 d.1, .slice a0 n0 c0] := (kb0_0.belowS b1)
    have xkb0_1_0 : w1.cell? ⟨w.heap.size, 0, none⟩ = some (.int .i64 d.1) := kb0_1.cell 0
    have xkb0_1_1 : w1.cell? ⟨w.heap.size, 1, none⟩ = some (.slice a0 n0 c0) := kb0_1.cell 1
    have lkb0_1 : w.heap.size < w1.heap.size := kb0_1.lt
    go_wp2_with fail
    refine (law_toP _ (h0.below B1) (by omega)).mono ?_
    rintro e w2 ⟨u2, rfl, o2, b2⟩
    have s2 := b2.size
    have B2 : Below w.heap.size w w2 := B1.trans (b2.mono B1.size)
    have kb0_2 : Blk w2 (w.heap.size) 24 #[.int .i64 d.1, .slice a0 n0 c0] := (kb0_1.belowS b2)
    have xkb0_2_0 : w2.cell? ⟨w.heap.size, 0, none⟩ = some (.int .i64 d.1) := kb0_2.cell 0
    have xkb0_2_1 : w2.cell? ⟨w.heap.size, 1, none⟩ = some (.slice a0 n0 c0) := kb0_2.cell 1
    have lkb0_2 : w.heap.size < w2.heap.size := kb0_2.lt
    clear xkb0_1_0 xkb0_1_1
    go_wp2_with fail
    refine (api_specIF  _ o2 ).mono ?_
    rintro e w3 ⟨rfl, b3⟩
    have s3 := b3.size
    have B3 : Below w.heap.size w w3 := B2.trans (b3.mono B2.size)
    have kb0_3 : Blk w3 (w.heap.size) 24 #[.int .i64 d.1, .slice a0 n0 c0] := (kb0_2.belowS b3)
    have xkb0_3_0 : w3.cell? ⟨w.heap.size, 0, none⟩ = some (.int .i64 d.1) := kb0_3.cell 0
    have xkb0_3_1 : w3.cell? ⟨w.heap.size, 1, none⟩ = some (.slice a0 n0 c0) := kb0_3.cell 1
    have lkb0_3 : w.heap.size < w3.heap.size := kb0_3.lt
    clear xkb0_2_0 xkb0_2_1
    go_wp2_with fail
    refine (law_toP _ (h0.below B3) (by omega)).mono ?_
    rintro e w4 ⟨u4, rfl, o4, b4⟩
    obtain ⟨au4, nu4, cu4, rfl⟩ := o4.form
    have s4 := b4.size
    have B4 : Below w.heap.size w w4 := B3.trans (b4.mono B3.size)
    have kb0_4 : Blk w4 (w.heap.size) 24 #[.int .i64 d.1, .slice a0 n0 c0] := (kb0_3.belowS b4)
    have xkb0_4_0 : w4.cell? ⟨w.heap.size, 0, none⟩ = some (.int .i64 d.1) := kb0_4.cell 0
    have xkb0_4_1 : w4.cell? ⟨w.heap.size, 1, none⟩ = some (.slice a0 n0 c0) := kb0_4.cell 1
    have lkb0_4 : w.heap.size < w4.heap.size := kb0_4.lt
    clear xkb0_3_0 xkb0_3_1
    go_wp2_with fail
    have bx5 := below_alloc1 w4 (.cells #[.int .i64 d.1, .slice au4 nu4 cu4] 28)
    have kbx0_5 : Blk (w4.alloc (.cells #[.int .i64 d.1, .slice au4 nu4 cu4] 28)) w4.heap.size 28 #[.int .i64 d.1, .slice au4 nu4 cu4] := blk_at rfl
    generalize w4.alloc (.cells #[.int .i64 d.1, .slice au4 nu4 cu4] 28) = w5 at *
    have s5 := bx5.size
    have B5 : Below w.heap.size w w5 := B4.trans (bx5.mono B4.size)
    have kb0_5 : Blk w5 (w.heap.size) 24 #[.int .i64 d.1, .slice a0 n0 c0] := (kb0_4.belowS bx5)
    have xkb0_5_0 : w5.cell? ⟨w.heap.size, 0, none⟩ = some (.int .i64 d.1) := kb0_5.cell 0
    have xkb0_5_1 : w5.cell? ⟨w.heap.size, 1, none⟩ = some (.slice a0 n0 c0) := kb0_5.cell 1
    have lkb0_5 : w.heap.size < w5.heap.size := kb0_5.lt
    have xkbx0_5_0 : w5.cell? ⟨w4.heap.size, 0, none⟩ = some (.int .i64 d.1) := kbx0_5.cell 0
    have xkbx0_5_1 : w5.cell? ⟨w4.heap.size, 1, none⟩ = some (.slice au4 nu4 cu4) := kbx0_5.cell 1
    have lkbx0_5 : w4.heap.size < w5.heap.size := kbx0_5.lt
    clear xkb0_4_0 xkb0_4_1
    refine (api_implIF  _ (o4.below bx5) ).mono ?_
    rintro e w6 ⟨rfl, b6⟩
    have s6 := b6.size
    have B6 : Below w.heap.size w w6 := B5.trans (b6.mono B5.size)
    have kb0_6 : Blk w6 (w.heap.size) 24 #[.int .i64 d.1, .slice a0 n0 c0] := (kb0_5.belowS b6)
    have xkb0_6_0 : w6.cell? ⟨w.heap.size, 0, none⟩ = some (.int .i64 d.1) := kb0_6.cell 0
    have xkb0_6_1 : w6.cell? ⟨w.heap.size, 1, none⟩ = some (.slice a0 n0 c0) := kb0_6.cell 1
    have lkb0_6 : w.heap.size < w6.heap.size := kb0_6.lt
    have kbx0_6 : Blk w6 (w4.heap.size) 28 #[.int .i64 d.1, .slice au4 nu4 cu4] := (kbx0_5.belowS b6)
    have xkbx0_6_0 : w6.cell? ⟨w4.heap.size, 0, none⟩ = some (.int .i64 d.1) := kbx0_6.cell 0
    have xkbx0_6_1 : w6.cell? ⟨w4.heap.size, 1, none⟩ = some (.slice au4 nu4 cu4) := kbx0_6.cell 1
    have lkbx0_6 : w4.heap.size < w6.heap.size := kbx0_6.lt
    clear xkb0_5_0 xkb0_5_1 xkbx0_5_0 xkbx0_5_1
    go_wp2_with fail
    have hS6 : ∀ w', Below w6.heap.size w6 w' → (Below w6.heap.size w6 w' ∧ w'.cell? ⟨w.heap.size, 0, none⟩ = some (.int .i64 d.1) ∧ w'.cell? ⟨w.heap.size, 1, none⟩ = some (.slice a0 n0 c0) ∧ w'.cell? ⟨w4.heap.size, 0, none⟩ = some (.int .i64 d.1) ∧ w'.cell? ⟨w4.heap.size, 1, none⟩ = some (.slice au4 nu4 cu4)) := fun w' hb => ⟨hb, (kb0_6.belowS hb).cell 0, (kb0_6.belowS hb).cell 1, (kbx0_6.belowS hb).cell 0, (kbx0_6.belowS hb).cell 1⟩
    have HS6 := Lib.hid hS6
    clear hS6 xkb0_6_0 xkb0_6_1 xkbx0_6_0 xkbx0_6_1
    go_region_held3 (fun w' => Below w6.heap.size w6 w' ∧ w'.cell? ⟨w.heap.size, 0, none⟩ = some (.int .i64 d.1) ∧ w'.cell? ⟨w.heap.size, 1, none⟩ = some (.slice a0 n0 c0) ∧ w'.cell? ⟨w4.heap.size, 0, none⟩ = some (.int .i64 d.1) ∧ w'.cell? ⟨w4.heap.size, 1, none⟩ = some (.slice au4 nu4 cu4))
      (first | exact HS6.out _ (below_drew1 _) | exact HS6.out _ (below_tr (by assumption) (And.left (by assumption))))
      (first | (go_at_call 15; refine (law_toP _ (h0.below ?_) (by omega)).mono ?_; (exact below_tr (And.left (by assumption)) B6); rintro e w906 ⟨u906, rfl, o906, bt906⟩) | (go_at_call 17; refine (law_eqP _ (((o4.below bx5).below b6).below (And.left (by assumption))).rd (OwP.rd (by assumption))).mono ?_; rintro e w7 ⟨rfl, be7⟩))
    have b7 : Below w6.heap.size w6 w7 := And.left (by assumption)
    have s7 := b7.size
    have B7 : Below w.heap.size w w7 := B6.trans (b7.mono B6.size)
    have kb0_7 : Blk w7 (w.heap.size) 24 #[.int .i64 d.1, .slice a0 n0 c0] := (kb0_6.belowS b7)
    have xkb0_7_0 : w7.cell? ⟨w.heap.size, 0, none⟩ = some (.int .i64 d.1) := kb0_7.cell 0
    have xkb0_7_1 : w7.cell? ⟨w.heap.size, 1, none⟩ = some (.slice a0 n0 c0) := kb0_7.cell 1
    have lkb0_7 : w.heap.size < w7.heap.size := kb0_7.lt
    have kbx0_7 : Blk w7 (w4.heap.size) 28 #[.int .i64 d.1, .slice au4 nu4 cu4] := (kbx0_6.belowS b7)
    have xkbx0_7_0 : w7.cell? ⟨w4.heap.size, 0, none⟩ = some (.int .i64 d.1) := kbx0_7.cell 0
    have xkbx0_7_1 : w7.cell? ⟨w4.heap.size, 1, none⟩ = some (.slice au4 nu4 cu4) := kbx0_7.cell 1
    have lkbx0_7 : w4.heap.size < w7.heap.size := kbx0_7.lt
    go_wp2
    go_ret
    exact ⟨rfl, B7⟩
end Go.Proofs.Ytpjglifijdcgnaa
