/- Forms of maniplexes, the program's: numberedFrom, formFrom. guards: -/
import Derived.Test.YtmdhljleaijkbaaPart6
import Derived.Test.YtmdhljleaijkbaaPart3
import Derived.Test.YtmdhljleaijkbaaPart5
import Derived.Test.YtmdhljleaijkbaaPart4
import Derived.Test.YtmdhljleaijkbaaPart1
import Derived.Deep.QuietTactic
import Derived.Deep.DeepCutAuto
import Derived.Test.YtmdhljleaijkbaaPart7
import Derived.Deep.RegionHeld3
import Derived.Test.YtmdhljleaijkbaaProg
import Derived.Test.YtmdhljleaijkbaaPart2
namespace Go.Proofs.Ytmdhljleaijkbaa
open Go.RowKit

set_option maxRecDepth 100000 in
set_option maxHeartbeats 2000000 in
theorem numI_fc (zss : List (List Int)) (n c : Nat) (hT : Leads zss n) (hpos : 0 < zss.length) (hn : n ≤ 1000000) (hg : zss.length ≤ 1000000) (hc : c < n) :
    FC Try.prog 110 [(1003, rowsRo zss)] [o1 (.sl 1003 0 zss.length), vv (I6 c)] [(20, leOw (orb zss n c).2)] (o1 (.sl 20 0 (orb zss n c).2.length)) [] := by
  have hlen : (irows zss).length = zss.length := irows_len _
  have hr0 : (lget zss 0).length = n := hT.len 0 hpos
  have hrow0 : (irows zss)[0]? = some (ivals (lget zss 0)) := irows_get hpos
  have hil : (ivals (lget zss 0)).length = n := by rw [ivals_len]; exact hr0
  have hrp : (List.replicate n false).length = n := by simp
  have hbl : n ≤ (bvals (List.replicate n false)).length := by rw [bvals_len]; simp
  refine fc_enter (nt := 54) Try.func110 rfl rfl (by simp) fun w0 ω0 => ?_
  (refine goes_seq ?_; refine goes_region ?_; apply run_step rfl; (exact stp_assign rfl rfl); refine run_nil ?_; refine fin_seq ?_; refine goes_seq ?_; refine goes_region ?_; apply run_step rfl; (exact stp_move rfl rfl); apply run_step rfl; (first | exact stp_ix (j := 0) rfl rfl rfl rfl rfl (by as_aux_lemma => kernel_rfl) rfl hpos (Nat.le_of_eq hlen.symm) | exact stp_loadR rfl (by as_aux_lemma => kernel_rfl) rfl rfl rfl hrow0 hil | exact stp_makeB (n := n) (E := 4) rfl (by as_aux_lemma => kernel_rfl) (by as_aux_lemma => kernel_rfl) rfl rfl rfl rfl (by omega) | exact stp_ix (j := c) rfl rfl rfl rfl rfl (by as_aux_lemma => kernel_rfl) rfl hc hbl | exact stp_stB (bs := List.replicate n false) rfl rfl rfl rfl rfl (by rw [hrp]; omega) (by as_aux_lemma => kernel_rfl)); apply run_step rfl; (first | exact stp_ix (j := 0) rfl rfl rfl rfl rfl (by as_aux_lemma => kernel_rfl) rfl hpos (Nat.le_of_eq hlen.symm) | exact stp_loadR rfl (by as_aux_lemma => kernel_rfl) rfl rfl rfl hrow0 hil | exact stp_makeB (n := n) (E := 4) rfl (by as_aux_lemma => kernel_rfl) (by as_aux_lemma => kernel_rfl) rfl rfl rfl rfl (by omega) | exact stp_ix (j := c) rfl rfl rfl rfl rfl (by as_aux_lemma => kernel_rfl) rfl hc hbl | exact stp_stB (bs := List.replicate n false) rfl rfl rfl rfl rfl (by rw [hrp]; omega) (by as_aux_lemma => kernel_rfl)); apply run_step rfl; (exact stp_len rfl rfl rfl (by as_aux_lemma => kernel_rfl)); apply run_step rfl; (first | exact stp_ix (j := 0) rfl rfl rfl rfl rfl (by as_aux_lemma => kernel_rfl) rfl hpos (Nat.le_of_eq hlen.symm) | exact stp_loadR rfl (by as_aux_lemma => kernel_rfl) rfl rfl rfl hrow0 hil | exact stp_makeB (n := n) (E := 4) rfl (by as_aux_lemma => kernel_rfl) (by as_aux_lemma => kernel_rfl) rfl rfl rfl rfl (by omega) | exact stp_ix (j := c) rfl rfl rfl rfl rfl (by as_aux_lemma => kernel_rfl) rfl hc hbl | exact stp_stB (bs := List.replicate n false) rfl rfl rfl rfl rfl (by rw [hrp]; omega) (by as_aux_lemma => kernel_rfl)); apply run_step rfl; (exact stp_assign rfl rfl); refine run_nil ?_; refine fin_seq ?_; refine goes_seq ?_; refine goes_region ?_; apply run_step rfl; (exact stp_move rfl rfl); apply run_step rfl; (exact stp_move rfl rfl); apply run_step rfl; (first | exact stp_ix (j := 0) rfl rfl rfl rfl rfl (by as_aux_lemma => kernel_rfl) rfl hpos (Nat.le_of_eq hlen.symm) | exact stp_loadR rfl (by as_aux_lemma => kernel_rfl) rfl rfl rfl hrow0 hil | exact stp_makeB (n := n) (E := 4) rfl (by as_aux_lemma => kernel_rfl) (by as_aux_lemma => kernel_rfl) rfl rfl rfl rfl (by omega) | exact stp_ix (j := c) rfl rfl rfl rfl rfl (by as_aux_lemma => kernel_rfl) rfl hc hbl | exact stp_stB (bs := List.replicate n false) rfl rfl rfl rfl rfl (by rw [hrp]; omega) (by as_aux_lemma => kernel_rfl)); apply run_step rfl; (first | exact stp_ix (j := 0) rfl rfl rfl rfl rfl (by as_aux_lemma => kernel_rfl) rfl hpos (Nat.le_of_eq hlen.symm) | exact stp_loadR rfl (by as_aux_lemma => kernel_rfl) rfl rfl rfl hrow0 hil | exact stp_makeB (n := n) (E := 4) rfl (by as_aux_lemma => kernel_rfl) (by as_aux_lemma => kernel_rfl) rfl rfl rfl rfl (by omega) | exact stp_ix (j := c) rfl rfl rfl rfl rfl (by as_aux_lemma => kernel_rfl) rfl hc hbl | exact stp_stB (bs := List.replicate n false) rfl rfl rfl rfl rfl (by rw [hrp]; omega) (by as_aux_lemma => kernel_rfl)); refine run_nil ?_; refine fin_seq ?_; refine goes_seq ?_; refine goes_region ?_; apply run_step rfl; (exact stp_move rfl rfl); apply run_step rfl; (exact stp_lit1I (E := 2) rfl (by as_aux_lemma => kernel_rfl) rfl); apply run_step rfl; (exact stp_assign rfl rfl); refine run_nil ?_; refine fin_seq ?_; refine goes_seq ?_; refine goes_seq ?_; refine goes_region ?_; apply run_step rfl; (exact stp_assign rfl rfl); refine run_nil ?_; refine fin_seq ?_; refine goes_block ?_)
  generalize hm : 2 ^ zss.length - 1 = mask
  have hstep : ∀ k, k < zss.length → ∀ c s, mStep zss mask c s k = oStep zss c s k := fun k hk c s => by rw [← hm]; exact oStep_eq hk c s
  have hout : orb zss n c = mLoop zss mask zss.length (n + 1) 0 (oStart n c) := by rw [← hm]; rfl
  rw [hout]
  refine goes_loop (fun q : Nat × MSt => St.of [(0, o1 (.sl 1003 0 zss.length)), (5, o1 (.sl 15 0 n)), (6, o1 (.sl 20 0 q.2.2.length)), (7, vv (I6 q.1))] [(1003, rowsRo zss), (20, leOw q.2.2), (15, boOw q.2.1)])
    (fun q => q.1 ≤ q.2.2.length ∧ MOK n q.2 ∧ mLoop zss mask zss.length (n + 1 - q.1) q.1 q.2 = mLoop zss mask zss.length (n + 1) 0 (oStart n c)) (fun q => n + 1 - q.1) (0, oStart n c) ⟨Nat.zero_le _, oStart_ok hc, rfl⟩ (Wk.of ⟨rfl, rfl, rfl, rfl, trivial⟩ ⟨rfl, rfl, rfl, trivial⟩ trivial) ?_
  rintro ⟨i, s⟩ ⟨hi, hok, hl⟩
  dsimp only at hi hl ⊢
  have hOn : s.2.length ≤ n := hok.le
  (refine goes_seq ?_; refine goes_seq ?_; refine goes_region ?_; apply run_step rfl; (exact stp_move rfl rfl); apply run_step rfl; (exact stp_move rfl rfl); apply run_step rfl; (exact stp_len rfl rfl rfl (by as_aux_lemma => kernel_rfl)); apply run_step rfl; (exact stp_bin rfl rfl rfl rfl); refine run_nil ?_; refine fin_seq ?_)
  refine goes_if rfl (fun h => ?_) (fun h => ?_)
  · have hlt : i < s.2.length := by omega
    have hl' : mLoop zss mask zss.length (n - i) (i + 1) (mRow zss mask zss.length (iget s.2 i).toNat s) = mLoop zss mask zss.length (n + 1) 0 (oStart n c) := by
      rw [← hl, show n + 1 - i = (n - i) + 1 by omega]; exact (mLoop_step hlt).symm
    obtain ⟨e, he1, he2, -⟩ := hok.q i hlt
    rw [he1, Int.toNat_natCast] at hl'
    have hro := fun m hm => mRow_ok (mask := mask) hT rfl he2 hok m hm
    obtain ⟨s0, hs0⟩ : ∃ s0 : MSt, s0 = s := ⟨_, rfl⟩
    rw [← hs0] at hro hl'
    have hi0 : i < s0.2.length := by rw [hs0]; exact hlt
    have he0 : iget s0.2 i = (e : Int) := by rw [hs0]; exact he1
    (refine goes_skip ?_; refine fin_seq ?_; refine goes_seq ?_; refine goes_block ?_; refine goes_seq ?_; refine goes_region ?_; apply run_step rfl; (exact stp_move rfl rfl); apply run_step rfl; (exact stp_len rfl rfl rfl (by as_aux_lemma => kernel_rfl)); apply run_step rfl; (exact stp_move rfl rfl); refine run_nil ?_; refine fin_seq ?_; refine goes_block ?_)
    refine goes_loop (fun q : Nat × MSt => St.of [(0, o1 (.sl 1003 0 zss.length)), (5, o1 (.sl 15 0 n)), (6, o1 (.sl 20 0 q.2.2.length)), (7, vv (I6 i)), (27, o1 (.sl 1003 0 zss.length)), (28, vv (I6 zss.length)), (29, vv (I6 q.1))] [(1003, rowsRo zss), (20, leOw q.2.2), (15, boOw q.2.1)])
      (fun q => q.1 ≤ zss.length ∧ (List.range q.1).foldl (mStep zss mask e) s0 = q.2) (fun q => zss.length - q.1) (0, s) ⟨Nat.zero_le _, hs0⟩ (Wk.of ⟨rfl, rfl, rfl, rfl, rfl, rfl, rfl, trivial⟩ ⟨rfl, rfl, rfl, trivial⟩ trivial) ?_
    clear hl hok hs0 he1 hlt h hi hOn
    rintro ⟨k, s⟩ ⟨hk, hfo⟩
    dsimp only at hk hfo ⊢
    obtain ⟨hok, grw, _⟩ := hro k hk
    rw [hfo] at hok grw
    have hOn : s.2.length ≤ n := hok.le
    have hlt : i < s.2.length := Nat.lt_of_lt_of_le hi0 grw.len
    have hei : iget s.2 i = (e : Int) := (grw.pre i hi0).trans he0
    have hbl : s.1.length = n := hok.l
    (refine goes_seq ?_; refine goes_region ?_; apply run_step rfl; (exact stp_bin rfl rfl rfl rfl); refine run_nil ?_; refine fin_seq ?_; refine goes_seq ?_)
    refine goes_if rfl (fun h2 => ?_) (fun h2 => ?_)
    · have hkn : k < zss.length := by omega
      have hd := bTo_lt hT he2 (g := k) hkn
      have hrl : (lget zss k).length = n := hT.len k hkn
      have hrowk : (irows zss)[k]? = some (ivals (lget zss k)) := irows_get hkn
      have hilk : (ivals (lget zss k)).length = n := by rw [ivals_len]; exact hrl
      obtain ⟨d, hdd⟩ : ∃ d, bTo zss e k = d := ⟨_, rfl⟩
      have hst : (List.range (k + 1)).foldl (mStep zss mask e) s0 = oStep zss e s k := by
        rw [List.range_succ, List.foldl_append, hfo]; exact hstep k hkn e s
      unfold oStep at hst
      rw [hdd] at hd hst
      have hgetd : (ivals (lget zss k))[e]? = some (I6 (d : Int)) := by rw [ivals_get (by omega), hd.2]
      have hgq : (ivals s.2)[i]? = some (I6 (e : Int)) := by rw [ivals_get hlt, hei]
      have hgb : (bvals s.1)[d]? = some (.bool (bat s.1 d)) := bvals_get (by omega)
      have hel : e < (ivals (lget zss k)).length := by rw [hilk]; exact he2
      have hbb : n ≤ (bvals s.1).length := by rw [bvals_len, hbl]; exact Nat.le_refl _
      have hq0 : s.2.length ≤ (ivals s.2).length := by rw [ivals_len]; exact Nat.le_refl _
      (refine goes_skip ?_; refine fin_seq ?_; refine goes_seq ?_; refine goes_block ?_; refine goes_seq ?_; refine goes_region ?_; apply run_step rfl; (first | exact stp_ix (j := k) rfl rfl rfl rfl rfl (by as_aux_lemma => kernel_rfl) rfl hkn (Nat.le_of_eq hlen.symm) | exact stp_loadR rfl (by as_aux_lemma => kernel_rfl) rfl rfl rfl hrowk hilk | exact stp_ix (j := i) rfl rfl rfl rfl rfl (by as_aux_lemma => kernel_rfl) rfl hlt hq0 | exact stp_loadV rfl (by as_aux_lemma => kernel_rfl) rfl rfl rfl hgq | exact stp_ixE (j := e) rfl rfl rfl rfl (by as_aux_lemma => kernel_rfl) hrowk rfl he2 (Nat.le_of_eq hilk.symm) | exact stp_loadE' rfl (by as_aux_lemma => kernel_rfl) rfl rfl rfl hrowk hgetd | exact stp_ix (j := d) rfl rfl rfl rfl rfl (by as_aux_lemma => kernel_rfl) rfl (by omega) hbb | exact stp_loadV rfl (by as_aux_lemma => kernel_rfl) rfl rfl rfl hgb); apply run_step rfl; (first | exact stp_ix (j := k) rfl rfl rfl rfl rfl (by as_aux_lemma => kernel_rfl) rfl hkn (Nat.le_of_eq hlen.symm) | exact stp_loadR rfl (by as_aux_lemma => kernel_rfl) rfl rfl rfl hrowk hilk | exact stp_ix (j := i) rfl rfl rfl rfl rfl (by as_aux_lemma => kernel_rfl) rfl hlt hq0 | exact stp_loadV rfl (by as_aux_lemma => kernel_rfl) rfl rfl rfl hgq | exact stp_ixE (j := e) rfl rfl rfl rfl (by as_aux_lemma => kernel_rfl) hrowk rfl he2 (Nat.le_of_eq hilk.symm) | exact stp_loadE' rfl (by as_aux_lemma => kernel_rfl) rfl rfl rfl hrowk hgetd | exact stp_ix (j := d) rfl rfl rfl rfl rfl (by as_aux_lemma => kernel_rfl) rfl (by omega) hbb | exact stp_loadV rfl (by as_aux_lemma => kernel_rfl) rfl rfl rfl hgb); apply run_step rfl; (exact stp_assign rfl rfl); refine run_nil ?_; refine fin_seq ?_; refine goes_seq ?_; refine goes_region ?_; apply run_step rfl; (exact stp_move rfl rfl); apply run_step rfl; (exact stp_move rfl rfl); apply run_step rfl; (exact stp_move rfl rfl); apply run_step rfl; (first | exact stp_ix (j := k) rfl rfl rfl rfl rfl (by as_aux_lemma => kernel_rfl) rfl hkn (Nat.le_of_eq hlen.symm) | exact stp_loadR rfl (by as_aux_lemma => kernel_rfl) rfl rfl rfl hrowk hilk | exact stp_ix (j := i) rfl rfl rfl rfl rfl (by as_aux_lemma => kernel_rfl) rfl hlt hq0 | exact stp_loadV rfl (by as_aux_lemma => kernel_rfl) rfl rfl rfl hgq | exact stp_ixE (j := e) rfl rfl rfl rfl (by as_aux_lemma => kernel_rfl) hrowk rfl he2 (Nat.le_of_eq hilk.symm) | exact stp_loadE' rfl (by as_aux_lemma => kernel_rfl) rfl rfl rfl hrowk hgetd | exact stp_ix (j := d) rfl rfl rfl rfl rfl (by as_aux_lemma => kernel_rfl) rfl (by omega) hbb | exact stp_loadV rfl (by as_aux_lemma => kernel_rfl) rfl rfl rfl hgb); apply run_step rfl; (first | exact stp_ix (j := k) rfl rfl rfl rfl rfl (by as_aux_lemma => kernel_rfl) rfl hkn (Nat.le_of_eq hlen.symm) | exact stp_loadR rfl (by as_aux_lemma => kernel_rfl) rfl rfl rfl hrowk hilk | exact stp_ix (j := i) rfl rfl rfl rfl rfl (by as_aux_lemma => kernel_rfl) rfl hlt hq0 | exact stp_loadV rfl (by as_aux_lemma => kernel_rfl) rfl rfl rfl hgq | exact stp_ixE (j := e) rfl rfl rfl rfl (by as_aux_lemma => kernel_rfl) hrowk rfl he2 (Nat.le_of_eq hilk.symm) | exact stp_loadE' rfl (by as_aux_lemma => kernel_rfl) rfl rfl rfl hrowk hgetd | exact stp_ix (j := d) rfl rfl rfl rfl rfl (by as_aux_lemma => kernel_rfl) rfl (by omega) hbb | exact stp_loadV rfl (by as_aux_lemma => kernel_rfl) rfl rfl rfl hgb); apply run_step rfl; (exact stp_ixE rfl rfl rfl rfl rfl (by as_aux_lemma => kernel_rfl) (by first | assumption | exact ivals_get (by assumption) | exact irows_get (by assumption) | exact ivals_get (by omega) | exact irows_get (by omega) | rfl) (by first | rfl | exact (Int.toNat_of_nonneg (by omega)).symm) (by first | assumption | omega | (simp; omega)) (by first | exact Nat.le_refl _ | exact Nat.le_of_eq (ivals_len _).symm | exact Nat.le_of_eq (irows_len _).symm | (refine Nat.le_trans ?_ (Nat.le_of_eq (ivals_len _).symm); (first | omega | (simp; done) | (simp; omega))) | (refine Nat.le_trans ?_ (Nat.le_of_eq (irows_len _).symm); (first | omega | (simp; done) | (simp; omega))))); apply run_step rfl; (first | exact stp_ix (j := k) rfl rfl rfl rfl rfl (by as_aux_lemma => kernel_rfl) rfl hkn (Nat.le_of_eq hlen.symm) | exact stp_loadR rfl (by as_aux_lemma => kernel_rfl) rfl rfl rfl hrowk hilk | exact stp_ix (j := i) rfl rfl rfl rfl rfl (by as_aux_lemma => kernel_rfl) rfl hlt hq0 | exact stp_loadV rfl (by as_aux_lemma => kernel_rfl) rfl rfl rfl hgq | exact stp_ixE (j := e) rfl rfl rfl rfl (by as_aux_lemma => kernel_rfl) hrowk rfl he2 (Nat.le_of_eq hilk.symm) | exact stp_loadE' rfl (by as_aux_lemma => kernel_rfl) rfl rfl rfl hrowk hgetd | exact stp_ix (j := d) rfl rfl rfl rfl rfl (by as_aux_lemma => kernel_rfl) rfl (by omega) hbb | exact stp_loadV rfl (by as_aux_lemma => kernel_rfl) rfl rfl rfl hgb); apply run_step rfl; (exact stp_assign rfl rfl); refine run_nil ?_; refine fin_seq ?_; refine goes_seq ?_; refine goes_region ?_; apply run_step rfl; (exact stp_move rfl rfl); apply run_step rfl; (exact stp_move rfl rfl); apply run_step rfl; (first | exact stp_ix (j := k) rfl rfl rfl rfl rfl (by as_aux_lemma => kernel_rfl) rfl hkn (Nat.le_of_eq hlen.symm) | exact stp_loadR rfl (by as_aux_lemma => kernel_rfl) rfl rfl rfl hrowk hilk | exact stp_ix (j := i) rfl rfl rfl rfl rfl (by as_aux_lemma => kernel_rfl) rfl hlt hq0 | exact stp_loadV rfl (by as_aux_lemma => kernel_rfl) rfl rfl rfl hgq | exact stp_ixE (j := e) rfl rfl rfl rfl (by as_aux_lemma => kernel_rfl) hrowk rfl he2 (Nat.le_of_eq hilk.symm) | exact stp_loadE' rfl (by as_aux_lemma => kernel_rfl) rfl rfl rfl hrowk hgetd | exact stp_ix (j := d) rfl rfl rfl rfl rfl (by as_aux_lemma => kernel_rfl) rfl (by omega) hbb | exact stp_loadV rfl (by as_aux_lemma => kernel_rfl) rfl rfl rfl hgb); apply run_step rfl; (first | exact stp_ix (j := k) rfl rfl rfl rfl rfl (by as_aux_lemma => kernel_rfl) rfl hkn (Nat.le_of_eq hlen.symm) | exact stp_loadR rfl (by as_aux_lemma => kernel_rfl) rfl rfl rfl hrowk hilk | exact stp_ix (j := i) rfl rfl rfl rfl rfl (by as_aux_lemma => kernel_rfl) rfl hlt hq0 | exact stp_loadV rfl (by as_aux_lemma => kernel_rfl) rfl rfl rfl hgq | exact stp_ixE (j := e) rfl rfl rfl rfl (by as_aux_lemma => kernel_rfl) hrowk rfl he2 (Nat.le_of_eq hilk.symm) | exact stp_loadE' rfl (by as_aux_lemma => kernel_rfl) rfl rfl rfl hrowk hgetd | exact stp_ix (j := d) rfl rfl rfl rfl rfl (by as_aux_lemma => kernel_rfl) rfl (by omega) hbb | exact stp_loadV rfl (by as_aux_lemma => kernel_rfl) rfl rfl rfl hgb); apply run_step rfl; (exact stp_not rfl rfl); refine run_nil ?_; refine fin_seq ?_)
      refine goes_cond rfl (fun hb => ?_) (fun hb => ?_)
      · have hb : bat s.1 d = false := by simpa using hb
        have hv : (List.range (k + 1)).foldl (mStep zss mask e) s0 = (s.1.set d true, s.2 ++ [(d : Int)]) := by rw [hst, if_pos hb]
        (refine goes_seq ?_; refine goes_region ?_; apply run_step rfl; (exact stp_move rfl rfl); apply run_step rfl; (exact stp_move rfl rfl); apply run_step rfl; (first | exact stp_ix (j := d) rfl rfl rfl rfl rfl (by as_aux_lemma => kernel_rfl) rfl (by omega) hbb | exact stp_stB rfl rfl rfl rfl rfl (by omega) (by as_aux_lemma => kernel_rfl)); apply run_step rfl; (first | exact stp_ix (j := d) rfl rfl rfl rfl rfl (by as_aux_lemma => kernel_rfl) rfl (by omega) hbb | exact stp_stB rfl rfl rfl rfl rfl (by omega) (by as_aux_lemma => kernel_rfl)); refine run_nil ?_; refine fin_seq ?_; refine goes_region ?_; apply run_step rfl; (exact stp_move rfl rfl); apply run_step rfl; (exact stp_move rfl rfl); apply run_step rfl; (exact stp_lit1I (E := 2) rfl (by as_aux_lemma => kernel_rfl) rfl); apply run_step rfl; (exact stp_appI rfl (by as_aux_lemma => kernel_rfl) rfl rfl rfl (by first | rfl | assumption | (simp; done)) rfl rfl (by omega)); apply run_step rfl; (exact stp_assign rfl rfl); refine run_nil ?_; refine fin_block ?_; refine fin_seq ?_; refine goes_region ?_; apply run_step rfl; (exact stp_add rfl rfl rfl (by first | exact IntWalk.i64_in _ (by omega) | rfl)); apply run_step rfl; (exact stp_move rfl rfl); refine run_nil ?_)
        exact fin_round (k + 1, (s.1.set d true, s.2 ++ [(d : Int)])) ⟨hkn, hv⟩ (by show zss.length - (k + 1) < zss.length - k; omega) (Wk.of ⟨rfl, rfl, congrArg (fun x => some (o1 (.sl 20 0 x))) (by simp), rfl, rfl, rfl, rfl, trivial⟩ ⟨rfl, rfl, rfl, trivial⟩ trivial)
      · have hb : bat s.1 d = true := by simpa using hb
        have hv : (List.range (k + 1)).foldl (mStep zss mask e) s0 = s := by rw [hst, if_neg (by rw [hb]; simp)]
        (refine goes_skip ?_; refine fin_block ?_; refine fin_seq ?_; refine goes_region ?_; apply run_step rfl; (exact stp_add rfl rfl rfl (by first | exact IntWalk.i64_in _ (by omega) | rfl)); apply run_step rfl; (exact stp_move rfl rfl); refine run_nil ?_)
        exact fin_round (k + 1, s) ⟨hkn, hv⟩ (by show zss.length - (k + 1) < zss.length - k; omega) (Wk.of ⟨rfl, rfl, rfl, rfl, rfl, rfl, rfl, trivial⟩ ⟨rfl, rfl, rfl, trivial⟩ trivial)
    · obtain rfl : k = zss.length := by omega
      (refine goes_exit ?_; refine fin_exit_then ?_; refine fin_exit_then ?_; refine fin_exit_eq ?_; refine fin_block ?_; refine fin_seq ?_; refine goes_region ?_; apply run_step rfl; (exact stp_move rfl rfl); apply run_step rfl; (exact stp_add rfl rfl rfl (by first | exact IntWalk.i64_in _ (by omega) | rfl)); apply run_step rfl; (exact stp_assign rfl rfl); refine run_nil ?_)
      exact fin_round (i + 1, s) ⟨hlt, hok, by rw [← hl']; show mLoop _ _ _ (n + 1 - (i + 1)) _ _ = _; rw [show n + 1 - (i + 1) = n - i by omega]; unfold mRow; rw [hfo]⟩ (by show n + 1 - (i + 1) < n + 1 - i; omega) (Wk.of ⟨rfl, rfl, rfl, rfl, trivial⟩ ⟨rfl, rfl, rfl, trivial⟩ trivial)
  · have hio : i = s.2.length := by omega
    have hOM : mLoop zss mask zss.length (n + 1) 0 (oStart n c) = s := by
      rw [← hl, show n + 1 - i = (n - i) + 1 by omega, mLoop, if_neg (by omega)]
    rw [hOM]
    (refine goes_exit ?_; refine fin_exit_then ?_; refine fin_exit_then ?_; refine fin_exit_eq ?_; refine fin_seq ?_; refine goes_seq ?_; refine goes_region ?_; apply run_step rfl; (exact stp_move rfl rfl); apply run_step rfl; (exact stp_assign rfl rfl); refine run_nil ?_; refine fin_seq ?_; refine goes_ret ?_)
    exact fin_ret1 (.inl rfl) rfl (.tmp rfl) ⟨rfl, trivial⟩ trivial
theorem numI_any (f : Nat) (d : List (List Int)) (v : Value) (w : World) (h : RdSSc w v d) (hM : Man d) (hf : f < flg d) :
    Calls Try.prog 110 #[v, .int .i64 f] w fun e w' => ∃ v', e = .returned v' ∧ OwnS 2 w' w.heap.size w'.heap.size v' (orb d (flg d) f).2 ∧ Below w.heap.size w w' := by
  obtain ⟨hd, r, rfl, hv⟩ := ofSSc 1003 32 2 h
  have hN : flg d ≤ 400 := hM.f4
  have hn := hM.n5
  have hO := (orb_ok (man_leads hM) hf).le
  exact toS_call rfl (by omega) ((numI_fc d (flg d) f (man_leads hM) (by have := hM.n1; omega) (by omega) (by omega) hf).call (l := [(1003, (rowsRo d, hd, r))]) (us := [_, _]) (fun p hp => by simp at hp; subst hp; exact hv) rfl (denL2 (den_sl (q := (rowsRo d, hd, r)) rfl) rfl))
/-- the flags in the order of their new numbers -/
theorem ordF_full {d : List (List Int)} (hM : Man d) {f : Nat} (hf : f < flg d) : (orb d (flg d) f).2.length = flg d :=
  (orb_full (man_leads hM) hf).2 fun x hx => rch_trans (man_leads hM) hf (by omega) hx (rch_symm (man_leads hM) (man_back hM) (by omega) hf (man_rch hM f hf)) (man_rch hM x hx)
theorem ordF_in {d : List (List Int)} (hM : Man d) {f : Nat} (hf : f < flg d) {i : Nat} (hi : i < flg d) : ∃ x : Nat, iget (orb d (flg d) f).2 i = (x : Int) ∧ x < flg d := by
  obtain ⟨x, h1, h2, _⟩ := (orb_ok (man_leads hM) hf).q i (by rw [ordF_full hM hf]; exact hi)
  exact ⟨x, h1, h2⟩
def ordN (d : List (List Int)) (f i : Nat) : Nat := (iget (orb d (flg d) f).2 i).toNat
def numN (d : List (List Int)) (f : Nat) : List Int := putL (flg d) (fun i => ordN d f i) (fun i => (i : Int)) (flg d)
def frmRow (d : List (List Int)) (f g k : Nat) : List Int := (List.range k).map fun i => iget (numN d f) (bTo d (ordN d f i) g)
/-- the form from a flag -/
def frmL (d : List (List Int)) (f : Nat) : List (List Int) := (List.range d.length).map fun g => frmRow d f g (flg d)
theorem frmRow_succ (d : List (List Int)) (f g k : Nat) : frmRow d f g (k + 1) = frmRow d f g k ++ [iget (numN d f) (bTo d (ordN d f k) g)] := by simp [frmRow, List.range_succ]
theorem frmL_take {d : List (List Int)} {f g : Nat} (h : g < d.length) : (frmL d f).take (g + 1) = (frmL d f).take g ++ [frmRow d f g (flg d)] := by
  rw [List.take_succ_eq_append_getElem (by simpa [frmL] using h)]
  congr 1
  simp [frmL]
set_option maxRecDepth 100000 in
set_option maxHeartbeats 6400000 in
theorem formFrom_any (ao : Option Addr) (n c f : Nat) (d : List (List Int)) (w : World) (hd : RdSSc w (.slice ao n c) d) (hM : Man d) (hf : f < flg d) :
    Calls Try.prog 78 #[.slice ao n c, .int .i64 f] w fun e w' => ∃ r, e = .returned r ∧ OwM 2 32 w' w.heap.size w'.heap.size r (frmL d f) ∧ Below w.heap.size w w' := by
  have HD := Lib.hid hd
  have HM := Lib.hid hM
  have HF := Lib.hid hf
  obtain ⟨N, hN⟩ : ∃ N, flg d = N := ⟨_, rfl⟩
  have HN := Lib.hid hN
  have HOF := Lib.hid (ordF_full hM hf)
  have HOI := Lib.hid (fun (i : Nat) (hi : i < flg d) => ordF_in hM hf hi)
  have hdl := hd.intss.1
  have hd1 := hM.n1
  have hd5 := hM.n5
  have hN2 : 2 ≤ N := by rw [← hN]; exact hM.f2
  have hN4 : N ≤ 400 := by rw [← hN]; exact hM.f4
  clear hd hM hf hN
  have b1 := below_alloc1 w (.cells #[.slice none 0 0] 28)
  have kr1 : Blk (w.alloc (.cells #[.slice none 0 0] 28)) w.heap.size 28 #[.slice none 0 0] := blk_at rfl
  have hz1 : w.heap.size < (w.alloc (.cells #[.slice none 0 0] 28)).heap.size := by simp
  go_enter Try.func78, Try.ntmps78
  go_upto_region 1 with fail
  generalize w.alloc (.cells #[.slice none 0 0] 28) = w1 at *
  have HD1 := Lib.hid (HD.out.below b1)
  have B1 := Lib.hid b1
  have KR1 := Lib.hid kr1
  clear b1 kr1 HD
  go_wp2_with fail
  refine (numI_any f d _ w1 HD1.out HM.out HF.out).mono ?_
  rintro e w2 ⟨v2, rfl, o2, b2⟩
  obtain ⟨⟨oa, on, oc, rfl, ho⟩, -⟩ := o2
  have hon : on = N := by have := ho.len; rw [List.length_map, HOF.out, HN.out] at this; exact this.symm
  subst hon
  have HO2 := Lib.hid ho.ints
  have hz12 : w.heap.size < w2.heap.size := Nat.lt_of_lt_of_le hz1 b2.size
  have B2 := Lib.hid (B1.out.trans (b2.mono (Nat.le_of_lt hz1)))
  have KR2 := Lib.hid (KR1.out.belowS b2)
  have HD2 := Lib.hid (HD1.out.below b2)
  clear ho b2 B1 KR1 HD1
  obtain ⟨b0, off0, a0, n0, c0, rfl, hc0, hi0⟩ := HD2.out.intss.at_ (k := 0) (by omega)
  have hn0 : n0 = on := by rw [← hi0.1, ← HN.out]; rfl
  subst hn0
  rw [Nat.add_zero] at hc0
  clear hi0
  go_wp2_with (at_make; refine wpList_mk etI _ rfl _ _ rfl w2.heap.size _ _ _ _ n0 rfl rfl rfl rfl (by omega) (Nat.le_refl _) ?_; intro w3 o3 g3 s3)
  have b3 : Below w2.heap.size w2 w3 := (Below.refl _ _).grown g3 (Nat.le_refl _) (by simp)
  have B3 := Lib.hid b3
  have hg3 : w2.heap.size < w3.heap.size := (o3.lt w2.heap.size rfl).2
  obtain ⟨gn, hgn⟩ : ∃ gn, w2.heap.size = gn := ⟨_, rfl⟩
  have HGN := Lib.hid hgn
  have O3 := Lib.hid (show Own w3 w2.heap.size 2 (some ⟨gn, 0, none⟩) n0 n0 ((putL n0 (fun i => ordN d f i) (fun i => (i : Int)) 0).map (Value.int .i64)) by rw [← hgn, putL_zero]; simpa using o3)
  clear o3 g3 s3 b3 hc0
  rw [hgn]
  have hz2 := B2.out.size
  have hgn2 : gn < w3.heap.size := by rw [← hgn]; exact hg3
  clear hgn
  go_wp2_with fail
  go_loopw [25] (fun kv wr => ∃ k : Nat, kv = .int .i64 k ∧ k ≤ n0 ∧ Own wr w2.heap.size 2 (some ⟨gn, 0, none⟩) n0 n0 ((putL n0 (fun i => ordN d f i) (fun i => (i : Int)) k).map (Value.int .i64)) ∧ Below w2.heap.size w2 wr) (fun kv _ => n0 - (intOf kv).toNat)
  case atStart => exact ⟨0, rfl, Nat.zero_le _, O3.out, B3.out⟩
  case round =>
    clear O3 B3 hg3
    obtain ⟨k, rfl, hk, ho, hb⟩ := hrel
    have hl3 := putL_len n0 (fun i => ordN d f i) (fun i => (i : Int)) k
    by_cases hlt : k < n0
    · obtain ⟨x, hx1, hx2⟩ := HOI.out k (by rw [HN.out]; exact hlt)
      rw [HN.out] at hx2
      obtain ⟨b1, off1, rfl, hc1⟩ := (HO2.out.below hb).at_ hlt
      rw [hx1] at hc1
      have hxo : ordN d f k = x := by unfold ordN; rw [hx1, Int.toNat_natCast]
      obtain ⟨g', eg, -, hgl, -, hcell, hfr⟩ := ho.form (by omega)
      injection eg with eg
      injection eg with eg
      subst eg
      have hcx : wr.cell? ⟨gn, x, none⟩ = some (.int .i64 (iget (putL n0 (fun i => ordN d f i) (fun i => (i : Int)) k) x)) := by rw [hcell x hx2, List.getElem?_map, List.getElem?_eq_getElem (by omega), iget_lt (by omega)]; rfl
      have hfx := hfr x
      obtain ⟨st1, st2⟩ := ho.stored x (.int .i64 (k : Int))
      have ST1 := Lib.hid (show Own (wr.setCell ⟨gn, x, none⟩ (.int .i64 (k : Int))) w2.heap.size 2 (some ⟨gn, 0, none⟩) n0 n0 ((putL n0 (fun i => ordN d f i) (fun i => (i : Int)) (k + 1)).map (Value.int .i64)) by rw [putL_succ, hxo, List.map_set]; exact st1)
      have BW := Lib.hid (hb.grown st2 hb.size (fun g e => by injection e with e; rw [← e, HGN.out]; exact Nat.le_refl _))
      have hx0 : (x : Int) < (n0 : Int) := by omega
      clear st1 st2 ho hb hcell hfr hxo hl3 hx1
      go_wp2
      go_roundw
      case rel => exact ⟨k + 1, by go_num, by omega, ST1.out, BW.out⟩
      case measure => simp [intOf]; omega
    · obtain rfl : k = n0 := by omega
      obtain ⟨wB, rfl⟩ : ∃ x, x = wr := ⟨_, rfl⟩
      have HO := Lib.hid ho
      have HB := Lib.hid hb
      have hzB := hb.size
      have b7 := (Below.refl wB.heap.size wB).alloc (Nat.le_refl _) (.cells #[.slice none 0 0] 28)
      have ST := Lib.hid (MBx.start (w := wB) b7 (Blk.new wB 28 #[.slice none 0 0]) (Nat.le_refl _))
      have hz7 : wB.heap.size < (wB.alloc (.cells #[.slice none 0 0] 28)).heap.size := by simp
      clear b7 hb ho
      go_upto_region 9 with fail
      generalize wB.alloc (.cells #[.slice none 0 0] 28) = w7 at *
      obtain ⟨bx, hbx⟩ : ∃ bx, wB.heap.size = bx := ⟨_, rfl⟩
      have HBX := Lib.hid hbx
      rw [hbx] at ST hz7 ⊢
      clear hbx
      go_wp2_with fail
      go_loopw [37] (fun kv wr => ∃ (q : Nat) (am : Option Addr) (c : Nat) (us : List Value), kv = .int .i64 q ∧ q ≤ n ∧ MBx wB wr bx (bx + 1) am q c us ((frmL d f).take q)) (fun kv _ => n - (intOf kv).toNat)
      case atStart => exact ⟨0, none, 0, [], rfl, Nat.zero_le _, ST.out⟩
      case round =>
        clear ST hz7
        obtain ⟨q, am, cm, um, rfl, hq, st⟩ := hrel
        obtain ⟨wA, rfl⟩ : ∃ x, x = wr := ⟨_, rfl⟩
        by_cases hlt : q < n
        · have ST := Lib.hid st
          have hbw := Lib.hid st.bel
          have hzr := hbw.out.size
          have HBA := Lib.hid (HB.out.trans (hbw.out.mono hzB))
          obtain ⟨b2, off2, a2, n2, c2, e2, hc2, hi2⟩ := (HD2.out.intss.below HBA.out).at_ hlt
          injection e2 with e2
          injection e2 with e21 e22
          subst e21 e22
          have hn2 : n2 = k := by rw [← hi2.1, ← HN.out]; exact HM.out.len q (by omega)
          subst hn2
          have HI2 := Lib.hid hi2
          have hE : Own wA wA.heap.size 2 none 0 0 [] := Own.nil_ _ _ _
          clear st hi2
          go_wp2_with fail
          go_loopw [12, 43] (fun sv iv w8 => ∃ (i : Nat) (a : Option Addr) (cc : Nat), i ≤ n2 ∧ sv = .slice a i cc ∧ iv = .int .i64 i ∧ Own w8 wA.heap.size 2 a i cc ((frmRow d f q i).map (Value.int .i64)) ∧ Below wA.heap.size wA w8) (fun _ iv _ => n2 - (intOf iv).toNat)
          case atStart => exact ⟨0, _, _, Nat.zero_le _, rfl, rfl, by simpa [frmRow] using hE, Below.refl _ _⟩
          case round =>
            clear hE hc2
            obtain ⟨i, a, cc, hi, rfl, rfl, ho, hb8⟩ := hrel
            obtain ⟨w8, rfl⟩ : ∃ x, x = wr := ⟨_, rfl⟩
            have HBW := Lib.hid (hbw.out.trans (hb8.mono hzr))
            have HB2W := Lib.hid (HB.out.trans (HBW.out.mono hzB))
            have HO8 := Lib.hid ho
            have hz8 := hb8.size
            clear ho
            by_cases hlti : i < n2
            · obtain ⟨x, hx1, hx2⟩ := HOI.out i (by rw [HN.out]; exact hlti)
              have hxo : ordN d f i = x := by unfold ordN; rw [hx1, Int.toNat_natCast]
              obtain ⟨b1, off1, rfl, hc1⟩ := (HO2.out.below HB2W.out).at_ hlti
              rw [hx1] at hc1
              have hy := bTo_lt (man_leads HM.out) hx2 (g := q) (by omega)
              rw [HN.out] at hx2
              obtain ⟨b4, off4, rfl, hc4⟩ := (HI2.out.below hb8).at_ hx2
              obtain ⟨y, hye⟩ : ∃ y, bTo d x q = y := ⟨_, rfl⟩
              rw [hy.2, hye] at hc4
              have hyN : y < n2 := by rw [← hye, ← HN.out]; exact hy.1
              obtain ⟨b5, off5, e5, hc5⟩ := ((HO.out.below HBW.out).ints).at_ hyN
              injection e5 with e5
              injection e5 with e51 e52
              subst e51 e52
              rw [Nat.zero_add] at hc5
              have hrw := frmRow_succ d f q i
              rw [hxo, hye] at hrw
              have hnum : iget (numN d f) y = iget (putL n2 (fun i => ordN d f i) (fun i => (i : Int)) n2) y := by unfold numN; rw [HN.out]
              rw [hnum] at hrw
              have HRW := Lib.hid hrw
              have hx0 : (x : Int) < (n2 : Int) := by omega
              have hy0 : (y : Int) < (n2 : Int) := by omega
              clear hrw hnum hy hye hxo hx1
              go_wp2_with (at_builtin; refine wpList_ap1 etI _ rfl _ _ rfl wA.heap.size a i cc _ rfl HO8.out _ rfl rfl (by omega) hz8 ?_; intro ao2 c2' w4 ho2 hg2 hblk)
              have HO2' := Lib.hid ho2
              have hb12 := hb8.grown hg2 hz8 (fun g hg => (HO8.out.lt g hg).1)
              clear ho2 hblk hg2
              go_roundw
              case rel => exact ⟨i + 1, ao2, c2', by omega, rfl, by go_num, by rw [HRW.out, List.map_append]; exact HO2'.out, hb12⟩
              case measure => simp [intOf]; omega
            · obtain rfl : i = n2 := by omega
              have hzs : (frmL d f).take (q + 1) = (frmL d f).take q ++ [frmRow d f q i] := by rw [frmL_take (by omega), HN.out]
              have HZS := Lib.hid hzs
              have STB := Lib.hid (ST.out.below hb8)
              have xb := STB.out.cell
              have hlo8 := STB.out.at_.2.2
              clear hzs
              go_wp2_with (at_builtin; refine wpList_ap1 etSS _ rfl _ _ rfl (bx + 1) am q cm _ rfl STB.out.row.own (.slice a i cc) rfl rfl (by omega) hlo8 ?_; intro ao2 c2' w4 ho2 hg2 hat; have x4 := (STB.out.boxG hg2).cell 0; have f4 := (STB.out.boxG hg2).frozen 0)
              have SP := Lib.hid (ST.out.push (by omega) hb8 HO8.out (Below.refl _ _) ho2 hg2 (hat.imp id fun e => ⟨_, e, Nat.le_succ _⟩))
              clear ho2 hg2 hat STB ST
              go_roundw
              case rel => exact ⟨q + 1, ao2, c2', _, by go_num, by omega, by rw [HZS.out]; exact SP.out⟩
              case measure => simp [intOf]; omega
        · obtain rfl : q = n := by omega
          have hall : (frmL d f).take q = frmL d f := List.take_of_length_le (by simp [frmL]; omega)
          rw [hall] at st
          have xb := st.cell
          have HBA := Lib.hid (HB.out.trans (st.bel.mono hzB))
          have KRr := KR2.out.belowS HBA.out
          have xr := KRr.cell 0
          have fr := KRr.frozen 0
          have BF := Lib.hid (B2.out.trans (HBA.out.mono hz2))
          have ST := Lib.hid st
          have hwb : w.heap.size ≤ wB.heap.size := by omega
          simp at xr
          clear st
          go_wp2
          have hfl : w.heap.size < bx := by rw [← HBX.out]; omega
          exact bodyPost_ret (v := .agg #[.slice am q cm]) (by simp [results, Try.f78, go_sem, xr]) rfl ⟨_, rfl, ST.out.done hfl _ hwb, BF.out.setCell (by simp) _⟩
end Go.Proofs.Ytmdhljleaijkbaa

/- Groups of permutations, on lists: the search for the elements, ascending lists of lists. No program in sight. -/
namespace Go.Proofs.Ytmdhljleaijkbaa

/-- one list comes before another one -/
def ltL : List Int → List Int → Bool
  | [], [] => false
  | [], _ :: _ => true
  | _ :: _, [] => false
  | a :: r, b :: s => if a < b then true else if b < a then false else ltL r s
theorem ltL_irr : ∀ a : List Int, ltL a a = false
  | [] => rfl
  | a :: r => by unfold ltL; rw [if_neg (by omega), if_neg (by omega)]; exact ltL_irr r
theorem ltL_tri : ∀ a b : List Int, ltL a b = true ∨ a = b ∨ ltL b a = true
  | [], [] => .inr (.inl rfl)
  | [], _ :: _ => .inl rfl
  | _ :: _, [] => .inr (.inr rfl)
  | a :: r, b :: s => by
    unfold ltL
    by_cases h1 : a < b
    · left; rw [if_pos h1]
    · by_cases h2 : b < a
      · right; right; rw [if_pos h2]
      · obtain rfl : a = b := by omega
        rw [if_neg h1, if_neg h1]
        rcases ltL_tri r s with h | h | h
        · exact .inl h
        · exact .inr (.inl (by rw [h]))
        · right; right; rw [if_neg h1, if_neg h1]; exact h
theorem ltL_trans : ∀ {a b c : List Int}, ltL a b = true → ltL b c = true → ltL a c = true
  | [], [], _, h, _ => by simp [ltL] at h
  | [], _ :: _, [], _, h => by simp [ltL] at h
  | [], _ :: _, _ :: _, _, _ => rfl
  | _ :: _, [], _, h, _ => by simp [ltL] at h
  | _ :: _, _ :: _, [], _, h => by simp [ltL] at h
  | a :: r, b :: s, c :: t, h1, h2 => by
    unfold ltL at h1 h2 ⊢
    by_cases hab : a < b
    · by_cases hbc : b < c
      · rw [if_pos (by omega)]
      · rw [if_neg hbc] at h2
        by_cases hcb : c < b
        · rw [if_pos hcb] at h2; cases h2
        · rw [if_pos (by omega)]
    · rw [if_neg hab] at h1
      by_cases hba : b < a
      · rw [if_pos hba] at h1; cases h1
      · rw [if_neg hba] at h1
        by_cases hbc : b < c
        · rw [if_pos (by omega)]
        · rw [if_neg hbc] at h2
          by_cases hcb : c < b
          · rw [if_pos hcb] at h2; cases h2
          · rw [if_neg hcb] at h2
            rw [if_neg (by omega), if_neg (by omega)]
            exact ltL_trans h1 h2
theorem ltL_asym {a b : List Int} (h : ltL a b = true) : ltL b a = false := by
  cases h2 : ltL b a with
  | false => rfl
  | true => have := ltL_trans h h2; rw [ltL_irr] at this; cases this
end Go.Proofs.Ytmdhljleaijkbaa

/- Groups of permutations: the reference's l01Less, l01Same, l01Then, l01Put. guards: -/
namespace Go.Proofs.Ytmdhljleaijkbaa
open Go.RowKit

theorem iget_cons_drop {x : List Int} {k : Nat} (h : k < x.length) : x.drop k = iget x k :: x.drop (k + 1) := by rw [List.drop_eq_getElem_cons h, iget_lt h]
theorem ltL_step {x y : List Int} {n k : Nat} (hx : x.length = n) (hy : y.length = n) (hk : k < n) : ltL (x.drop k) (y.drop k) = if iget x k < iget y k then true else if iget y k < iget x k then false else ltL (x.drop (k + 1)) (y.drop (k + 1)) := by
  rw [iget_cons_drop (by omega : k < x.length), iget_cons_drop (by omega : k < y.length)]; rfl
/-- the lists of a spine: each in a block of numbers that nothing writes any more -/
structure SpF (w : World) (lo : Nat) (ao : Option Addr) (n c : Nat) (us : List Value) (ds : List (List Int)) : Prop where
  own : Own w lo 32 ao n c us
  len : ds.length = n
  row : ∀ (j : Nat) (u : Value) (d : List Int), us[j]? = some u → ds[j]? = some d → ∃ a m k, u = .slice a m k ∧ Own w lo 2 a m k (d.map (Value.int .i64))
theorem Own.typG {w : World} {lo E n c : Nat} {ao : Option Addr} {xs : List Value} (h : Own w lo E ao n c xs) {g : Nat} (hg : bk ao = some g) : ∃ cs, w.heap[g]? = some (.cells cs E (0, 0)) := by
  rcases h.1.2 with h2 | ⟨g', cap, cur, hv, _, hh, _⟩
  · have h2 := h2.1
    injection h2 with h3; subst h3; cases hg
  · injection hv with h3; subst h3
    obtain rfl := Option.some.inj hg
    exact ⟨cur, hh⟩
theorem own_neT {w : World} {lo lo' E E' n n' c c' : Nat} {ao ao' : Option Addr} {xs xs' : List Value} (h : Own w lo E ao n c xs) (h' : Own w lo' E' ao' n' c' xs') (hE : E ≠ E') {g : Nat} (hg : bk ao = some g) : bk ao' ≠ some g := fun e => by
  obtain ⟨cs, h1⟩ := h.typG hg
  obtain ⟨cs', h2⟩ := h'.typG e
  rw [h1] at h2
  injection h2 with h2
  injection h2 with _ h2
  exact hE h2
section
variable {w w' : World} {lo : Nat} {ao : Option Addr} {n c : Nat} {us : List Value} {ds : List (List Int)}
theorem SpF.at_ (h : SpF w lo ao n c us ds) {j : Nat} (hj : j < n) : ∃ g a m k, ao = some ⟨g, 0, none⟩ ∧ w.cell? ⟨g, j, none⟩ = some (.slice a m k) ∧ us[j]? = some (.slice a m k) ∧ Own w lo 2 a m k ((lget ds j).map (Value.int .i64)) := by
  have hl := h.own.len
  have hd := h.len
  obtain ⟨g, rfl, -, -, -, hc, -⟩ := h.own.form (by omega)
  have hu := List.getElem?_eq_getElem (by omega : j < us.length)
  obtain ⟨a, m, k, e, ho⟩ := h.row j _ _ hu (get?_lget (by omega))
  exact ⟨g, a, m, k, rfl, by rw [hc j hj, hu, e], by rw [hu, e], ho⟩
/-- another spine has grown -/
theorem SpF.far (h : SpF w lo ao n c us ds) {b : Option Addr} {nb cb : Nat} {vs : List Value} {lob : Nat} (hb : Own w lob 32 b nb cb vs) (hg : w.grownBy w' (bk b)) (hne : ∀ g, bk ao = some g → bk b ≠ some g) : SpF w' lo ao n c us ds :=
  ⟨h.own.same fun g e => hg.block g (h.own.lt g e).2 (fun q => hne g e q.symm), h.len, fun j u d hu hd => by
    obtain ⟨a, m, k, e, ho⟩ := h.row j u d hu hd
    exact ⟨a, m, k, e, ho.same fun g eg => hg.block g (ho.lt g eg).2 (fun q => own_neT ho hb (by decide) eg q.symm)⟩⟩
theorem SpF.below (h : SpF w lo ao n c us ds) (hb : Below w.heap.size w w') : SpF w' lo ao n c us ds :=
  ⟨h.own.below hb, h.len, fun j u d hu hd => by
    obtain ⟨a, m, k, e, ho⟩ := h.row j u d hu hd
    exact ⟨a, m, k, e, ho.below hb⟩⟩
theorem SpF.push (h : SpF w lo ao n c us ds) {a' : Option Addr} {m' k' c' : Nat} {a2 : Option Addr} {d : List Int} (ho : Own w lo 2 a' m' k' (d.map (Value.int .i64))) (hg : w.grownBy w' (bk ao)) (hown : Own w' lo 32 a2 (n + 1) c' (us ++ [.slice a' m' k'])) : SpF w' lo a2 (n + 1) c' (us ++ [.slice a' m' k']) (ds ++ [d]) := by
  have hl := h.own.len
  have hd := h.len
  have keep : ∀ {a m k} {x : List Int}, Own w lo 2 a m k (x.map (Value.int .i64)) → Own w' lo 2 a m k (x.map (Value.int .i64)) := fun ho => ho.same fun g eg => hg.block g (ho.lt g eg).2 (fun q => own_neT ho h.own (by decide) eg q.symm)
  refine ⟨hown, by rw [List.length_append, hd]; rfl, fun j u x hu hx => ?_⟩
  by_cases hj : j < n
  · rw [List.getElem?_append_left (by omega)] at hu hx
    obtain ⟨a, m, k, e, ho⟩ := h.row j u x hu hx
    exact ⟨a, m, k, e, keep ho⟩
  · have hj2 : j = n := by have := (List.getElem?_eq_some_iff.1 hx).1; rw [List.length_append] at this; simp at this; omega
    subst hj2
    rw [List.getElem?_append_right (by omega), hl, Nat.sub_self] at hu
    rw [List.getElem?_append_right (by omega), hd, Nat.sub_self] at hx
    simp at hu hx
    subst hu hx
    exact ⟨_, _, _, rfl, keep ho⟩
end
end Go.Proofs.Ytmdhljleaijkbaa

/- Groups of permutations, the program's: slices.Compare at two lists of one length. guards: -/
namespace Go.Proofs.Ytmdhljleaijkbaa
open Go.RowKit

def cmpI (x y : Int) : Int := if x < y then -1 else if y < x then 1 else 0
def cmpL (a b : List Int) : Int := if ltL a b = true then -1 else if ltL b a = true then 1 else 0
theorem isNaN_any (x : Int) (w : World) : Calls Try.prog 144 #[.int .i64 x] w fun e w' => e = .returned (.bool false) ∧ ∃ m, w' = w.drewN m := by
  have h : (x != x) = false := by simp
  go_enter Try.func144, Try.ntmps144
  go_wp2
  go_ret
  exact ⟨rfl, 0, rfl⟩
set_option maxHeartbeats 1600000 in
theorem cmpInt_any (x y : Int) (w : World) : Calls Try.prog 127 #[.int .i64 x, .int .i64 y] w fun e w' => e = .returned (.int .i64 (cmpI x y)) ∧ ∃ m, w' = w.drewN m := by
  obtain ⟨V, hV⟩ : ∃ V, V = cmpI x y := ⟨_, rfl⟩
  rw [← hV]
  have HV := Lib.hid hV
  clear hV
  rcases Int.lt_trichotomy x y with h | h | h
  · have e : V = -1 := by rw [HV.out]; unfold cmpI; rw [if_pos h]
    subst e
    have h1 : decide (x < y) = true := by simp [h]
    go_enter Try.func127, Try.ntmps127
    go_wp2_with (go_at_call 144; refine (isNaN_any _ _).mono ?_; rintro e w' ⟨rfl, m, rfl⟩)
    go_ret
    exact ⟨rfl, _, rfl⟩
  · subst h
    have e : V = 0 := by rw [HV.out]; unfold cmpI; rw [if_neg (by omega), if_neg (by omega)]
    subst e
    have h1 : decide (x < x) = false := by simp
    go_enter Try.func127, Try.ntmps127
    go_wp2_with (go_at_call 144; refine (isNaN_any _ _).mono ?_; rintro e w' ⟨rfl, m, rfl⟩)
    go_ret
    exact ⟨rfl, _, rfl⟩
  · have e : V = 1 := by rw [HV.out]; unfold cmpI; rw [if_neg (by omega), if_pos h]
    subst e
    have h1 : decide (x < y) = false := by simp; omega
    have h2 : decide (y < x) = true := by simp [h]
    go_enter Try.func127, Try.ntmps127
    go_wp2_with (go_at_call 144; refine (isNaN_any _ _).mono ?_; rintro e w' ⟨rfl, m, rfl⟩)
    go_ret
    exact ⟨rfl, _, rfl⟩
theorem cmpL_step {x y : List Int} {n k : Nat} (hx : x.length = n) (hy : y.length = n) (hk : k < n) : cmpL (x.drop k) (y.drop k) = if iget x k = iget y k then cmpL (x.drop (k + 1)) (y.drop (k + 1)) else cmpI (iget x k) (iget y k) := by
  unfold cmpL
  rw [ltL_step hx hy hk, ltL_step hy hx hk]
  unfold cmpI
  rcases Int.lt_trichotomy (iget x k) (iget y k) with h | h | h
  · simp [h, show ¬ iget x k = iget y k by omega]
  · rw [h]; simp
  · simp [h, show ¬ iget x k = iget y k by omega, show ¬ iget x k < iget y k by omega]
theorem cmpI_ne {x y : Int} (h : x ≠ y) : (cmpI x y != 0) = true := by
  unfold cmpI
  split
  · rfl
  · split
    · rfl
    · exact absurd (by omega : x = y) h
set_option maxHeartbeats 1600000 in
theorem compare_any (a b : Option Addr) (n ca cb : Nat) (x y : List Int) (w : World) (ha : Ints w a n x) (hb : Ints w b n y) :
    Calls Try.prog 112 #[.slice a n ca, .slice b n cb] w fun e w' => e = .returned (.int .i64 (cmpL x y)) ∧ ∃ m, w' = w.drewN m := by
  have hla := ha.2.1
  have hx := ha.1
  have hy := hb.1
  obtain ⟨V, hV⟩ : ∃ V, V = cmpL x y := ⟨_, rfl⟩
  have H0 : V = cmpL (x.drop 0) (y.drop 0) := by rw [hV]; rfl
  rw [← hV]
  clear hV
  go_enter Try.func112, Try.ntmps112
  go_wp2
  go_loopw [11] (fun i wr => ∃ k m : Nat, k ≤ n ∧ i = .int .i64 k ∧ wr = w.drewN m ∧ V = cmpL (x.drop k) (y.drop k)) (fun i _ => n - (intOf i).toNat)
  case atStart => exact ⟨0, 0, Nat.zero_le _, rfl, rfl, H0⟩
  case round =>
    clear H0
    obtain ⟨k, m, hk, rfl, rfl, hv⟩ := hrel
    by_cases hlt : k < n
    · obtain ⟨ba, oa, rfl, hca⟩ := ha.at_ hlt
      obtain ⟨bb, ob, rfl, hcb⟩ := hb.at_ hlt
      rw [cmpL_step hx hy hlt] at hv
      have HV := Lib.hid hv
      clear hv ha hb
      generalize iget x k = p at *
      generalize iget y k = q at *
      by_cases hpq : p = q
      · have HV2 := Lib.hid (show V = cmpL (x.drop (k + 1)) (y.drop (k + 1)) by rw [HV.out, if_pos hpq])
        subst hpq
        have hc : cmpI p p = 0 := by unfold cmpI; rw [if_neg (by omega), if_neg (by omega)]
        have HC := Lib.hid hc
        clear hc
        go_wp2_with (go_at_call 127; refine (cmpInt_any _ _ _).mono ?_; rw [HC.out]; rintro e w' ⟨rfl, m2, rfl⟩)
        go_roundw
        case rel => exact ⟨k + 1, _, by omega, by go_num, rfl, HV2.out⟩
        case measure => first | (simp [intOf]; done) | (simp [intOf]; omega)
      · have HV2 := Lib.hid (show V = cmpI p q by rw [HV.out, if_neg hpq])
        have hne := cmpI_ne hpq
        go_wp2_with (go_at_call 127; refine (cmpInt_any _ _ _).mono ?_; rw [← HV2.out] at hne ⊢; rintro e w' ⟨rfl, m2, rfl⟩)
        go_ret
        exact ⟨rfl, _, rfl⟩
    · obtain rfl : k = n := by omega
      have hv2 : V = 0 := by rw [hv, List.drop_of_length_le (by omega), List.drop_of_length_le (by omega)]; rfl
      subst hv2
      clear hv
      go_wp2
      go_ret
      exact ⟨rfl, _, rfl⟩
end Go.Proofs.Ytmdhljleaijkbaa

/- Maniplexes compared, the program's: slices.CompareFunc at rows, compareManiplexes; sameManiplex. guards: -/
namespace Go.Proofs.Ytmdhljleaijkbaa
open Go.RowKit

def cmpM : List (List Int) → List (List Int) → Int
  | a :: A, b :: B => if cmpL a b = 0 then cmpM A B else cmpL a b
  | _, _ => 0
theorem lget_drop {A : List (List Int)} {k : Nat} (h : k < A.length) : A.drop k = lget A k :: A.drop (k + 1) := by rw [List.drop_eq_getElem_cons h, lget_lt h]
theorem cmpM_step {A B : List (List Int)} {n k : Nat} (hA : A.length = n) (hB : B.length = n) (hk : k < n) : cmpM (A.drop k) (B.drop k) = if cmpL (lget A k) (lget B k) = 0 then cmpM (A.drop (k + 1)) (B.drop (k + 1)) else cmpL (lget A k) (lget B k) := by
  rw [lget_drop (by omega), lget_drop (A := B) (by omega), cmpM]
set_option maxRecDepth 100000 in
set_option maxHeartbeats 1600000 in
theorem compareF_any (a b : Option Addr) (n ca cb : Nat) (A B : List (List Int)) (w : World) (ha : Intss w a n A) (hb : Intss w b n B) (hl : ∀ k, k < n → (lget A k).length = (lget B k).length) :
    Calls Try.prog 111 #[.slice a n ca, .slice b n cb, .func (.func 112) #[] #[]] w fun e w' => e = .returned (.int .i64 (cmpM A B)) ∧ ∃ m, w' = w.drewN m := by
  have hla := ha.2.1
  have hx := ha.1
  have hy := hb.1
  have HA := Lib.hid ha
  have HB := Lib.hid hb
  have HL := Lib.hid hl
  clear ha hb hl
  have hcf : ∀ (args : Array Value) (w : World), (callFunc 112 args).run Try.prog w = .ok (.enter 112 args) w := fun _ _ => by rfl
  obtain ⟨V, hV⟩ : ∃ V, V = cmpM A B := ⟨_, rfl⟩
  have H0 : V = cmpM (A.drop 0) (B.drop 0) := by rw [hV]; rfl
  rw [← hV]
  clear hV
  go_enter Try.func111, Try.ntmps111
  go_wp2
  go_loopw [13] (fun i wr => ∃ k m : Nat, k ≤ n ∧ i = .int .i64 k ∧ wr = w.drewN m ∧ V = cmpM (A.drop k) (B.drop k)) (fun i _ => n - (intOf i).toNat)
  case atStart => exact ⟨0, 0, Nat.zero_le _, rfl, rfl, H0⟩
  case round =>
    clear H0
    obtain ⟨k, m, hk, rfl, rfl, hv⟩ := hrel
    by_cases hlt : k < n
    · obtain ⟨ba, oa, a1, n1, c1, rfl, hca, hia⟩ := (HA.out).at_ hlt
      obtain ⟨bb, ob, a2, n2, c2, rfl, hcb, hib⟩ := (HB.out).at_ hlt
      have hn12 : n2 = n1 := by rw [← hia.1, ← hib.1, HL.out k hlt]
      subst hn12
      rw [cmpM_step hx hy hlt] at hv
      have HV := Lib.hid hv
      have HIA := Lib.hid hia
      have HIB := Lib.hid hib
      clear hv hia hib
      by_cases hpq : cmpL (lget A k) (lget B k) = 0
      · have HV2 := Lib.hid (show V = cmpM (A.drop (k + 1)) (B.drop (k + 1)) by rw [HV.out, if_pos hpq])
        have HC := Lib.hid hpq
        clear hpq
        go_wp2_with fail
        refine (compare_any a1 a2 n2 c1 c2 (lget A k) (lget B k) (w.drewN m) HIA.out HIB.out).mono ?_
        rw [HC.out]
        rintro e w' ⟨rfl, m2, rfl⟩
        go_wp2
        go_roundw
        case rel => exact ⟨k + 1, _, by omega, by go_num, rfl, HV2.out⟩
        case measure => first | (simp [intOf]; done) | (simp [intOf]; omega)
      · have HV2 := Lib.hid (show V = cmpL (lget A k) (lget B k) by rw [HV.out, if_neg hpq])
        have hne : (V != 0) = true := by rw [HV2.out]; simpa using hpq
        clear hpq
        go_wp2_with fail
        refine (compare_any a1 a2 n2 c1 c2 (lget A k) (lget B k) (w.drewN m) HIA.out HIB.out).mono ?_
        rw [← HV2.out]
        rintro e w' ⟨rfl, m2, rfl⟩
        go_wp2
        go_ret
        exact ⟨rfl, _, rfl⟩
    · obtain rfl : k = n := by omega
      have hv2 : V = 0 := by rw [hv, List.drop_of_length_le (by omega), List.drop_of_length_le (by omega)]; rfl
      subst hv2
      clear hv
      go_wp2
      go_ret
      exact ⟨rfl, _, rfl⟩
set_option maxRecDepth 100000 in
set_option maxHeartbeats 1600000 in
theorem compareMan_any (a b : Option Addr) (n ca cb : Nat) (A B : List (List Int)) (w : World) (ha : Intss w a n A) (hb : Intss w b n B) (hl : ∀ k, k < n → (lget A k).length = (lget B k).length) :
    Calls Try.prog 79 #[.agg #[.slice a n ca], .agg #[.slice b n cb]] w fun e w' => e = .returned (.int .i64 (cmpM A B)) ∧ Below w.heap.size w w' := by
  have b0 := below_alloc2 w (.cells #[.slice a n ca] 28) (.cells #[.slice b n cb] 28)
  have km : Blk ((w.alloc (.cells #[.slice a n ca] 28)).alloc (.cells #[.slice b n cb] 28)) w.heap.size 28 #[.slice a n ca] := (blk_at rfl).alloc _
  have kk : Blk ((w.alloc (.cells #[.slice a n ca] 28)).alloc (.cells #[.slice b n cb] 28)) (w.heap.size + 1) 28 #[.slice b n cb] := blk_at (by simp)
  have HA := Lib.hid (ha.below b0)
  have HB := Lib.hid (hb.below b0)
  have HL := Lib.hid hl
  clear ha hb hl
  go_enter Try.func79, Try.ntmps79
  go_upto_region 1 with fail
  generalize (w.alloc (.cells #[.slice a n ca] 28)).alloc (.cells #[.slice b n cb] 28) = w1 at *
  have x0 := km.cell 0
  have x1 := kk.cell 0
  simp at x0 x1
  have B0 := Lib.hid b0
  clear km kk b0
  generalize cmpM A B = V at *
  go_wp2_with fail
  refine (compareF_any a b n ca cb A B w1 HA.out HB.out HL.out).mono ?_
  rintro e w' ⟨rfl, m, rfl⟩
  go_wp2
  go_ret
  exact ⟨rfl, below_drewN B0.out m⟩
end Go.Proofs.Ytmdhljleaijkbaa

/- Least forms of maniplexes, the program's: leastForm, LeastForm. guards: -/
namespace Go.Proofs.Ytmdhljleaijkbaa
open Go.RowKit

/-- the least of the forms from the flag 0 and from those below k -/
def lstTo (d : List (List Int)) : Nat → List (List Int)
  | 0 => frmL d 0
  | k + 1 => if cmpM (frmL d k) (lstTo d k) < 0 then frmL d k else lstTo d k
theorem frm_len (d : List (List Int)) (f : Nat) : (frmL d f).length = d.length := by simp [frmL]
theorem frm_row {d : List (List Int)} {f g : Nat} (h : g < d.length) : lget (frmL d f) g = frmRow d f g (flg d) := by
  rw [lget_lt (by rw [frm_len]; exact h)]; simp [frmL]
theorem frmRow_len (d : List (List Int)) (f g k : Nat) : (frmRow d f g k).length = k := by simp [frmRow]
theorem lst_is {d : List (List Int)} (h0 : 0 < flg d) : ∀ k, k ≤ flg d → ∃ f, f < flg d ∧ lstTo d k = frmL d f
  | 0, _ => ⟨0, h0, rfl⟩
  | k + 1, h => by
    rw [lstTo]
    split
    · exact ⟨k, by omega, rfl⟩
    · exact lst_is h0 k (by omega)
set_option maxRecDepth 100000 in
set_option maxHeartbeats 6400000 in
theorem leastForm_any (ao : Option Addr) (n c : Nat) (d : List (List Int)) (w : World) (hd : RdSSc w (.slice ao n c) d) (hM : Man d) :
    Calls Try.prog 44 #[.agg #[.slice ao n c]] w fun e w' => ∃ r, e = .returned r ∧ OwM 2 32 w' w.heap.size w'.heap.size r (lstTo d (flg d)) ∧ Below w.heap.size w w' := by
  have b1 := below_alloc2 w (.cells #[.slice ao n c] 28) (.cells #[.slice none 0 0] 28)
  have km : Blk ((w.alloc (.cells #[.slice ao n c] 28)).alloc (.cells #[.slice none 0 0] 28)) w.heap.size 28 #[.slice ao n c] := (blk_at rfl).alloc _
  have kr : Blk ((w.alloc (.cells #[.slice ao n c] 28)).alloc (.cells #[.slice none 0 0] 28)) (w.heap.size + 1) 28 #[.slice none 0 0] := blk_at (by simp)
  have HD1 := Lib.hid (hd.below b1)
  have HM := Lib.hid hM
  obtain ⟨N, hN⟩ : ∃ N, flg d = N := ⟨_, rfl⟩
  rw [hN]
  have HN := Lib.hid hN
  have hdl := hd.intss.1
  have hd1 := hM.n1
  have hd5 := hM.n5
  have hN2 : 2 ≤ N := by rw [← hN]; exact hM.f2
  have hN4 : N ≤ 400 := by rw [← hN]; exact hM.f4
  clear hd hM hN
  go_enter Try.func44, Try.ntmps44
  go_upto_region 1 with fail
  generalize (w.alloc (.cells #[.slice ao n c] 28)).alloc (.cells #[.slice none 0 0] 28) = w1 at *
  have x1 := km.cell 0
  simp at x1
  have KM1 := Lib.hid km
  have KR1 := Lib.hid kr
  have B1 := Lib.hid b1
  have hz1 : w.heap.size < w1.heap.size := km.lt
  have hr1 : w.heap.size + 1 < w1.heap.size := kr.lt
  clear km kr b1
  go_wp2_with fail
  refine (formFrom_any ao n c 0 d w1 HD1.out HM.out (by rw [HN.out]; omega)).mono ?_
  rintro e w2 ⟨r2, rfl, ⟨a2, n2, c2, us2, rfl, o2⟩, b2⟩
  have hn2 : n2 = n := by have := o2.len; rw [frm_len] at this; omega
  subst hn2
  have hz2 := b2.size
  have O2 := Lib.hid o2
  have B2 := Lib.hid b2
  clear x1 o2 b2
  have b3 := below_alloc1 w2 (.cells #[.slice a2 n2 c2] 28)
  have k3 : Blk (w2.alloc (.cells #[.slice a2 n2 c2] 28)) w2.heap.size 28 #[.slice a2 n2 c2] := blk_at rfl
  have hz4 : (w2.alloc (.cells #[.slice a2 n2 c2] 28)).heap.size = w2.heap.size + 1 := by simp
  have o4 := (O2.out.below (innerS _) b3).mono (Nat.le_refl _) (Nat.le_of_lt (Nat.lt_of_lt_of_eq (Nat.lt_succ_self _) hz4.symm))
  have B4 := Lib.hid (B2.out.trans (b3.mono hz2))
  have K4 := Lib.hid k3
  have O4 := Lib.hid o4
  go_upto_region 2 with fail
  generalize w2.alloc (.cells #[.slice a2 n2 c2] 28) = w4 at *
  obtain ⟨bl, hbl⟩ : ∃ b3, w2.heap.size = b3 := ⟨_, rfl⟩
  rw [hbl] at hz2 K4 hz4 ⊢
  have hl4 : bl < w4.heap.size := by omega
  clear k3 b3 hz4 o4 hbl
  have KM4 := Lib.hid (KM1.out.belowS B4.out)
  have HD4 := Lib.hid (HD1.out.below B4.out)
  go_wp2_with fail
  refine (flagsI_any _ ao n2 c N d w4 KM4.out HD4.out.rd (by omega) HN.out (by omega)).mono ?_
  rintro e w5 ⟨rfl, hw⟩
  subst hw
  have hz14 := B4.out.size
  have HLI := Lib.hid (fun (k : Nat) (hk : k ≤ N) => lst_is (d := d) (by rw [HN.out]; omega) k (by rw [HN.out]; exact hk))
  go_wp2_with fail
  go_loopw [10] (fun kv wr => ∃ (k : Nat) (a3 : Option Addr) (c3 : Nat) (us : List Value) (hi : Nat), kv = .int .i64 k ∧ k ≤ N ∧ Blk wr bl 28 #[.slice a3 n2 c3] ∧ OwR (OwS 2) wr w1.heap.size hi 32 a3 n2 c3 us (lstTo d k) ∧ hi ≤ wr.heap.size ∧ Below w1.heap.size w1 wr) (fun kv _ => N - (intOf kv).toNat)
  case atStart => exact ⟨0, a2, c2, us2, _, rfl, Nat.zero_le _, K4.out, O4.out, Nat.le_refl _, B4.out⟩
  case round =>
    clear K4 O4 B4 KM4 HD4 hl4
    obtain ⟨k, a3, c3, us, hi, rfl, hk, hbk, hor, hhi, hb⟩ := hrel
    obtain ⟨wA, rfl⟩ : ∃ x, x = wr := ⟨_, rfl⟩
    have KM := Lib.hid (KM1.out.belowS hb)
    have HDA := Lib.hid (HD1.out.below hb)
    have HB := Lib.hid hb
    have OR := Lib.hid hor
    have HBK := Lib.hid hbk
    have hzA := hb.size
    have hlA := hbk.lt
    clear hb hor hbk
    by_cases hlt : k < N
    · have xm := KM.out.cell 0
      simp at xm
      go_wp2_with fail
      refine (formFrom_any ao n2 c k d wA HDA.out HM.out (by rw [HN.out]; omega)).mono ?_
      rintro e w6 ⟨r6, rfl, ⟨a6, n6, c6, us6, rfl, o6⟩, b6⟩
      have hn6 : n6 = n2 := by have := o6.len; rw [frm_len] at this; omega
      subst hn6
      have hz6 := b6.size
      have O6 := Lib.hid o6
      have B6 := Lib.hid b6
      have b7 := below_alloc1 w6 (.cells #[.slice a6 n6 c6] 28)
      have k7 : Blk (w6.alloc (.cells #[.slice a6 n6 c6] 28)) w6.heap.size 28 #[.slice a6 n6 c6] := blk_at rfl
      have hz7 : w6.heap.size < (w6.alloc (.cells #[.slice a6 n6 c6] 28)).heap.size := by simp
      have O7 := Lib.hid ((o6.below (innerS _) b7).mono (Nat.le_refl _) (Nat.le_of_lt hz7))
      have B7 := Lib.hid (b6.trans (b7.mono hz6))
      have K7 := Lib.hid k7
      clear o6 b6 b7 k7 O6 B6 xm
      go_upto_region 6 with fail
      generalize w6.alloc (.cells #[.slice a6 n6 c6] 28) = w7 at *
      have KB7 := Lib.hid (HBK.out.belowS B7.out)
      have OR7 := Lib.hid (OR.out.below (innerS _) B7.out)
      have HB7 := Lib.hid (HB.out.trans (B7.out.mono hzA))
      have x7 := K7.out.cell 0
      have x8 := KB7.out.cell 0
      have f8 := KB7.out.frozen 0
      have f7 := K7.out.frozen 0
      simp at x7 x8
      clear HBK OR HDA KM
      obtain ⟨j, hj1, hj2⟩ := HLI.out k (by omega)
      have HJ := Lib.hid hj2
      have HLN := Lib.hid (show ∀ g, g < n6 → (lget (frmL d k) g).length = (lget (lstTo d k) g).length from fun g hg => by
        rw [hj2, frm_row (by omega), frm_row (by omega), frmRow_len, frmRow_len])
      have HNX := Lib.hid (show lstTo d (k + 1) = if cmpM (frmL d k) (lstTo d k) < 0 then frmL d k else lstTo d k from rfl)
      clear hj2
      go_wp2_with fail
      refine (compareMan_any a6 a3 n6 c6 c3 (frmL d k) (lstTo d k) w7 O7.out.intss OR7.out.intss HLN.out).mono ?_
      rintro e w8 ⟨rfl, b8⟩
      have hz8 := b8.size
      have K8 := K7.out.belowS b8
      have KB8 := KB7.out.belowS b8
      have O8 := Lib.hid ((O7.out.below (innerS _) b8).mono (Nat.le_refl _) hz8)
      have OR8 := Lib.hid ((OR7.out.below (innerS _) b8).mono (Nat.le_refl _) (Nat.le_refl _))
      have HB8 := Lib.hid (HB7.out.trans (b8.mono HB7.out.size))
      clear x7 x8 f7 f8 O7 OR7 K7 KB7 HB7 b8
      have x7 := K8.cell 0
      have x8 := KB8.cell 0
      have f8 := KB8.frozen 0
      have hl8 := KB8.lt
      simp at x7 x8
      have KB := Lib.hid KB8
      clear K8 KB8
      by_cases hc : cmpM (frmL d k) (lstTo d k) < 0
      · have hdc : decide (cmpM (frmL d k) (lstTo d k) < 0) = true := decide_eq_true hc
        have HN1 := Lib.hid (show lstTo d (k + 1) = frmL d k by rw [HNX.out, if_pos hc])
        generalize cmpM (frmL d k) (lstTo d k) = V at *
        clear HNX hc
        go_upto_region 8 with fail
        have k9 : Blk (w8.setCell ⟨bl, 0, none⟩ (.slice a6 n6 c6)) bl 28 #[.slice a6 n6 c6] := by simpa using KB.out.set_ 0 (.slice a6 n6 c6)
        have K9 := Lib.hid k9
        have hz9 : (w8.setCell ⟨bl, 0, none⟩ (.slice a6 n6 c6)).heap.size = w8.heap.size := by simp [World.setCell]
        have O9 := Lib.hid ((O8.out.same (innerS _) (w' := w8.setCell ⟨bl, 0, none⟩ (.slice a6 n6 c6)) fun g h1 h2 _ => Below.heap_setCell _ _ _ _ (by simp; omega)).mono hzA (Nat.le_of_eq hz9.symm))
        have HB9 := Lib.hid (HB8.out.setCell (p := ⟨bl, 0, none⟩) hz2 (.slice a6 n6 c6))
        generalize w8.setCell ⟨bl, 0, none⟩ (.slice a6 n6 c6) = w9 at *
        clear k9 hz9
        go_wp2
        go_roundw
        case rel => exact ⟨k + 1, a6, c6, us6, _, by go_num, by omega, K9.out, by rw [HN1.out]; exact O9.out, Nat.le_refl _, HB9.out⟩
        case measure => simp [intOf]; omega
      · have hdc : decide (cmpM (frmL d k) (lstTo d k) < 0) = false := decide_eq_false hc
        have HN1 := Lib.hid (show lstTo d (k + 1) = lstTo d k by rw [HNX.out, if_neg hc])
        generalize cmpM (frmL d k) (lstTo d k) = V at *
        clear HNX hc
        go_wp2
        go_roundw
        case rel => exact ⟨k + 1, a3, c3, us, hi, by go_num, by omega, KB.out, by rw [HN1.out]; exact OR8.out, by omega, HB8.out⟩
        case measure => simp [intOf]; omega
    · obtain rfl : k = N := by omega
      have x3 := HBK.out.cell 0
      have KRA := KR1.out.belowS HB.out
      have xr := KRA.cell 0
      have fr := KRA.frozen 0
      simp at x3 xr
      have BF := Lib.hid (B1.out.trans (HB.out.mono B1.out.size))
      clear KRA
      go_wp2
      have hzz : (wA.setCell ⟨w.heap.size + 1, 0, none⟩ (.slice a3 n2 c3)).heap.size = wA.heap.size := by simp [World.setCell]
      exact bodyPost_ret (v := .agg #[.slice a3 n2 c3]) (by simp [results, Try.f44, go_sem, xr]) rfl ⟨_, rfl, ⟨a3, n2, c3, us, rfl, by rw [hzz]; exact (OR.out.same (innerS _) fun g h1 _ _ => Below.heap_setCell _ _ _ _ (by simp; omega)).mono (by omega) hhi⟩, BF.out.setCell (by simp) _⟩
/-- what LeastForm answers -/
noncomputable def lfR (d : List (List Int)) : List (List Int) := if manB d = true then lstTo d (flg d) else []
end Go.Proofs.Ytmdhljleaijkbaa

/- LeastForm, IsSelfDual, the program's. guards: -/
namespace Go.Proofs.Ytmdhljleaijkbaa
open Go.RowKit

set_option maxRecDepth 100000 in
set_option maxHeartbeats 3200000 in
theorem api_implLf (ao : Option Addr) (n c : Nat) (d : List (List Int)) (w : World) (hd : RdSSc w (.slice ao n c) d) (fd : FewSS d) :
    Calls Try.prog 48 #[.agg #[.slice ao n c]] w fun e w' => ∃ r, e = .returned (.tuple #[r, .int .i64 (irC d)]) ∧ OwM 2 32 w' w.heap.size w'.heap.size r (lfR d) ∧ Below w.heap.size w w' := by
  have b0 := below_alloc2 w (.cells #[.slice ao n c] 28) (.cells #[.slice none 0 0] 28)
  have km : Blk ((w.alloc (.cells #[.slice ao n c] 28)).alloc (.cells #[.slice none 0 0] 28)) w.heap.size 28 #[.slice ao n c] := (blk_at rfl).alloc _
  have kr : Blk ((w.alloc (.cells #[.slice ao n c] 28)).alloc (.cells #[.slice none 0 0] 28)) (w.heap.size + 1) 28 #[.slice none 0 0] := blk_at (by simp)
  have hd1 := Lib.hid (hd.below b0)
  have hz1 := b0.size
  have HI := Lib.hid (fun (w : World) (h : RdSSc w (.slice ao n c) d) => implManC h fd)
  obtain ⟨R, hR⟩ : ∃ R, lfR d = R := ⟨_, rfl⟩
  obtain ⟨C, hC⟩ : ∃ C, irC d = C := ⟨_, rfl⟩
  rw [hR, hC]
  have HR := Lib.hid hR
  have HC := Lib.hid hC
  clear hR hC
  go_enter Try.func48, Try.ntmps48
  go_upto_region 1 with fail
  generalize (w.alloc (.cells #[.slice ao n c] 28)).alloc (.cells #[.slice none 0 0] 28) = w1 at *
  have x0 := km.cell 0
  simp at x0
  go_wp2_with fail
  refine (HI.out _ hd1.out).mono ?_
  rintro r w2 ⟨rfl, b2⟩
  have KM2 := Lib.hid (km.belowS b2)
  have KR2 := Lib.hid (kr.belowS b2)
  have HB2 := Lib.hid (b0.trans (b2.mono hz1))
  have hd2 := Lib.hid (hd1.out.below b2)
  have hr1 := kr.lt
  have hz12 := b2.size
  clear km kr b0 b2 hd1 hd x0
  cases h1 : manB d with
  | false =>
    have hC0 : C = 1 := by rw [← HC.out]; unfold irC; rw [h1]; rfl
    have hR0 : R = [] := by rw [← HR.out]; unfold lfR; rw [h1]; rfl
    subst hC0
    subst hR0
    clear HR HC
    have x2 := KR2.out.cell 0
    have f2 := KR2.out.frozen 0
    simp at x2
    go_wp2
    exact bodyPost_ret (v := .tuple #[.agg #[.slice none 0 0], .int .i64 1]) (by simp [results, Try.f48, go_sem, x2]) rfl ⟨_, rfl, own_nilMx, HB2.out.setCell (by simp) _⟩
  | true =>
    have hC0 : C = 0 := by rw [← HC.out]; unfold irC; rw [h1]; rfl
    have hR0 : R = lstTo d (flg d) := by rw [← HR.out]; unfold lfR; rw [h1]; rfl
    subst hC0
    subst hR0
    have HM := Lib.hid (manB_iff.1 h1)
    clear h1 HR HC
    have x2 := KM2.out.cell 0
    simp at x2
    go_wp2_with fail
    refine (leastForm_any ao n c d w2 hd2.out HM.out).mono ?_
    rintro e w9 ⟨r9, rfl, o9, b9⟩
    have KR9 := Lib.hid (KR2.out.belowS b9)
    have x9 := KR9.out.cell 0
    have f9 := KR9.out.frozen 0
    have BF := Lib.hid (HB2.out.trans (b9.mono HB2.out.size))
    obtain ⟨a9, n9, c9, us9, rfl, or9⟩ := o9
    have OR9 := Lib.hid or9
    simp at x9
    clear b9 or9 x2
    go_wp2
    have hzz : (w9.setCell ⟨w.heap.size + 1, 0, none⟩ (.slice a9 n9 c9)).heap.size = w9.heap.size := by simp [World.setCell]
    exact bodyPost_ret (v := .tuple #[.agg #[.slice a9 n9 c9], .int .i64 0]) (by simp [results, Try.f48, go_sem, x9]) rfl ⟨_, rfl, ⟨a9, n9, c9, us9, rfl, by rw [hzz]; exact (OR9.out.same (innerS _) fun g h1 _ _ => Below.heap_setCell _ _ _ _ (by simp; omega)).mono (by omega) (Nat.le_refl _)⟩, BF.out.setCell (by simp) _⟩
end Go.Proofs.Ytmdhljleaijkbaa

/- Duals, the program's: slices.Reverse at [][]int64, dualOf. guards: -/
namespace Go.Proofs.Ytmdhljleaijkbaa
open Go.RowKit

end Go.Proofs.Ytmdhljleaijkbaa

/- Lists that are permutations. No program in sight. -/
namespace Go.Proofs.Ytmdhljleaijkbaa

theorem nodup_iget {zs : List Int} (h : ∀ i j, i < zs.length → j < zs.length → iget zs i = iget zs j → i = j) : zs.Nodup := by
  rw [List.nodup_iff_pairwise_ne, List.pairwise_iff_getElem]
  intro i j hi hj hij e
  have := h i j hi hj (by rw [iget_lt hi, iget_lt hj]; exact e)
  omega
theorem permGo_ok {n : Nat} : ∀ (zs : List Int) (seen : List Bool), seen.length = n → (∀ z ∈ zs, 0 ≤ z ∧ z < n) → zs.Nodup → (∀ z ∈ zs, seen.getD z.toNat false = false) → permGo n seen zs = true
  | [], _, _, _, _, _ => rfl
  | z :: r, seen, hs, hz, hn, hf => by
    rw [List.nodup_cons] at hn
    have h0 := hz z (by simp)
    unfold permGo
    rw [Bool.and_eq_true, Bool.and_eq_true]
    refine ⟨⟨inB_true.2 (by omega), by rw [hf z (by simp)]; rfl⟩, permGo_ok r _ (by rw [List.length_set]; exact hs) (fun x hx => hz x (by simp [hx])) hn.2 fun x hx => ?_⟩
    have hx0 := hz x (by simp [hx])
    have hne : z ≠ x := fun e => hn.1 (e ▸ hx)
    have := hf x (by simp [hx])
    rw [List.getD_eq_getElem?_getD] at this ⊢
    rw [List.getElem?_set_ne (by omega)]
    exact this
theorem isPerm_ok {zs : List Int} (hl : zs.length ≤ 400) (hz : ∀ k, k < zs.length → 0 ≤ iget zs k ∧ iget zs k < zs.length) (hi : ∀ i j, i < zs.length → j < zs.length → iget zs i = iget zs j → i = j) : isPerm zs = true := by
  unfold isPerm
  rw [Bool.and_eq_true]
  refine ⟨decide_eq_true hl, permGo_ok zs _ (by simp) (fun z hzm => ?_) (nodup_iget hi) fun z hzm => ?_⟩
  · obtain ⟨j, hj, rfl⟩ := List.getElem_of_mem hzm
    rw [← iget_lt hj]; exact hz j hj
  · rw [List.getD_eq_getElem?_getD, List.getElem?_replicate]
    split <;> rfl
end Go.Proofs.Ytmdhljleaijkbaa

/- Forms of maniplexes and isomorphisms, plain. -/
namespace Go.Proofs.Ytmdhljleaijkbaa

theorem man_free {d : List (List Int)} (h : Man d) {g x : Nat} (hg : g < d.length) (hx : x < flg d) : bTo d x g ≠ x := by
  have hT := man_leads h
  have := (isFreeL_at (h.free g hg) (i := x) (by rw [hT.len g hg]; exact hx)).1
  rw [(bTo_lt hT hx hg).2] at this
  omega
/-- the order of a form meets each flag once -/
theorem ordN_lt {d : List (List Int)} (hM : Man d) {f : Nat} (hf : f < flg d) {i : Nat} (hi : i < flg d) : ordN d f i < flg d ∧ iget (orb d (flg d) f).2 i = (ordN d f i : Int) := by
  obtain ⟨x, h1, h2⟩ := ordF_in hM hf hi
  unfold ordN
  rw [h1]; exact ⟨by omega, by omega⟩
theorem ordN_onto {d : List (List Int)} (hM : Man d) {f : Nat} (hf : f < flg d) {y : Nat} (hy : y < flg d) : ∃ i, i < flg d ∧ ordN d f i = y := by
  have hr : rch d (flg d) f y = true := rch_trans (man_leads hM) hf (by omega) hy (rch_symm (man_leads hM) (man_back hM) (by omega) hf (man_rch hM f hf)) (man_rch hM y hy)
  obtain ⟨k, h1, h2⟩ := (orb_ok (man_leads hM) hf).cov y hy hr
  exact ⟨k, by rw [ordF_full hM hf] at h1; exact h1, by unfold ordN; rw [h2]; omega⟩
theorem ordN_inj {d : List (List Int)} (hM : Man d) {f : Nat} (hf : f < flg d) {i j : Nat} (hi : i < flg d) (hj : j < flg d) (e : ordN d f i = ordN d f j) : i = j :=
  onto_inj (fun _ h => (ordN_lt hM hf h).1) (fun _ h => ordN_onto hM hf h) hi hj e
theorem numN_ord {d : List (List Int)} (hM : Man d) {f : Nat} (hf : f < flg d) {i : Nat} (hi : i < flg d) : iget (numN d f) (ordN d f i) = (i : Int) :=
  putL_get (N := flg d) (g := fun i => ordN d f i) (v := fun i => (i : Int)) (M := flg d) (fun i h => (ordN_lt hM hf h).1) (fun i j h k e => ordN_inj hM hf h k e) (flg d) (Nat.le_refl _) i hi
end Go.Proofs.Ytmdhljleaijkbaa

/- IsOrientable, EulerCharacteristic, IsSelfDual, the program's, at maniplexes. guards: -/
namespace Go.Proofs.Ytmdhljleaijkbaa
open Go.RowKit

end Go.Proofs.Ytmdhljleaijkbaa

/- slices.DeleteFunc at [][]int64, whatever the function tells of lists. guards: -/
namespace Go.Proofs.Ytmdhljleaijkbaa
open Go.RowKit

theorem ints_same {w w' : World} {a : Option Addr} {n : Nat} {zs : List Int} (h : Ints w a n zs) (hb : ∀ b off, a = some ⟨b, off, none⟩ → 0 < n → w'.heap[b]? = w.heap[b]?) : Ints w' a n zs := by
  obtain ⟨h1, h2, h3⟩ := h
  refine ⟨h1, h2, fun hn => ?_⟩
  obtain ⟨b, off, e, hc⟩ := h3 hn
  exact ⟨b, off, e, fun j hj => by rw [World.cell?_of_block (w := w) (hb b off e hn)]; exact hc j hj⟩
/-- the places that stay -/
def keepL (pb : List Int → Bool) (zss : List (List Int)) (j : Nat) : List Nat := (List.range j).filter fun t => !pb (lget zss t)
theorem keepL_succ {pb : List Int → Bool} {zss : List (List Int)} {j : Nat} : keepL pb zss (j + 1) = if pb (lget zss j) then keepL pb zss j else keepL pb zss j ++ [j] := by
  unfold keepL
  rw [List.range_succ, List.filter_append]
  cases h : pb (lget zss j) <;> simp [h]
theorem keepL_lt {pb : List Int → Bool} {zss : List (List Int)} {j s : Nat} (h : s ∈ keepL pb zss j) : s < j := by
  unfold keepL at h
  exact List.mem_range.1 (List.mem_filter.1 h).1
theorem keepL_all {pb : List Int → Bool} {zss : List (List Int)} {k : Nat} (hk : k ≤ zss.length) (h : (zss.take k).any pb = false) : keepL pb zss k = List.range k := by
  unfold keepL
  rw [List.filter_eq_self]
  intro t ht
  have ht := List.mem_range.1 ht
  have hx : lget zss t ∈ zss.take k := by rw [lget_lt (by omega), List.mem_take_iff_getElem]; exact ⟨t, by omega, rfl⟩
  have := (List.any_eq_false.1 h) _ hx
  simpa using this
theorem keepL_filter {pb : List Int → Bool} {zss : List (List Int)} : (keepL pb zss zss.length).map (lget zss) = zss.filter fun z => !pb z := by
  unfold keepL
  have e : zss = (List.range zss.length).map (lget zss) := List.ext_getElem (by simp) fun i h1 h2 => by rw [List.getElem_map, List.getElem_range, lget_lt h1]
  conv => rhs; rw [e]
  rw [List.filter_map]; rfl
/-- the loop's state: behind j places, i of them kept -/
structure DlS (w wr : World) (g n c i j : Nat) (us : List Value) (zss : List (List Int)) (pb : List Int → Bool) : Prop where
  own : ∃ us' : List Value, Own wr 0 32 (some ⟨g, 0, none⟩) n c us' ∧ (∀ t s : Nat, (keepL pb zss j)[t]? = some s → us'[t]? = us[s]?) ∧ ∀ t : Nat, j ≤ t → us'[t]? = us[t]?
  i_ : i = (keepL pb zss j).length
  lt : i < j
  le : j ≤ n
  only : Only g (g + 1) w wr
section
variable {w wr : World} {lo hi g n c i j : Nat} {us : List Value} {zss : List (List Int)} {pb : List Int → Bool}
theorem DlS.drop (h : DlS w wr g n c i j us zss pb) (hj : j < n) (hp : pb (lget zss j) = true) {w2 : World} (o : Only g (g + 1) wr w2) (ob : w2.heap[g]? = wr.heap[g]?) : DlS w w2 g n c i (j + 1) us zss pb := by
  obtain ⟨us', h1, h2, h3⟩ := h.own
  refine ⟨⟨us', h1.same fun g' e => by injection e with e; subst e; exact ob, ?_, fun t ht => h3 t (by omega)⟩, ?_, by have := h.lt; omega, by omega, h.only.trans o⟩
  · rw [keepL_succ, if_pos hp]; exact h2
  · rw [keepL_succ, if_pos hp]; exact h.i_
theorem DlS.keep (h : DlS w wr g n c i j us zss pb) (hj : j < n) (hp : pb (lget zss j) = false) {w2 : World} (o : Only g (g + 1) wr w2) (ob : w2.heap[g]? = wr.heap[g]?) {u : Value} (hu : us[j]? = some u) : DlS w (w2.setCell ⟨g, i, none⟩ u) g n c (i + 1) (j + 1) us zss pb := by
  obtain ⟨us', h1, h2, h3⟩ := h.own
  have hi := h.i_
  have hlt := h.lt
  have h1' : Own w2 0 32 (some ⟨g, 0, none⟩) n c us' := h1.same fun g' e => by injection e with e; subst e; exact ob
  have hl := h1.len
  have e : keepL pb zss (j + 1) = keepL pb zss j ++ [j] := by rw [keepL_succ, hp]; rfl
  refine ⟨⟨us'.set i u, (h1'.stored i u).1, fun t s hts => ?_, fun t ht => by rw [List.getElem?_set_ne (by omega)]; exact h3 t (by omega)⟩, by rw [e, List.length_append, ← hi]; rfl, by omega, by omega, (h.only.trans o).trans (only_set w2 g i u)⟩
  rw [e] at hts
  rcases Nat.lt_or_ge t i with q | q
  · rw [List.getElem?_append_left (by omega)] at hts
    rw [List.getElem?_set_ne (by omega)]
    exact h2 t s hts
  · rw [List.getElem?_append_right (by omega)] at hts
    have ht : t = i := by
      rcases Nat.lt_or_ge (t - (keepL pb zss j).length) 1 with q2 | q2
      · omega
      · rw [List.getElem?_eq_none (by simpa using q2)] at hts; cases hts
    subst ht
    rw [← hi, Nat.sub_self] at hts
    injection hts with hts
    subst hts
    rw [List.getElem?_set_self (by omega), hu]
/-- the place j, read -/
theorem DlS.at_ (h : DlS w wr g n c i j us zss pb) (ho : OwR (OwS 2) w lo hi 32 (some ⟨g, 0, none⟩) n c us zss) (hj : j < n) : ∃ a n1 c1, us[j]? = some (.slice a n1 c1) ∧ wr.cell? ⟨g, j, none⟩ = some (.slice a n1 c1) ∧ ∀ w2, Only g (g + 1) w w2 → Ints w2 a n1 (lget zss j) := by
  obtain ⟨us', h1, h2, h3⟩ := h.own
  obtain ⟨u, z, hu, hz, ⟨a, n1, c1, rfl, ow⟩, hin⟩ := ho.get (j := j) hj
  have hzl : lget zss j = z := by rw [lget_lt (by have := ho.len; omega)]; rw [List.getElem?_eq_getElem (by have := ho.len; omega)] at hz; exact Option.some.inj hz
  refine ⟨a, n1, c1, hu, ?_, fun w2 o2 => ?_⟩
  · obtain ⟨g', eg, -, -, -, hcell, -⟩ := h1.form (by omega)
    injection eg with eg; injection eg with eg; subst eg
    rw [hcell j hj, h3 j (Nat.le_refl _), hu]
  · rw [hzl]
    refine ints_same ow.ints fun b off e hn => ?_
    have hob : (Value.slice a n1 c1).ownBlock = some b := by
      rw [ownBlock_slice, e]; rfl
    have hne : b ≠ g := fun e2 => ho.out j _ b hu hob (by rw [e2]; rfl)
    exact o2.block b (ow.lt b (by rw [e]; rfl)).2 (by omega)
end
/-- what DeleteFunc leaves -/
def DelAns (w : World) (g c : Nat) (L : List (List Int)) (e : Ending) (w' : World) : Prop :=
  e = .returned (.slice (some ⟨g, 0, none⟩) L.length c) ∧ RdSSc w' (.slice (some ⟨g, 0, none⟩) L.length c) L ∧ Only g (g + 1) w w'
theorem first_hit {pb : List Int → Bool} {zss : List (List Int)} (h : zss.any pb = true) : ∃ k, k < zss.length ∧ (zss.take k).any pb = false ∧ pb (lget zss k) = true := by
  cases h2 : zss.findIdx? pb with
  | none =>
    rw [List.findIdx?_eq_none_iff] at h2
    obtain ⟨x, hx, hp⟩ := List.any_eq_true.1 h
    have := h2 x hx
    simp [hp] at this
  | some k =>
    rw [List.findIdx?_eq_some_iff_getElem] at h2
    obtain ⟨h3, h4, h5⟩ := h2
    refine ⟨k, h3, ?_, by rw [lget_lt h3]; exact h4⟩
    rw [List.any_eq_false]
    intro x hx
    obtain ⟨j, hj, rfl⟩ := List.mem_take_iff_getElem.1 hx
    exact h5 j (by omega)
theorem DlS.fin {w wr : World} {lo hi g n c i : Nat} {us : List Value} {zss : List (List Int)} {pb : List Int → Bool} (h : DlS w wr g n c i n us zss pb) (ho : OwR (OwS 2) w lo hi 32 (some ⟨g, 0, none⟩) n c us zss) {vs : List Value} :
    i = (zss.filter fun z => !pb z).length ∧ RdSSc (wr.setCells g i vs) (.slice (some ⟨g, 0, none⟩) (zss.filter fun z => !pb z).length c) (zss.filter fun z => !pb z) ∧ Only g (g + 1) w (wr.setCells g i vs) := by
  obtain ⟨us', h1, h2, h3⟩ := h.own
  have hzl := ho.len
  have hi := h.i_
  have hlt := h.lt
  have hF := keepL_filter (pb := pb) (zss := zss)
  rw [hzl] at hF
  have hil : i = (zss.filter fun z => !pb z).length := by rw [← hF, List.length_map]; exact hi
  have hos : Only g (g + 1) w (wr.setCells g i vs) := by
    refine h.only.trans ?_
    have : ∀ (vs : List Value) (o : Nat) (w0 : World), Only g (g + 1) w0 (w0.setCells g o vs) := fun vs => by
      induction vs with
      | nil => exact fun o w0 => ⟨rfl, rfl, rfl, Nat.le_refl _, fun _ _ _ => rfl⟩
      | cons v r ih => exact fun o w0 => (only_set w0 g o v).trans (ih (o + 1) _)
    exact this vs i wr
  obtain ⟨g', eg, hg1, hg2, hcap, hcell, -⟩ := h1.form (by omega)
  injection eg with eg; injection eg with eg; subst eg
  obtain ⟨a0, c0, e0, hn0, hr0⟩ := ho.rdc
  injection e0 with e1 e2 e3
  refine ⟨hil, ⟨_, c, rfl, by omega, fun hpos => ⟨by omega, g, 0, rfl, ?_, fun t ht => ?_⟩⟩, hos⟩
  · exact Nat.lt_of_lt_of_le (ho.own.lt g rfl).2 hos.size
  · obtain ⟨s, hs⟩ : ∃ s, (keepL pb zss n)[t]? = some s := ⟨_, List.getElem?_eq_getElem (by omega)⟩
    have hsn : s < n := keepL_lt (List.mem_of_getElem? hs)
    have hls : lget (zss.filter fun z => !pb z) t = lget zss s := by
      rw [← hF, lget_lt (by rw [List.length_map]; omega), List.getElem_map]
      rw [List.getElem?_eq_getElem (by omega)] at hs
      injection hs with hs
      rw [hs]
    obtain ⟨-, b, off, e4, hb, h5⟩ := hr0 (by omega)
    rw [← e1] at e4
    injection e4 with e4; injection e4 with e41 e42
    subst e41 e42
    obtain ⟨a', c', q1, q2, q3⟩ := h5 s (by omega)
    obtain ⟨u, z, hu, hz, ⟨a, n1, c1, rfl, ow⟩, hin⟩ := ho.get (j := s) hsn
    have hw := ho.cell hu
    rw [Nat.zero_add, hw] at q1
    injection q1 with q1
    injection q1 with q11 q12 q13
    subst q11 q12 q13
    rw [hls]
    refine ⟨a, c1, ?_, q2, ints_same q3 fun b off e hn => ?_⟩
    · rw [Nat.zero_add, World.cell?_setCells_out g vs i wr ⟨g, t, none⟩ (fun _ _ => .inl (by show t < i; omega)), hcell t (by omega), h2 t s hs, hu]
    · have hob : (Value.slice a (lget zss s).length c1).ownBlock = some b := by
        rw [ownBlock_slice, e]; rfl
      have hne : b ≠ g := fun e2 => ho.out s _ b hu hob (by rw [e2]; rfl)
      exact hos.block b (ow.lt b (by rw [e]; rfl)).2 (by omega)
set_option maxRecDepth 100000 in
set_option maxHeartbeats 3200000 in
theorem deleteFunc_any (fn : Nat) (cap : Array Value) (pb : List Int → Bool) (lo hi g n c : Nat) (us : List Value) (zss : List (List Int)) (w : World) (ho : OwR (OwS 2) w lo hi 32 (some ⟨g, 0, none⟩) n c us zss) (hn1 : 1 ≤ n)
    (hcf : ∀ (args : Array Value) (w : World), (callFunc fn args).run Try.prog w = .ok (.enter fn args) w)
    (hf : ∀ j, j < n → ∀ w' a' n' c', Only g (g + 1) w w' → Ints w' a' n' (lget zss j) → Calls Try.prog fn (#[.slice a' n' c'] ++ cap) w' fun e w'' => e = .returned (.bool (pb (lget zss j))) ∧ Below w'.heap.size w' w'') :
    Calls Try.prog 102 #[.slice (some ⟨g, 0, none⟩) n c, .func (.func fn) #[] cap] w (DelAns w g c (zss.filter fun z => !pb z)) := by
  have hzl := ho.len
  have hnc : n ≤ c := by obtain ⟨_, _, _, _, q, _, _⟩ := ho.own.form (by omega); exact q
  have hn4 := ho.own.2
  have HX := Lib.hid (indexFuncL_any fn cap pb (some ⟨g, 0, none⟩) n c zss w ho.rdc.intss hcf (fun j hj w' a' n' c' hb hi => hf j hj w' a' n' c' (only_of_below hb) hi))
  have HF := Lib.hid hf
  have HO := Lib.hid ho
  clear hf ho
  obtain ⟨L, hL⟩ : ∃ L, (zss.filter fun z => !pb z) = L := ⟨_, rfl⟩
  rw [hL]
  have HL := Lib.hid hL
  clear hL
  cases hany : zss.any pb with
  | false =>
    have hfl := findL_none hany
    have hLz : L = zss := by
      rw [← HL.out, List.filter_eq_self]
      intro z hz
      have := (List.any_eq_false.1 hany) z hz
      simpa using this
    rw [hfl] at HX
    subst hLz
    go_enter Try.func102, Try.ntmps102
    go_wp2_with fail
    refine HX.out.mono ?_
    rintro e w1 ⟨rfl, b1⟩
    have R1 := Lib.hid (HO.out.rdc.below b1)
    have O1 := Lib.hid (only_of_below (sb := g) b1)
    go_wp2_with fail
    exact bodyPost_ret (v := .slice (some ⟨g, 0, none⟩) n c) (by simp [results, Try.f102, go_sem]) rfl ⟨by rw [hzl], by rw [hzl]; exact R1.out, O1.out⟩
  | true =>
    obtain ⟨k, hk, hpre, hpk⟩ := first_hit hany
    have hfl := findL_some hk hpre hpk
    rw [hfl] at HX
    have HK := Lib.hid (And.intro hpre hpk)
    clear hpre hpk hfl hany
    go_enter Try.func102, Try.ntmps102
    go_wp2_with fail
    refine HX.out.mono ?_
    rintro e w1 ⟨rfl, b1⟩
    have hds : DlS w w1 g n c k (k + 1) us zss pb := by
      have e : keepL pb zss (k + 1) = List.range k := by rw [keepL_succ, if_pos HK.out.2, keepL_all (by omega) HK.out.1]
      refine ⟨⟨us, (HO.out.own.below b1).mono (Nat.zero_le _), fun t s h => ?_, fun t _ => rfl⟩, by rw [e]; simp, by omega, by omega, only_of_below b1⟩
      rw [e] at h
      have := List.getElem?_eq_some_iff.1 h
      obtain ⟨q1, q2⟩ := this
      rw [List.getElem_range] at q2
      rw [q2]
    have HD := Lib.hid hds
    have hkm : ((k : Int) == -1) = false := beq_false_of_ne (by omega)
    clear hds b1 HX
    go_wp2_with fail
    go_loopw [5, 6] (fun iv jv wr => ∃ i j : Nat, iv = .int .i64 i ∧ jv = .int .i64 j ∧ DlS w wr g n c i j us zss pb) (fun _ jv _ => n - (intOf jv).toNat)
    case atStart => exact ⟨k, k + 1, rfl, by go_num, HD.out⟩
    case round =>
      clear HD
      obtain ⟨i, j, rfl, rfl, hd⟩ := hrel
      have HD := Lib.hid hd
      have hij := hd.lt
      have hjn := hd.le
      clear hd
      by_cases hlt : j < n
      · have hji : (j : Int) < (n : Int) := by omega
        have hin : (i : Int) < (n : Int) := by omega
        obtain ⟨a, n1, c1, hu, hc, hI⟩ := HD.out.at_ HO.out hlt
        have HU := Lib.hid hu
        have HI := Lib.hid (hI wr HD.out.only)
        clear hu hI
        obtain ⟨q, hq⟩ : ∃ q, pb (lget zss j) = q := ⟨_, rfl⟩
        have HQ := Lib.hid hq
        clear hq
        go_wp2_with fail
        refine (HF.out j hlt wr a n1 c1 HD.out.only HI.out).mono ?_
        rintro e w2 ⟨rfl, b2⟩
        rw [HQ.out]
        have hgl : g < wr.heap.size := Nat.lt_of_lt_of_le (HO.out.own.lt g rfl).2 HD.out.only.size
        have hob : w2.heap[g]? = wr.heap[g]? := b2.block g hgl
        have O2 := Lib.hid (only_of_below (sb := g) b2)
        have HOB := Lib.hid hob
        cases q with
        | true =>
          have HD2 := Lib.hid (HD.out.drop hlt HQ.out O2.out HOB.out)
          clear hob b2
          go_wp2_with fail
          go_roundw
          case rel => exact ⟨i, j + 1, rfl, by go_num, HD2.out⟩
          case measure => simp [intOf]; omega
        | false =>
          have HD2 := Lib.hid (HD.out.keep hlt HQ.out O2.out HOB.out HU.out)
          obtain ⟨us', o1, -, -⟩ := HD.out.own
          have o2 : Own w2 0 32 (some ⟨g, 0, none⟩) n c us' := o1.same fun g' e => by injection e with e; subst e; exact hob
          obtain ⟨g', eg, -, -, -, hcell, hfz⟩ := o2.form (by omega)
          injection eg with eg; injection eg with eg; subst eg
          have hci := hcell i (by omega)
          have hfi := hfz i
          have hul := o2.len
          rw [List.getElem?_eq_getElem (by omega)] at hci
          clear hob b2 o1 o2 hcell hfz
          go_wp2_with fail
          go_roundw
          case rel => exact ⟨i + 1, j + 1, by go_num, by go_num, HD2.out⟩
          case measure => simp [intOf]; omega
      · obtain rfl : j = n := by omega
        have hji : ¬ (j : Int) < (j : Int) := by omega
        obtain ⟨f1, f2, f3⟩ := HD.out.fin HO.out (vs := List.replicate (j - i) (.slice none 0 0))
        rw [HL.out] at f1 f2
        obtain ⟨us', o1, -, -⟩ := HD.out.own
        obtain ⟨g', eg, -, -, -, hcell, hfz⟩ := o1.form (by omega)
        injection eg with eg; injection eg with eg; subst eg
        have hul := o1.len
        have hcl : ∀ ty, (Builtin.clear_ #[26] ty #[.slice (some ⟨g, i, none⟩) (j - i) (c - i)]).run Try.prog wr = .ok (.tuple #[]) (wr.setCells g i (List.replicate (j - i) (.slice none 0 0))) :=
          fun ty => Lib.run_clear_slice wr _ _ ty _ etSS.und (fun w => by rfl) rfl rfl g i _ _ (by omega) (fun t ht => by rw [hcell (i + t) (by omega), List.getElem?_eq_getElem (by omega)]; rfl) (fun t ht => hfz _)
        have hci : ¬ c = i := by omega
        have hci2 : ¬ i = c := by omega
        have hi0 : (0 : Int) ≤ (i : Int) := by omega
        have hil : (i : Int) ≤ (j : Int) := by omega
        have hic : (i : Int) ≤ (c : Int) := by omega
        have hin : i ≤ j := by omega
        have hicn : i ≤ c := by omega
        have F2 := Lib.hid f2
        have F3 := Lib.hid f3
        clear f2 f3 hcell hfz o1
        subst f1
        go_wp2_with fail
        exact bodyPost_ret (v := .slice (some ⟨g, 0, none⟩) L.length c) (by simp [results, Try.f102, go_sem]) rfl ⟨rfl, F2.out, F3.out⟩
end Go.Proofs.Ytmdhljleaijkbaa

/- Deck moves, the program's. guards: -/
namespace Go.Proofs.Ytmdhljleaijkbaa
open Go.RowKit

set_option maxHeartbeats 3200000 in
theorem deckFn_any (a lo : Option Addr) (n1 c1 lc N b : Nat) (q p : List Int) (w : World) (hb : w.cell? ⟨b, 0, none⟩ = some (.slice lo N lc)) (hq : Ints w a n1 q) (hp : Ints w lo N p) (hv : ∀ k, k < n1 → ∃ x : Nat, iget q k = (x : Int) ∧ x < N) (hn : n1 ≤ 1000) :
    Calls Try.prog 103 #[.slice a n1 c1, .pointer (some ⟨b, 0, none⟩)] w fun e w' => e = .returned (.bool (!decide (thenL q p = p))) ∧ Below w.heap.size w w' := by
  have HQ := Lib.hid hq
  have HP := Lib.hid hp
  have HV := Lib.hid hv
  have HBX := Lib.hid hb
  obtain ⟨B, hB⟩ : ∃ B, decide (thenL q p = p) = B := ⟨_, rfl⟩
  rw [hB]
  have HB := Lib.hid hB
  have K0 := Lib.hid (show w.drew.cell? ⟨b, 0, none⟩ = some (.slice lo N lc) from hb)
  clear hq hp hv hB hb
  go_enter Try.func103, Try.ntmps103
  go_upto_region 1 with fail
  go_region_held3 (fun w' => w'.cell? ⟨b, 0, none⟩ = some (.slice lo N lc)) (first | exact K0.out | exact K5.out | exact K6.out) (first
    | (go_at_call 104; refine (then_any a n1 c1 q lo N lc p w.drew (HQ.out.below (below_drew1 w)) (HP.out.below (below_drew1 w)) (by omega) (fun k hk => by obtain ⟨x, h1, h2⟩ := HV.out k hk; omega)).mono ?_; rintro e w5 ⟨a5, c5, rfl, o5, b5⟩; have B5 : Below w.heap.size w w5 := below_tr b5 (below_drew1 w); have K5 := Lib.hid ((B5.cell (World.block_lt_of_cell? w _ HBX.out)).trans HBX.out); have O5 := Lib.hid o5.ints)
    | (go_at_call 77; refine (equal_any a5 lo n1 N c5 lc (thenL q p) p w5 O5.out (HP.out.below B5)).mono ?_; rintro e w6 ⟨rfl, nq, rfl⟩; rw [HB.out]; have B6 : Below w.heap.size w (w5.drewN nq) := below_drewN B5 nq; have K6 := Lib.hid (show (w5.drewN nq).cell? ⟨b, 0, none⟩ = some (.slice lo N lc) from K5.out)))
  all_goals
    have BF := Lib.hid B6
    go_wp2_with fail
    exact bodyPost_ret (v := .bool (!B)) (by simp [results, Try.f103, go_sem]) rfl ⟨rfl, BF.out⟩
/-- the deck moves of a covering -/
noncomputable def deckL (d : List (List Int)) (p : List Int) : List (List Int) := (autL d).filter fun q => decide (thenL q p = p)
set_option maxRecDepth 100000 in
set_option maxHeartbeats 3200000 in
theorem deck_any (ao lo : Option Addr) (n c lc N K : Nat) (d : List (List Int)) (p : List Int) (w : World) (hd : RdSSc w (.slice ao n c) d) (hM : Man d) (hN : flg d = N) (hI : Ints w lo N p) :
    Calls Try.prog 57 #[.agg #[.slice ao n c], .slice lo N lc] w fun e w' => ∃ a cc, e = .returned (.slice a (deckL d p).length cc) ∧ RdSSc w' (.slice a (deckL d p).length cc) (deckL d p) ∧ Below w.heap.size w w' := by
  have b0 := below_alloc2 w (.cells #[.slice ao n c] 28) (.cells #[.slice lo N lc] 32)
  have km : Blk ((w.alloc (.cells #[.slice ao n c] 28)).alloc (.cells #[.slice lo N lc] 32)) w.heap.size 28 #[.slice ao n c] := (blk_at rfl).alloc _
  have kl : Blk ((w.alloc (.cells #[.slice ao n c] 28)).alloc (.cells #[.slice lo N lc] 32)) (w.heap.size + 1) 32 #[.slice lo N lc] := blk_at (by simp)
  have hN4 : N ≤ 400 := by rw [← hN]; exact hM.f4
  have HD := Lib.hid (hd.below b0)
  have HI := Lib.hid (hI.below b0)
  have HM := Lib.hid hM
  have HN := Lib.hid hN
  obtain ⟨D, hD⟩ : ∃ D, deckL d p = D := ⟨_, rfl⟩
  rw [hD]
  have HDD := Lib.hid (show (autL d).filter (fun z => !(!decide (thenL z p = p))) = D by rw [← hD]; unfold deckL; simp)
  clear hd hI hM hN hD
  go_enter Try.func57, Try.ntmps57
  go_upto_region 1 with fail
  generalize (w.alloc (.cells #[.slice ao n c] 28)).alloc (.cells #[.slice lo N lc] 32) = w1 at *
  have x1 := km.cell 0
  simp at x1
  have KL := Lib.hid kl
  have B0 := Lib.hid b0
  clear km kl b0
  go_wp2_with fail
  refine (coveringsOf_any ao ao n c n c N N d d w1 HD.out.intss HD.out.intss HM.out HM.out HN.out HN.out).mono ?_
  rintro e w2 ⟨a2, n2, c2, us, rfl, or2, b2⟩
  have hcv : cvL d d N = autL d := by rw [← HN.out]; rfl
  rw [hcv] at or2
  have hn2 : 1 ≤ n2 := by rw [← or2.len]; exact aut_pos HM.out
  obtain ⟨g, rfl, hg1, hg2, -, -, -⟩ := or2.own.form (by omega)
  have hal := or2.len
  have OR := Lib.hid or2
  have B2 := Lib.hid b2
  have HI2 := Lib.hid (HI.out.below b2)
  have KL2 := Lib.hid (KL.out.belowS b2)
  clear or2 b2 hcv x1
  go_wp2_with fail
  refine (deleteFunc_any 103 #[.pointer (some ⟨w.heap.size + 1, 0, none⟩)] (fun z => !decide (thenL z p = p)) _ _ g n2 c2 us (autL d) w2 OR.out hn2 (fun _ _ => rfl) ?_).mono ?_
  · intro j hj w' a' n' c' ho hi
    have hcov := autL_get HM.out (g := j) (by omega)
    have hn' : n' = N := by rw [← hi.1, hcov.len, HN.out]
    subst hn'
    have hlt := KL.out.lt
    have kb := (KL2.out.only ho (.inl (by omega))).cell 0
    have hIp : Ints w' lo n' p := ints_same HI2.out fun b off e hpos => by
      obtain ⟨b', off', e', hc⟩ := HI.out.at_ hpos
      rw [e] at e'
      injection e' with e'; injection e' with e1 e2
      subst e1
      have := World.block_lt_of_cell? w1 _ hc
      have hbl : b < w1.heap.size := this
      exact ho.block b (Nat.lt_of_lt_of_le hbl B2.out.size) (.inl (by omega))
    exact deckFn_any a' lo n' c' lc n' (w.heap.size + 1) (lget (autL d) j) p w' (by simpa using kb) hi hIp (fun k hk => by rw [← HN.out]; exact hcov.val k (by rw [HN.out]; exact hk)) (by omega)
  · rintro e w3 ⟨rfl, r3, o3⟩
    rw [HDD.out] at r3 ⊢
    have hlt := KL.out.lt
    have R3 := Lib.hid r3
    have BF := Lib.hid ((below_tr B2.out B0.out).trans (o3.below (by omega) (by have := B2.out.size; have := B0.out.size; omega)))
    clear r3 o3
    go_wp2_with fail
    exact bodyPost_ret (v := .slice (some ⟨g, 0, none⟩) D.length c2) (by simp [results, Try.f57, go_sem]) rfl ⟨_, _, rfl, R3.out, BF.out⟩
end Go.Proofs.Ytmdhljleaijkbaa

/- Coverings, the program's: FibreOf, DeckMoves, IsNormalCovering, at coverings. guards: -/
namespace Go.Proofs.Ytmdhljleaijkbaa
open Go.RowKit

set_option maxHeartbeats 3200000 in
theorem fibre_any (ao bo lo : Option Addr) (n c m c' lc N K : Nat) (d e : List (List Int)) (p : List Int) (f : Nat) (z : Int) (hz : z = (f : Int)) (hf : f < K) (w : World) (hd : RdSSc w (.slice ao n c) d) (he : RdSSc w (.slice bo m c') e) (hM : Man d) (hE : Man e) (hl : d.length = e.length) (hN : flg d = N) (hK : flg e = K) (hp : Cov d e p) (hI : Ints w lo N p) :
    Calls Try.prog 26 #[.agg #[.slice ao n c], .agg #[.slice bo m c'], .slice lo N lc, .int .i64 z] w fun r w' => ∃ a cc, r = .returned (.tuple #[.slice a (p.count (f : Int)) cc, .int .i64 0]) ∧ Below w.heap.size w w' := by
  subst hz
  have b0 := below_alloc2 w (.cells #[.slice ao n c] 28) (.cells #[.slice bo m c'] 28)
  have km : Blk ((w.alloc (.cells #[.slice ao n c] 28)).alloc (.cells #[.slice bo m c'] 28)) w.heap.size 28 #[.slice ao n c] := (blk_at rfl).alloc _
  have kk : Blk ((w.alloc (.cells #[.slice ao n c] 28)).alloc (.cells #[.slice bo m c'] 28)) (w.heap.size + 1) 28 #[.slice bo m c'] := blk_at (by simp)
  have hN2 : 2 ≤ N := by rw [← hN]; exact hM.f2
  have hN4 : N ≤ 400 := by rw [← hN]; exact hM.f4
  have hK2 : 2 ≤ K := by rw [← hK]; exact hE.f2
  have hK4 : K ≤ 400 := by rw [← hK]; exact hE.f4
  have hd1 := hM.n1
  have he1 := hE.n1
  have hdl := hd.intss.1
  have hel := he.intss.1
  have HC := Lib.hid (fun (w' : World) (h1 : RdSSc w' (.slice ao n c) d) (h2 : RdSSc w' (.slice bo m c') e) (h3 : Ints w' lo N p) => cvCode_any ao bo lo n c m c' lc N K d e p w' h1 h2 hM hE hl hN hK hp h3)
  have HD := Lib.hid (hd.below b0)
  have HE := Lib.hid (he.below b0)
  have HI := Lib.hid (hI.below b0)
  have HM := Lib.hid hM
  have HN := Lib.hid hN
  have HK := Lib.hid hK
  have hpl := hI.1
  clear hM hE hl hN hK hp hI hd he
  obtain ⟨Q, hQ⟩ : ∃ Q, p.count (f : Int) = Q := ⟨_, rfl⟩
  rw [hQ]
  have HQ := Lib.hid (fun (w' : World) (h : Ints w' lo N p) => places_any lo lc N p (f : Int) w' h (by omega))
  rw [hQ] at HQ
  clear hQ
  go_enter Try.func26, Try.ntmps26
  go_upto_region 1 with fail
  generalize (w.alloc (.cells #[.slice ao n c] 28)).alloc (.cells #[.slice bo m c'] 28) = w1 at *
  have KM := Lib.hid km
  have KK := Lib.hid kk
  have B0 := Lib.hid b0
  have x1 := km.cell 0
  have y1 := kk.cell 0
  simp at x1 y1
  clear km kk b0
  go_wp2_with fail
  refine (HC.out w1 HD.out HE.out HI.out).mono ?_
  rintro r w2 ⟨rfl, b2⟩
  have HD2 := Lib.hid (HD.out.below b2)
  have HE2 := Lib.hid (HE.out.below b2)
  have HI2 := Lib.hid (HI.out.below b2)
  have B2 := Lib.hid (below_tr b2 B0.out)
  have KM2 := Lib.hid (KM.out.belowS b2)
  have KK2 := Lib.hid (KK.out.belowS b2)
  have x2 := KM2.out.cell 0
  have y2 := KK2.out.cell 0
  simp at x2 y2
  clear b2 HD HE HI B0 KM KK x1 y1 HC
  go_wp2_with fail
  refine (hasFlag_any _ bo m c' K f e _ rfl w2 KK2.out HE2.out.rd (by omega) HK.out (by omega) (by omega) hf).mono ?_
  rintro r w3 ⟨rfl, hw⟩
  subst hw
  go_wp2_with fail
  refine (HQ.out w2 HI2.out).mono ?_
  rintro r w4 ⟨a, cc, rfl, b4⟩
  have B4 := Lib.hid (below_tr b4 B2.out)
  clear b4
  go_wp2_with fail
  exact bodyPost_ret (v := .tuple #[.slice a Q cc, .int .i64 0]) (by simp [results, Try.f26, go_sem]) rfl ⟨a, cc, rfl, B4.out⟩
set_option maxHeartbeats 3200000 in
theorem deckMoves_any (ao bo lo : Option Addr) (n c m c' lc N K : Nat) (d e : List (List Int)) (p : List Int) (w : World) (hd : RdSSc w (.slice ao n c) d) (he : RdSSc w (.slice bo m c') e) (hM : Man d) (hE : Man e) (hl : d.length = e.length) (hN : flg d = N) (hK : flg e = K) (hp : Cov d e p) (hI : Ints w lo N p) :
    Calls Try.prog 29 #[.agg #[.slice ao n c], .agg #[.slice bo m c'], .slice lo N lc] w fun r w' => ∃ a cc, r = .returned (.tuple #[.slice a (deckL d p).length cc, .int .i64 0]) ∧ RdSSc w' (.slice a (deckL d p).length cc) (deckL d p) ∧ Below w.heap.size w w' := by
  have b0 := below_alloc2 w (.cells #[.slice ao n c] 28) (.cells #[.slice bo m c'] 28)
  have km : Blk ((w.alloc (.cells #[.slice ao n c] 28)).alloc (.cells #[.slice bo m c'] 28)) w.heap.size 28 #[.slice ao n c] := (blk_at rfl).alloc _
  have kk : Blk ((w.alloc (.cells #[.slice ao n c] 28)).alloc (.cells #[.slice bo m c'] 28)) (w.heap.size + 1) 28 #[.slice bo m c'] := blk_at (by simp)
  have hN2 : 2 ≤ N := by rw [← hN]; exact hM.f2
  have hN4 : N ≤ 400 := by rw [← hN]; exact hM.f4
  have hK2 : 2 ≤ K := by rw [← hK]; exact hE.f2
  have hK4 : K ≤ 400 := by rw [← hK]; exact hE.f4
  have hd1 := hM.n1
  have he1 := hE.n1
  have hdl := hd.intss.1
  have hel := he.intss.1
  have HC := Lib.hid (fun (w' : World) (h1 : RdSSc w' (.slice ao n c) d) (h2 : RdSSc w' (.slice bo m c') e) (h3 : Ints w' lo N p) => cvCode_any ao bo lo n c m c' lc N K d e p w' h1 h2 hM hE hl hN hK hp h3)
  have HD := Lib.hid (hd.below b0)
  have HE := Lib.hid (he.below b0)
  have HI := Lib.hid (hI.below b0)
  have HM := Lib.hid hM
  have HN := Lib.hid hN
  have HK := Lib.hid hK
  have hpl := hI.1
  clear hM hE hl hN hK hp hI hd he
  obtain ⟨Q, hQ⟩ : ∃ Q, deckL d p = Q := ⟨_, rfl⟩
  rw [hQ]
  have HQ := Lib.hid (fun (w' : World) (h1 : RdSSc w' (.slice ao n c) d) (h : Ints w' lo N p) => deck_any ao lo n c lc N K d p w' h1 HM.out HN.out h)
  rw [hQ] at HQ
  clear hQ
  go_enter Try.func29, Try.ntmps29
  go_upto_region 1 with fail
  generalize (w.alloc (.cells #[.slice ao n c] 28)).alloc (.cells #[.slice bo m c'] 28) = w1 at *
  have KM := Lib.hid km
  have KK := Lib.hid kk
  have B0 := Lib.hid b0
  have x1 := km.cell 0
  have y1 := kk.cell 0
  simp at x1 y1
  clear km kk b0
  go_wp2_with fail
  refine (HC.out w1 HD.out HE.out HI.out).mono ?_
  rintro r w2 ⟨rfl, b2⟩
  have HD2 := Lib.hid (HD.out.below b2)
  have HE2 := Lib.hid (HE.out.below b2)
  have HI2 := Lib.hid (HI.out.below b2)
  have B2 := Lib.hid (below_tr b2 B0.out)
  have KM2 := Lib.hid (KM.out.belowS b2)
  have KK2 := Lib.hid (KK.out.belowS b2)
  have x2 := KM2.out.cell 0
  have y2 := KK2.out.cell 0
  simp at x2 y2
  clear b2 HD HE HI B0 KM KK x1 y1 HC
  go_wp2_with fail
  refine (HQ.out w2 HD2.out HI2.out).mono ?_
  rintro r w4 ⟨a, cc, rfl, r4, b4⟩
  have B4 := Lib.hid (below_tr b4 B2.out)
  have R4 := Lib.hid r4
  clear b4 r4
  go_wp2_with fail
  exact bodyPost_ret (v := .tuple #[.slice a Q.length cc, .int .i64 0]) (by simp [results, Try.f29, go_sem]) rfl ⟨a, cc, rfl, R4.out, B4.out⟩
theorem deckL_len (d : List (List Int)) (p : List Int) : (deckL d p).length ≤ flg d := Nat.le_trans (List.length_filter_le _ _) (cvL_len d d (flg d))
set_option maxHeartbeats 3200000 in
theorem normal_any (ao bo lo : Option Addr) (n c m c' lc N K : Nat) (d e : List (List Int)) (p : List Int) (w : World) (hd : RdSSc w (.slice ao n c) d) (he : RdSSc w (.slice bo m c') e) (hM : Man d) (hE : Man e) (hl : d.length = e.length) (hN : flg d = N) (hK : flg e = K) (hp : Cov d e p) (hI : Ints w lo N p) :
    Calls Try.prog 30 #[.agg #[.slice ao n c], .agg #[.slice bo m c'], .slice lo N lc] w fun r w' => r = .returned (.tuple #[.bool (decide ((deckL d p).length * K = N)), .int .i64 0]) ∧ Below w.heap.size w w' := by
  have b0 := below_alloc2 w (.cells #[.slice ao n c] 28) (.cells #[.slice bo m c'] 28)
  have km : Blk ((w.alloc (.cells #[.slice ao n c] 28)).alloc (.cells #[.slice bo m c'] 28)) w.heap.size 28 #[.slice ao n c] := (blk_at rfl).alloc _
  have kk : Blk ((w.alloc (.cells #[.slice ao n c] 28)).alloc (.cells #[.slice bo m c'] 28)) (w.heap.size + 1) 28 #[.slice bo m c'] := blk_at (by simp)
  have hN2 : 2 ≤ N := by rw [← hN]; exact hM.f2
  have hN4 : N ≤ 400 := by rw [← hN]; exact hM.f4
  have hK2 : 2 ≤ K := by rw [← hK]; exact hE.f2
  have hK4 : K ≤ 400 := by rw [← hK]; exact hE.f4
  have hd1 := hM.n1
  have he1 := hE.n1
  have hdl := hd.intss.1
  have hel := he.intss.1
  have HC := Lib.hid (fun (w' : World) (h1 : RdSSc w' (.slice ao n c) d) (h2 : RdSSc w' (.slice bo m c') e) (h3 : Ints w' lo N p) => cvCode_any ao bo lo n c m c' lc N K d e p w' h1 h2 hM hE hl hN hK hp h3)
  have HD := Lib.hid (hd.below b0)
  have HE := Lib.hid (he.below b0)
  have HI := Lib.hid (hI.below b0)
  have HM := Lib.hid hM
  have HN := Lib.hid hN
  have HK := Lib.hid hK
  have hpl := hI.1
  clear hM hE hl hN hK hp hI hd he
  have hlen := deckL_len d p
  rw [HN.out] at hlen
  obtain ⟨Q, hQ⟩ : ∃ Q, deckL d p = Q := ⟨_, rfl⟩
  have HQ := Lib.hid (fun (w' : World) (h1 : RdSSc w' (.slice ao n c) d) (h : Ints w' lo N p) => deck_any ao lo n c lc N K d p w' h1 HM.out HN.out h)
  rw [hQ] at HQ hlen ⊢
  obtain ⟨L, hL⟩ : ∃ L, Q.length = L := ⟨_, rfl⟩
  rw [hL] at HQ hlen ⊢
  have hLK : L * K ≤ 160000 := Nat.mul_le_mul (show L ≤ 400 by omega) hK4
  have hLw : IntKind.i64.wrap ((L : Int) * (K : Int)) = ((L * K : Nat) : Int) := by rw [Int.natCast_mul]; exact IntWalk.i64_in _ (by rw [← Int.natCast_mul]; omega)
  obtain ⟨M, hM⟩ : ∃ M, L * K = M := ⟨_, rfl⟩
  rw [hM] at hLw hLK ⊢
  have heq : ((M : Int) == (N : Int)) = decide (M = N) := by
    by_cases h : M = N
    · subst h; simp
    · simp [h]; omega
  obtain ⟨B, hB⟩ : ∃ B, decide (M = N) = B := ⟨_, rfl⟩
  rw [hB] at heq ⊢
  clear hQ hL hM hB
  go_enter Try.func30, Try.ntmps30
  go_upto_region 1 with fail
  generalize (w.alloc (.cells #[.slice ao n c] 28)).alloc (.cells #[.slice bo m c'] 28) = w1 at *
  have KM := Lib.hid km
  have KK := Lib.hid kk
  have B0 := Lib.hid b0
  have x1 := km.cell 0
  have y1 := kk.cell 0
  simp at x1 y1
  clear km kk b0
  go_wp2_with fail
  refine (HC.out w1 HD.out HE.out HI.out).mono ?_
  rintro r w2 ⟨rfl, b2⟩
  have HD2 := Lib.hid (HD.out.below b2)
  have HE2 := Lib.hid (HE.out.below b2)
  have HI2 := Lib.hid (HI.out.below b2)
  have B2 := Lib.hid (below_tr b2 B0.out)
  have KM2 := Lib.hid (KM.out.belowS b2)
  have KK2 := Lib.hid (KK.out.belowS b2)
  have x2 := KM2.out.cell 0
  have y2 := KK2.out.cell 0
  simp at x2 y2
  clear b2 HD HE HI B0 KM KK x1 y1 HC
  go_wp2_with fail
  refine (HQ.out w2 HD2.out HI2.out).mono ?_
  rintro r w4 ⟨a, cc, rfl, r4, b4⟩
  have B4 := Lib.hid (below_tr b4 B2.out)
  have KM4 := Lib.hid (KM2.out.belowS b4)
  have KK4 := Lib.hid (KK2.out.belowS b4)
  have HD4 := Lib.hid (HD2.out.below b4)
  have HE4 := Lib.hid (HE2.out.below b4)
  clear b4 r4
  go_wp2_with fail
  refine (sizeRM_any _ _ _ _).mono ?_
  rintro e w' ⟨rfl, hw⟩
  subst hw
  go_wp2_with fail
  refine (flagsI_any _ bo m c' K e _ KK4.out HE4.out.rd (by omega) HK.out (by omega)).mono ?_
  rintro e w' ⟨rfl, hw⟩
  subst hw
  go_wp2_with fail
  refine (flagsI_any _ ao n c N d _ KM4.out HD4.out.rd (by omega) HN.out (by omega)).mono ?_
  rintro e w' ⟨rfl, hw⟩
  subst hw
  go_wp2_with fail
  exact bodyPost_ret (v := .tuple #[.bool B, .int .i64 0]) (by simp [results, Try.f30, go_sem]) rfl ⟨rfl, B4.out⟩
end Go.Proofs.Ytmdhljleaijkbaa

/- Quotients, the program's: quotient. guards: -/
namespace Go.Proofs.Ytmdhljleaijkbaa
open Go.RowKit

/-- a row of the quotient as it grows: labels L, row r, K labels, f places done -/
def quoRow (L r : List Int) (K : Nat) : Nat → List Int
  | 0 => List.replicate K 0
  | f + 1 => (quoRow L r K f).set (iget L f).toNat (iget L (iget r f).toNat)
theorem quoRow_len {L r : List Int} {K f : Nat} : (quoRow L r K f).length = K := by
  induction f with
  | zero => simp [quoRow]
  | succ f ih => simp [quoRow, ih]
/-- the quotient -/
def quoL (d : List (List Int)) (L : List Int) (K N : Nat) : List (List Int) := d.map fun r => quoRow L r K N
theorem quoL_take {d : List (List Int)} {L : List Int} {K N q : Nat} (h : q < d.length) : (quoL d L K N).take (q + 1) = (quoL d L K N).take q ++ [quoRow L (lget d q) K N] := by
  rw [List.take_succ_eq_append_getElem (by simp [quoL]; exact h)]
  simp [quoL, lget_lt h]
set_option maxRecDepth 100000 in
set_option maxHeartbeats 3200000 in
theorem quotientI_any (mb : Nat) (ao : Option Addr) (n c N : Nat) (d T : List (List Int)) (v : Value) (w : World) (hm : Blk w mb 28 #[.slice ao n c]) (hd : RdSSc w (.slice ao n c) d) (hT : Leads d N) (hn : 1 ≤ n) (hn9 : n ≤ 100) (hN : 1 ≤ N) (hN9 : N ≤ 1000) (ht : RdSSc w v T) (hA : Leads T N) (hS : SymR T N) (hT9 : T.length ≤ 1000) :
    Calls Try.prog 62 #[.pointer (some ⟨mb, 0, none⟩), v] w fun e w' => ∃ a c', e = .returned (.agg #[.slice a n c']) ∧ OwM 2 32 w' w.heap.size w'.heap.size (.agg #[.slice a n c']) (quoL d (labs T N).1 (labs T N).2 N) ∧ Below w.heap.size w w' := by
  have hdl := hd.intss.1
  obtain ⟨l1, l2, l3⟩ := labs_allS hA hS
  have hK1 : 1 ≤ (labs T N).2 := by obtain ⟨x, -, h⟩ := l3 0 (by omega); omega
  have hO := Lib.hid (fun (w' : World) (h : RdSSc w' v T) => orbW_anyS w' h hA hS (by omega) (by omega) hT9)
  obtain ⟨R, hR⟩ : ∃ R, labs T N = R := ⟨_, rfl⟩
  obtain ⟨L, K⟩ := R
  rw [hR] at hO l1 l2 l3 hK1 ⊢
  dsimp only at hO l1 l2 l3 hK1 ⊢
  have HL := Lib.hid l3
  have hl0 : (lget d 0).length = N := hT.len 0 (by omega)
  have HT := Lib.hid hT
  have hb0 := below_alloc1 w (.cells #[.slice none 0 0] 28)
  have KM := Lib.hid (hm.belowS hb0)
  have HD := Lib.hid (hd.below hb0)
  have HV := Lib.hid (ht.below hb0)
  have k3 : Blk (w.alloc (.cells #[.slice none 0 0] 28)) w.heap.size 28 #[.slice none 0 0] := blk_at rfl
  have hmb : mb < w.heap.size := hm.lt
  clear hm hd hT ht hA hS hR l3
  go_enter Try.func62, Try.ntmps62
  go_upto_region 1 with fail
  generalize w.alloc (.cells #[.slice none 0 0] 28) = w1 at *
  have K3 := Lib.hid k3
  have B0 := Lib.hid hb0
  clear k3 hb0
  go_wp2_with fail
  refine (flagsI_any mb ao n c N d w1 KM.out HD.out.rd (by omega) hl0 (by omega)).mono ?_
  rintro e w' ⟨rfl, hw⟩
  subst hw
  go_wp2_with fail
  refine (hO.out w1 HV.out).mono ?_
  rintro e w2 ⟨v2, rfl, o2, b2⟩
  obtain ⟨⟨la, ln, lc, rfl, ol⟩, -⟩ := o2
  have hln : ln = N := by have := ol.len; simp at this; omega
  subst hln
  have HI := Lib.hid ol.ints
  have HD2 := Lib.hid (HD.out.below b2)
  have KM2 := Lib.hid (KM.out.belowS b2)
  have B2 := Lib.hid (below_tr b2 B0.out)
  have K32 := Lib.hid (K3.out.belowS b2)
  have hz2 := B2.out.size
  have hz3 : w.heap.size < w2.heap.size := Nat.lt_of_lt_of_le K3.out.lt b2.size
  clear ol b2 hO HD KM B0 K3
  have b7 := (Below.refl w2.heap.size w2).alloc (Nat.le_refl _) (.cells #[.slice none 0 0] 28)
  have ST := Lib.hid (MBx.start (w := w2) b7 (Blk.new w2 28 #[.slice none 0 0]) (Nat.le_refl _))
  have y7 := (KM2.out.belowS b7).cell 0
  simp at y7
  clear b7
  go_upto_region 3 with fail
  generalize w2.alloc (.cells #[.slice none 0 0] 28) = w7 at *
  obtain ⟨bx, hbx⟩ : ∃ bx, w2.heap.size = bx := ⟨_, rfl⟩
  have HBX := Lib.hid hbx
  rw [hbx] at ST ⊢
  clear hbx
  go_wp2_with fail
  go_loopw [25] (fun kv wr => ∃ (q : Nat) (am : Option Addr) (cm : Nat) (us : List Value), kv = .int .i64 q ∧ q ≤ n ∧ MBx w2 wr bx (bx + 1) am q cm us ((quoL d L K ln).take q)) (fun kv _ => n - (intOf kv).toNat)
  case atStart => exact ⟨0, none, 0, [], rfl, Nat.zero_le _, by simpa using ST.out⟩
  case round =>
    clear ST y7
    obtain ⟨q, am, cm, um, rfl, hq, st⟩ := hrel
    obtain ⟨wA, rfl⟩ : ∃ x, x = wr := ⟨_, rfl⟩
    have ST := Lib.hid st
    have hbw := Lib.hid st.bel
    have hzr := hbw.out.size
    by_cases hltq : q < n
    · have hqi : (q : Int) < (n : Int) := by omega
      obtain ⟨b3, off3, a3, n3, c3, rfl, hc3, hi3⟩ := (HD2.out.intss.below hbw.out).at_ hltq
      have hn3 : n3 = ln := by rw [← hi3.1]; exact HT.out.len q (by omega)
      subst hn3
      have HI3 := Lib.hid hi3
      have HTK := Lib.hid (quoL_take (d := d) (L := L) (K := K) (N := n3) (q := q) (by omega))
      have hKi : (0 : Int) ≤ (K : Int) := by omega
      clear st hi3
      go_wp2_with (at_make; refine wpList_mk etI _ rfl _ _ rfl wA.heap.size _ _ _ _ K rfl rfl rfl rfl (by omega) (Nat.le_refl _) ?_; intro w8 hown hgrow hsz)
      have b8 : Below wA.heap.size wA w8 := (Below.refl _ _).grown hgrow (Nat.le_refl _) (by simp)
      have O8 := Lib.hid (show Own w8 wA.heap.size 2 (some ⟨wA.heap.size, 0, none⟩) K K ((quoRow L (lget d q) K 0).map (Value.int .i64)) by simpa [quoRow] using hown)
      have HB8 := Lib.hid b8
      clear hown hgrow b8
      go_loopw [33] (fun iv wx => ∃ f : Nat, f ≤ n3 ∧ iv = .int .i64 f ∧ Own wx wA.heap.size 2 (some ⟨wA.heap.size, 0, none⟩) K K ((quoRow L (lget d q) K f).map (Value.int .i64)) ∧ Below wA.heap.size wA wx) (fun iv _ => n3 - (intOf iv).toNat)
      case atStart => exact ⟨0, Nat.zero_le _, rfl, O8.out, HB8.out⟩
      case round =>
        clear O8 HB8 hsz
        obtain ⟨f, hf, rfl, ho, hb8⟩ := hrel
        have HB8 := Lib.hid hb8
        have HO8 := Lib.hid ho
        have HBB := Lib.hid (hbw.out.trans (hb8.mono hzr))
        clear ho hb8
        by_cases hltf : f < n3
        · have hfi : (f : Int) < (n3 : Int) := by omega
          obtain ⟨b4, off4, rfl, hc4⟩ := (HI3.out.below HB8.out).at_ hltf
          have hy := bTo_lt HT.out hltf (g := q) (by omega)
          obtain ⟨y, hye⟩ : ∃ y, bTo d f q = y := ⟨_, rfl⟩
          have hrf : iget (lget d q) f = (y : Int) := by rw [hy.2, hye]
          rw [hrf] at hc4
          rw [hye] at hy
          have hyN := hy.1
          obtain ⟨j, hj1, hj2⟩ := HL.out f hltf
          obtain ⟨j2, hk1, hk2⟩ := HL.out y hyN
          obtain ⟨b5, off5, rfl, hc5⟩ := (HI.out.below HBB.out).at_ hltf
          obtain ⟨b6, off6, e6, hc6⟩ := (HI.out.below HBB.out).at_ hyN
          injection e6 with e6
          injection e6 with e61 e62
          subst e61 e62
          rw [hj1] at hc5
          rw [hk1] at hc6
          have hyi : (y : Int) < (n3 : Int) := by omega
          have hji : (j : Int) < (K : Int) := by omega
          obtain ⟨g', eg, -, -, -, hcell, hfz⟩ := HO8.out.form (by omega)
          injection eg with eg; injection eg with eg; subst eg
          have hcj := hcell j hj2
          have hfj := hfz j
          rw [List.getElem?_map, List.getElem?_eq_getElem (by rw [quoRow_len]; exact hj2)] at hcj
          have hq2 : quoRow L (lget d q) K (f + 1) = (quoRow L (lget d q) K f).set j (j2 : Int) := by
            show (quoRow L (lget d q) K f).set (iget L f).toNat (iget L (iget (lget d q) f).toNat) = _
            rw [hj1, hrf, Int.toNat_natCast, Int.toNat_natCast, hk1]
          obtain ⟨st1, st2⟩ := HO8.out.stored j (.int .i64 (j2 : Int))
          have ST1 := Lib.hid (show Own (wr.setCell ⟨wA.heap.size, j, none⟩ (.int .i64 (j2 : Int))) wA.heap.size 2 (some ⟨wA.heap.size, 0, none⟩) K K ((quoRow L (lget d q) K (f + 1)).map (Value.int .i64)) by rw [hq2, List.map_set]; exact st1)
          have BS := Lib.hid (HB8.out.grown st2 HB8.out.size (fun g e => by injection e with e; omega))
          generalize (quoRow L (lget d q) K f)[j]'(by rw [quoRow_len]; exact hj2) = z0 at hcj
          clear st1 st2 hq2 hcell hfz hy hye hrf
          have hcj' : wr.cell? ⟨wA.heap.size, j, none⟩ = some (.int .i64 z0) := hcj
          go_upto_region 10 with fail
          go_region_law (fail)
          all_goals
            go_wp2_with fail
            go_roundw
          all_goals first | (simp [intOf]; omega) | exact ⟨f + 1, by omega, by go_num, ST1.out, BS.out.drew⟩
        · obtain rfl : f = n3 := by omega
          have hfi : ¬ (f : Int) < (f : Int) := by omega
          have STB := Lib.hid (ST.out.below HB8.out)
          have xb := STB.out.cell
          have hlo8 := STB.out.at_.2.2
          go_wp2_with (at_builtin; refine wpList_ap1 etSS _ rfl _ _ rfl (bx + 1) am q cm _ rfl STB.out.row.own (.slice (some ⟨wA.heap.size, 0, none⟩) K K) rfl rfl (by omega) hlo8 ?_; intro ao2 c2' w4 ho2 hg2 hat; have x4 := (STB.out.boxG hg2).cell 0; have f4 := (STB.out.boxG hg2).frozen 0)
          have SP := Lib.hid (ST.out.push (by omega) HB8.out HO8.out (Below.refl _ _) ho2 hg2 (hat.imp id fun e => ⟨_, e, Nat.le_succ _⟩))
          clear ho2 hg2 hat STB ST
          go_roundw
          case rel => exact ⟨q + 1, ao2, c2', _, by go_num, by omega, by rw [HTK.out]; exact SP.out⟩
          case measure => simp [intOf]; omega
    · obtain rfl : q = n := by omega
      have hqi : ¬ (q : Int) < (q : Int) := by omega
      have xb := st.cell
      have KRr := K32.out.belowS hbw.out
      have xr := KRr.cell 0
      have fr := KRr.frozen 0
      have BF := Lib.hid (B2.out.trans (hbw.out.mono hz2))
      simp at xr
      have hqt : (quoL d L K ln).take q = quoL d L K ln := List.take_of_length_le (by simp [quoL]; omega)
      rw [hqt] at ST
      clear st
      have hfl : w.heap.size < bx := by rw [← HBX.out]; exact hz3
      have DN := Lib.hid (ST.out.done (p := ⟨w.heap.size, 0, none⟩) hfl (.slice am q cm) hz2)
      go_wp2
      exact bodyPost_ret (v := .agg #[.slice am q cm]) (by simp [results, Try.f62, go_sem, xr]) rfl (by first | exact ⟨am, cm, rfl, DN.out, BF.out.setCell (Nat.le_refl _) _⟩ | exact ⟨_, _, rfl, DN.out, BF.out.setCell (by simp) _⟩)
end Go.Proofs.Ytmdhljleaijkbaa

/- Quotients, the program's: isAutomorphism, QuotientBy. guards: -/
namespace Go.Proofs.Ytmdhljleaijkbaa
open Go.RowKit

set_option maxHeartbeats 3200000 in
theorem isAut_any (mb : Nat) (ao a : Option Addr) (n c N c1 : Nat) (d : List (List Int)) (q : List Int) (w : World) (hm : Blk w mb 28 #[.slice ao n c]) (hd : RdSSc w (.slice ao n c) d) (hM : Man d) (hN : flg d = N) (hq : Cov d d q) (hI : Ints w a N q) :
    Calls Try.prog 61 #[.pointer (some ⟨mb, 0, none⟩), .slice a N c1] w fun e w' => e = .returned (.bool true) ∧ Below w.heap.size w w' := by
  have x0 := hm.cell 0
  simp at x0
  have HC := Lib.hid (isCov_any ao ao a n c n c c1 N N d d q w.drew (hd.below (below_drew1 w)) (hd.below (below_drew1 w)) hM hM rfl hN hN hq (hI.below (below_drew1 w)))
  clear hm hd hM hN hq hI
  go_enter Try.func61, Try.ntmps61
  go_upto_region 1 with fail
  go_region_law (first
    | (go_simp; go_at_call 101; refine HC.out.mono ?_; rintro e w5 ⟨rfl, b5⟩; have B5 := Lib.hid (below_tr b5 (below_drew1 w))))
  all_goals
    go_wp2_with fail
    exact bodyPost_ret (v := .bool true) (by simp [results, Try.f61, go_sem]) rfl ⟨rfl, B5.out⟩
set_option maxHeartbeats 3200000 in
theorem qbFn_any (mb : Nat) (ao a : Option Addr) (n c N c1 : Nat) (d : List (List Int)) (q : List Int) (w : World) (hm : Blk w mb 28 #[.slice ao n c]) (hd : RdSSc w (.slice ao n c) d) (hM : Man d) (hN : flg d = N) (hq : Cov d d q) (hI : Ints w a N q) :
    Calls Try.prog 60 #[.slice a N c1, .pointer (some ⟨mb, 0, none⟩)] w fun e w' => e = .returned (.bool false) ∧ Below w.heap.size w w' := by
  have HA := Lib.hid (isAut_any mb ao a n c N c1 d q w hm hd hM hN hq hI)
  clear hm hd hM hN hq hI
  go_enter Try.func60, Try.ntmps60
  go_wp2_with fail
  refine HA.out.mono ?_
  rintro e w5 ⟨rfl, b5⟩
  have B5 := Lib.hid b5
  clear b5
  go_wp2_with fail
  exact bodyPost_ret (v := .bool false) (by simp [results, Try.f60, go_sem]) rfl ⟨rfl, B5.out⟩
set_option maxRecDepth 100000 in
set_option maxHeartbeats 3200000 in
theorem quotientBy_any (ao bo : Option Addr) (n c m cb N : Nat) (d T : List (List Int)) (w : World) (hd : RdSSc w (.slice ao n c) d) (hM : Man d) (hN : flg d = N) (ht : RdSSc w (.slice bo m cb) T) (h16 : m ≤ 16) (hT : ∀ j, j < T.length → Cov d d (lget T j)) (hA : Leads T N) (hS : SymR T N) (hQ : Man (quoL d (labs T N).1 (labs T N).2 N)) :
    Calls Try.prog 31 #[.agg #[.slice ao n c], .slice bo m cb] w fun r w' => ∃ a c', r = .returned (.tuple #[.agg #[.slice a n c'], .int .i64 0]) ∧ RdSSc w' (.slice a n c') (quoL d (labs T N).1 (labs T N).2 N) ∧ Below w.heap.size w w' := by
  have b0 := below_alloc2 w (.cells #[.slice ao n c] 28) (.cells #[.slice none 0 0] 28)
  have km : Blk ((w.alloc (.cells #[.slice ao n c] 28)).alloc (.cells #[.slice none 0 0] 28)) w.heap.size 28 #[.slice ao n c] := (blk_at rfl).alloc _
  have kr : Blk ((w.alloc (.cells #[.slice ao n c] 28)).alloc (.cells #[.slice none 0 0] 28)) (w.heap.size + 1) 28 #[.slice none 0 0] := blk_at (by simp)
  have hdl := hd.intss.1
  have htl := ht.intss.1
  have hn1 := hM.n1
  have hn5 := hM.n5
  have hN2 : 2 ≤ N := by rw [← hN]; exact hM.f2
  have hN4 : N ≤ 400 := by rw [← hN]; exact hM.f4
  have hTL : Leads d N := by rw [← hN]; exact man_leads hM
  have HMB := Lib.hid (manB_iff.2 hM)
  have FM := Lib.hid (man_few hM)
  have HQB := Lib.hid (manB_iff.2 hQ)
  have FQ := Lib.hid (man_few hQ)
  have HD := Lib.hid (hd.below b0)
  have HTT := Lib.hid (ht.below b0)
  have HF := Lib.hid (fun (mb : Nat) (a : Option Addr) (c1 : Nat) (q : List Int) (w' : World) (h1 : Blk w' mb 28 #[.slice ao n c]) (h2 : RdSSc w' (.slice ao n c) d) (hq : Cov d d q) (h3 : Ints w' a N q) => qbFn_any mb ao a n c N c1 d q w' h1 h2 hM hN hq h3)
  have HG := Lib.hid (fun (mb : Nat) (w' : World) (h1 : Blk w' mb 28 #[.slice ao n c]) (h2 : RdSSc w' (.slice ao n c) d) (h3 : RdSSc w' (.slice bo m cb) T) => quotientI_any mb ao n c N d T (.slice bo m cb) w' h1 h2 hTL (by omega) (by omega) (by omega) (by omega) h3 hA hS (by omega))
  have HT := Lib.hid hT
  have HN := Lib.hid hN
  obtain ⟨Q, hQe⟩ : ∃ Q, quoL d (labs T N).1 (labs T N).2 N = Q := ⟨_, rfl⟩
  rw [hQe] at HG HQB FQ ⊢
  clear hd hM hN ht hT hA hS hQ hQe hTL
  go_enter Try.func31, Try.ntmps31
  go_upto_block 0 with (fail)
  generalize (w.alloc (.cells #[.slice ao n c] 28)).alloc (.cells #[.slice none 0 0] 28) = w1 at *
  have KM := Lib.hid km
  have KR := Lib.hid kr
  have B0 := Lib.hid b0
  have x1 := km.cell 0
  simp at x1
  have hz1 : w.heap.size + 1 < w1.heap.size := kr.lt
  clear km kr b0
  have hm16 : ¬ (16 : Int) < (m : Int) := by omega
  go_wp2_with fail
  refine (implManC HD.out FM.out).mono ?_
  rintro r w2 ⟨rfl, b2⟩
  rw [HMB.out]
  have HD2 := Lib.hid (HD.out.below b2)
  have HT2 := Lib.hid (HTT.out.below b2)
  have B2 := Lib.hid (below_tr b2 B0.out)
  have KM2 := Lib.hid (KM.out.belowS b2)
  have KR2 := Lib.hid (KR.out.belowS b2)
  clear b2 HD HTT B0 KM KR x1
  go_wp2_with fail
  refine (containsFuncL_any 60 #[.pointer (some ⟨w.heap.size, 0, none⟩)] (fun _ => false) bo m cb T w2 HT2.out.intss (fun _ _ => rfl) ?_).mono ?_
  · intro j hj w' a' n' c' hb hi
    have hcov := HT.out j (by omega)
    have hn' : n' = N := by rw [← hi.1, hcov.len, HN.out]
    subst hn'
    exact HF.out w.heap.size a' c' (lget T j) w' (KM2.out.belowS hb) (HD2.out.below hb) hcov hi
  · rintro r w3 ⟨rfl, b3⟩
    have hany : T.any (fun _ => false) = false := by rw [List.any_eq_false]; simp
    rw [hany]
    have HD3 := Lib.hid (HD2.out.below b3)
    have HT3 := Lib.hid (HT2.out.below b3)
    have B3 := Lib.hid (below_tr b3 B2.out)
    have KM3 := Lib.hid (KM2.out.belowS b3)
    have KR3 := Lib.hid (KR2.out.belowS b3)
    clear b3 HD2 HT2 B2 KM2 KR2 hany
    go_wp2_with fail
    refine (HG.out w.heap.size w3 KM3.out HD3.out HT3.out).mono ?_
    rintro r w4 ⟨a4, c4, rfl, o4, b4⟩
    have kA := below_alloc1 w4 (.cells #[.slice a4 n c4] 28)
    have O5 := Lib.hid (o4.rdlo.below kA)
    have B5 := Lib.hid (below_tr kA (below_tr b4 B3.out))
    have k5 : Blk (w4.alloc (.cells #[.slice a4 n c4] 28)) w4.heap.size 28 #[.slice a4 n c4] := blk_at rfl
    have K5 := Lib.hid k5
    have KR5 := Lib.hid (KR3.out.belowS (below_tr kA b4))
    have hz3 : w.heap.size + 1 < w3.heap.size := KR3.out.lt
    clear o4 b4 kA k5 HG
    go_upto_region 6 with fail
    generalize w4.alloc (.cells #[.slice a4 n c4] 28) = w5 at *
    have x5 := K5.out.cell 0
    simp at x5
    go_wp2_with fail
    refine (implManC O5.out.rd FQ.out).mono ?_
    rintro r w6 ⟨rfl, b6⟩
    rw [HQB.out]
    have x6 := (K5.out.belowS b6).cell 0
    have k6 := KR5.out.belowS b6
    have y6 := k6.cell 0
    have f6 := k6.frozen 0
    simp at x6 y6
    have R6 := Lib.hid (((O5.out.below b6).setBox (b := w.heap.size + 1) (.inl (by omega)) (.slice a4 n c4)).rd)
    have BF := Lib.hid ((below_tr b6 B5.out).setCell (p := ⟨w.heap.size + 1, 0, none⟩) (by simp) (.slice a4 n c4))
    clear b6 k6
    go_wp2_with fail
    exact bodyPost_ret (v := .tuple #[.agg #[.slice a4 n c4], .int .i64 0]) (by simp [results, Try.f31, go_sem, y6]) rfl ⟨a4, c4, rfl, R6.out, BF.out⟩
end Go.Proofs.Ytmdhljleaijkbaa

/- Isomorphic maniplexes have the same forms and the same least form, plain. -/
namespace Go.Proofs.Ytmdhljleaijkbaa

structure IsoP (d e : List (List Int)) (p : Nat → Nat) : Prop where
  len : d.length = e.length
  flg : flg d = flg e
  lt : ∀ x, x < Go.Proofs.Ytmdhljleaijkbaa.flg d → p x < Go.Proofs.Ytmdhljleaijkbaa.flg d
  mov : ∀ g x, g < d.length → x < Go.Proofs.Ytmdhljleaijkbaa.flg d → p (bTo d x g) = bTo e (p x) g
section
variable {d e : List (List Int)} {p : Nat → Nat}
theorem iso_onto (h : IsoP d e p) (hd : Man d) (he : Man e) {y : Nat} (hy : y < flg d) : ∃ x, x < flg d ∧ p x = y := by
  obtain ⟨c1, c2⟩ := cov_mk p (fun i hi => by rw [← h.flg]; exact h.lt i hi) hd he h.len h.mov
  obtain ⟨i, h1, h2⟩ := c1.onto hd he h.len y (by rw [← h.flg]; exact hy)
  exact ⟨i, h1, by rw [← c2 i h1]; exact h2⟩
theorem iso_inj (h : IsoP d e p) (hd : Man d) (he : Man e) {x y : Nat} (hx : x < flg d) (hy : y < flg d) (q : p x = p y) : x = y :=
  onto_inj h.lt (fun _ hy => iso_onto h hd he hy) hx hy q
/-- two states of a search that are alike -/
def MPs (d : List (List Int)) (p : Nat → Nat) (s s' : MSt) : Prop := s'.2 = s.2.map (fun z => (p z.toNat : Int)) ∧ ∀ x, x < flg d → bat s'.1 (p x) = bat s.1 x
theorem mps_step (h : IsoP d e p) (hd : Man d) (he : Man e) {s s' : MSt} (hs : MOK (flg d) s) (hs' : MOK (flg d) s') (m : MPs d p s s') {mask c g : Nat} (hc : c < flg d) (hg : g < d.length) : MPs d p (mStep d mask c s g) (mStep e mask (p c) s' g) := by
  have ht := (bTo_lt (man_leads hd) hc hg).1
  have hm := h.mov g c hg hc
  unfold mStep
  rw [← hm, m.2 _ ht]
  split
  · refine ⟨by simp [m.1], fun x hx => ?_⟩
    rw [bat_set, bat_set, hs.l, hs'.l]
    have := h.lt _ ht
    by_cases q : bTo d c g = x
    · subst q
      rw [if_pos ⟨rfl, this⟩, if_pos ⟨rfl, ht⟩]
    · rw [if_neg (fun k => q (iso_inj h hd he ht hx k.1)), if_neg (fun k => q k.1)]
      exact m.2 x hx
  · exact m
theorem mps_row (h : IsoP d e p) (hd : Man d) (he : Man e) {mask c : Nat} (hc : c < flg d) {s s' : MSt} (hs : MOK (flg d) s) (hs' : MOK (flg d) s') (m : MPs d p s s') : ∀ k, k ≤ d.length → MPs d p ((List.range k).foldl (mStep d mask c) s) ((List.range k).foldl (mStep e mask (p c)) s')
  | 0, _ => m
  | k + 1, hk => by
    rw [List.range_succ, List.foldl_append, List.foldl_append]
    have hTe : Leads e (flg d) := by rw [h.flg]; exact man_leads he
    exact mps_step h hd he (mRow_ok (man_leads hd) rfl hc hs k (by omega)).1 (mRow_ok hTe rfl (h.lt c hc) hs' k (by rw [← h.len]; omega)).1 (mps_row h hd he hc hs hs' m k (by omega)) hc (by omega)
theorem mps_loop (h : IsoP d e p) (hd : Man d) (he : Man e) {mask : Nat} : ∀ (f i : Nat) (s s' : MSt), MOK (flg d) s → MOK (flg d) s' → MPs d p s s' → MPs d p (mLoop d mask d.length f i s) (mLoop e mask d.length f i s')
  | 0, _, _, _, _, _, m => m
  | f + 1, i, s, s', hs, hs', m => by
    have hl : s'.2.length = s.2.length := by rw [m.1, List.length_map]
    have hTe : Leads e (flg d) := by rw [h.flg]; exact man_leads he
    unfold mLoop
    rw [hl]
    split
    · rename_i hi
      obtain ⟨x, h1, h2, -⟩ := hs.q i hi
      have e1 : iget s'.2 i = (p x : Int) := by
        rw [m.1, iget_lt (by simpa using hi), List.getElem_map, ← iget_lt hi, h1]; rfl
      rw [h1, e1, Int.toNat_natCast, Int.toNat_natCast]
      exact mps_loop h hd he f (i + 1) _ _ (mRow_ok (man_leads hd) rfl h2 hs d.length (Nat.le_refl _)).1 (by have := (mRow_ok (mask := mask) hTe rfl (h.lt x h2) hs' e.length (Nat.le_refl _)).1; unfold mRow; rw [h.len]; exact this) (mps_row h hd he h2 hs hs' m d.length (Nat.le_refl _))
    · exact m
theorem orb_iso (h : IsoP d e p) (hd : Man d) (he : Man e) {f : Nat} (hf : f < flg d) : (orb e (flg e) (p f)).2 = (orb d (flg d) f).2.map fun z => (p z.toNat : Int) := by
  unfold orb
  rw [← h.len, ← h.flg]
  refine (mps_loop h hd he _ _ _ _ (oStart_ok hf) (oStart_ok (h.lt f hf)) ⟨by simp [oStart], fun x hx => ?_⟩).1
  have k1 := oStart_bat (n := flg d) (c := p f) (h.lt x hx)
  have k2 := oStart_bat (n := flg d) (c := f) hx
  cases q : bat (oStart (flg d) f).1 x with
  | true => rw [k1, k2.1 q]
  | false =>
    cases q2 : bat (oStart (flg d) (p f)).1 (p x) with
    | false => rfl
    | true =>
      have := iso_inj h hd he hx hf (k1.1 q2)
      rw [k2.2 this] at q; cases q
theorem ordN_iso (h : IsoP d e p) (hd : Man d) (he : Man e) {f i : Nat} (hf : f < flg d) (hi : i < flg d) : ordN e (p f) i = p (ordN d f i) := by
  obtain ⟨h1, h2⟩ := ordN_lt hd hf hi
  have hl := ordF_full hd hf
  unfold ordN at h1 h2 ⊢
  rw [orb_iso h hd he hf, iget_lt (by rw [List.length_map, hl]; exact hi), List.getElem_map, ← iget_lt (by rw [hl]; exact hi)]
  rfl
theorem numN_iso (h : IsoP d e p) (hd : Man d) (he : Man e) {f x : Nat} (hf : f < flg d) (hx : x < flg d) : iget (numN e (p f)) (p x) = iget (numN d f) x := by
  obtain ⟨i, hi, rfl⟩ := ordN_onto hd hf hx
  have hpf : p f < flg e := by rw [← h.flg]; exact h.lt f hf
  rw [numN_ord hd hf hi, ← ordN_iso h hd he hf hi, numN_ord he hpf (by rw [← h.flg]; exact hi)]
theorem frm_iso (h : IsoP d e p) (hd : Man d) (he : Man e) {f : Nat} (hf : f < flg d) : frmL e (p f) = frmL d f := by
  unfold frmL
  rw [← h.len, ← h.flg]
  refine List.map_congr_left fun g hg => ?_
  rw [List.mem_range] at hg
  unfold frmRow
  refine List.map_congr_left fun i hi => ?_
  rw [List.mem_range] at hi
  have h1 := (ordN_lt hd hf hi).1
  rw [ordN_iso h hd he hf hi, ← h.mov g _ hg h1, numN_iso h hd he hf (bTo_lt (man_leads hd) h1 hg).1]
end
theorem ltL_app : ∀ {a b x y : List Int}, a.length = b.length → ltL (a ++ x) (b ++ y) = if ltL a b = true then true else if ltL b a = true then false else ltL x y
  | [], [], x, y, _ => by simp [ltL]
  | a :: r, b :: s, x, y, h => by
    have h := Nat.succ.inj h
    have hi := ltL_app (x := x) (y := y) h
    have hc : ∀ (a b : Int) (r s : List Int), ltL (a :: r) (b :: s) = if a < b then true else if b < a then false else ltL r s := fun a b r s => by rw [ltL]
    rw [List.cons_append, List.cons_append, hc, hc, hc, hi]
    by_cases h1 : a < b
    · simp [h1]
    · by_cases h2 : b < a
      · simp [h1, h2]
      · simp only [h1, h2, if_false]
theorem cmpL_app {a b x y : List Int} (h : a.length = b.length) : cmpL (a ++ x) (b ++ y) = if cmpL a b = 0 then cmpL x y else cmpL a b := by
  unfold cmpL
  rw [ltL_app h, ltL_app h.symm]
  cases h1 : ltL a b with
  | true =>
    rw [ltL_asym h1]; simp
  | false =>
    cases h2 : ltL b a with
    | true => simp
    | false => simp
def Shp (A : List (List Int)) (n N : Nat) : Prop := A.length = n ∧ ∀ r ∈ A, r.length = N
theorem cmpM_flat {N : Nat} : ∀ {A B : List (List Int)} {n : Nat}, Shp A n N → Shp B n N → cmpM A B = cmpL A.flatten B.flatten
  | [], [], _, _, _ => rfl
  | [], _ :: _, n, h, k => by have := h.1; have := k.1; simp at *; omega
  | _ :: _, [], n, h, k => by have := h.1; have := k.1; simp at *; omega
  | a :: A, b :: B, n, h, k => by
    have hn : 0 < n := by rw [← h.1]; simp
    have ih := cmpM_flat (A := A) (B := B) (n := n - 1) (N := N) ⟨by have := h.1; simp at this; omega, fun r hr => h.2 r (by simp [hr])⟩ ⟨by have := k.1; simp at this; omega, fun r hr => k.2 r (by simp [hr])⟩
    rw [cmpM, List.flatten_cons, List.flatten_cons, cmpL_app (by rw [h.2 a (by simp), k.2 b (by simp)]), ih]
theorem flat_inj {N : Nat} : ∀ {A B : List (List Int)} {n : Nat}, Shp A n N → Shp B n N → A.flatten = B.flatten → A = B
  | [], [], _, _, _, _ => rfl
  | [], _ :: _, n, h, k, _ => by have := h.1; have := k.1; simp at *; omega
  | _ :: _, [], n, h, k, _ => by have := h.1; have := k.1; simp at *; omega
  | a :: A, b :: B, n, h, k, e => by
    rw [List.flatten_cons, List.flatten_cons] at e
    have hl : a.length = b.length := by rw [h.2 a (by simp), k.2 b (by simp)]
    obtain ⟨e1, e2⟩ := List.append_inj e hl
    rw [e1, flat_inj (n := n - 1) (N := N) ⟨by have := h.1; simp at this; omega, fun r hr => h.2 r (by simp [hr])⟩ ⟨by have := k.1; simp at this; omega, fun r hr => k.2 r (by simp [hr])⟩ e2]
theorem cmpL_neg {a b : List Int} : cmpL a b < 0 ↔ ltL a b = true := by
  unfold cmpL
  cases h : ltL a b with
  | true => simp
  | false =>
    cases h2 : ltL b a <;> simp
theorem frm_shp (d : List (List Int)) (f : Nat) : Shp (frmL d f) d.length (flg d) := ⟨frm_len d f, fun r hr => by
  unfold frmL at hr
  rw [List.mem_map] at hr
  obtain ⟨g, _, rfl⟩ := hr
  exact frmRow_len _ _ _ _⟩
theorem lst_shp {d : List (List Int)} (h0 : 0 < flg d) {k : Nat} (hk : k ≤ flg d) : Shp (lstTo d k) d.length (flg d) := by
  obtain ⟨f, _, e⟩ := lst_is h0 k hk
  rw [e]; exact frm_shp d f
/-- no form is less than the least one -/
theorem lst_le {d : List (List Int)} (h0 : 0 < flg d) : ∀ k, k ≤ flg d → ∀ f, f < k → ltL (frmL d f).flatten (lstTo d k).flatten = false
  | 0, _, f, hf => by omega
  | k + 1, hk, f, hf => by
    have ih := lst_le h0 k (by omega)
    have hiff : cmpM (frmL d k) (lstTo d k) < 0 ↔ ltL (frmL d k).flatten (lstTo d k).flatten = true := by rw [cmpM_flat (frm_shp d k) (lst_shp h0 (by omega)), cmpL_neg]
    rw [lstTo]
    split
    · rename_i hc
      rw [hiff] at hc
      by_cases e : f = k
      · subst e; exact ltL_irr _
      · have h1 := ih f (by omega)
        cases h2 : ltL (frmL d f).flatten (frmL d k).flatten with
        | false => rfl
        | true => rw [ltL_trans h2 hc] at h1; cases h1
    · rename_i hc
      rw [hiff] at hc
      by_cases e : f = k
      · subst e; simpa using hc
      · exact ih f (by omega)
theorem lst_iso {d e : List (List Int)} {p : Nat → Nat} (h : IsoP d e p) (hd : Man d) (he : Man e) : lstTo d (flg d) = lstTo e (flg e) := by
  have h0 : 0 < flg d := by have := hd.f2; unfold flg; omega
  have h0' : 0 < flg e := by rw [← h.flg]; exact h0
  obtain ⟨f, hf, e1⟩ := lst_is h0 _ (Nat.le_refl _)
  obtain ⟨f', hf', e2⟩ := lst_is h0' _ (Nat.le_refl _)
  have s1 := lst_shp h0 (Nat.le_refl (flg d))
  have s2 := lst_shp h0' (Nat.le_refl (flg e))
  rw [← h.len, ← h.flg] at s2
  rw [← h.flg] at hf' e2 ⊢
  obtain ⟨x, hx, rfl⟩ := iso_onto h hd he hf'
  have l1 := lst_le h0' _ (Nat.le_refl _) (p f) (by rw [← h.flg]; exact h.lt f hf)
  have l2 := lst_le h0 _ (Nat.le_refl _) x hx
  rw [frm_iso h hd he hf, ← e1] at l1
  rw [frm_iso h hd he hx] at e2
  rw [← e2] at l2
  rw [← h.flg] at l1
  refine flat_inj s1 s2 ?_
  rcases ltL_tri (lstTo d (flg d)).flatten (lstTo e (flg d)).flatten with q | q | q
  · rw [q] at l1; cases l1
  · exact q
  · rw [q] at l2; cases l2
end Go.Proofs.Ytmdhljleaijkbaa

/- Deck moves and quotients by them, plain. No program in sight. -/
namespace Go.Proofs.Ytmdhljleaijkbaa

section
variable {d e : List (List Int)} {p : List Int}
theorem mem_deck (hd : Man d) {q : List Int} : q ∈ deckL d p ↔ Cov d d q ∧ thenL q p = p := by
  unfold deckL
  rw [List.mem_filter]
  have : q ∈ autL d ↔ Cov d d q := mem_cvs hd rfl
  rw [this]; simp
theorem deck_at (hp : Cov d e p) {q : List Int} (hq : Cov d d q) : thenL q p = p ↔ ∀ i, i < flg d → at_ p (at_ q i) = at_ p i := by
  have hl : ∀ i, i < flg d → iget (thenL q p) i = iget p (at_ q i) := fun i hi => by rw [iget_thenL (by rw [hq.len]; exact hi)]; rfl
  constructor
  · intro h i hi
    unfold at_
    rw [show (iget q i).toNat = at_ q i from rfl, ← hl i hi, h]
  · intro h
    refine List.ext_getElem (by rw [length_thenL, hq.len, hp.len]) fun i h1 h2 => ?_
    have hi : i < flg d := by rw [hp.len] at h2; exact h2
    rw [← iget_lt h1, ← iget_lt h2, hl i hi]
    have h3 := (hp.at_lt (hq.at_lt hi).1).2
    have h4 := (hp.at_lt hi).2
    rw [h3, h4, h i hi]
/-- a deck move leads from a to b -/
def DkTo (d : List (List Int)) (p : List Int) (a b : Nat) : Prop := ∃ q, Cov d d q ∧ (∀ i, i < flg d → at_ p (at_ q i) = at_ p i) ∧ at_ q a = b
theorem dk_refl (hd : Man d) {a : Nat} (ha : a < flg d) : DkTo d p a a := by
  obtain ⟨q, h1, h2⟩ := cov_id hd
  exact ⟨q, h1, fun i hi => by rw [h2 i hi], h2 a ha⟩
theorem dk_symm (hd : Man d) {a b : Nat} (ha : a < flg d) (h : DkTo d p a b) : DkTo d p b a := by
  obtain ⟨q, h1, h2, h3⟩ := h
  obtain ⟨r, k1, k2, k3⟩ := h1.back hd hd rfl rfl
  exact ⟨r, k1, fun i hi => by rw [← h2 _ (k1.at_lt hi).1, k3 i hi], by rw [← h3]; exact k2 a ha⟩
theorem dk_trans (hd : Man d) {a b c : Nat} (ha : a < flg d) (h : DkTo d p a b) (k : DkTo d p b c) : DkTo d p a c := by
  obtain ⟨q, h1, h2, h3⟩ := h
  obtain ⟨r, k1, k2, k3⟩ := k
  obtain ⟨s, s1, s2⟩ := h1.comp k1 hd hd rfl rfl
  exact ⟨s, s1, fun i hi => by rw [s2 i hi, k2 _ (h1.at_lt hi).1, h2 i hi], by rw [s2 a ha, h3, k3]⟩
/-- deck moves go with the moves -/
theorem dk_on (hd : Man d) {a b g : Nat} (ha : a < flg d) (hg : g < d.length) (h : DkTo d p a b) : DkTo d p (bTo d a g) (bTo d b g) := by
  obtain ⟨q, h1, h2, h3⟩ := h
  exact ⟨q, h1, h2, by rw [h1.on hg ha, h3]⟩
theorem dk_p {a b : Nat} (ha : a < flg d) (h : DkTo d p a b) : at_ p a = at_ p b := by
  obtain ⟨q, h1, h2, h3⟩ := h
  rw [← h3, h2 a ha]
theorem deck_get (hd : Man d) (hp : Cov d e p) {g : Nat} (hg : g < (deckL d p).length) : Cov d d (lget (deckL d p) g) ∧ ∀ i, i < flg d → at_ p (at_ (lget (deckL d p) g) i) = at_ p i := by
  have h := (mem_deck (p := p) hd).1 (lget_mem hg)
  exact ⟨h.1, (deck_at hp h.1).1 h.2⟩
theorem deck_leads (hd : Man d) (hp : Cov d e p) : Leads (deckL d p) (flg d) := ⟨fun k hk => (deck_get hd hp hk).1.len, fun k hk x hx => by
  obtain ⟨y, h1, h2⟩ := (deck_get hd hp hk).1.val x hx
  rw [h1]; omega⟩
theorem deck_rch (hd : Man d) (hp : Cov d e p) {a b : Nat} (ha : a < flg d) (hb : b < flg d) : rch (deckL d p) (flg d) a b = true ↔ DkTo d p a b := by
  constructor
  · intro h
    refine rch_in (deck_leads hd hp) ha (p := fun b => DkTo d p a b) (dk_refl hd ha) (fun x hx hax g hg => dk_trans hd ha hax ⟨_, (deck_get hd hp hg).1, (deck_get hd hp hg).2, rfl⟩) b hb h
  · rintro ⟨q, h1, h2, h3⟩
    obtain ⟨g, hg, eq⟩ := List.getElem_of_mem ((mem_deck (p := p) hd).2 ⟨h1, (deck_at hp h1).2 h2⟩)
    have := rch_on (deck_leads hd hp) ha ha (rch_refl (deck_leads hd hp) ha) hg
    have e2 : bTo (deckL d p) a g = b := by
      unfold bTo
      rw [lget_lt hg, eq]; exact h3
    rw [e2] at this
    exact this
theorem deck_sym (hd : Man d) (hp : Cov d e p) : SymR (deckL d p) (flg d) := fun c x hc hx h => (deck_rch hd hp hx hc).2 (dk_symm hd hc ((deck_rch hd hp hc hx).1 h))
/-- a row of the quotient gives to the label of x the label of where x is led -/
theorem quoRow_get {L r : List Int} {K N : Nat} (hL : ∀ x, x < N → ∃ j : Nat, iget L x = (j : Int) ∧ j < K) (hw : ∀ x y, x < N → y < N → iget L x = iget L y → iget L (iget r x).toNat = iget L (iget r y).toNat) : ∀ f, f ≤ N → ∀ x, x < f → iget (quoRow L r K f) (iget L x).toNat = iget L (iget r x).toNat
  | 0, _, x, h => by omega
  | f + 1, hf, x, hx => by
    obtain ⟨j, j1, j2⟩ := hL f (by omega)
    obtain ⟨k, k1, k2⟩ := hL x (by omega)
    show iget ((quoRow L r K f).set (iget L f).toNat (iget L (iget r f).toNat)) (iget L x).toNat = _
    rw [iget_setN (by rw [j1, Int.toNat_natCast, quoRow_len]; exact j2)]
    by_cases h : (iget L x).toNat = (iget L f).toNat
    · rw [if_pos h]
      exact hw f x (by omega) (by omega) (by omega)
    · rw [if_neg h]
      have hxf : x < f := by
        rcases Nat.lt_or_ge x f with q | q
        · exact q
        · obtain rfl : x = f := by omega
          exact absurd rfl h
      exact quoRow_get hL hw f (by omega) x hxf
/-- labels of the orbits of the deck moves, and the quotient -/
noncomputable def dkL (d : List (List Int)) (p : List Int) : LSt := labs (deckL d p) (flg d)
noncomputable def dkQ (d : List (List Int)) (p : List Int) : List (List Int) := quoL d (dkL d p).1 (dkL d p).2 (flg d)
/-- the label of a flag -/
noncomputable def dlab (d : List (List Int)) (p : List Int) (x : Nat) : Nat := (iget (dkL d p).1 x).toNat
theorem dlab_lt (hd : Man d) (hp : Cov d e p) {x : Nat} (hx : x < flg d) : iget (dkL d p).1 x = (dlab d p x : Int) ∧ dlab d p x < (dkL d p).2 := by
  obtain ⟨-, -, h3⟩ := labs_allS (deck_leads hd hp) (deck_sym hd hp)
  obtain ⟨j, h1, h2⟩ := h3 x hx
  have h1 : iget (dkL d p).1 x = (j : Int) := h1
  unfold dlab
  rw [h1, Int.toNat_natCast]
  exact ⟨rfl, h2⟩
theorem dlab_eq (hd : Man d) (hp : Cov d e p) {x y : Nat} (hx : x < flg d) (hy : y < flg d) : dlab d p x = dlab d p y ↔ DkTo d p x y := by
  rw [← deck_rch hd hp hx hy, labs_rch (deck_leads hd hp) (deck_sym hd hp) hx hy]
  have h1 := (dlab_lt hd hp hx).1
  have h2 := (dlab_lt hd hp hy).1
  have h1' : iget (labs (deckL d p) (flg d)).1 x = (dlab d p x : Int) := h1
  have h2' : iget (labs (deckL d p) (flg d)).1 y = (dlab d p y : Int) := h2
  rw [h1', h2']; omega
theorem dlab_att (hd : Man d) (hp : Cov d e p) {j : Nat} (hj : j < (dkL d p).2) : ∃ x, x < flg d ∧ dlab d p x = j := by
  obtain ⟨x, h1, h2⟩ := labTo_att (deck_leads hd hp) (deck_sym hd hp) (flg d) (Nat.le_refl _) j hj
  refine ⟨x, h1, ?_⟩
  have h3 := (dlab_lt hd hp h1).1
  have h2 : iget (dkL d p).1 x = (j : Int) := h2
  rw [h2] at h3; omega
theorem dkQ_len : (dkQ d p).length = d.length := by simp [dkQ, quoL]
theorem dkQ_row {g : Nat} (hg : g < d.length) : lget (dkQ d p) g = quoRow (dkL d p).1 (lget d g) (dkL d p).2 (flg d) := by
  unfold dkQ quoL
  rw [lget_lt (by simpa using hg), List.getElem_map, lget_lt hg]
theorem dkQ_at (hd : Man d) (hp : Cov d e p) {g x : Nat} (hg : g < d.length) (hx : x < flg d) : iget (lget (dkQ d p) g) (dlab d p x) = (dlab d p (bTo d x g) : Int) := by
  have hT := man_leads hd
  rw [dkQ_row hg]
  have key := quoRow_get (L := (dkL d p).1) (r := lget d g) (K := (dkL d p).2) (N := flg d) (fun y hy => ⟨_, (dlab_lt hd hp hy).1, (dlab_lt hd hp hy).2⟩) (fun a b ha hb h => by
    have ea := (dlab_lt hd hp ha).1
    have eb := (dlab_lt hd hp hb).1
    have hab : dlab d p a = dlab d p b := by rw [ea, eb] at h; omega
    have hk := dk_on hd ha hg ((dlab_eq hd hp ha hb).1 hab)
    have la := (bTo_lt hT ha hg).1
    have lb := (bTo_lt hT hb hg).1
    have := (dlab_eq hd hp la lb).2 hk
    have e1 := (dlab_lt hd hp la).1
    have e2 := (dlab_lt hd hp lb).1
    show iget (dkL d p).1 (bTo d a g) = iget (dkL d p).1 (bTo d b g)
    rw [e1, e2, this]) (flg d) (Nat.le_refl _) x hx
  have e3 := (dlab_lt hd hp (bTo_lt hT hx hg).1).1
  rw [← e3]
  exact key
theorem dkQ_flg (hd : Man d) : flg (dkQ d p) = (dkL d p).2 := by
  unfold flg
  rw [dkQ_row (by have := hd.n1; omega), quoRow_len]
theorem dkQ_to (hd : Man d) (hp : Cov d e p) {g x : Nat} (hg : g < d.length) (hx : x < flg d) : bTo (dkQ d p) (dlab d p x) g = dlab d p (bTo d x g) := by
  unfold bTo
  rw [dkQ_at hd hp hg hx, Int.toNat_natCast]; rfl
/-- moves keep no orbit of the deck moves -/
theorem dlab_ne (hd : Man d) (he : Man e) (hl : d.length = e.length) (hp : Cov d e p) {g x : Nat} (hg : g < d.length) (hx : x < flg d) : dlab d p (bTo d x g) ≠ dlab d p x := fun h => by
  have h1 := dk_p (bTo_lt (man_leads hd) hx hg).1 ((dlab_eq hd hp (bTo_lt (man_leads hd) hx hg).1 hx).1 h)
  rw [hp.on hg hx] at h1
  exact man_free he (by omega) (hp.at_lt hx).1 h1
theorem dkQ_leads (hd : Man d) (hp : Cov d e p) : Leads (dkQ d p) (dkL d p).2 := ⟨fun k hk => by
  rw [dkQ_len] at hk
  rw [dkQ_row hk, quoRow_len], fun k hk j hj => by
  rw [dkQ_len] at hk
  obtain ⟨x, hx, rfl⟩ := dlab_att hd hp hj
  rw [dkQ_at hd hp hk hx]
  have := (dlab_lt hd hp (bTo_lt (man_leads hd) hx hk).1).2
  omega⟩
theorem dkQ_man (hd : Man d) (he : Man e) (hl : d.length = e.length) (hp : Cov d e p) : Man (dkQ d p) := by
  have hT := man_leads hd
  have hB := man_back hd
  have hf2 : 2 ≤ flg d := hd.f2
  have hf4 : flg d ≤ 400 := hd.f4
  have hK4 : (dkL d p).2 ≤ flg d := (labs_allS (deck_leads hd hp) (deck_sym hd hp)).2.1
  have hn1 := hd.n1
  have hL := dkQ_leads hd hp
  have hrow : ∀ i, i < d.length → (lget (dkQ d p) i).length = (dkL d p).2 := fun i hi => by rw [dkQ_row hi, quoRow_len]
  have h0 : (lget (dkQ d p) 0).length = (dkL d p).2 := hrow 0 (by omega)
  have hback : ∀ g j, g < d.length → j < (dkL d p).2 → bTo (dkQ d p) (bTo (dkQ d p) j g) g = j ∧ bTo (dkQ d p) j g ≠ j := fun g j hg hj => by
    obtain ⟨x, hx, rfl⟩ := dlab_att hd hp hj
    have hx2 := (bTo_lt hT hx hg).1
    rw [dkQ_to hd hp hg hx, dkQ_to hd hp hg hx2, hB g hg x hx]
    exact ⟨rfl, dlab_ne hd he hl hp hg hx⟩
  refine ⟨by rw [dkQ_len]; exact hd.n1, by rw [dkQ_len]; exact hd.n5, ?_, by rw [h0]; omega, fun i hi => ?_, fun i hi => ?_, fun i hi => ?_, fun i k hik hk f hf => ?_, ?_⟩
  · rw [h0]
    have h1 := (dlab_lt hd hp (x := 0) (by omega)).2
    have h2 := (dlab_lt hd hp (bTo_lt hT (show 0 < flg d by omega) (show 0 < d.length by omega)).1).2
    have h3 := dlab_ne hd he hl hp (g := 0) (x := 0) (by omega) (by omega)
    omega
  · rw [dkQ_len] at hi
    rw [hrow i hi, h0]
  · have hi' : i < (dkQ d p).length := hi
    rw [dkQ_len] at hi
    refine isPerm_ok (by rw [hrow i hi]; omega) (fun k hk => by rw [hrow i hi] at hk ⊢; exact hL.within i hi' k hk) (fun a b ha hb h => ?_)
    rw [hrow i hi] at ha hb
    have e1 := (hback i a hi ha).1
    have e2 := (hback i b hi hb).1
    have e3 : bTo (dkQ d p) a i = bTo (dkQ d p) b i := by unfold bTo; rw [h]
    rw [← e1, ← e2, e3]
  · have hi' : i < (dkQ d p).length := hi
    rw [dkQ_len] at hi
    refine isFreeL_yes fun j hj => ?_
    rw [hrow i hi] at hj
    have h1 := hback i j hi hj
    have h2 := bTo_lt hL hj hi'
    have h3 := bTo_lt hL h2.1 hi'
    rw [h2.2, Int.toNat_natCast, h3.2, h1.1]
    exact ⟨by have := h1.2; omega, rfl⟩
  · rw [dkQ_len] at hk
    rw [h0] at hf
    obtain ⟨x, hx, rfl⟩ := dlab_att hd hp hf
    obtain ⟨c1, c2⟩ := hd.comm i k hik hk x hx
    have hxi := (bTo_lt hT hx (show i < d.length by omega)).1
    have hxk := (bTo_lt hT hx hk).1
    unfold commAt
    rw [dkQ_to hd hp (by omega) hx, dkQ_to hd hp hk hx, dkQ_to hd hp hk hxi, dkQ_to hd hp (by omega) hxk, c1]
    refine ⟨rfl, fun h => ?_⟩
    have h1 := dk_p hxi ((dlab_eq hd hp hxi hxk).1 h)
    rw [hp.on (by omega) hx, hp.on hk hx] at h1
    exact (he.comm i k hik (by omega) _ (hp.at_lt hx).1).2 h1
  · rw [h0]
    have hK0 : 0 < (dkL d p).2 := by have := (dlab_lt hd hp (x := 0) (by omega)).2; omega
    refine (orb_full hL hK0).2 fun j hj => ?_
    obtain ⟨x0, hx0, e0⟩ := dlab_att hd hp hK0
    obtain ⟨x, hx, rfl⟩ := dlab_att hd hp hj
    have key : ∀ y, y < flg d → rch d (flg d) x0 y = true → rch (dkQ d p) (dkL d p).2 0 (dlab d p y) = true := fun y hy hr =>
      rch_in hT hx0 (p := fun y => rch (dkQ d p) (dkL d p).2 0 (dlab d p y) = true) (by rw [e0]; exact rch_refl hL hK0) (fun z hz h g hg => by
        have := rch_on hL hK0 (dlab_lt hd hp hz).2 h (g := g) (by rw [dkQ_len]; exact hg)
        rw [dkQ_to hd hp hg hz] at this
        exact this) y hy hr
    refine key x hx (rch_trans hT hx0 (by omega) hx (rch_symm hT hB (by omega) hx0 (man_rch hd x0 hx0)) (man_rch hd x hx))
theorem dkQ_cov (hd : Man d) (he : Man e) (hl : d.length = e.length) (hp : Cov d e p) : ∃ r, Cov (dkQ d p) e r := by
  have hQ := dkQ_man hd he hl hp
  obtain ⟨f, hf⟩ : ∃ f : Nat → Nat, ∀ j, j < (dkL d p).2 → f j < flg d ∧ dlab d p (f j) = j := by
    refine Classical.axiomOfChoice (r := fun j i => j < (dkL d p).2 → i < flg d ∧ dlab d p i = j) fun j => ?_
    by_cases hj : j < (dkL d p).2
    · obtain ⟨i, h1, h2⟩ := dlab_att hd hp hj; exact ⟨i, fun _ => ⟨h1, h2⟩⟩
    · exact ⟨0, fun q => absurd q hj⟩
  have hfl := dkQ_flg (p := p) hd
  obtain ⟨h1, -⟩ := cov_mk (d := dkQ d p) (e := e) (fun j => at_ p (f j)) (fun j hj => by rw [hfl] at hj; exact (hp.at_lt (hf j hj).1).1) hQ he (by rw [dkQ_len]; exact hl) (fun g j hg hj => by
    rw [dkQ_len] at hg
    rw [hfl] at hj
    obtain ⟨k1, k2⟩ := hf j hj
    have k3 : bTo (dkQ d p) j g = dlab d p (bTo d (f j) g) := by rw [← dkQ_to hd hp hg k1, k2]
    have k4 := (bTo_lt (man_leads hd) k1 hg).1
    have k5 := (dlab_lt hd hp k4).2
    obtain ⟨m1, m2⟩ := hf _ k5
    show at_ p (f (bTo (dkQ d p) j g)) = bTo e (at_ p (f j)) g
    rw [k3, dk_p m1 ((dlab_eq hd hp m1 k4).1 m2), hp.on hg k1])
  exact ⟨_, h1⟩
/-- how many flags lie over a flag -/
def ovr (d : List (List Int)) (p : List Int) (f : Nat) : Nat := ((List.range (flg d)).filter fun i => decide (at_ p i = f)).length
theorem ovr_count (hp : Cov d e p) (f : Nat) : p.count (f : Int) = ovr d p f := by
  rw [count_filter, hp.len]
  unfold ovr
  congr 1
  refine List.filter_congr fun i hi => ?_
  have h := (hp.at_lt (List.mem_range.1 hi)).2
  rw [h]
  exact decide_eq_decide.2 ⟨fun q => by omega, fun q => by omega⟩
theorem filt_inj {n : Nat} {P Q : Nat → Bool} {g : Nat → Nat} (hg : ∀ i, i < n → P i = true → g i < n ∧ Q (g i) = true) (hi : ∀ i j, i < n → j < n → P i = true → P j = true → g i = g j → i = j) : ((List.range n).filter P).length ≤ ((List.range n).filter Q).length := by
  have h1 : (((List.range n).filter P).map g).Nodup := by
    refine List.Pairwise.map g (R := fun a b => a ∈ (List.range n).filter P ∧ b ∈ (List.range n).filter P ∧ a ≠ b) ?_ ?_
    · rintro a b ⟨ha, hb, hne⟩ e
      have ha := List.mem_filter.1 ha
      have hb := List.mem_filter.1 hb
      exact hne (hi a b (List.mem_range.1 ha.1) (List.mem_range.1 hb.1) ha.2 hb.2 e)
    · have : ((List.range n).filter P).Nodup := List.Pairwise.sublist List.filter_sublist List.nodup_range
      exact List.Pairwise.imp_of_mem (fun ha hb h => ⟨ha, hb, h⟩) this
  have h2 := filt_in (n := n) h1 (fun x hx => by
    obtain ⟨i, hi', rfl⟩ := List.mem_map.1 hx
    have := List.mem_filter.1 hi'
    exact (hg i (List.mem_range.1 this.1) this.2).1)
  rw [List.length_map] at h2
  rw [← h2, ← List.countP_eq_length_filter, ← List.countP_eq_length_filter]
  refine List.countP_mono_left fun x hx h => ?_
  have h := of_decide_eq_true h
  obtain ⟨i, hi', rfl⟩ := List.mem_map.1 h
  have := List.mem_filter.1 hi'
  exact (hg i (List.mem_range.1 this.1) this.2).2
theorem ovr_le (hd : Man d) (hp : Cov d e p) (hl : d.length = e.length) {g f : Nat} (hg : g < d.length) : ovr d p f ≤ ovr d p (bTo e f g) := by
  refine filt_inj (g := fun i => bTo d i g) (fun i hi h => ⟨(bTo_lt (man_leads hd) hi hg).1, ?_⟩) (fun i j hi hj _ _ h => ?_)
  · have h := of_decide_eq_true h
    refine decide_eq_true ?_
    rw [hp.on hg hi, h]
  · have h1 := man_back hd g hg i hi
    have h2 := man_back hd g hg j hj
    have h : bTo d i g = bTo d j g := h
    rw [← h1, ← h2, h]
theorem ovr_all (hd : Man d) (he : Man e) (hl : d.length = e.length) (hp : Cov d e p) : ∀ f, f < flg e → ovr d p f = ovr d p 0 := by
  refine man_ind he rfl fun i hi h g hg => ?_
  have h1 := ovr_le hd hp hl (g := g) (f := i) (by omega)
  have h2 := ovr_le hd hp hl (g := g) (f := bTo e i g) (by omega)
  rw [man_back he g hg i hi] at h2
  omega
theorem ovr_sum (hd : Man d) (hp : Cov d e p) : ∀ k, k ≤ flg e → (∀ f, f < flg e → ovr d p f = ovr d p 0) → ((List.range (flg d)).filter fun i => decide (at_ p i < k)).length = k * ovr d p 0
  | 0, _, _ => by rw [Nat.zero_mul, List.length_eq_zero_iff, List.filter_eq_nil_iff]; intro a _; simp
  | k + 1, hk, h => by
    have ih := ovr_sum hd hp k (by omega) h
    rw [filter_or_len (p := fun i => decide (at_ p i < k)) (q := fun i => decide (at_ p i = k)) (List.range (flg d)) (fun i _ => by rw [Bool.eq_iff_iff]; simp; omega) (fun i _ h1 => by
      have h1 := of_decide_eq_true h1
      exact decide_eq_false (by omega)), ih, Nat.succ_mul]
    have := h k (by omega)
    unfold ovr at this ⊢
    omega
/-- all fibres are of one size -/
theorem fibre_even (hd : Man d) (he : Man e) (hl : d.length = e.length) (hp : Cov d e p) {f : Nat} (hf : f < flg e) : flg e * p.count (f : Int) = flg d := by
  have h := ovr_sum hd hp (flg e) (Nat.le_refl _) (ovr_all hd he hl hp)
  rw [ovr_count hp, ovr_all hd he hl hp f hf, ← h, List.filter_eq_self.2 (fun i hi => decide_eq_true (hp.at_lt (List.mem_range.1 hi)).1), List.length_range]
theorem autL_nodup : (autL d).Nodup := by
  unfold autL cvL
  show List.Pairwise _ _
  rw [List.pairwise_filterMap]
  refine List.Pairwise.imp (fun {a b} hab q hq q' hq' e => ?_) (List.nodup_range (n := flg d))
  subst e
  have h1 := (covO_some hq).2.2
  have h2 := (covO_some hq').2.2
  exact hab (by omega)
theorem cov_uniq_at (hd : Man d) {q q' : List Int} (hq : Cov d d q) (hq' : Cov d d q') {x : Nat} (hx : x < flg d) (h : at_ q x = at_ q' x) : q = q' := by
  have h0 : 0 < flg d := by have := hd.f2; unfold flg; omega
  have hr : rch d (flg d) x 0 = true := rch_symm (man_leads hd) (man_back hd) h0 hx (man_rch hd x hx)
  have h1 : at_ q 0 = at_ q' 0 := rch_in (man_leads hd) hx (p := fun y => at_ q y = at_ q' y) h (fun y hy e g hg => by rw [hq.on hg hy, hq'.on hg hy, e]) 0 h0 hr
  refine cov_uniq hd hq hq' ?_
  rw [(hq.at_lt h0).2, (hq'.at_lt h0).2, h1]
/-- the deck moves and their orbits -/
theorem deck_even (hd : Man d) (hp : Cov d e p) : (deckL d p).length * (dkL d p).2 = flg d := by
  refine labs_evenS (deck_leads hd hp) (deck_sym hd hp) _ fun i hi => ?_
  have hnd : ((deckL d p).map fun q => at_ q i).Nodup := by
    refine List.Pairwise.map (fun q => at_ q i) (R := fun a b => a ∈ deckL d p ∧ b ∈ deckL d p ∧ a ≠ b) ?_ ?_
    · rintro a b ⟨ha, hb, hne⟩ h
      exact hne (cov_uniq_at hd ((mem_deck hd).1 ha).1 ((mem_deck hd).1 hb).1 hi h)
    · have : (deckL d p).Nodup := List.Pairwise.sublist List.filter_sublist autL_nodup
      exact List.Pairwise.imp_of_mem (fun ha hb h => ⟨ha, hb, h⟩) this
  have h2 := filt_in (n := flg d) hnd (fun x hx => by
    obtain ⟨q, hq, rfl⟩ := List.mem_map.1 hx
    exact (((mem_deck hd).1 hq).1.at_lt hi).1)
  rw [List.length_map] at h2
  rw [← h2]
  congr 1
  refine List.filter_congr fun y hy => ?_
  have hy := List.mem_range.1 hy
  rw [Bool.eq_iff_iff, deck_rch hd hp hi hy, decide_eq_true_iff]
  constructor
  · rintro ⟨q, h1, h2, h3⟩
    exact List.mem_map.2 ⟨q, (mem_deck hd).2 ⟨h1, (deck_at hp h1).2 h2⟩, h3⟩
  · intro h
    obtain ⟨q, hq, h3⟩ := List.mem_map.1 h
    have := (mem_deck hd).1 hq
    exact ⟨q, this.1, (deck_at hp this.1).1 this.2, h3⟩
theorem dkQ_more (hd : Man d) (he : Man e) (hl : d.length = e.length) (hp : Cov d e p) : flg e ≤ (dkL d p).2 := by
  obtain ⟨r, hr⟩ := dkQ_cov hd he hl hp
  have ho := hr.onto (dkQ_man hd he hl hp) he (by rw [dkQ_len]; exact hl)
  rw [dkQ_flg hd] at ho
  obtain ⟨f, hf⟩ : ∃ f : Nat → Nat, ∀ y, y < flg e → f y < (dkL d p).2 ∧ at_ r (f y) = y := by
    refine Classical.axiomOfChoice (r := fun y i => y < flg e → i < (dkL d p).2 ∧ at_ r i = y) fun y => ?_
    by_cases hy : y < flg e
    · obtain ⟨i, h1, h2⟩ := ho y hy; exact ⟨i, fun _ => ⟨h1, h2⟩⟩
    · exact ⟨0, fun q => absurd q hy⟩
  exact holes _ _ f (fun i hi => (hf i hi).1) (fun i j hi hj h => by rw [← (hf i hi).2, ← (hf j hj).2, h])
/-- no more deck moves than flags in a fibre; as many exactly if the quotient has as many flags as what is covered -/
theorem deck_le (hd : Man d) (he : Man e) (hl : d.length = e.length) (hp : Cov d e p) {f : Nat} (hf : f < flg e) : (deckL d p).length ≤ p.count (f : Int) := by
  have h1 := deck_even hd hp
  have h2 := dkQ_more hd he hl hp
  have h3 := fibre_even hd he hl hp hf
  have h4 := Nat.mul_le_mul_left (deckL d p).length h2
  rw [h1, ← h3, Nat.mul_comm] at h4
  exact Nat.le_of_mul_le_mul_left h4 (by omega)
theorem deck_full (hd : Man d) (hp : Cov d e p) (h : (deckL d p).length * flg e = flg d) : (dkL d p).2 = flg e := by
  have h1 := deck_even hd hp
  have h2 : 0 < flg d := by have := hd.f2; unfold flg; omega
  have h3 : 0 < (deckL d p).length := by
    rcases Nat.eq_zero_or_pos (deckL d p).length with q | q
    · rw [q, Nat.zero_mul] at h; omega
    · exact q
  exact Nat.eq_of_mul_eq_mul_left h3 (by omega)
theorem dkQ_ac (hd : Man d) (he : Man e) (hl : d.length = e.length) (hp : Cov d e p) : ccC (dkQ d p) e = 0 ∧ acR (dkQ d p) e = true := by
  have hQ := dkQ_man hd he hl hp
  obtain ⟨h1, -, h3⟩ := cc_ok (manB_iff.2 hQ) (manB_iff.2 he)
  refine ⟨h1, ?_⟩
  rw [h3]
  obtain ⟨r, hr⟩ := dkQ_cov hd he hl hp
  exact decide_eq_true (List.length_pos_of_mem ((mem_cvs hQ (by rw [dkQ_len]; exact hl)).2 hr))
theorem dkQ_least (hd : Man d) (he : Man e) (hl : d.length = e.length) (hp : Cov d e p) (h : (deckL d p).length * flg e = flg d) : lfR (dkQ d p) = lfR e := by
  have hQ := dkQ_man hd he hl hp
  obtain ⟨r, hr⟩ := dkQ_cov hd he hl hp
  have hf : flg (dkQ d p) = flg e := by rw [dkQ_flg hd, deck_full hd hp h]
  have hlen : (dkQ d p).length = e.length := by rw [dkQ_len]; exact hl
  have hiso : IsoP (dkQ d p) e (at_ r) := ⟨hlen, hf, fun x hx => by rw [hf]; exact (hr.at_lt hx).1, fun g x hg hx => hr.on hg hx⟩
  have := lst_iso hiso hQ he
  unfold lfR
  rw [manB_iff.2 hQ, manB_iff.2 he]
  simp [this]
end
end Go.Proofs.Ytmdhljleaijkbaa

/- Coset enumeration: l11Find. -/
namespace Go.Proofs.Ytmdhljleaijkbaa
open Go.RowKit

end Go.Proofs.Ytmdhljleaijkbaa

/- Coset enumeration: l11Define. -/
namespace Go.Proofs.Ytmdhljleaijkbaa
open Go.RowKit

end Go.Proofs.Ytmdhljleaijkbaa

/- The laws' helpers on lists of words: likeInts, same9, run9. -/
namespace Go.Proofs.Ytmdhljleaijkbaa
open Go.RowKit

set_option maxHeartbeats 400000 in
theorem likeInts_any (a b : Option Addr) (n ca cb : Nat) (zs : List Int) (w : World) (ha : Ints w a n zs) (hb : Ints w b n zs) :
    Calls Try.prog 17 #[.slice a n ca, .slice b n cb] w fun e w' => e = .returned (.bool true) ∧ ∃ m, w' = w.drewN m := by
  have hla := ha.2.1
  have hl' : ((n : Int) != (n:Int)) = false := by simp
  go_enter Try.func17, Try.ntmps17
  go_wp2
  go_loopw [5] (fun i wr => ∃ k : Nat, k ≤ n ∧ i = .int .i64 k ∧ ∃ m, wr = w.drewN m) (fun i _ => n - (intOf i).toNat)
  case atStart => exact ⟨0, Nat.zero_le _, rfl, 0, rfl⟩
  case round =>
    obtain ⟨k, hk, rfl, m, rfl⟩ := hrel
    by_cases hlt : k < n
    · obtain ⟨ba, oa, rfl, hca⟩ := ha.at_ hlt
      obtain ⟨bb, ob, rfl, hcb⟩ := hb.at_ hlt
      have he' : (iget zs k != iget zs k) = false := by simp
      go_wp2_with fail
      go_quiet (fail)
      go_wp2
      go_roundw
      case rel => exact ⟨k + 1, by omega, by go_num, _, rfl⟩
      case measure => first | (simp [intOf]; done) | (simp [intOf]; omega)
    · obtain rfl : k = n := by omega
      go_wp2
      go_ret
      exact ⟨rfl, _, rfl⟩
end Go.Proofs.Ytmdhljleaijkbaa

/- Laws' helpers: likeRows5, like5, flags5. -/
namespace Go.Proofs.Ytmdhljleaijkbaa
open Go.RowKit

set_option maxHeartbeats 1600000 in
theorem likeRows5_any {v v' : Value} {zss : List (List Int)} (w : World) (h : RdSS w v zss) (h' : RdSS w v' zss) :
    Calls Try.prog 18 #[v, v'] w fun e w' => e = .returned (.bool true) ∧ Below w.heap.size w w' := by
  obtain ⟨ao, n, c, rfl, hi⟩ := h
  obtain ⟨ao', n', c', rfl, hi'⟩ := h'
  obtain rfl : n = n' := by rw [← hi.1, ← hi'.1]
  have hbd := hi.2.1
  have hl' : ((n : Int) != (n:Int)) = false := by simp
  go_enter Try.func18, Try.ntmps18
  go_wp2
  go_loopw [5] (fun i wr => ∃ k : Nat, k ≤ n ∧ i = .int .i64 k ∧ Below w.heap.size w wr) (fun i _ => n - (intOf i).toNat)
  case atStart => exact ⟨0, Nat.zero_le _, rfl, Below.refl _ _⟩
  case round =>
    obtain ⟨k, hk, rfl, hb⟩ := hrel
    by_cases hlt : k < n
    · obtain ⟨b1, o1, a1, n1, c1, rfl, hc1, hin1⟩ := (hi.below hb).at_ hlt
      obtain ⟨b2, o2, a2, n2, c2, rfl, hc2, hin2⟩ := (hi'.below hb).at_ hlt
      obtain rfl : n1 = n2 := by rw [← hin1.1, ← hin2.1]
      have HH := Lib.hid hi
      have HH' := Lib.hid hi'
      clear hi hi'
      go_wp2_with fail
      go_quiet ((go_at_call 17; exact Calls.quiet_of (likeInts_any a1 a2 n1 c1 c2 (lget zss k) _ (hin1.drewN _) (hin2.drewN _))))
      go_wp2
      go_roundw
      case rel => exact ⟨k + 1, by omega, by go_num, below_drewN hb _⟩
      case measure => first | (simp [intOf]; done) | (simp [intOf]; omega)
    · obtain rfl : k = n := by omega
      go_wp2
      go_ret
      exact ⟨rfl, hb⟩
theorem like5_any {a a' : Option Addr} {n n' c c' : Nat} {zss : List (List Int)} (w : World) (h : RdSS w (.slice a n c) zss) (h' : RdSS w (.slice a' n' c') zss) :
    Calls Try.prog 9 #[.agg #[.slice a n c], .agg #[.slice a' n' c']] w fun e w' => e = .returned (.bool true) ∧ Below w.heap.size w w' := by
  have b2 := below_alloc2 w (.cells #[.slice a n c] 28) (.cells #[.slice a' n' c'] 28)
  have x1 := ((blk_at rfl : Blk (w.alloc (.cells #[.slice a n c] 28)) w.heap.size 28 #[.slice a n c]).alloc (.cells #[.slice a' n' c'] 28)).cell 0
  have H1 := Lib.hid (h.below b2)
  have H2 := Lib.hid (h'.below b2)
  clear h h'
  go_enter Try.func9, Try.ntmps9
  go_wp2_with (go_at_call 18; refine (likeRows5_any _ H1.out H2.out).mono ?_; rintro e w3 ⟨rfl, b3⟩)
  go_ret
  exact ⟨rfl, b2.trans (b3.mono b2.size)⟩
theorem flags5_any {a : Option Addr} {n c m : Nat} {zss : List (List Int)} (w : World) (h : RdSS w (.slice a n c) zss) (hn : 0 < n) (hm : (lget zss 0).length = m) :
    Calls Try.prog 25 #[.agg #[.slice a n c]] w fun e w' => e = .returned (.int .i64 m) ∧ Below w.heap.size w w' := by
  obtain ⟨ao', n', c', e, hi⟩ := h
  injection e with e1 e2 e3
  subst e1 e2 e3
  have b1 := below_alloc1 w (.cells #[.slice a n c] 28)
  have x1 := (blk_at rfl : Blk (w.alloc (.cells #[.slice a n c] 28)) w.heap.size 28 #[.slice a n c]).cell 0
  obtain ⟨b, off, a1, n1, c1, rfl, hc, hin⟩ := (hi.below b1).at_ hn
  obtain rfl : n1 = m := by rw [← hm, ← hin.1]
  simp at hc x1
  clear hi hin hm
  go_enter Try.func25, Try.ntmps25
  go_wp2_with fail
  go_ret
  exact ⟨rfl, b1⟩
end Go.Proofs.Ytmdhljleaijkbaa

/- least5 of the laws: two maniplexes of one least form. -/
namespace Go.Proofs.Ytmdhljleaijkbaa
open Go.RowKit

set_option maxRecDepth 100000 in
set_option maxHeartbeats 3200000 in
theorem least5_any {a b : Option Addr} {n n' c c' : Nat} {d e : List (List Int)} (w : World) (hd : RdSSc w (.slice a n c) d) (he : RdSSc w (.slice b n' c') e) (hM : Man d) (hM' : Man e) (hl : lfR d = lfR e) :
    Calls Try.prog 19 #[.agg #[.slice a n c], .agg #[.slice b n' c']] w fun r w' => r = .returned (.bool true) ∧ Below w.heap.size w w' := by
  have b0 := below_alloc2 w (.cells #[.slice a n c] 28) (.cells #[.slice b n' c'] 28)
  have ka : Blk ((w.alloc (.cells #[.slice a n c] 28)).alloc (.cells #[.slice b n' c'] 28)) w.heap.size 28 #[.slice a n c] := (blk_at rfl).alloc _
  have kb : Blk ((w.alloc (.cells #[.slice a n c] 28)).alloc (.cells #[.slice b n' c'] 28)) (w.heap.size + 1) 28 #[.slice b n' c'] := blk_at (by simp)
  have HD := Lib.hid (hd.below b0)
  have HE := Lib.hid (he.below b0)
  have hz1 := b0.size
  have hL1 := Lib.hid (fun (w : World) (h : RdSSc w (.slice a n c) d) => api_implLf a n c d w h (man_few hM))
  have hL2 := Lib.hid (fun (w : World) (h : RdSSc w (.slice b n' c') e) => api_implLf b n' c' e w h (man_few hM'))
  have i1 : irC d = 0 := by unfold irC; rw [manB_yes hM]; rfl
  have i2 : irC e = 0 := by unfold irC; rw [manB_yes hM']; rfl
  rw [i1] at hL1
  rw [i2, ← hl] at hL2
  clear hd he i1 i2 hM hM' hl
  generalize lfR d = R at *
  go_enter Try.func19, Try.ntmps19
  go_upto_region 1 with fail
  generalize (w.alloc (.cells #[.slice a n c] 28)).alloc (.cells #[.slice b n' c'] 28) = w1 at *
  have B1 := Lib.hid b0
  have x0 := ka.cell 0
  simp at x0
  have KB := Lib.hid kb
  clear b0 kb
  go_wp2_with fail
  refine (hL1.out w1 HD.out).mono ?_
  rintro r w2 ⟨v2, rfl, o2, b2⟩
  obtain ⟨a2, n2, c2, rfl⟩ := o2.form
  have z2 := b2.size
  have kA := below_alloc1 w2 (.cells #[.slice a2 n2 c2] 28)
  have B3 := Lib.hid ((B1.out.trans (b2.mono hz1)).trans (kA.mono (by omega)))
  have O3 := Lib.hid (o2.below kA)
  have HE3 := Lib.hid ((HE.out.below b2).below kA)
  have k3 : Blk (w2.alloc (.cells #[.slice a2 n2 c2] 28)) w2.heap.size 28 #[.slice a2 n2 c2] := blk_at rfl
  have kb3 := (KB.out.belowS b2).belowS kA
  clear HD HE B1 KB ka x0 o2 b2 kA hL1
  go_upto_region 2 with fail
  generalize w2.alloc (.cells #[.slice a2 n2 c2] 28) = w3 at *
  have z3 := k3.lt
  have y0 := kb3.cell 0
  simp at y0
  have K3 := Lib.hid k3
  clear k3
  go_wp2_with fail
  refine (hL2.out w3 HE3.out).mono ?_
  rintro r w4 ⟨v4, rfl, o4, b4⟩
  obtain ⟨a4, n4, c4, rfl⟩ := o4.form
  have z4 := b4.size
  have kA := below_alloc1 w4 (.cells #[.slice a4 n4 c4] 28)
  have B5 := Lib.hid ((B3.out.trans (b4.mono (by omega))).trans (kA.mono (by omega)))
  have O5 := Lib.hid ((O3.out.below b4).below kA)
  have P5 := Lib.hid (o4.below kA)
  have k5 : Blk (w4.alloc (.cells #[.slice a4 n4 c4] 28)) w4.heap.size 28 #[.slice a4 n4 c4] := blk_at rfl
  have k3' := (K3.out.belowS b4).belowS kA
  clear B3 O3 HE3 kb3 y0 K3 o4 b4 kA hL2
  go_upto_region 3 with fail
  generalize w4.alloc (.cells #[.slice a4 n4 c4] 28) = w5 at *
  have x5 := k5.cell 0
  have y5 := k3'.cell 0
  simp at x5 y5
  have hR1 := O5.out.rdcM
  have hR2 := P5.out.rdcM
  go_wp2_with fail
  refine (like5_any w5 hR1.1.rd hR2.1.rd).mono ?_
  rintro r w6 ⟨rfl, b6⟩
  have B6 := Lib.hid (B5.out.trans (b6.mono B5.out.size))
  clear b6 hR1 hR2
  go_wp2_with fail
  go_ret
  exact ⟨rfl, B6.out⟩
end Go.Proofs.Ytmdhljleaijkbaa

/- The laws' dice: roll, below. -/
namespace Go.Proofs.Ytmdhljleaijkbaa
open Go.RowKit

/-- the dice: their box, the code lies below it -/
structure DSrc (w : World) (sb : Nat) : Prop where
  box : ∃ (ao : Option Addr) (n c k h : Nat), Blk w sb 78 #[.slice ao n c, .int .i64 k, .int .u64 h] ∧ h < 18446744073709551616 ∧ k ≤ n ∧ Bts w ao n sb
theorem DSrc.only {w w' : World} {sb lo hi : Nat} (h : DSrc w sb) (ho : Only lo hi w w') (hl : sb < lo) : DSrc w' sb := by
  obtain ⟨ao, n, c, k, hh, h1, h2, h3, h4⟩ := h.box
  exact ⟨ao, n, c, k, hh, h1.only ho (.inl hl), h2, h3, h4.only ho (by omega)⟩
theorem DSrc.far {w w' : World} {sb : Nat} (h : DSrc w sb) (hs : ∀ g, g ≤ sb → w'.heap[g]? = w.heap[g]?) : DSrc w' sb := by
  obtain ⟨ao, n, c, k, hh, h1, h2, h3, h4⟩ := h.box
  refine ⟨ao, n, c, k, hh, (hs sb (Nat.le_refl _)).trans h1, h2, h3, h4.1, fun hn => ?_⟩
  obtain ⟨b, off, e, hb, hc⟩ := h4.2 hn
  refine ⟨b, off, e, hb, fun j hj => ?_⟩
  obtain ⟨x, hx, hcx⟩ := hc j hj
  exact ⟨x, hx, (World.cell?_of_block (hs b (by omega))).trans hcx⟩

set_option maxHeartbeats 3200000 in
theorem below_any (sb : Nat) (z : Int) (w : World) (h : DSrc w sb) (hz : -4611686018427387904 ≤ z ∧ z ≤ 4611686018427387904) :
    Calls Try.prog 28 #[.pointer (some ⟨sb, 0, none⟩), .int .i64 z] w fun e w' => ∃ r : Nat, e = .returned (.int .i64 r) ∧ (z < 1 → r = 0) ∧ (1 ≤ z → (r : Int) < z) ∧ DSrc w' sb ∧ Only sb (sb + 1) w w' := by
  obtain ⟨ao, n, c, k, hh, hB, h2, h3, h4⟩ := h.box
  have x0 := hB.cell 0
  have x1 := hB.cell 1
  have x2 := hB.cell 2
  have f1 := hB.frozen 1
  have f2 := hB.frozen 2
  simp at x0 x1 x2
  by_cases hz1 : z < 1
  · have e0 : decide (z < 1) = true := by simp [hz1]
    go_enter Try.func28, Try.ntmps28
    go_wp2
    go_ret
    exact ⟨0, rfl, fun _ => rfl, fun h => by omega, h, Only.refl _ _ _⟩
  · have e0 : decide (z < 1) = false := by simp; omega
    go_enter Try.func28, Try.ntmps28
    go_wp2_with fail
    obtain ⟨H, hH1, hH2⟩ := wrap_u64_of (IntKind.u64.wrap ((hh : Int) * 6364136223846793005) + 1442695040888963407)
    rw [hH2]
    obtain ⟨X, hX1, hX2⟩ := low24 ((H : Int) / 8589934592)
    rw [hX2]
    have B1 : Blk (w.setCell ⟨sb, 2, none⟩ (.int .u64 (H : Int))) sb 78 #[.slice ao n c, .int .i64 k, .int .u64 H] := hB.set_ 2 _
    have O1 : Only sb (sb + 1) w (w.setCell ⟨sb, 2, none⟩ (.int .u64 (H : Int))) := only_set _ _ 2 _
    generalize w.setCell ⟨sb, 2, none⟩ (.int .u64 (H : Int)) = w1 at *
    have h5 : Bts w1 ao n sb := h4.only O1 (Nat.le_refl _)
    have y0 := B1.cell 0
    have y1 := B1.cell 1
    have g1 := B1.frozen 1
    simp at y0 y1
    clear x0 x1 x2 f1 f2 hH2 hX2 h4 hB
    have hn := h5.1
    have hzz : (z == 0) = false := by simp; omega
    have fin : ∀ (Y k' : Nat) (w2 : World), Y ≤ 33554432 → k' ≤ n → Blk w2 sb 78 #[.slice ao n c, .int .i64 k', .int .u64 H] → Only sb (sb + 1) w1 w2 → ∃ r : Nat, Ending.returned (Value.int .i64 ((Y : Int) % z)) = Ending.returned (.int .i64 r) ∧ (z < 1 → r = 0) ∧ (1 ≤ z → (r : Int) < z) ∧ DSrc w2 sb ∧ Only sb (sb + 1) w w2 := fun Y k' w2 hY hk' hB2 hO2 => by
      have e2 := Int.emod_nonneg (Y : Int) (show z ≠ 0 by omega)
      have e3 := Int.emod_lt_of_pos (Y : Int) (show 0 < z by omega)
      exact ⟨((Y : Int) % z).toNat, by rw [Int.toNat_of_nonneg e2], fun h => by omega, fun _ => by omega, ⟨ao, n, c, k', H, hB2, hH1, hk', h5.only hO2 (Nat.le_refl _)⟩, O1.trans hO2⟩
    by_cases hk : k < n
    · obtain ⟨b, off, rfl, hb, hc⟩ := h5.2 (by omega)
      obtain ⟨x, hx, hcx⟩ := hc k hk
      go_quiet (fail)
      go_wp2_with fail
      go_quiet (fail)
      go_wp2
      go_ret
      have key := fin (X + x) (k + 1)
      rw [Int.natCast_add] at key
      exact key _ (by omega) (by omega) (B1.set_ 1 (.int .i64 ((k : Int) + 1))) ⟨rfl, rfl, rfl, by simp [World.setCell, World.drewN], fun a ha hd => Below.heap_setCell w1 ⟨sb, 1, none⟩ (.int .i64 ((k : Int) + 1)) a (by show a ≠ sb; omega)⟩
    · go_quiet (fail)
      go_wp2
      go_ret
      exact fin X k _ (by omega) h3 (B1.drewN _) ⟨rfl, rfl, rfl, Nat.le_refl _, fun _ _ _ => rfl⟩

end Go.Proofs.Ytmdhljleaijkbaa

/- roll with the seed of FnCoverings. -/
namespace Go.Proofs.Ytmdhljleaijkbaa
open Go.RowKit

set_option maxRecDepth 100000 in
set_option maxHeartbeats 3200000 in
theorem roll712_any (ao : Option Addr) (n c : Nat) (w : World) (h : Bts w ao n w.heap.size) :
    Calls Try.prog 27 #[.slice ao n c, .int .u64 712] w fun e w' => e = .returned (.pointer (some ⟨w.heap.size, 0, none⟩)) ∧ DSrc w' w.heap.size ∧ w.heap.size < w'.heap.size ∧ Below w.heap.size w w' := by
  have hn := h.1
  go_enter Try.func27, Try.ntmps27
  go_wp2
  go_loopw [6] (fun i wr => ∃ k hh : Nat, k ≤ n ∧ i = .int .i64 k ∧ hh < 18446744073709551616 ∧ Blk wr w.heap.size 78 #[.slice ao n c, .int .i64 0, .int .u64 hh] ∧ Below w.heap.size w wr ∧ w.heap.size < wr.heap.size) (fun i _ => n - (intOf i).toNat)
  case atStart => exact ⟨0, 5468872 + n, Nat.zero_le _, rfl, by omega, blk_at rfl, below_alloc1 _ _, by simp⟩
  case round =>
    obtain ⟨k, hh, hk, rfl, hh1, hB, hb, hs⟩ := hrel
    have done : DSrc wr w.heap.size := ⟨ao, n, c, 0, hh, hB, hh1, Nat.zero_le _, h.below hb⟩
    by_cases hlt : k < n
    · obtain ⟨b, off, rfl, hbb, hc⟩ := (h.below hb).2 (by omega)
      obtain ⟨x, hx, hcx⟩ := hc k hlt
      have x2 := hB.cell 2
      have f2 := hB.frozen 2
      simp at x2
      obtain ⟨A, hA1, hA2⟩ := wrap_u64_of ((hh : Int) * 1099511628211)
      obtain ⟨C, hC1, hC2⟩ := wrap_u64_of ((A : Int) + x)
      obtain ⟨D, hD1, hD2⟩ := wrap_u64_of ((C : Int) + 5)
      have e1 : IntKind.u64.wrap (x : Int) = (x : Int) := by rw [IntKind.wrap_u64]; omega
      have HB := Lib.hid hB
      clear hB hc done h
      go_wp2_with fail
      go_region_law (fail)
      all_goals
        have hb2 := hb.setCell (p := ⟨w.heap.size, 2, none⟩) (Nat.le_refl _) (.int .u64 (D : Int))
        go_wp2
        go_roundw
        case rel => exact ⟨k + 1, D, by omega, by go_num, hD1, HB.out.set_ 2 (.int .u64 (D : Int)), ⟨hb2.os, hb2.tape, hb2.output, hb2.size, hb2.block⟩, by simpa [World.setCell] using hs⟩
        case measure => simp [intOf]; omega
    · obtain rfl : k = n := by omega
      go_wp2
      go_ret
      exact ⟨rfl, done, hs, hb⟩
end Go.Proofs.Ytmdhljleaijkbaa

/- The laws' helpers on words and codes: times9, big. -/
namespace Go.Proofs.Ytmdhljleaijkbaa
open Go.RowKit

theorem big_any (ao : Option Addr) (n c : Nat) (w : World) : Calls Try.prog 5 #[.slice ao n c] w fun e w' => e = .returned (.bool (decide (4096 < n))) ∧ w' = w := by
  by_cases h : 4096 < n
  · have e0 : decide ((4096 : Int) < n) = true := by simp; omega
    go_enter Try.func5, Try.ntmps5
    go_wp2
    go_ret
    exact ⟨by simp [h], rfl⟩
  · have e0 : decide ((4096 : Int) < n) = false := by simp; omega
    go_enter Try.func5, Try.ntmps5
    go_wp2
    go_ret
    exact ⟨by simp [h], rfl⟩
end Go.Proofs.Ytmdhljleaijkbaa
