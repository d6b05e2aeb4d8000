/- The orbit of a point, the reference's: l01Orbit. -/
import Derived.Test.YtpognnifgcacnaaPart2
import Derived.Test.YtpognnifgcacnaaPart1
import Derived.Laws.CopyOwn
import Derived.Deep.RegionLaw
import Derived.RegionTactic
import Derived.Deep.RegionHeld3
import Derived.Lib.LazyBuf
import Derived.Lib.SliceRun
import Derived.Test.YtpognnifgcacnaaProg
import Derived.Laws.StructEq
import Derived.Maps.OwnSet
import Derived.Deep.DeepCutAuto
import Derived.Deep.CutBlock
namespace Go.Proofs.Ytpognnifgcacnaa
open Go.RowKit

theorem bat_pad {a p : List Bool} {d : Nat} (h : d < a.length) : bat (a ++ p) d = bat a d := by simp [bat, List.getElem?_append_left h]
theorem set_padB {a p : List Bool} {d : Nat} (h : d < a.length) (b : Bool) : (a ++ p).set d b = a.set d b ++ p := List.set_append_left _ _ h
set_option maxRecDepth 100000 in
set_option maxHeartbeats 2000000 in
theorem orbS_fc (zss : List (List Int)) (n c : Nat) (hT : Leads zss n) (hpos : 0 < zss.length) (hn : n ≤ 1000000) (hg : zss.length ≤ 1000000) (hc : c < n) :
    FC Try.prog 177 [(1003, rowsRo zss)] [o1 (.sl 1003 0 zss.length), vv (I6 c)] [(12, leOw (orb zss n c).2)] (o1 (.sl 12 0 (orb zss n c).2.length)) [] := by
  have hlen : (irows zss).length = zss.length := irows_len _
  have hr0 : (lget zss 0).length = n := hT.len 0 hpos
  have hrow0 : (irows zss)[0]? = some (ivals (lget zss 0)) := irows_get hpos
  have hil : (ivals (lget zss 0)).length = n := by rw [ivals_len]; exact hr0
  refine fc_enter (nt := 63) Try.func177 rfl rfl (by simp) fun w0 ω0 => ?_
  (refine goes_seq ?_; refine goes_region ?_; apply run_step rfl; (exact stp_assign rfl rfl); refine run_nil ?_; refine fin_seq ?_; refine goes_seq ?_; refine goes_region ?_; apply run_step rfl; (exact stp_move rfl rfl); apply run_step rfl; (exact stp_lit1I (E := 2) rfl (by as_aux_lemma => kernel_rfl) rfl); apply run_step rfl; (exact stp_assign rfl rfl); refine run_nil ?_; refine fin_seq ?_; refine goes_seq ?_; refine goes_region ?_; apply run_step rfl; (exact stp_assign rfl rfl); refine run_nil ?_; refine fin_seq ?_; refine goes_seq ?_; refine goes_seq ?_; refine goes_region ?_; apply run_step rfl; (exact stp_move rfl rfl); apply run_step rfl; (exact stp_len rfl rfl rfl (by as_aux_lemma => kernel_rfl)); apply run_step rfl; (exact stp_bin rfl rfl rfl rfl); refine run_nil ?_; refine fin_seq ?_)
  refine goes_if rfl (fun _ => ?_) (fun h => absurd hpos (by omega))
  have hm0 : ((n : Int) + (c : Int) + 1) = ((n + c + 1 : Nat) : Int) := by omega
  have hrp : (List.replicate (n + c + 1) false).length = n + c + 1 := by simp
  have hst : (List.replicate (n + c + 1) false).set c true = (oStart n c).1 ++ List.replicate (c + 1) false := by
    rw [show n + c + 1 = n + (c + 1) by omega, ← List.replicate_append_replicate, set_padB (by simpa using hc)]; rfl
  have hbl : n + c + 1 ≤ (bvals (List.replicate (n + c + 1) false)).length := by rw [bvals_len]; simp
  (refine goes_region ?_; apply run_step rfl; (exact stp_move rfl rfl); apply run_step rfl; (first | exact stp_ix (j := 0) rfl rfl rfl rfl rfl (by as_aux_lemma => kernel_rfl) rfl hpos (Nat.le_of_eq hlen.symm) | exact stp_loadR rfl (by as_aux_lemma => kernel_rfl) rfl rfl rfl hrow0 hil | exact stp_makeB (n := n + c + 1) (E := 4) rfl (by as_aux_lemma => kernel_rfl) (by as_aux_lemma => kernel_rfl) rfl rfl hm0 hm0 (by omega) | exact stp_ix (j := c) rfl rfl rfl rfl rfl (by as_aux_lemma => kernel_rfl) rfl (by omega) hbl | exact stp_stB (bs := List.replicate (n + c + 1) false) rfl rfl rfl rfl rfl (by rw [hrp]; omega) (by as_aux_lemma => kernel_rfl)); apply run_step rfl; (first | exact stp_ix (j := 0) rfl rfl rfl rfl rfl (by as_aux_lemma => kernel_rfl) rfl hpos (Nat.le_of_eq hlen.symm) | exact stp_loadR rfl (by as_aux_lemma => kernel_rfl) rfl rfl rfl hrow0 hil | exact stp_makeB (n := n + c + 1) (E := 4) rfl (by as_aux_lemma => kernel_rfl) (by as_aux_lemma => kernel_rfl) rfl rfl hm0 hm0 (by omega) | exact stp_ix (j := c) rfl rfl rfl rfl rfl (by as_aux_lemma => kernel_rfl) rfl (by omega) hbl | exact stp_stB (bs := List.replicate (n + c + 1) false) rfl rfl rfl rfl rfl (by rw [hrp]; omega) (by as_aux_lemma => kernel_rfl)); apply run_step rfl; (exact stp_len rfl rfl rfl (by as_aux_lemma => kernel_rfl)); apply run_step rfl; (exact stp_assign rfl rfl); refine run_nil ?_; refine fin_seq ?_; refine goes_seq ?_; refine goes_region ?_; apply run_step rfl; (exact stp_move rfl rfl); apply run_step rfl; (exact stp_move rfl rfl); apply run_step rfl; (exact stp_add rfl rfl rfl (by first | exact IntWalk.i64_in _ (by omega) | rfl)); apply run_step rfl; (exact stp_add rfl rfl rfl (by first | exact IntWalk.i64_in _ (by omega) | rfl)); apply run_step rfl; (first | exact stp_ix (j := 0) rfl rfl rfl rfl rfl (by as_aux_lemma => kernel_rfl) rfl hpos (Nat.le_of_eq hlen.symm) | exact stp_loadR rfl (by as_aux_lemma => kernel_rfl) rfl rfl rfl hrow0 hil | exact stp_makeB (n := n + c + 1) (E := 4) rfl (by as_aux_lemma => kernel_rfl) (by as_aux_lemma => kernel_rfl) rfl rfl hm0 hm0 (by omega) | exact stp_ix (j := c) rfl rfl rfl rfl rfl (by as_aux_lemma => kernel_rfl) rfl (by omega) hbl | exact stp_stB (bs := List.replicate (n + c + 1) false) rfl rfl rfl rfl rfl (by rw [hrp]; omega) (by as_aux_lemma => kernel_rfl)); apply run_step rfl; (exact stp_assign rfl rfl); refine run_nil ?_; refine fin_seq ?_; refine goes_seq ?_; refine goes_region ?_; apply run_step rfl; (exact stp_move rfl rfl); apply run_step rfl; (exact stp_move rfl rfl); apply run_step rfl; (first | exact stp_ix (j := 0) rfl rfl rfl rfl rfl (by as_aux_lemma => kernel_rfl) rfl hpos (Nat.le_of_eq hlen.symm) | exact stp_loadR rfl (by as_aux_lemma => kernel_rfl) rfl rfl rfl hrow0 hil | exact stp_makeB (n := n + c + 1) (E := 4) rfl (by as_aux_lemma => kernel_rfl) (by as_aux_lemma => kernel_rfl) rfl rfl hm0 hm0 (by omega) | exact stp_ix (j := c) rfl rfl rfl rfl rfl (by as_aux_lemma => kernel_rfl) rfl (by omega) hbl | exact stp_stB (bs := List.replicate (n + c + 1) false) rfl rfl rfl rfl rfl (by rw [hrp]; omega) (by as_aux_lemma => kernel_rfl)); apply run_step rfl; (first | exact stp_ix (j := 0) rfl rfl rfl rfl rfl (by as_aux_lemma => kernel_rfl) rfl hpos (Nat.le_of_eq hlen.symm) | exact stp_loadR rfl (by as_aux_lemma => kernel_rfl) rfl rfl rfl hrow0 hil | exact stp_makeB (n := n + c + 1) (E := 4) rfl (by as_aux_lemma => kernel_rfl) (by as_aux_lemma => kernel_rfl) rfl rfl hm0 hm0 (by omega) | exact stp_ix (j := c) rfl rfl rfl rfl rfl (by as_aux_lemma => kernel_rfl) rfl (by omega) hbl | exact stp_stB (bs := List.replicate (n + c + 1) false) rfl rfl rfl rfl rfl (by rw [hrp]; omega) (by as_aux_lemma => kernel_rfl)); refine run_nil ?_; refine fin_seq ?_; refine goes_seq ?_; refine goes_seq ?_; refine goes_region ?_; apply run_step rfl; (exact stp_assign rfl rfl); refine run_nil ?_; refine fin_seq ?_; refine goes_block ?_)
  rw [hst]
  generalize hm : 2 ^ zss.length - 1 = mask
  have hstep : ∀ k, k < zss.length → ∀ c s, mStep zss mask c s k = oStep zss c s k := fun k hk c s => by rw [← hm]; exact oStep_eq hk c s
  have hout : orb zss n c = mLoop zss mask zss.length (n + 1) 0 (oStart n c) := by rw [← hm]; rfl
  rw [hout]
  refine goes_loop (fun q : Nat × MSt => St.of [(0, o1 (.sl 1003 0 zss.length)), (5, o1 (.sl 12 0 q.2.2.length)), (7, o1 (.sl 24 0 (n + c + 1))), (8, vv (I6 q.1))] [(1003, rowsRo zss), (12, leOw q.2.2), (24, boOw (q.2.1 ++ List.replicate (c + 1) false))])
    (fun q => q.1 ≤ q.2.2.length ∧ MOK n q.2 ∧ mLoop zss mask zss.length (n + 1 - q.1) q.1 q.2 = mLoop zss mask zss.length (n + 1) 0 (oStart n c)) (fun q => n + 1 - q.1) (0, oStart n c) ⟨Nat.zero_le _, oStart_ok hc, rfl⟩ (Wk.of ⟨rfl, rfl, rfl, rfl, trivial⟩ ⟨rfl, rfl, rfl, trivial⟩ trivial) ?_
  rintro ⟨i, s⟩ ⟨hi, hok, hl⟩
  dsimp only at hi hl ⊢
  have hOn : s.2.length ≤ n := hok.le
  (refine goes_seq ?_; refine goes_seq ?_; refine goes_region ?_; apply run_step rfl; (exact stp_move rfl rfl); apply run_step rfl; (exact stp_move rfl rfl); apply run_step rfl; (exact stp_len rfl rfl rfl (by as_aux_lemma => kernel_rfl)); apply run_step rfl; (exact stp_bin rfl rfl rfl rfl); refine run_nil ?_; refine fin_seq ?_)
  refine goes_if rfl (fun h => ?_) (fun h => ?_)
  · have hlt : i < s.2.length := by omega
    have hl' : mLoop zss mask zss.length (n - i) (i + 1) (mRow zss mask zss.length (iget s.2 i).toNat s) = mLoop zss mask zss.length (n + 1) 0 (oStart n c) := by
      rw [← hl, show n + 1 - i = (n - i) + 1 by omega]; exact (mLoop_step hlt).symm
    obtain ⟨e, he1, he2, -⟩ := hok.q i hlt
    rw [he1, Int.toNat_natCast] at hl'
    have hro := fun m hm => mRow_ok (mask := mask) hT rfl he2 hok m hm
    obtain ⟨s0, hs0⟩ : ∃ s0 : MSt, s0 = s := ⟨_, rfl⟩
    rw [← hs0] at hro hl'
    have hi0 : i < s0.2.length := by rw [hs0]; exact hlt
    have he0 : iget s0.2 i = (e : Int) := by rw [hs0]; exact he1
    (refine goes_skip ?_; refine fin_seq ?_; refine goes_seq ?_; refine goes_block ?_; refine goes_seq ?_; refine goes_region ?_; apply run_step rfl; (exact stp_assign rfl rfl); refine run_nil ?_; refine fin_seq ?_; refine goes_block ?_)
    refine goes_loop (fun q : Nat × MSt => St.of [(0, o1 (.sl 1003 0 zss.length)), (5, o1 (.sl 12 0 q.2.2.length)), (7, o1 (.sl 24 0 (n + c + 1))), (8, vv (I6 i)), (9, vv (I6 q.1))] [(1003, rowsRo zss), (12, leOw q.2.2), (24, boOw (q.2.1 ++ List.replicate (c + 1) false))])
      (fun q => q.1 ≤ zss.length ∧ (List.range q.1).foldl (mStep zss mask e) s0 = q.2) (fun q => zss.length - q.1) (0, s) ⟨Nat.zero_le _, hs0⟩ (Wk.of ⟨rfl, rfl, rfl, rfl, rfl, trivial⟩ ⟨rfl, rfl, rfl, trivial⟩ trivial) ?_
    clear hl hok hs0 he1 hlt h hi hOn
    rintro ⟨k, s⟩ ⟨hk, hfo⟩
    dsimp only at hk hfo ⊢
    obtain ⟨hok, grw, _⟩ := hro k hk
    rw [hfo] at hok grw
    have hOn : s.2.length ≤ n := hok.le
    have hlt : i < s.2.length := Nat.lt_of_lt_of_le hi0 grw.len
    have hei : iget s.2 i = (e : Int) := (grw.pre i hi0).trans he0
    have hbl : s.1.length = n := hok.l
    (refine goes_seq ?_; refine goes_seq ?_; refine goes_region ?_; apply run_step rfl; (exact stp_move rfl rfl); apply run_step rfl; (exact stp_move rfl rfl); apply run_step rfl; (exact stp_len rfl rfl rfl (by as_aux_lemma => kernel_rfl)); apply run_step rfl; (exact stp_bin rfl rfl rfl rfl); refine run_nil ?_; refine fin_seq ?_)
    refine goes_if rfl (fun h2 => ?_) (fun h2 => ?_)
    · have hkn : k < zss.length := by omega
      have hd := bTo_lt hT he2 (g := k) hkn
      have hrl : (lget zss k).length = n := hT.len k hkn
      have hrowk : (irows zss)[k]? = some (ivals (lget zss k)) := irows_get hkn
      have hilk : (ivals (lget zss k)).length = n := by rw [ivals_len]; exact hrl
      obtain ⟨d, hdd⟩ : ∃ d, bTo zss e k = d := ⟨_, rfl⟩
      have hst : (List.range (k + 1)).foldl (mStep zss mask e) s0 = oStep zss e s k := by
        rw [List.range_succ, List.foldl_append, hfo]; exact hstep k hkn e s
      unfold oStep at hst
      rw [hdd] at hd hst
      have hgetd : (ivals (lget zss k))[e]? = some (I6 (d : Int)) := by rw [ivals_get (by omega), hd.2]
      have hgq : (ivals s.2)[i]? = some (I6 (e : Int)) := by rw [ivals_get hlt, hei]
      have hgb : (bvals (s.1 ++ List.replicate (c + 1) false))[d]? = some (.bool (bat s.1 d)) := by rw [bvals_get (by rw [List.length_append]; omega), bat_pad (by omega)]
      have hel : e < (ivals (lget zss k)).length := by rw [hilk]; exact he2
      have hbb : n + c + 1 ≤ (bvals (s.1 ++ List.replicate (c + 1) false)).length := by rw [bvals_len, List.length_append, hbl, List.length_replicate]; omega
      have hq0 : s.2.length ≤ (ivals s.2).length := by rw [ivals_len]; exact Nat.le_refl _
      (refine goes_skip ?_; refine fin_seq ?_; refine goes_seq ?_; refine goes_block ?_; refine goes_seq ?_)
      apply goes_draw 11 [] [[], [], [0, 1], [0, 1, 2], [], [], [4, 5], [4, 5, 6], [0, 1, 2, 3, 4, 5, 6, 7], [0, 1, 2, 3, 4, 5, 6, 7, 8], [0, 1, 2, 3, 4, 5, 6, 7, 8, 9]] [40, 41, 42, 43, 44, 45, 46, 47, 48, 49, 10] [] (by kernel_rfl) (by kernel_rfl)
      · (apply draw_put rfl; (intro S1 hS; exact stp_move rfl (hS.op rfl)); apply draw_put rfl; (intro S1 hS; exact stp_move rfl (hS.op rfl)); (first | (apply draw_put rfl; (focus (intro S1 hS; exact stp_ix (j := k) rfl (hS.op rfl) (hS.op rfl) (hS.ch _ _ rfl) rfl (by as_aux_lemma => kernel_rfl) rfl hkn (Nat.le_of_eq hlen.symm)))) | (apply draw_put rfl; (focus (intro S1 hS; exact stp_loadR rfl (by as_aux_lemma => kernel_rfl) (hS.op rfl) (hS.ch _ _ rfl) rfl hrowk hilk))) | (apply draw_put rfl; (focus (intro S1 hS; exact stp_ix (j := i) rfl (hS.op rfl) (hS.op rfl) (hS.ch _ _ rfl) rfl (by as_aux_lemma => kernel_rfl) rfl hlt hq0))) | (apply draw_put rfl; (focus (intro S1 hS; exact stp_loadV rfl (by as_aux_lemma => kernel_rfl) (hS.op rfl) (hS.ch _ _ rfl) rfl hgq))) | (apply draw_put rfl; (focus (intro S1 hS; exact stp_ixE (j := e) rfl (hS.op rfl) (hS.op rfl) (hS.ch _ _ rfl) rfl (by as_aux_lemma => kernel_rfl) hrowk rfl he2 (Nat.le_of_eq hilk.symm)))) | (apply draw_put rfl; (focus (intro S1 hS; exact stp_loadE' rfl (by as_aux_lemma => kernel_rfl) (hS.op rfl) (hS.ch _ _ rfl) rfl hrowk hgetd)))); (first | (apply draw_put rfl; (focus (intro S1 hS; exact stp_ix (j := k) rfl (hS.op rfl) (hS.op rfl) (hS.ch _ _ rfl) rfl (by as_aux_lemma => kernel_rfl) rfl hkn (Nat.le_of_eq hlen.symm)))) | (apply draw_put rfl; (focus (intro S1 hS; exact stp_loadR rfl (by as_aux_lemma => kernel_rfl) (hS.op rfl) (hS.ch _ _ rfl) rfl hrowk hilk))) | (apply draw_put rfl; (focus (intro S1 hS; exact stp_ix (j := i) rfl (hS.op rfl) (hS.op rfl) (hS.ch _ _ rfl) rfl (by as_aux_lemma => kernel_rfl) rfl hlt hq0))) | (apply draw_put rfl; (focus (intro S1 hS; exact stp_loadV rfl (by as_aux_lemma => kernel_rfl) (hS.op rfl) (hS.ch _ _ rfl) rfl hgq))) | (apply draw_put rfl; (focus (intro S1 hS; exact stp_ixE (j := e) rfl (hS.op rfl) (hS.op rfl) (hS.ch _ _ rfl) rfl (by as_aux_lemma => kernel_rfl) hrowk rfl he2 (Nat.le_of_eq hilk.symm)))) | (apply draw_put rfl; (focus (intro S1 hS; exact stp_loadE' rfl (by as_aux_lemma => kernel_rfl) (hS.op rfl) (hS.ch _ _ rfl) rfl hrowk hgetd)))); apply draw_put rfl; (intro S1 hS; exact stp_move rfl (hS.op rfl)); apply draw_put rfl; (intro S1 hS; exact stp_move rfl (hS.op rfl)); (first | (apply draw_put rfl; (focus (intro S1 hS; exact stp_ix (j := k) rfl (hS.op rfl) (hS.op rfl) (hS.ch _ _ rfl) rfl (by as_aux_lemma => kernel_rfl) rfl hkn (Nat.le_of_eq hlen.symm)))) | (apply draw_put rfl; (focus (intro S1 hS; exact stp_loadR rfl (by as_aux_lemma => kernel_rfl) (hS.op rfl) (hS.ch _ _ rfl) rfl hrowk hilk))) | (apply draw_put rfl; (focus (intro S1 hS; exact stp_ix (j := i) rfl (hS.op rfl) (hS.op rfl) (hS.ch _ _ rfl) rfl (by as_aux_lemma => kernel_rfl) rfl hlt hq0))) | (apply draw_put rfl; (focus (intro S1 hS; exact stp_loadV rfl (by as_aux_lemma => kernel_rfl) (hS.op rfl) (hS.ch _ _ rfl) rfl hgq))) | (apply draw_put rfl; (focus (intro S1 hS; exact stp_ixE (j := e) rfl (hS.op rfl) (hS.op rfl) (hS.ch _ _ rfl) rfl (by as_aux_lemma => kernel_rfl) hrowk rfl he2 (Nat.le_of_eq hilk.symm)))) | (apply draw_put rfl; (focus (intro S1 hS; exact stp_loadE' rfl (by as_aux_lemma => kernel_rfl) (hS.op rfl) (hS.ch _ _ rfl) rfl hrowk hgetd)))); (first | (apply draw_put rfl; (focus (intro S1 hS; exact stp_ix (j := k) rfl (hS.op rfl) (hS.op rfl) (hS.ch _ _ rfl) rfl (by as_aux_lemma => kernel_rfl) rfl hkn (Nat.le_of_eq hlen.symm)))) | (apply draw_put rfl; (focus (intro S1 hS; exact stp_loadR rfl (by as_aux_lemma => kernel_rfl) (hS.op rfl) (hS.ch _ _ rfl) rfl hrowk hilk))) | (apply draw_put rfl; (focus (intro S1 hS; exact stp_ix (j := i) rfl (hS.op rfl) (hS.op rfl) (hS.ch _ _ rfl) rfl (by as_aux_lemma => kernel_rfl) rfl hlt hq0))) | (apply draw_put rfl; (focus (intro S1 hS; exact stp_loadV rfl (by as_aux_lemma => kernel_rfl) (hS.op rfl) (hS.ch _ _ rfl) rfl hgq))) | (apply draw_put rfl; (focus (intro S1 hS; exact stp_ixE (j := e) rfl (hS.op rfl) (hS.op rfl) (hS.ch _ _ rfl) rfl (by as_aux_lemma => kernel_rfl) hrowk rfl he2 (Nat.le_of_eq hilk.symm)))) | (apply draw_put rfl; (focus (intro S1 hS; exact stp_loadE' rfl (by as_aux_lemma => kernel_rfl) (hS.op rfl) (hS.ch _ _ rfl) rfl hrowk hgetd)))); (first | (apply draw_put rfl; (focus (intro S1 hS; exact stp_ix (j := k) rfl (hS.op rfl) (hS.op rfl) (hS.ch _ _ rfl) rfl (by as_aux_lemma => kernel_rfl) rfl hkn (Nat.le_of_eq hlen.symm)))) | (apply draw_put rfl; (focus (intro S1 hS; exact stp_loadR rfl (by as_aux_lemma => kernel_rfl) (hS.op rfl) (hS.ch _ _ rfl) rfl hrowk hilk))) | (apply draw_put rfl; (focus (intro S1 hS; exact stp_ix (j := i) rfl (hS.op rfl) (hS.op rfl) (hS.ch _ _ rfl) rfl (by as_aux_lemma => kernel_rfl) rfl hlt hq0))) | (apply draw_put rfl; (focus (intro S1 hS; exact stp_loadV rfl (by as_aux_lemma => kernel_rfl) (hS.op rfl) (hS.ch _ _ rfl) rfl hgq))) | (apply draw_put rfl; (focus (intro S1 hS; exact stp_ixE (j := e) rfl (hS.op rfl) (hS.op rfl) (hS.ch _ _ rfl) rfl (by as_aux_lemma => kernel_rfl) hrowk rfl he2 (Nat.le_of_eq hilk.symm)))) | (apply draw_put rfl; (focus (intro S1 hS; exact stp_loadE' rfl (by as_aux_lemma => kernel_rfl) (hS.op rfl) (hS.ch _ _ rfl) rfl hrowk hgetd)))); (first | (apply draw_put rfl; (focus (intro S1 hS; exact stp_ix (j := k) rfl (hS.op rfl) (hS.op rfl) (hS.ch _ _ rfl) rfl (by as_aux_lemma => kernel_rfl) rfl hkn (Nat.le_of_eq hlen.symm)))) | (apply draw_put rfl; (focus (intro S1 hS; exact stp_loadR rfl (by as_aux_lemma => kernel_rfl) (hS.op rfl) (hS.ch _ _ rfl) rfl hrowk hilk))) | (apply draw_put rfl; (focus (intro S1 hS; exact stp_ix (j := i) rfl (hS.op rfl) (hS.op rfl) (hS.ch _ _ rfl) rfl (by as_aux_lemma => kernel_rfl) rfl hlt hq0))) | (apply draw_put rfl; (focus (intro S1 hS; exact stp_loadV rfl (by as_aux_lemma => kernel_rfl) (hS.op rfl) (hS.ch _ _ rfl) rfl hgq))) | (apply draw_put rfl; (focus (intro S1 hS; exact stp_ixE (j := e) rfl (hS.op rfl) (hS.op rfl) (hS.ch _ _ rfl) rfl (by as_aux_lemma => kernel_rfl) hrowk rfl he2 (Nat.le_of_eq hilk.symm)))) | (apply draw_put rfl; (focus (intro S1 hS; exact stp_loadE' rfl (by as_aux_lemma => kernel_rfl) (hS.op rfl) (hS.ch _ _ rfl) rfl hrowk hgetd)))); apply draw_put rfl; (intro S1 hS; exact stp_assign rfl (hS.op rfl)); exact Draw.nil)
      · rfl
      ((refine rest_done (by as_aux_lemma => kernel_rfl) ?_; skip))
      (refine fin_seq ?_; refine goes_seq ?_; refine goes_region ?_; apply run_step rfl; (exact stp_move rfl rfl); apply run_step rfl; (exact stp_move rfl rfl); apply run_step rfl; (exact stp_ix (j := d) rfl rfl rfl rfl rfl (by as_aux_lemma => kernel_rfl) rfl (by omega) hbb); apply run_step rfl; (exact stp_loadV rfl (by as_aux_lemma => kernel_rfl) rfl rfl rfl (by first | assumption | exact ivals_get (by assumption) | exact irows_get (by assumption) | exact ivals_get (by omega) | exact irows_get (by omega) | rfl)); apply run_step rfl; (exact stp_not rfl rfl); refine run_nil ?_; refine fin_seq ?_)
      refine goes_cond rfl (fun hb => ?_) (fun hb => ?_)
      · have hb : bat s.1 d = false := by simpa using hb
        have hv : (List.range (k + 1)).foldl (mStep zss mask e) s0 = (s.1.set d true, s.2 ++ [(d : Int)]) := by rw [hst, if_pos hb]
        (refine goes_seq ?_; refine goes_region ?_; apply run_step rfl; (exact stp_move rfl rfl); apply run_step rfl; (exact stp_move rfl rfl); apply run_step rfl; (first | exact stp_ix (j := d) rfl rfl rfl rfl rfl (by as_aux_lemma => kernel_rfl) rfl (by omega) hbb | exact stp_stB rfl rfl rfl rfl rfl (by rw [List.length_append]; omega) (by as_aux_lemma => kernel_rfl)); apply run_step rfl; (first | exact stp_ix (j := d) rfl rfl rfl rfl rfl (by as_aux_lemma => kernel_rfl) rfl (by omega) hbb | exact stp_stB rfl rfl rfl rfl rfl (by rw [List.length_append]; omega) (by as_aux_lemma => kernel_rfl)); refine run_nil ?_; refine fin_seq ?_; refine goes_region ?_; apply run_step rfl; (exact stp_move rfl rfl); apply run_step rfl; (exact stp_move rfl rfl); apply run_step rfl; (exact stp_lit1I (E := 2) rfl (by as_aux_lemma => kernel_rfl) rfl); apply run_step rfl; (exact stp_appI rfl (by as_aux_lemma => kernel_rfl) rfl rfl rfl (by first | rfl | assumption | (simp; done)) rfl rfl (by omega)); apply run_step rfl; (exact stp_assign rfl rfl); refine run_nil ?_; refine fin_block ?_; refine fin_seq ?_; refine goes_region ?_; apply run_step rfl; (exact stp_move rfl rfl); apply run_step rfl; (exact stp_add rfl rfl rfl (by first | exact IntWalk.i64_in _ (by omega) | rfl)); apply run_step rfl; (exact stp_assign rfl rfl); refine run_nil ?_)
        exact fin_round (k + 1, (s.1.set d true, s.2 ++ [(d : Int)])) ⟨hkn, hv⟩ (by show zss.length - (k + 1) < zss.length - k; omega) (Wk.of ⟨rfl, congrArg (fun x => some (o1 (.sl 12 0 x))) (by simp), rfl, rfl, rfl, trivial⟩ ⟨rfl, rfl, congrArg (fun l => some (boOw l)) (set_padB (by omega) true), trivial⟩ trivial)
      · have hb : bat s.1 d = true := by simpa using hb
        have hv : (List.range (k + 1)).foldl (mStep zss mask e) s0 = s := by rw [hst, if_neg (by rw [hb]; simp)]
        (refine goes_skip ?_; refine fin_block ?_; refine fin_seq ?_; refine goes_region ?_; apply run_step rfl; (exact stp_move rfl rfl); apply run_step rfl; (exact stp_add rfl rfl rfl (by first | exact IntWalk.i64_in _ (by omega) | rfl)); apply run_step rfl; (exact stp_assign rfl rfl); refine run_nil ?_)
        exact fin_round (k + 1, s) ⟨hkn, hv⟩ (by show zss.length - (k + 1) < zss.length - k; omega) (Wk.of ⟨rfl, rfl, rfl, rfl, rfl, trivial⟩ ⟨rfl, rfl, rfl, trivial⟩ trivial)
    · obtain rfl : k = zss.length := by omega
      (refine goes_exit ?_; refine fin_exit_then ?_; refine fin_exit_then ?_; refine fin_exit_eq ?_; refine fin_block ?_; refine fin_seq ?_; refine goes_region ?_; apply run_step rfl; (exact stp_move rfl rfl); apply run_step rfl; (exact stp_add rfl rfl rfl (by first | exact IntWalk.i64_in _ (by omega) | rfl)); apply run_step rfl; (exact stp_assign rfl rfl); refine run_nil ?_)
      exact fin_round (i + 1, s) ⟨hlt, hok, by rw [← hl']; show mLoop _ _ _ (n + 1 - (i + 1)) _ _ = _; rw [show n + 1 - (i + 1) = n - i by omega]; unfold mRow; rw [hfo]⟩ (by show n + 1 - (i + 1) < n + 1 - i; omega) (Wk.of ⟨rfl, rfl, rfl, rfl, trivial⟩ ⟨rfl, rfl, rfl, trivial⟩ trivial)
  · have hio : i = s.2.length := by omega
    have hOM : mLoop zss mask zss.length (n + 1) 0 (oStart n c) = s := by
      rw [← hl, show n + 1 - i = (n - i) + 1 by omega, mLoop, if_neg (by omega)]
    rw [hOM]
    (refine goes_exit ?_; refine fin_exit_then ?_; refine fin_exit_then ?_; refine fin_exit_eq ?_; refine fin_seq ?_; refine goes_seq ?_; refine goes_region ?_; apply run_step rfl; (exact stp_move rfl rfl); apply run_step rfl; (exact stp_assign rfl rfl); refine run_nil ?_; refine fin_seq ?_; refine goes_ret ?_)
    exact fin_ret1 (.inl rfl) rfl (.tmp rfl) ⟨rfl, trivial⟩ trivial
end Go.Proofs.Ytpognnifgcacnaa

/- From contracts in names to contracts in words: the doors of the functions that the laws call. -/
namespace Go.Proofs.Ytpognnifgcacnaa
open Go.RowKit

theorem denL2 {η : Env} {a b : AV} {u v : Value} (h : Den η a u) (h' : Den η b v) : DenL η [a, b] [u, v] := ⟨rfl, fun j av hj => by
  match j, hj with
  | 0, hj => simp at hj; subst hj; exact ⟨u, rfl, h⟩
  | 1, hj => simp at hj; subst hj; exact ⟨v, rfl, h'⟩⟩
/-- a maniplex -/
abbrev mA (R : Nat) : AV := .s (.agg [.sl 1003 0 R])
end Go.Proofs.Ytpognnifgcacnaa

/- What a maniplex is, the reference's: l02Is. guards: -/
namespace Go.Proofs.Ytpognnifgcacnaa
open Go.RowKit

/-- what of a maniplex is asked before it is asked whether it hangs together -/
structure Man0 (zss : List (List Int)) : Prop where
  n1 : 1 ≤ zss.length
  n5 : zss.length ≤ 5
  f2 : 2 ≤ (lget zss 0).length
  f4 : (lget zss 0).length ≤ 400
  rows : Rows zss (lget zss 0).length zss.length
  comm : ∀ i k, i + 2 ≤ k → k < zss.length → ∀ f, f < (lget zss 0).length → commAt zss i k f
end Go.Proofs.Ytpognnifgcacnaa

/- A search in depth numbers an orbit, on lists. No program in sight. -/
namespace Go.Proofs.Ytpognnifgcacnaa

structure DOK (T : List (List Int)) (n i k : Nat) (L0 : List Int) (ex : Nat → Prop) (L st : List Int) : Prop where
  len : L.length = n
  st_ : ∀ z ∈ st, ∃ d : Nat, z = (d : Int) ∧ d < n ∧ rch T n i d = true ∧ iget L d = (k : Int)
  eq : ∀ d, d < n → iget L d = iget L0 d ∨ (iget L d = (k : Int) ∧ rch T n i d = true)
  self : iget L i = (k : Int)
  cl : ∀ d, d < n → rch T n i d = true → iget L d = (k : Int) → (d : Int) ∉ st → ¬ ex d → ∀ g, g < T.length → iget L (bTo T d g) = (k : Int)
section
variable {T : List (List Int)} {n i k : Nat} {L0 L st : List Int} {ex : Nat → Prop}
end
end Go.Proofs.Ytpognnifgcacnaa

/- slices.Repeat at []int64. -/
namespace Go.Proofs.Ytpognnifgcacnaa
open Go.RowKit

section
variable {P : Program} {ops : Array Oper} {rest : List Oper} {o : Oper} {a : Act} {Q : Exit → Act → World → Prop}
end

end Go.Proofs.Ytpognnifgcacnaa

/- Contracts in names of small functions: size, slices.Repeat. -/
namespace Go.Proofs.Ytpognnifgcacnaa
open Go.RowKit

end Go.Proofs.Ytpognnifgcacnaa

/- The numbers of orbits, the program's: orbitLabels. -/
namespace Go.Proofs.Ytpognnifgcacnaa
open Go.RowKit

end Go.Proofs.Ytpognnifgcacnaa

/- The program's within, in names. -/
namespace Go.Proofs.Ytpognnifgcacnaa
open Go.RowKit

end Go.Proofs.Ytpognnifgcacnaa

/- What a maniplex is, the program's: isManiplex. guards: -/
namespace Go.Proofs.Ytpognnifgcacnaa
open Go.RowKit

end Go.Proofs.Ytpognnifgcacnaa

/- IsMap. guards: -/
namespace Go.Proofs.Ytpognnifgcacnaa
open Go.RowKit

end Go.Proofs.Ytpognnifgcacnaa

/- Walks in names: bits of masks. No program in sight. -/
namespace Go.Proofs.Ytpognnifgcacnaa
open Go.RowKit

section
variable {P : Program} {nt : Nat} {S S' S2 : St} {t : Nat} {ty : TypeId} {ps : String} {af : Array Edge} {gd : Option (Nat × Bool)} {x y : Operand} {o : Oper}
/-- a step behind a loss of knowledge -/
theorem Stp.pre (h : Wk S S') (k : Stp P nt o S' S2) : Stp P nt o S S2 :=
  ⟨fun w0 ω0 a w Q hs => k.go w0 ω0 a w Q (h.go _ _ _ _ _ hs)⟩
end
end Go.Proofs.Ytpognnifgcacnaa

/- A memory of names: a call that turns one vector of the caller's in place; quotients and remainders. No program in sight. -/
namespace Go.Proofs.Ytpognnifgcacnaa
open Go.RowKit

section
variable {P : Program} {nt : Nat} {S S' S2 : St} {t : Nat} {ty : TypeId} {ps : String} {af : Array Edge} {gd : Option (Nat × Bool)} {x y : Operand} {o : Oper}
theorem stp_quoN {xt yt : TypeId} {a b : Nat} (ht : Nat.blt t nt = true) (hx : S.op x = some (vv (I6 (a : Int)))) (hy : S.op y = some (vv (I6 (b : Int)))) (hb : 0 < b) (ha : a < 1000000000000) :
    Stp P nt ⟨some t, .binOp .quo xt x y yt, ty, ps, af, gd⟩ S (S.put t (vv (I6 ((a / b : Nat) : Int)))) :=
  Stp.pure rfl ht fun _ _ η _ s w hs => by
    refine ⟨I6 ((a / b : Nat) : Int), ?_, rfl⟩
    have hle := Nat.div_le_self a b
    have e : Op.intDiv .quo .i64 (a : Int) (b : Int) = pure (I6 ((a / b : Nat) : Int)) := by
      have h1 : (a : Int).tdiv (b : Int) = ((a / b : Nat) : Int) := rfl
      have h2 : ∀ q : Nat, q ≤ a → IntKind.i64.wrap (q : Int) = (q : Int) := fun q hq => IntWalk.i64_in _ (by omega)
      have h3 : ¬ (b : Int) = 0 := by omega
      unfold Op.intDiv
      rw [if_neg h3]
      show pure (Value.int .i64 (IntKind.i64.wrap ((a : Int).tdiv (b : Int)))) = _
      rw [h1, h2 _ hle]
    simp [execOp, hs.opV hx, hs.opV hy, eqGuard, binOp, e]
theorem stp_remN {xt yt : TypeId} {a b : Nat} (ht : Nat.blt t nt = true) (hx : S.op x = some (vv (I6 (a : Int)))) (hy : S.op y = some (vv (I6 (b : Int)))) (hb : 0 < b) (ha : a < 1000000000000) :
    Stp P nt ⟨some t, .binOp .rem xt x y yt, ty, ps, af, gd⟩ S (S.put t (vv (I6 ((a % b : Nat) : Int)))) :=
  Stp.pure rfl ht fun _ _ η _ s w hs => by
    refine ⟨I6 ((a % b : Nat) : Int), ?_, rfl⟩
    have hle := Nat.mod_le a b
    have e : Op.intDiv .rem .i64 (a : Int) (b : Int) = pure (I6 ((a % b : Nat) : Int)) := by
      have h1 : (a : Int).tmod (b : Int) = ((a % b : Nat) : Int) := rfl
      have h3 : ¬ (b : Int) = 0 := by omega
      unfold Op.intDiv
      rw [if_neg h3]
      show pure (Value.int .i64 ((a : Int).tmod (b : Int))) = _
      rw [h1]
    simp [execOp, hs.opV hx, hs.opV hy, eqGuard, binOp, e]
end
end Go.Proofs.Ytpognnifgcacnaa

/- IsDiagram, the program's and the reference's. -/
namespace Go.Proofs.Ytpognnifgcacnaa
open Go.RowKit

end Go.Proofs.Ytpognnifgcacnaa

/- ReverseDiagram: the reference's l12Turned, slices.Clone and slices.Reverse at []int64. -/
namespace Go.Proofs.Ytpognnifgcacnaa
open Go.RowKit

/-- a list the other way round; closed to simp -/
def turned (zs : List Int) : List Int := zs.reverse
end Go.Proofs.Ytpognnifgcacnaa

/- slices.Reverse at []int64: it turns a row of the call's own round, in place. -/
namespace Go.Proofs.Ytpognnifgcacnaa
open Go.RowKit

end Go.Proofs.Ytpognnifgcacnaa

/- Comparisons of lists, the greatest one of an ascending list, the greatest common divisor. -/
namespace Go.Proofs.Ytpognnifgcacnaa
open Go.RowKit

end Go.Proofs.Ytpognnifgcacnaa

/- A memory of names: a vector takes another name; an append of nothing. No program in sight. -/
namespace Go.Proofs.Ytpognnifgcacnaa
open Go.RowKit

section
variable {P : Program} {nt : Nat} {S : St} {t : Nat} {ty : TypeId} {ps : String} {af : Array Edge} {gd : Option (Nat × Bool)} {x y : Operand}
end
end Go.Proofs.Ytpognnifgcacnaa

/- A memory of names: a literal of three rows; the other one of a pair (x ^ 1). No program in sight. -/
namespace Go.Proofs.Ytpognnifgcacnaa
open Go.RowKit

section
variable {P : Program} {nt : Nat} {S : St} {t : Nat} {ty : TypeId} {ps : String} {af : Array Edge} {gd : Option (Nat × Bool)} {x y : Operand}
theorem stp_lit3R {T E F z0 z1 z2 m0 m1 m2 : Nat} {x0 x1 x2 : Operand} {v0 v1 v2 : List Value} (ht : Nat.blt t nt = true) (hT : elZ P T E 1 = true) (hx0 : S.op x0 = some (o1 (.sl z0 0 m0))) (hx1 : S.op x1 = some (o1 (.sl z1 0 m1))) (hx2 : S.op x2 = some (o1 (.sl z2 0 m2)))
    (hz0 : S.ch z0 = some ⟨true, F, 1, .vals v0⟩) (hz1 : S.ch z1 = some ⟨true, F, 1, .vals v1⟩) (hz2 : S.ch z2 = some ⟨true, F, 1, .vals v2⟩) (hm0 : v0.length = m0) (hm1 : v1.length = m1) (hm2 : v2.length = m2) (h01 : Nat.beq z0 z1 = false) (h02 : Nat.beq z0 z2 = false) (h12 : Nat.beq z1 z2 = false) (hzt : (!(Nat.beq z0 t) && (!(Nat.beq z1 t) && !(Nat.beq z2 t))) = true) :
    Stp P nt ⟨some t, .buildSlice T 3 #[(0, x0), (1, x1), (2, x2)], ty, ps, af, gd⟩ S (((((S.rm z0).rm z1).rm z2).new t ⟨true, E, 1, .rows F [v0, v1, v2] []⟩).put t (o1 (.sl t 0 3))) :=
  Stp.of _ fun w0 ω0 η ω a w hs => by
    have n01 : z0 ≠ z1 := fun e => by rw [e] at h01; simp at h01
    have n02 : z0 ≠ z2 := fun e => by rw [e] at h02; simp at h02
    have n12 : z1 ≠ z2 := fun e => by rw [e] at h12; simp at h12
    subst hm0 hm1 hm2
    obtain ⟨i, zz, k1, k2, k3, k4, k5, k6⟩ := elZ_spec hT
    have d0 : Den1 η (.sl z0 0 v0.length) (a.eval x0) := hs.opv hx0
    have d1 : Den1 η (.sl z1 0 v1.length) (a.eval x1) := hs.opv hx1
    have d2 : Den1 η (.sl z2 0 v2.length) (a.eval x2) := hs.opv hx2
    have o0 : (a.eval x0).oneCell' = true := d0.one fun v hv => by cases hv
    have o1' : (a.eval x1).oneCell' = true := d1.one fun v hv => by cases hv
    have o2 : (a.eval x2).oneCell' = true := d2.one fun v hv => by cases hv
    obtain ⟨e0, p0, q0, r0⟩ := hs.chunk hz0
    obtain ⟨e1, p1, q1, r1⟩ := hs.chunk hz1
    obtain ⟨e2, p2, q2, r2⟩ := hs.chunk hz2
    have q0 : e0.k = 1 := q0
    have q1 : e1.k = 1 := q1
    have q2 : e2.k = 1 := q2
    have r0 : VecO ω w (z0, none) e0 F v0.length (cellsOK η ω w true z0 (.vals v0)) := r0
    have r1 : VecO ω w (z1, none) e1 F v1.length (cellsOK η ω w true z1 (.vals v1)) := r1
    have r2 : VecO ω w (z2, none) e2 F v2.length (cellsOK η ω w true z2 (.vals v2)) := r2
    obtain ⟨a0, ha0, s0, _⟩ := d0.2 e0 p0
    obtain ⟨a1, ha1, s1, _⟩ := d1.2 e1 p1
    obtain ⟨a2, ha2, s2, _⟩ := d2.2 e2 p2
    refine ⟨.slice (some ⟨w.heap.size, 0, none⟩) 3 3, w.alloc (.cells #[a.eval x0, a.eval x1, a.eval x2] E), ?_, ?_⟩
    · simp [execOp, Instr.buildSlice, run_underlying k1, sizeOf, typeInfo, k2, k3, zeroValue, k5, Instr.fill, newRow, cells_one o0, cells_one o1', cells_one o2, range3]
    · let ω' : Own? := fun b => if b = w.heap.size then some (t, none) else if ω b = some (z0, none) then some (t, some 0) else if ω b = some (z1, none) then some (t, some 1) else if ω b = some (z2, none) then some (t, some 2) else ω b
      have g0 : ∀ b, b < w.heap.size → ω b = some (z0, none) → ω' b = some (t, some 0) := fun b hb h => by simp only [ω', if_neg (Nat.ne_of_lt hb), h, if_true]
      have g1 : ∀ b, b < w.heap.size → ω b = some (z1, none) → ω' b = some (t, some 1) := fun b hb h => by
        simp only [ω', if_neg (Nat.ne_of_lt hb), h]
        rw [if_neg (by simp; exact fun e => n01 e.symm)]; simp
      have g2 : ∀ b, b < w.heap.size → ω b = some (z2, none) → ω' b = some (t, some 2) := fun b hb h => by
        simp only [ω', if_neg (Nat.ne_of_lt hb), h]
        rw [if_neg (by simp; exact fun e => n02 e.symm), if_neg (by simp; exact fun e => n12 e.symm)]; simp
      have calm : Calm (((S.rm z0).rm z1).rm z2) ω w ω' (w.alloc (.cells #[a.eval x0, a.eval x1, a.eval x2] E)) := ⟨rfl, rfl, rfl, by simp, fun b hb hl => by
        refine ⟨Below.heap_alloc w _ b hb, ?_⟩
        have hne : ∀ z, (((S.rm z0).rm z1).rm z2).ch z = none → ω b ≠ some (z, none) := fun z hz => by
          rcases hl with h0 | ⟨y, j, c, h0, h1⟩
          · rw [h0]; simp
          · rw [h0]
            intro e
            simp at e; rw [e.1, hz] at h1; cases h1
        have c0 : (((S.rm z0).rm z1).rm z2).ch z0 = none := by simp [ch_rm]
        have c1 : (((S.rm z0).rm z1).rm z2).ch z1 = none := by simp [ch_rm]
        have c2 : (((S.rm z0).rm z1).rm z2).ch z2 = none := by simp [ch_rm]
        simp only [ω', if_neg (Nat.ne_of_lt hb), if_neg (hne _ c0), if_neg (hne _ c1), if_neg (hne _ c2)]⟩
      let R : Nat → Hd := fun j => if j = 0 then e0 else if j = 1 then e1 else e2
      have key : ChIs ((((η.drop z0).drop z1).drop z2).new t ⟨some ⟨w.heap.size, 0, none⟩, 3, 1⟩ R) ω' (w.alloc (.cells #[a.eval x0, a.eval x1, a.eval x2] E)) t ⟨some ⟨w.heap.size, 0, none⟩, 3, 1⟩ ⟨true, E, 1, .rows F [v0, v1, v2] []⟩ := by
        refine ⟨rfl, .inr ⟨w.heap.size, 0, _, rfl, by simp only [ω', if_true], heap_alloc_new w _, ⟨rfl, rfl⟩, by simp [Dat.len], by simp [maxLen], fun j hj => ?_⟩⟩
        match j, hj with
        | 0, _ =>
          refine ⟨a.eval x0, by simp, o0, fun _ vs' hvs' => ?_⟩
          simp at hvs'; subst hvs'
          have hr : ((((η.drop z0).drop z1).drop z2).new t ⟨some ⟨w.heap.size, 0, none⟩, 3, 1⟩ R).r t 0 = e0 := by simp [Env.new, R]
          rw [hr]
          exact ⟨by rw [ha0, s0 rfl, Nat.sub_zero], q0, VecO.give r0 fun b hb hob => ⟨Below.heap_alloc w _ b hb, g0 b hb hob⟩⟩
        | 1, _ =>
          refine ⟨a.eval x1, by simp, o1', fun _ vs' hvs' => ?_⟩
          simp at hvs'; subst hvs'
          have hr : ((((η.drop z0).drop z1).drop z2).new t ⟨some ⟨w.heap.size, 0, none⟩, 3, 1⟩ R).r t 1 = e1 := by simp [Env.new, R]
          rw [hr]
          exact ⟨by rw [ha1, s1 rfl, Nat.sub_zero], q1, VecO.give r1 fun b hb hob => ⟨Below.heap_alloc w _ b hb, g1 b hb hob⟩⟩
        | 2, _ =>
          refine ⟨a.eval x2, by simp, o2, fun _ vs' hvs' => ?_⟩
          simp at hvs'; subst hvs'
          have hr : ((((η.drop z0).drop z1).drop z2).new t ⟨some ⟨w.heap.size, 0, none⟩, 3, 1⟩ R).r t 2 = e2 := by simp [Env.new, R]
          rw [hr]
          exact ⟨by rw [ha2, s2 rfl, Nat.sub_zero], q2, VecO.give r2 fun b hb hob => ⟨Below.heap_alloc w _ b hb, g2 b hb hob⟩⟩
        | j + 3, hj => exact absurd hj (by simp [Dat.len])
      exact ⟨_, _, ((((hs.drop z0).drop z1).drop z2).lay calm key).putV (by simpa using ht) den_newsl⟩
end
end Go.Proofs.Ytpognnifgcacnaa

/- The map of a rotation, on lists; rotations in names. -/
namespace Go.Proofs.Ytpognnifgcacnaa
open Go.RowKit

/-- the dart on the other side -/
def othN (d : Nat) : Nat := if d % 2 = 0 then d + 1 else d - 1
structure Tab where
  a : List Int
  b : List Int
  c : List Int
def Tab.rows (T : Tab) : List (List Int) := [T.a, T.b, T.c]
end Go.Proofs.Ytpognnifgcacnaa

/- Torus maps, the reference's way, in plain Lean. -/
namespace Go.Proofs.Ytpognnifgcacnaa
open Go.RowKit

/-- two points are the same up to the vectors -/
def sameB (b c : Nat) (x y : Int) : Bool := ((x * b + y * c).tmod ((b * b + c * c : Nat) : Int) == 0) && ((y * b - x * c).tmod ((b * b + c * c : Nat) : Int) == 0)
/-- the first k squares are other ones -/
def freB (b c : Nat) (s : List Int × List Int) (x y : Nat) (k : Nat) : Bool := (List.range k).all fun i => !sameB b c ((x : Int) - iget s.1 i) ((y : Int) - iget s.2 i)
def cStep (b c n : Nat) (x : Nat) (s : List Int × List Int) (y : Nat) : List Int × List Int := if s.1.length < n ∧ freB b c s x y s.1.length = true then (s.1 ++ [(x : Int)], s.2 ++ [(y : Int)]) else s
def cRow (b c n x : Nat) (s : List Int × List Int) (k : Nat) : List Int × List Int := (List.range k).foldl (cStep b c n x) s
def cAll (b c n : Nat) (k : Nat) : List Int × List Int := (List.range k).foldl (fun s x => cRow b c n x s n) ([], [])
theorem freB_succ (b c : Nat) (s : List Int × List Int) (x y k : Nat) : freB b c s x y (k + 1) = (freB b c s x y k && !sameB b c ((x : Int) - iget s.1 k) ((y : Int) - iget s.2 k)) := by
  unfold freB; rw [List.range_succ, List.all_append]; simp
theorem freB_zero (b c : Nat) (s : List Int × List Int) (x y : Nat) : freB b c s x y 0 = true := rfl
theorem freB_no {b c : Nat} {s : List Int × List Int} {x y k : Nat} (h : freB b c s x y k = false) : ∀ m, k ≤ m → freB b c s x y m = false := fun m hm => by
  induction m with
  | zero => have : k = 0 := by omega
            subst this; exact h
  | succ m ih =>
    rcases Nat.lt_or_ge m k with h1 | h1
    · have : m + 1 = k := by omega
      rw [this]; exact h
    · rw [freB_succ, ih h1]; rfl
theorem cRow_succ (b c n x : Nat) (s : List Int × List Int) (k : Nat) : cRow b c n x s (k + 1) = cStep b c n x (cRow b c n x s k) k := by unfold cRow; rw [List.range_succ, List.foldl_append]; rfl
theorem cAll_succ (b c n k : Nat) : cAll b c n (k + 1) = cRow b c n k (cAll b c n k) n := by unfold cAll; rw [List.range_succ, List.foldl_append]; rfl
/-- both lists are as long, at most n, of numbers below n -/
structure COk (n : Nat) (s : List Int × List Int) : Prop where
  len : s.2.length = s.1.length
  le : s.1.length ≤ n
  a : ∀ z ∈ s.1, 0 ≤ z ∧ z < n
  b : ∀ z ∈ s.2, 0 ≤ z ∧ z < n
theorem COk.nil (n : Nat) : COk n ([], []) := ⟨rfl, Nat.zero_le _, fun _ h => by simp at h, fun _ h => by simp at h⟩
theorem COk.step {b c n x y : Nat} {s : List Int × List Int} (h : COk n s) (hx : x < n) (hy : y < n) : COk n (cStep b c n x s y) := by
  unfold cStep
  split
  case isFalse => exact h
  case isTrue hc =>
    refine ⟨by simp [h.len], by simp; omega, fun z hz => ?_, fun z hz => ?_⟩
    · simp at hz; rcases hz with hz | rfl
      · exact h.a z hz
      · omega
    · simp at hz; rcases hz with hz | rfl
      · exact h.b z hz
      · omega
theorem COk.row {b c n x : Nat} {s : List Int × List Int} (h : COk n s) (hx : x < n) : ∀ k, k ≤ n → COk n (cRow b c n x s k)
  | 0, _ => h
  | k + 1, hk => by rw [cRow_succ]; exact (COk.row h hx k (by omega)).step hx (by omega)
theorem COk.all {b c n : Nat} : ∀ k, k ≤ n → COk n (cAll b c n k)
  | 0, _ => COk.nil n
  | k + 1, hk => by rw [cAll_succ]; exact (COk.all k (by omega)).row (by omega) n (Nat.le_refl _)
def tOne (f : Nat) : Nat := 8 * (f / 8) + if f % 8 % 2 = 0 then (f % 8 + 7) % 8 else (f % 8 + 1) % 8
def dX (k : Nat) : Int := if k = 1 then 1 else if k = 3 then -1 else 0
def dY (k : Nat) : Int := if k = 0 then -1 else if k = 2 then 1 else 0
def tTo (k i : Nat) : Nat := 8 * i + othN ((k + 4) % 8)
def tTwoB (b c : Nat) (s : List Int × List Int) (x y : Int) (k m : Nat) : List Int := ((List.range m).filter fun i => sameB b c (x - iget s.1 i) (y - iget s.2 i)).map fun i => ((tTo k i : Nat) : Int)
def tTwo (b c n : Nat) (s : List Int × List Int) (f : Nat) : List Int := tTwoB b c s (iget s.1 (f / 8) + dX (f % 8 / 2)) (iget s.2 (f / 8) + dY (f % 8 / 2)) (f % 8) n
def tRow0 (m : Nat) : List Int := (List.range m).map fun f => ((othN f : Nat) : Int)
def tRow1 (m : Nat) : List Int := (List.range m).map fun f => ((tOne f : Nat) : Int)
def tRow2 (b c n : Nat) (s : List Int × List Int) (m : Nat) : List Int := (List.range m).flatMap (tTwo b c n s)
theorem tTwoB_succ (b c : Nat) (s : List Int × List Int) (x y : Int) (k m : Nat) : tTwoB b c s x y k (m + 1) = if sameB b c (x - iget s.1 m) (y - iget s.2 m) = true then tTwoB b c s x y k m ++ [((tTo k m : Nat) : Int)] else tTwoB b c s x y k m := by
  unfold tTwoB
  rw [List.range_succ, List.filter_append, List.map_append]
  by_cases h : sameB b c (x - iget s.1 m) (y - iget s.2 m) = true
  · rw [if_pos h]; simp [h]
  · rw [if_neg h]; simp [h]
theorem tRow0_succ (m : Nat) : tRow0 (m + 1) = tRow0 m ++ [((othN m : Nat) : Int)] := by unfold tRow0; rw [List.range_succ, List.map_append]; rfl
theorem tRow1_succ (m : Nat) : tRow1 (m + 1) = tRow1 m ++ [((tOne m : Nat) : Int)] := by unfold tRow1; rw [List.range_succ, List.map_append]; rfl
theorem tRow2_succ (b c n : Nat) (s : List Int × List Int) (m : Nat) : tRow2 b c n s (m + 1) = tRow2 b c n s m ++ tTwo b c n s m := by unfold tRow2; rw [List.range_succ, List.flatMap_append]; simp
theorem tRow0_len (m : Nat) : (tRow0 m).length = m := by simp [tRow0]
theorem tRow1_len (m : Nat) : (tRow1 m).length = m := by simp [tRow1]
theorem tTwoB_len (b c : Nat) (s : List Int × List Int) (x y : Int) (k m : Nat) : (tTwoB b c s x y k m).length ≤ m := by
  unfold tTwoB; rw [List.length_map]; exact Nat.le_trans (List.length_filter_le _ _) (by simp)
theorem tRow2_len (b c n : Nat) (s : List Int × List Int) (m : Nat) : (tRow2 b c n s m).length ≤ m * n := by
  induction m with
  | zero => simp [tRow2]
  | succ m ih =>
    have h2 : (tTwo b c n s m).length ≤ n := tTwoB_len _ _ _ _ _ _ _
    rw [tRow2_succ, List.length_append, Nat.succ_mul]; omega
end Go.Proofs.Ytpognnifgcacnaa

/- Flags of the plane of unit squares, their moves and keys, in plain Lean. -/
namespace Go.Proofs.Ytpognnifgcacnaa
open Go.RowKit

structure TF where
  x : Int
  y : Int
  d : Int
  l : Bool
deriving DecidableEq
def fndT (k : TF) : List TF → Nat → Option Nat
  | [], _ => none
  | a :: r, i => if k = a then some i else fndT k r (i + 1)
def sx (d : Int) : Int := if d = 0 then 1 else if d = 2 then -1 else 0
def sy (d : Int) : Int := if d = 1 then 1 else if d = 3 then -1 else 0
def tmv (i : Nat) (t : TF) : TF :=
  match i with
  | 0 => ⟨t.x + sx t.d, t.y + sy t.d, (t.d + 2) % 4, !t.l⟩
  | 1 => ⟨t.x, t.y, if t.l then (t.d + 1) % 4 else (t.d + 3) % 4, !t.l⟩
  | _ => ⟨t.x, t.y, t.d, !t.l⟩
def mdI (n k : Int) : Int := (k.tmod n + n).tmod n
def tkey (b c n : Int) (t : TF) : TF := ⟨mdI n (t.x * b + t.y * c), mdI n (t.y * b - t.x * c), t.d, t.l⟩
end Go.Proofs.Ytpognnifgcacnaa

/- Maps keyed by torus flags. -/
namespace Go.Proofs.Ytpognnifgcacnaa
open Go.RowKit

def fv (t : TF) : Value := .agg #[.int .i64 t.x, .int .i64 t.y, .int .i64 t.d, .bool t.l]
theorem fv_eq (t u : TF) (w : World) : (Op.equalIn 10000 153 (fv t) (fv u)).run Try.prog w = .ok (decide (t = u)) w := by
  obtain ⟨x, y, d, l⟩ := t
  obtain ⟨x', y', d', l'⟩ := u
  rw [fv, fv, show (10000 : Nat) = 9998 + 1 + 1 from rfl, run_equalIn_agg w (9998 + 1) 153 _ _ (by kernel_rfl) (by kernel_rfl)]
  simp [go_sem, Try.underlying153]
  by_cases h1 : x = x' <;> by_cases h2 : y = y' <;> by_cases h3 : d = d' <;> by_cases h4 : l = l' <;> simp [h1, h2, h3, h4]
theorem fv_check (b : Bool) (t : TF) (w : World) : (Instr.checkKey b 10000 153 (fv t)).run Try.prog w = .ok () w := by
  obtain ⟨x, y, d, l⟩ := t
  rw [fv]
  have h : ∀ n, (Instr.checkKey b (n + 1 + 1) 153 (.agg #[.int .i64 x, .int .i64 y, .int .i64 d, .bool l])).run Try.prog w = .ok () w := fun n => by
    simp [Instr.checkKey, go_sem, run_underlying Try.underlying153, run_underlying Try.underlying2, run_underlying Try.underlying4]
  exact h 9998
def entT : List TF → Nat → List (Value × Value)
  | [], _ => []
  | a :: r, i => (fv a, .int .i64 (i : Int)) :: entT r (i + 1)
theorem entT_app (k : TF) : ∀ (ks : List TF) (i : Nat), entT (ks ++ [k]) i = entT ks i ++ [(fv k, .int .i64 ((i + ks.length : Nat) : Int))]
  | [], i => rfl
  | a :: r, i => by simp [entT, entT_app k r (i + 1)]; omega
/-- the block holds a map of these keys to their numbers -/
def MapT (w : World) (b : Nat) (ks : List TF) : Prop := ∃ es clock, w.heap[b]? = some (.map es clock) ∧ es.toList.map (fun e => (e.key, e.val)) = entT ks 0
theorem find_run (k : TF) (w : World) : ∀ (es : List MapEntry) (ks : List TF) (i : Nat) (j : Nat), es.map (fun e => (e.key, e.val)) = entT ks j → (Instr.findAsking 153 (fv k) es i).run Try.prog w = .ok ((fndT k ks 0).map fun m => (i + m, Value.int .i64 ((j + m : Nat) : Int))) w
  | [], ks, i, j, h => by
    cases ks with
    | nil => simp [Instr.findAsking, fndT, Sem.run_pure]
    | cons a r => simp [entT] at h
  | e :: es, ks, i, j, h => by
    cases ks with
    | nil => simp [entT] at h
    | cons a r =>
      simp [entT] at h
      obtain ⟨⟨h1, h2⟩, h3⟩ := h
      have ih := find_run k w es r (i + 1) (j + 1) h3
      have sh : ∀ n m, fndT k r (n + m) = (fndT k r n).map (· + m) := by
        clear h3 ih
        induction r with
        | nil => intro n m; rfl
        | cons c r ih2 =>
          intro n m
          unfold fndT
          split
          · rfl
          · rw [show n + m + 1 = (n + 1) + m by omega]; exact ih2 (n + 1) m
      simp only [Instr.findAsking, Sem.run_bind, h1, h2, Op.equal, Op.maxDepth, fv_eq, Result.andThen_ok]
      by_cases hk : k = a
      · simp [hk, fndT, Sem.run_pure]
      · rw [decide_eq_false hk]
        simp only [Bool.false_eq_true, if_false]
        rw [ih]
        have := sh 0 1
        simp only [fndT, hk, if_false]
        rw [this]
        cases fndT k r 0 with
        | none => rfl
        | some m => simp; omega
theorem key_run (k : TF) (w : World) {es : List MapEntry} {ks : List TF} (h : es.map (fun e => (e.key, e.val)) = entT ks 0) : (Instr.findKey 153 (fv k) es).run Try.prog w = .ok ((fndT k ks 0).map fun m => (m, Value.int .i64 (m : Int))) w := by
  have hr := find_run k w es ks 0 0 h
  simp only [Nat.zero_add] at hr
  unfold Instr.findKey
  simp only [Sem.run_bind, run_underlying Try.underlying153, Result.andThen_ok]
  cases es with
  | nil =>
    cases ks with
    | nil => rfl
    | cons a r => simp [entT] at h
  | cons e es => exact hr
theorem look_run (k : TF) {w : World} {b : Nat} {ks : List TF} (h : MapT w b ks) :
    (Instr.lookup 156 (.map (some b)) (fv k) true).run Try.prog w = .ok (match fndT k ks 0 with | some m => .tuple #[.int .i64 (m : Int), .bool true] | none => .tuple #[.int .i64 0, .bool false]) w := by
  obtain ⟨es, clock, hb, hm⟩ := h
  have hz : (zeroValue 2).run Try.prog w = .ok (.int .i64 0) w := by simp [go_sem, run_underlying Try.underlying2]
  have hk := key_run k w hm
  cases hf : fndT k ks 0 with
  | none =>
    rw [hf] at hk
    simp [Instr.lookup, run_underlying Try.underlying156, MapKept.run_getObj_map hb, fv_check, hk, hz, Result.andThen]
  | some m =>
    rw [hf] at hk
    simp [Instr.lookup, run_underlying Try.underlying156, MapKept.run_getObj_map hb, fv_check, hk, Result.andThen]
theorem put_run (k : TF) {w : World} {b : Nat} {ks : List TF} (h : MapT w b ks) (hf : fndT k ks 0 = none) (v : Nat) (hv : v = ks.length) :
    ∃ o, (Instr.mapUpdate 156 (.map (some b)) (fv k) (.int .i64 (v : Int))).run Try.prog w = .ok () (Go.ChangeMaps.setBlock w b o) ∧ MapT (Go.ChangeMaps.setBlock w b o) b (ks ++ [k]) := by
  obtain ⟨es, clock, hb, hm⟩ := h
  have hk := key_run k w hm
  rw [hf] at hk
  refine ⟨.map (es.push { key := fv k, val := .int .i64 (v : Int), born := clock }) (clock + 1), ?_, ?_⟩
  · simp [Instr.mapUpdate, run_underlying Try.underlying156, MapKept.run_getObj_map hb, fv_check, hk, MapKept.run_setObj_map _ hb, Result.andThen, Go.ChangeMaps.setBlock]
  · have hlt := (Array.getElem?_eq_some_iff.1 hb).1
    refine ⟨es.push { key := fv k, val := .int .i64 (v : Int), born := clock }, clock + 1, by simp [Go.ChangeMaps.setBlock, hlt], ?_⟩
    rw [entT_app]; simp [hm, hv]
theorem only_block (w : World) (b : Nat) (o : Obj) : Only b (b + 1) w (Go.ChangeMaps.setBlock w b o) := by
  refine ⟨rfl, rfl, rfl, by simp [Go.ChangeMaps.setBlock], fun k hk hd => ?_⟩
  simp [Go.ChangeMaps.setBlock, Array.getElem?_setIfInBounds]
  intro h; omega
section
variable (w : World) {ops : Array Oper} {rest : List Oper} {o : Oper} {a : Act} {Q : Exit → Act → World → Prop}
theorem wpList_lookY (hg : o.guard = none) (m x : Operand) (hop : o.op = Op.lookup 156 m x true) (b : Nat) (ks : List TF) (k : TF) (j : Nat) (hM : MapT w b ks) (hf : fndT k ks 0 = some j) (hm : a.eval m = .map (some b)) (hx : a.eval x = fv k)
    (hK : wpList Try.prog ops Q rest (a.put o.dst (.tuple #[.int .i64 (j : Int), .bool true])) w) : wpList Try.prog ops Q (o :: rest) a w := by
  refine wpList_plain hg fun K' hK' => ?_
  have hrun := look_run k hM
  rw [hf] at hrun
  unfold Oper.wp
  simp [execOp, hop, hm, hx, hrun, Result.andThen]
  exact hK' _ _ hK
theorem wpList_lookN (hg : o.guard = none) (m x : Operand) (hop : o.op = Op.lookup 156 m x true) (b : Nat) (ks : List TF) (k : TF) (hM : MapT w b ks) (hf : fndT k ks 0 = none) (hm : a.eval m = .map (some b)) (hx : a.eval x = fv k)
    (hK : wpList Try.prog ops Q rest (a.put o.dst (.tuple #[.int .i64 0, .bool false])) w) : wpList Try.prog ops Q (o :: rest) a w := by
  refine wpList_plain hg fun K' hK' => ?_
  have hrun := look_run k hM
  rw [hf] at hrun
  unfold Oper.wp
  simp [execOp, hop, hm, hx, hrun, Result.andThen]
  exact hK' _ _ hK
theorem wpList_putT (hg : o.guard = none) (m x v : Operand) (hop : o.op = Op.mapUpdate 156 m x v ∨ o.op = Op.insert 156 m x v) (b : Nat) (ks : List TF) (k : TF) (z : Int) (hM : MapT w b ks) (hf : fndT k ks 0 = none) (hm : a.eval m = .map (some b)) (hx : a.eval x = fv k) (hv : a.eval v = .int .i64 z) (hz : z = (ks.length : Int))
    (hK : ∀ w', Only b (b + 1) w w' → MapT w' b (ks ++ [k]) → wpList Try.prog ops Q rest (a.put o.dst undef) w') : wpList Try.prog ops Q (o :: rest) a w := by
  refine wpList_plain hg fun K' hK' => ?_
  obtain ⟨ob, hrun, hM2⟩ := put_run k hM hf ks.length rfl
  unfold Oper.wp
  subst hz
  rcases hop with hop | hop
  · simp [execOp, hop, hm, hx, hv, hrun, Result.andThen]
    exact hK' _ _ (hK _ (only_block w b ob) hM2)
  · simp [execOp, hop, hm, hx, hv, hrun, Result.andThen]
    exact hK' _ _ (hK _ (only_block w b ob) hM2)
end
end Go.Proofs.Ytpognnifgcacnaa

/- A memory of names: a struct of one slice. No program in sight. -/
namespace Go.Proofs.Ytpognnifgcacnaa
open Go.RowKit

section
variable {P : Program} {nt : Nat} {S : St} {t : Nat} {ty : TypeId} {ps : String} {af : Array Edge} {gd : Option (Nat × Bool)}
/-- a struct of one slice -/
theorem stp_buildS1 {T : TypeId} {x0 : Operand} {b0 : A1} {n0 : Nat} (ht : Nat.blt t nt = true) (hx0 : S.op x0 = some (o1 b0)) (hl0 : b0.len = some n0)
    (hb : ∀ ao n c, P.built T [(0, .slice ao n c)] = some #[.slice ao n c]) :
    Stp P nt ⟨some t, .build T #[(0, x0)], ty, ps, af, gd⟩ S (S.put t (.s (.agg [b0]))) :=
  Stp.of _ fun w0 ω0 η ω a w hs => by
    have d0 : Den1 η b0 (a.eval x0) := hs.opv hx0
    obtain ⟨ao, c, e0⟩ := d0.len_ hl0
    refine ⟨.agg #[a.eval x0], w, ?_, η, ω, hs.putV (by simpa using ht) (⟨_, rfl, by simp, fun j b hb => ?_⟩ : Den2 η (.agg [b0]) _)⟩
    · simp only [execOp]
      have := run_build w T #[(0, .slice ao n0 c)] _ (hb ao n0 c)
      simp [e0, this]
    · match j, hb with
      | 0, hb => simp at hb; subst hb; exact ⟨_, by simp, d0⟩
      | j + 1, hb => simp at hb
end
end Go.Proofs.Ytpognnifgcacnaa

/- The map of a rotation: the program's. -/
namespace Go.Proofs.Ytpognnifgcacnaa
open Go.RowKit

theorem oth_bits (d : Nat) (h : d < 1000000) : IntKind.i64.wrap ((BitVec.ofInt 64 (d : Int) ^^^ BitVec.ofInt 64 1).toNat : Int) = ((othN d : Nat) : Int) := by
  have h1 : (BitVec.ofInt 64 (d : Int)).toNat = d := by
    rw [BitVec.ofInt_natCast, BitVec.toNat_ofNat]; exact Nat.mod_eq_of_lt (by omega)
  have h2 : (BitVec.ofInt 64 (1 : Int)).toNat = 1 := rfl
  have h3 : d ^^^ 1 = othN d := by
    unfold othN
    apply Nat.eq_of_testBit_eq
    intro j
    rw [Nat.testBit_xor]
    cases j with
    | zero =>
      by_cases e : d % 2 = 0
      · rw [if_pos e]; simp [Nat.testBit_zero, e]; omega
      · rw [if_neg e]
        have h4 : d % 2 = 1 := by omega
        have h5 : (d - 1) % 2 = 0 := by omega
        simp [Nat.testBit_zero, h4, h5]
    | succ j =>
      rw [Nat.testBit_succ, Nat.testBit_succ, Nat.testBit_succ]
      by_cases e : d % 2 = 0
      · rw [if_pos e, show (d + 1) / 2 = d / 2 by omega]; simp
      · rw [if_neg e, show (d - 1) / 2 = d / 2 by omega]; simp
  rw [BitVec.toNat_xor, h1, h2, h3, IntKind.wrap_i64]
  have : othN d ≤ d + 1 := by unfold othN; split <;> omega
  omega
section
variable {P : Program} {nt : Nat} {S : St} {t : Nat} {ty : TypeId} {ps : String} {af : Array Edge} {gd : Option (Nat × Bool)} {x : Operand}
theorem stp_oth {xt yt : TypeId} {d : Nat} (ht : Nat.blt t nt = true) (hx : S.op x = some (vv (I6 (d : Int)))) (hd : d < 1000000) :
    Stp P nt ⟨some t, .binOp .xor xt x (.const (I6 1)) yt, ty, ps, af, gd⟩ S (S.put t (vv (I6 ((othN d : Nat) : Int)))) :=
  Stp.pure rfl ht fun _ _ η _ s w hs => by
    refine ⟨I6 ((othN d : Nat) : Int), ?_, rfl⟩
    have hb' := oth_bits d hd
    have e : Op.intBits .xor .i64 (d : Int) 1 = pure (I6 ((othN d : Nat) : Int)) := by rw [← hb']; rfl
    have he : s.eval (.const (I6 1)) = I6 1 := rfl
    simp [execOp, hs.opV hx, he, eqGuard, binOp, e]
end
abbrev mBox : Ch := ⟨true, 41, 1, .flat [.val (.slice none 0 0)]⟩
end Go.Proofs.Ytpognnifgcacnaa

/- Forms of maniplexes, the reference's: l01Back, l02Numbers, l02Renumber, l02Form. -/
namespace Go.Proofs.Ytpognnifgcacnaa
open Go.RowKit

/-- values put at places -/
def putL (N : Nat) (g : Nat → Nat) (v : Nat → Int) (m : Nat) : List Int := (List.range m).foldl (fun l i => l.set (g i) (v i)) (List.replicate N 0)
theorem putL_zero (N : Nat) (g : Nat → Nat) (v : Nat → Int) : putL N g v 0 = List.replicate N 0 := rfl
theorem putL_succ (N : Nat) (g : Nat → Nat) (v : Nat → Int) (m : Nat) : putL N g v (m + 1) = (putL N g v m).set (g m) (v m) := by unfold putL; rw [List.range_succ, List.foldl_append]; rfl
theorem putL_len (N : Nat) (g : Nat → Nat) (v : Nat → Int) : ∀ m, (putL N g v m).length = N
  | 0 => by simp [putL_zero]
  | m + 1 => by rw [putL_succ, List.length_set]; exact putL_len N g v m
theorem putL_get {N : Nat} {g : Nat → Nat} {v : Nat → Int} {M : Nat} (hg : ∀ i, i < M → g i < N) (hi : ∀ i j, i < M → j < M → g i = g j → i = j) : ∀ m, m ≤ M → ∀ i, i < m → iget (putL N g v m) (g i) = v i
  | 0, _, i, h => by omega
  | m + 1, hm, i, h => by
    rw [putL_succ]
    have hl := putL_len N g v m
    by_cases e : i = m
    · subst e
      simp [iget, hl, hg i (by omega)]
    · have hne : g m ≠ g i := fun h' => e (hi m i (by omega) (by omega) h').symm
      have := putL_get (v := v) hg hi m (by omega) i (by omega)
      rw [← this]
      simp [iget, List.getElem?_set, hne]
def backL (O : List Int) : List Int := putL O.length (fun i => (iget O i).toNat) (fun i => (i : Int)) O.length
def fRow (p r : List Int) : List Int := putL p.length (fun f => (iget p f).toNat) (fun f => iget p (iget r f).toNat) p.length
def formL (T : List (List Int)) (p : List Int) : List (List Int) := T.map (fRow p)
set_option maxRecDepth 100000 in
theorem backS_fc (O : List Int) (N : Nat) (hl : O.length = N) (hin : ∀ i, i < N → 0 ≤ iget O i ∧ iget O i < N) (hN : N ≤ 1000000) :
    FC Try.prog 224 [(1003, wRo O)] [o1 (.sl 1003 0 N)] [(7, leOw (backL O))] (o1 (.sl 7 0 N)) [] := by
  have hO : N ≤ (ivals O).length := by rw [ivals_len, hl]; exact Nat.le_refl _
  unfold backL
  rw [hl]
  refine fc_enter (nt := 22) Try.func224 rfl rfl (by simp) fun w0 ω0 => ?_
  (refine goes_seq ?_; refine goes_region ?_; apply run_step rfl; (exact stp_assign rfl rfl); refine run_nil ?_; refine fin_seq ?_; refine goes_seq ?_; refine goes_region ?_; apply run_step rfl; (exact stp_move rfl rfl); apply run_step rfl; (exact stp_len rfl rfl rfl (by as_aux_lemma => kernel_rfl)); apply run_step rfl; (exact stp_makeI (E := 2) rfl (by as_aux_lemma => kernel_rfl) (by as_aux_lemma => kernel_rfl) rfl rfl rfl rfl (by omega)); apply run_step rfl; (exact stp_assign rfl rfl); refine run_nil ?_; refine fin_seq ?_; refine goes_seq ?_; refine goes_seq ?_; refine goes_region ?_; apply run_step rfl; (exact stp_assign rfl rfl); refine run_nil ?_; refine fin_seq ?_; refine goes_block ?_)
  refine goes_loop (fun i : Nat => St.of [(0, o1 (.sl 1003 0 N)), (3, o1 (.sl 7 0 N)), (4, vv (I6 i))] [(1003, wRo O), (7, leOw (putL N (fun i => (iget O i).toNat) (fun i => (i : Int)) i))]) (fun i => i ≤ N) (fun i => N - i) 0 (Nat.zero_le _) (Wk.of ⟨rfl, rfl, rfl, trivial⟩ ⟨rfl, rfl, trivial⟩ trivial) ?_
  intro i hi
  have hs := putL_succ N (fun i => (iget O i).toNat) (fun i => (i : Int)) i
  have hL := putL_len N (fun i => (iget O i).toNat) (fun i => (i : Int)) i
  obtain ⟨L, hLe⟩ : ∃ L, putL N (fun i => (iget O i).toNat) (fun i => (i : Int)) i = L := ⟨_, rfl⟩
  rw [hLe] at hs hL ⊢
  have hLi : N ≤ (ivals L).length := by rw [ivals_len, hL]; exact Nat.le_refl _
  (refine goes_seq ?_; refine goes_seq ?_; refine goes_region ?_; apply run_step rfl; (exact stp_move rfl rfl); apply run_step rfl; (exact stp_move rfl rfl); apply run_step rfl; (exact stp_len rfl rfl rfl (by as_aux_lemma => kernel_rfl)); apply run_step rfl; (exact stp_bin rfl rfl rfl rfl); refine run_nil ?_; refine fin_seq ?_)
  refine goes_if rfl (fun h => ?_) (fun h => ?_)
  · have hiN : i < N := by omega
    obtain ⟨d, hd⟩ := Int.eq_ofNat_of_zero_le (hin i hiN).1
    have hdN : d < N := by have := (hin i hiN).2; omega
    rw [hd, Int.toNat_natCast] at hs
    have gi : (ivals O)[i]? = some (I6 (d : Int)) := by rw [ivals_get (by omega), hd]
    (refine goes_skip ?_; refine fin_seq ?_; refine goes_seq ?_; refine goes_block ?_; refine goes_region ?_; apply run_step rfl; (exact stp_move rfl rfl); apply run_step rfl; (exact stp_move rfl rfl); apply run_step rfl; (exact stp_move rfl rfl); apply run_step rfl; (first | exact stp_ix (j := i) rfl rfl rfl rfl rfl (by as_aux_lemma => kernel_rfl) rfl hiN hO | exact stp_ix (j := d) rfl rfl rfl rfl rfl (by as_aux_lemma => kernel_rfl) rfl hdN hLi | exact stp_stI rfl rfl rfl rfl rfl (by omega) (by as_aux_lemma => kernel_rfl)); apply run_step rfl; (exact stp_loadV rfl (by as_aux_lemma => kernel_rfl) rfl rfl rfl (by first | assumption | exact ivals_get (by assumption) | exact irows_get (by assumption) | exact ivals_get (by omega) | exact irows_get (by omega) | rfl)); apply run_step rfl; (exact stp_move rfl rfl); apply run_step rfl; (first | exact stp_ix (j := i) rfl rfl rfl rfl rfl (by as_aux_lemma => kernel_rfl) rfl hiN hO | exact stp_ix (j := d) rfl rfl rfl rfl rfl (by as_aux_lemma => kernel_rfl) rfl hdN hLi | exact stp_stI rfl rfl rfl rfl rfl (by omega) (by as_aux_lemma => kernel_rfl)); apply run_step rfl; (first | exact stp_ix (j := i) rfl rfl rfl rfl rfl (by as_aux_lemma => kernel_rfl) rfl hiN hO | exact stp_ix (j := d) rfl rfl rfl rfl rfl (by as_aux_lemma => kernel_rfl) rfl hdN hLi | exact stp_stI rfl rfl rfl rfl rfl (by omega) (by as_aux_lemma => kernel_rfl)); refine run_nil ?_; refine fin_block ?_; refine fin_seq ?_; refine goes_region ?_; apply run_step rfl; (exact stp_move rfl rfl); apply run_step rfl; (exact stp_add rfl rfl rfl (by first | exact IntWalk.i64_in _ (by omega) | rfl)); apply run_step rfl; (exact stp_assign rfl rfl); refine run_nil ?_)
    exact fin_round (i + 1) hiN (by show N - (i + 1) < N - i; omega) (Wk.of ⟨rfl, rfl, rfl, trivial⟩ ⟨rfl, congrArg (fun l => some (leOw l)) hs.symm, trivial⟩ trivial)
  · obtain rfl : i = N := by omega
    rw [hLe]
    (refine goes_exit ?_; refine fin_exit_then ?_; refine fin_exit_then ?_; refine fin_exit_eq ?_; refine fin_seq ?_; refine goes_seq ?_; refine goes_region ?_; apply run_step rfl; (exact stp_move rfl rfl); apply run_step rfl; (exact stp_assign rfl rfl); refine run_nil ?_; refine fin_seq ?_; refine goes_ret ?_)
    exact fin_ret1 (.inl rfl) rfl (.tmp rfl) ⟨rfl, trivial⟩ trivial
set_option maxRecDepth 100000 in
theorem numbS_fc (T : List (List Int)) (N c : Nat) (hT : Leads T N) (hpos : 0 < T.length) (hN : N ≤ 1000000) (hg : T.length ≤ 1000000) (hc : c < N) (hfull : (orb T N c).2.length = N) :
    FC Try.prog 207 [(1003, rowsRo T)] [mA T.length, vv (I6 c)] [(11, leOw (backL (orb T N c).2))] (o1 (.sl 11 0 N)) [] := by
  have hO := (orbS_fc T N c hT hpos hN hg hc).nm [(1003, 1003), (12, 9)] (by kernel_rfl)
  have hO : FC Try.prog 177 [(1003, rowsRo T)] [o1 (.sl 1003 0 T.length), vv (I6 c)] [(9, leOw (orb T N c).2)] (o1 (.sl 9 0 (orb T N c).2.length)) [] := hO
  have hok := orb_ok hT hc
  have hB := (backS_fc (orb T N c).2 N hfull (fun i hi => by obtain ⟨d, e, h, _⟩ := hok.q i (by omega); omega) hN).nm [(1003, 9), (7, 11)] (by kernel_rfl)
  have hB : FC Try.prog 224 [(9, wRo (orb T N c).2)] [o1 (.sl 9 0 N)] [(11, leOw (backL (orb T N c).2))] (o1 (.sl 11 0 N)) [] := hB
  rw [hfull] at hO
  generalize backL (orb T N c).2 = B at *
  generalize (orb T N c).2 = O at *
  refine fc_enter (nt := 12) Try.func207 rfl rfl (by simp) fun w0 ω0 => ?_
  (refine goes_seq ?_; refine goes_region ?_; apply run_step rfl; (exact stp_box rfl rfl rfl rfl); apply run_step rfl; (exact stp_assign rfl rfl); refine run_nil ?_; refine fin_seq ?_; refine goes_seq ?_; refine goes_region ?_; apply run_step rfl; (exact stp_fieldAddr (d := 0) rfl rfl rfl (by as_aux_lemma => kernel_rfl)); apply run_step rfl; (exact stp_loadF rfl (by as_aux_lemma => kernel_rfl) rfl rfl rfl rfl); apply run_step rfl; (exact stp_move rfl rfl); apply run_step rfl; (first | (apply call_gate 177; exact stp_callN hO (by as_aux_lemma => kernel_rfl) rfl rfl ⟨rfl, rfl, trivial⟩ ⟨⟨_, rfl, .inl rfl⟩, trivial⟩ rfl rfl rfl) | (apply call_gate 224; exact stp_callN hB (by as_aux_lemma => kernel_rfl) rfl rfl ⟨rfl, trivial⟩ ⟨⟨_, rfl, .inr rfl⟩, trivial⟩ rfl rfl rfl)); apply run_step rfl; (exact stp_assign rfl rfl); refine run_nil ?_; refine fin_seq ?_; refine goes_seq ?_; refine goes_region ?_; apply run_step rfl; (exact stp_move rfl rfl); apply run_step rfl; (first | (apply call_gate 177; exact stp_callN hO (by as_aux_lemma => kernel_rfl) rfl rfl ⟨rfl, rfl, trivial⟩ ⟨⟨_, rfl, .inl rfl⟩, trivial⟩ rfl rfl rfl) | (apply call_gate 224; exact stp_callN hB (by as_aux_lemma => kernel_rfl) rfl rfl ⟨rfl, trivial⟩ ⟨⟨_, rfl, .inr rfl⟩, trivial⟩ rfl rfl rfl)); apply run_step rfl; (exact stp_assign rfl rfl); refine run_nil ?_; refine fin_seq ?_; refine goes_ret ?_)
  exact fin_ret1 (.inl rfl) rfl (.tmp rfl) ⟨rfl, trivial⟩ trivial
set_option maxRecDepth 100000 in
set_option maxHeartbeats 2000000 in
theorem renS_fc (T : List (List Int)) (P : List Int) (N : Nat) (hT : Leads T N) (hP : P.length = N) (hin : ∀ f, f < N → 0 ≤ iget P f ∧ iget P f < N) (hN : N ≤ 1000000) (hg : T.length ≤ 1000000) :
    FC Try.prog 206 [(1002, wRo P), (1003, rowsRo T)] [mA T.length, o1 (.sl 1002 0 N)] [(1000, imOw (formL T P))] (.s (.agg [.sl 1000 0 T.length])) [] := by
  have hTl : (irows T).length = T.length := irows_len _
  have hPi : N ≤ (ivals P).length := by rw [ivals_len, hP]; exact Nat.le_refl _
  refine fc_enter (nt := 50) Try.func206 rfl rfl (by simp) fun w0 ω0 => ?_
  (refine goes_seq ?_; refine goes_region ?_; apply run_step rfl; (exact stp_box rfl rfl rfl rfl); apply run_step rfl; (exact stp_allocZ [.slice none 0 0] rfl (by as_aux_lemma => kernel_rfl)); refine run_nil ?_; refine fin_seq ?_; refine goes_seq ?_; refine goes_region ?_; apply run_step rfl; (exact stp_buildZ [.slice none 0 0] rfl (by as_aux_lemma => kernel_rfl)))
  refine run_wk (wk_nilA (t := 9) (n := 1000) (k := 1) (E := 49) (d := .rows 2 (irows []) []) 0 rfl rfl rfl rfl) ?_
  (apply run_step rfl; (first | exact stp_allocZ [.slice none 0 0] rfl (by as_aux_lemma => kernel_rfl) | exact stp_storeAgg rfl rfl rfl rfl rfl rfl rfl rfl (by as_aux_lemma => kernel_rfl) rfl); apply run_step rfl; (first | exact stp_allocZ [.slice none 0 0] rfl (by as_aux_lemma => kernel_rfl) | exact stp_storeAgg rfl rfl rfl rfl rfl rfl rfl rfl (by as_aux_lemma => kernel_rfl) rfl); refine run_nil ?_; refine fin_seq ?_; refine goes_seq ?_; refine goes_seq ?_; refine goes_region ?_; apply run_step rfl; (exact stp_assign rfl rfl); refine run_nil ?_; refine fin_seq ?_; refine goes_block ?_)
  refine goes_loop (fun k : Nat => St.of [(1, o1 (.sl 1002 0 N)), (2, o1 (.ptr 2 0)), (4, o1 (.ptr 4 0)), (5, o1 (.ptr 5 0)), (6, vv (I6 k))] [(1002, wRo P), (1003, rowsRo T), (2, ⟨true, 41, 1, .flat [.sl 1003 0 T.length]⟩), (4, mBox), (5, ⟨true, 41, 1, .flat [.sl 1000 0 k]⟩), (1000, imOw (formL (T.take k) P))])
    (fun k => k ≤ T.length) (fun k => T.length - k) 0 (Nat.zero_le _) (Wk.of ⟨rfl, rfl, rfl, rfl, rfl, trivial⟩ ⟨rfl, rfl, rfl, rfl, rfl, rfl, trivial⟩ trivial) ?_
  intro k hk
  (refine goes_seq ?_; refine goes_seq ?_; refine goes_region ?_; apply run_step rfl; (exact stp_move rfl rfl); apply run_step rfl; (exact stp_fieldAddr (d := 0) rfl rfl rfl (by as_aux_lemma => kernel_rfl)); apply run_step rfl; (exact stp_loadF rfl (by as_aux_lemma => kernel_rfl) rfl rfl rfl rfl); apply run_step rfl; (exact stp_len rfl rfl rfl (by as_aux_lemma => kernel_rfl)); apply run_step rfl; (exact stp_bin rfl rfl rfl rfl); refine run_nil ?_; refine fin_seq ?_)
  refine goes_if rfl (fun h => ?_) (fun h => ?_)
  · have hkn : k < T.length := by omega
    have hrow : (irows T)[k]? = some (ivals (lget T k)) := irows_get hkn
    have hil : (ivals (lget T k)).length = N := by rw [ivals_len]; exact hT.len k hkn
    have hrl := hT.len k hkn
    have hrin := hT.within k hkn
    have hnext : formL (T.take (k + 1)) P = formL (T.take k) P ++ [fRow P (lget T k)] := by unfold formL; rw [take_lget hkn, List.map_append]; rfl
    have hfr : fRow P (lget T k) = putL N (fun f => (iget P f).toNat) (fun f => iget P (iget (lget T k) f).toNat) N := by unfold fRow; rw [hP]
    have hkl : (formL (T.take k) P).length = k := by unfold formL; rw [List.length_map, List.length_take]; omega
    generalize formL (T.take k) P = Fk at *
    generalize hr : lget T k = r at *
    (refine goes_skip ?_; refine fin_seq ?_; refine goes_seq ?_; refine goes_block ?_; refine goes_seq ?_; refine goes_region ?_; apply run_step rfl; (exact stp_move rfl rfl); apply run_step rfl; (exact stp_len rfl rfl rfl (by as_aux_lemma => kernel_rfl)); apply run_step rfl; (exact stp_makeI (E := 2) rfl (by as_aux_lemma => kernel_rfl) (by as_aux_lemma => kernel_rfl) rfl rfl rfl rfl (by omega)); apply run_step rfl; (exact stp_assign rfl rfl); refine run_nil ?_; refine fin_seq ?_; refine goes_seq ?_; refine goes_seq ?_; refine goes_region ?_; apply run_step rfl; (exact stp_assign rfl rfl); refine run_nil ?_; refine fin_seq ?_; refine goes_block ?_)
    refine goes_loop (fun f : Nat => St.of [(1, o1 (.sl 1002 0 N)), (2, o1 (.ptr 2 0)), (4, o1 (.ptr 4 0)), (5, o1 (.ptr 5 0)), (6, vv (I6 k)), (7, o1 (.sl 19 0 N)), (8, vv (I6 f))] [(1002, wRo P), (1003, rowsRo T), (2, ⟨true, 41, 1, .flat [.sl 1003 0 T.length]⟩), (4, mBox), (5, ⟨true, 41, 1, .flat [.sl 1000 0 k]⟩), (1000, imOw Fk), (19, leOw (putL N (fun f => (iget P f).toNat) (fun f => iget P (iget r f).toNat) f))])
      (fun f => f ≤ N) (fun f => N - f) 0 (Nat.zero_le _) (Wk.of ⟨rfl, rfl, rfl, rfl, rfl, rfl, rfl, trivial⟩ ⟨rfl, rfl, rfl, rfl, rfl, rfl, rfl, trivial⟩ trivial) ?_
    intro f hf
    have hs := putL_succ N (fun f => (iget P f).toNat) (fun f => iget P (iget r f).toNat) f
    have hL := putL_len N (fun f => (iget P f).toNat) (fun f => iget P (iget r f).toNat) f
    obtain ⟨L, hLe⟩ : ∃ L, putL N (fun f => (iget P f).toNat) (fun f => iget P (iget r f).toNat) f = L := ⟨_, rfl⟩
    rw [hLe] at hs hL ⊢
    have hLi : N ≤ (ivals L).length := by rw [ivals_len, hL]; exact Nat.le_refl _
    (refine goes_seq ?_; refine goes_seq ?_; refine goes_region ?_; apply run_step rfl; (exact stp_move rfl rfl); apply run_step rfl; (exact stp_move rfl rfl); apply run_step rfl; (exact stp_len rfl rfl rfl (by as_aux_lemma => kernel_rfl)); apply run_step rfl; (exact stp_bin rfl rfl rfl rfl); refine run_nil ?_; refine fin_seq ?_)
    refine goes_if rfl (fun h2 => ?_) (fun h2 => ?_)
    · have hfN : f < N := by omega
      obtain ⟨d, hd⟩ := Int.eq_ofNat_of_zero_le (hin f hfN).1
      have hdN : d < N := by have := (hin f hfN).2; omega
      obtain ⟨e, he⟩ := Int.eq_ofNat_of_zero_le (hrin f hfN).1
      have heN : e < N := by have := (hrin f hfN).2; omega
      rw [hd, he, Int.toNat_natCast, Int.toNat_natCast] at hs
      have gf : (ivals P)[f]? = some (I6 (d : Int)) := by rw [ivals_get (by omega), hd]
      have gr : (ivals r)[f]? = some (I6 (e : Int)) := by rw [ivals_get (by omega), he]
      have ge : (ivals P)[e]? = some (I6 (iget P e)) := ivals_get (by omega)
      (refine goes_skip ?_; refine fin_seq ?_; refine goes_seq ?_; refine goes_block ?_)
      apply goes_draw 16 [] [[], [], [], [1, 2], [1, 2, 3], [], [], [6], [], [6, 7, 8], [6, 7, 8, 9], [], [6, 7, 8, 9, 10, 11], [6, 7, 8, 9, 10, 11, 12], [5, 6, 7, 8, 9, 10, 11, 12, 13], [5, 6, 7, 8, 9, 10, 11, 12, 13, 14], [0, 1, 2, 3, 4, 5, 6, 7, 8, 9, 10, 11, 12, 13, 14, 15], [0, 1, 2, 3, 4, 5, 6, 7, 8, 9, 10, 11, 12, 13, 14, 15, 16]] [26, 27, 28, 29, 30, 31, 32, 33, 34, 35, 36, 37, 38, 39, 40, 41] [] (by kernel_rfl) (by kernel_rfl)
      · (apply draw_put rfl; (intro S1 hS; exact stp_move rfl (hS.op rfl)); apply draw_put rfl; (intro S1 hS; exact stp_move rfl (hS.op rfl)); apply draw_put rfl; (intro S1 hS; exact stp_move rfl (hS.op rfl)); (first | (apply draw_put rfl; (focus (intro S1 hS; exact stp_ix (j := f) rfl (hS.op rfl) (hS.op rfl) (hS.ch _ _ rfl) rfl (by as_aux_lemma => kernel_rfl) rfl hfN hPi))) | (apply draw_put rfl; (focus (intro S1 hS; exact stp_ix (j := e) rfl (hS.op rfl) (hS.op rfl) (hS.ch _ _ rfl) rfl (by as_aux_lemma => kernel_rfl) rfl heN hPi))) | (apply draw_put rfl; (focus (intro S1 hS; exact stp_ix (j := k) rfl (hS.op rfl) (hS.op rfl) (hS.ch _ _ rfl) rfl (by as_aux_lemma => kernel_rfl) rfl hkn (Nat.le_of_eq hTl.symm)))) | (apply draw_put rfl; (focus (intro S1 hS; exact stp_loadF rfl (by as_aux_lemma => kernel_rfl) (hS.op rfl) (hS.ch _ _ rfl) rfl rfl))) | (apply draw_put rfl; (focus (intro S1 hS; exact stp_loadR rfl (by as_aux_lemma => kernel_rfl) (hS.op rfl) (hS.ch _ _ rfl) rfl hrow hil))) | (apply draw_put rfl; (focus (intro S1 hS; exact stp_loadV rfl (by as_aux_lemma => kernel_rfl) (hS.op rfl) (hS.ch _ _ rfl) rfl gf))) | (apply draw_put rfl; (focus (intro S1 hS; exact stp_loadV rfl (by as_aux_lemma => kernel_rfl) (hS.op rfl) (hS.ch _ _ rfl) rfl ge))) | (apply draw_put rfl; (focus (intro S1 hS; exact stp_ixE (j := f) rfl (hS.op rfl) (hS.op rfl) (hS.ch _ _ rfl) rfl (by as_aux_lemma => kernel_rfl) hrow rfl hfN (Nat.le_of_eq hil.symm)))) | (apply draw_put rfl; (focus (intro S1 hS; exact stp_loadE' rfl (by as_aux_lemma => kernel_rfl) (hS.op rfl) (hS.ch _ _ rfl) rfl hrow gr)))); (first | (apply draw_put rfl; (focus (intro S1 hS; exact stp_ix (j := f) rfl (hS.op rfl) (hS.op rfl) (hS.ch _ _ rfl) rfl (by as_aux_lemma => kernel_rfl) rfl hfN hPi))) | (apply draw_put rfl; (focus (intro S1 hS; exact stp_ix (j := e) rfl (hS.op rfl) (hS.op rfl) (hS.ch _ _ rfl) rfl (by as_aux_lemma => kernel_rfl) rfl heN hPi))) | (apply draw_put rfl; (focus (intro S1 hS; exact stp_ix (j := k) rfl (hS.op rfl) (hS.op rfl) (hS.ch _ _ rfl) rfl (by as_aux_lemma => kernel_rfl) rfl hkn (Nat.le_of_eq hTl.symm)))) | (apply draw_put rfl; (focus (intro S1 hS; exact stp_loadF rfl (by as_aux_lemma => kernel_rfl) (hS.op rfl) (hS.ch _ _ rfl) rfl rfl))) | (apply draw_put rfl; (focus (intro S1 hS; exact stp_loadR rfl (by as_aux_lemma => kernel_rfl) (hS.op rfl) (hS.ch _ _ rfl) rfl hrow hil))) | (apply draw_put rfl; (focus (intro S1 hS; exact stp_loadV rfl (by as_aux_lemma => kernel_rfl) (hS.op rfl) (hS.ch _ _ rfl) rfl gf))) | (apply draw_put rfl; (focus (intro S1 hS; exact stp_loadV rfl (by as_aux_lemma => kernel_rfl) (hS.op rfl) (hS.ch _ _ rfl) rfl ge))) | (apply draw_put rfl; (focus (intro S1 hS; exact stp_ixE (j := f) rfl (hS.op rfl) (hS.op rfl) (hS.ch _ _ rfl) rfl (by as_aux_lemma => kernel_rfl) hrow rfl hfN (Nat.le_of_eq hil.symm)))) | (apply draw_put rfl; (focus (intro S1 hS; exact stp_loadE' rfl (by as_aux_lemma => kernel_rfl) (hS.op rfl) (hS.ch _ _ rfl) rfl hrow gr)))); apply draw_put rfl; (intro S1 hS; exact stp_move rfl (hS.op rfl)); apply draw_put rfl; (intro S1 hS; exact stp_fieldAddr (d := 0) rfl (hS.op rfl) (hS.ch _ _ rfl) (by as_aux_lemma => kernel_rfl)); (first | (apply draw_put rfl; (focus (intro S1 hS; exact stp_ix (j := f) rfl (hS.op rfl) (hS.op rfl) (hS.ch _ _ rfl) rfl (by as_aux_lemma => kernel_rfl) rfl hfN hPi))) | (apply draw_put rfl; (focus (intro S1 hS; exact stp_ix (j := e) rfl (hS.op rfl) (hS.op rfl) (hS.ch _ _ rfl) rfl (by as_aux_lemma => kernel_rfl) rfl heN hPi))) | (apply draw_put rfl; (focus (intro S1 hS; exact stp_ix (j := k) rfl (hS.op rfl) (hS.op rfl) (hS.ch _ _ rfl) rfl (by as_aux_lemma => kernel_rfl) rfl hkn (Nat.le_of_eq hTl.symm)))) | (apply draw_put rfl; (focus (intro S1 hS; exact stp_loadF rfl (by as_aux_lemma => kernel_rfl) (hS.op rfl) (hS.ch _ _ rfl) rfl rfl))) | (apply draw_put rfl; (focus (intro S1 hS; exact stp_loadR rfl (by as_aux_lemma => kernel_rfl) (hS.op rfl) (hS.ch _ _ rfl) rfl hrow hil))) | (apply draw_put rfl; (focus (intro S1 hS; exact stp_loadV rfl (by as_aux_lemma => kernel_rfl) (hS.op rfl) (hS.ch _ _ rfl) rfl gf))) | (apply draw_put rfl; (focus (intro S1 hS; exact stp_loadV rfl (by as_aux_lemma => kernel_rfl) (hS.op rfl) (hS.ch _ _ rfl) rfl ge))) | (apply draw_put rfl; (focus (intro S1 hS; exact stp_ixE (j := f) rfl (hS.op rfl) (hS.op rfl) (hS.ch _ _ rfl) rfl (by as_aux_lemma => kernel_rfl) hrow rfl hfN (Nat.le_of_eq hil.symm)))) | (apply draw_put rfl; (focus (intro S1 hS; exact stp_loadE' rfl (by as_aux_lemma => kernel_rfl) (hS.op rfl) (hS.ch _ _ rfl) rfl hrow gr)))); apply draw_put rfl; (intro S1 hS; exact stp_move rfl (hS.op rfl)); (first | (apply draw_put rfl; (focus (intro S1 hS; exact stp_ix (j := f) rfl (hS.op rfl) (hS.op rfl) (hS.ch _ _ rfl) rfl (by as_aux_lemma => kernel_rfl) rfl hfN hPi))) | (apply draw_put rfl; (focus (intro S1 hS; exact stp_ix (j := e) rfl (hS.op rfl) (hS.op rfl) (hS.ch _ _ rfl) rfl (by as_aux_lemma => kernel_rfl) rfl heN hPi))) | (apply draw_put rfl; (focus (intro S1 hS; exact stp_ix (j := k) rfl (hS.op rfl) (hS.op rfl) (hS.ch _ _ rfl) rfl (by as_aux_lemma => kernel_rfl) rfl hkn (Nat.le_of_eq hTl.symm)))) | (apply draw_put rfl; (focus (intro S1 hS; exact stp_loadF rfl (by as_aux_lemma => kernel_rfl) (hS.op rfl) (hS.ch _ _ rfl) rfl rfl))) | (apply draw_put rfl; (focus (intro S1 hS; exact stp_loadR rfl (by as_aux_lemma => kernel_rfl) (hS.op rfl) (hS.ch _ _ rfl) rfl hrow hil))) | (apply draw_put rfl; (focus (intro S1 hS; exact stp_loadV rfl (by as_aux_lemma => kernel_rfl) (hS.op rfl) (hS.ch _ _ rfl) rfl gf))) | (apply draw_put rfl; (focus (intro S1 hS; exact stp_loadV rfl (by as_aux_lemma => kernel_rfl) (hS.op rfl) (hS.ch _ _ rfl) rfl ge))) | (apply draw_put rfl; (focus (intro S1 hS; exact stp_ixE (j := f) rfl (hS.op rfl) (hS.op rfl) (hS.ch _ _ rfl) rfl (by as_aux_lemma => kernel_rfl) hrow rfl hfN (Nat.le_of_eq hil.symm)))) | (apply draw_put rfl; (focus (intro S1 hS; exact stp_loadE' rfl (by as_aux_lemma => kernel_rfl) (hS.op rfl) (hS.ch _ _ rfl) rfl hrow gr)))); (first | (apply draw_put rfl; (focus (intro S1 hS; exact stp_ix (j := f) rfl (hS.op rfl) (hS.op rfl) (hS.ch _ _ rfl) rfl (by as_aux_lemma => kernel_rfl) rfl hfN hPi))) | (apply draw_put rfl; (focus (intro S1 hS; exact stp_ix (j := e) rfl (hS.op rfl) (hS.op rfl) (hS.ch _ _ rfl) rfl (by as_aux_lemma => kernel_rfl) rfl heN hPi))) | (apply draw_put rfl; (focus (intro S1 hS; exact stp_ix (j := k) rfl (hS.op rfl) (hS.op rfl) (hS.ch _ _ rfl) rfl (by as_aux_lemma => kernel_rfl) rfl hkn (Nat.le_of_eq hTl.symm)))) | (apply draw_put rfl; (focus (intro S1 hS; exact stp_loadF rfl (by as_aux_lemma => kernel_rfl) (hS.op rfl) (hS.ch _ _ rfl) rfl rfl))) | (apply draw_put rfl; (focus (intro S1 hS; exact stp_loadR rfl (by as_aux_lemma => kernel_rfl) (hS.op rfl) (hS.ch _ _ rfl) rfl hrow hil))) | (apply draw_put rfl; (focus (intro S1 hS; exact stp_loadV rfl (by as_aux_lemma => kernel_rfl) (hS.op rfl) (hS.ch _ _ rfl) rfl gf))) | (apply draw_put rfl; (focus (intro S1 hS; exact stp_loadV rfl (by as_aux_lemma => kernel_rfl) (hS.op rfl) (hS.ch _ _ rfl) rfl ge))) | (apply draw_put rfl; (focus (intro S1 hS; exact stp_ixE (j := f) rfl (hS.op rfl) (hS.op rfl) (hS.ch _ _ rfl) rfl (by as_aux_lemma => kernel_rfl) hrow rfl hfN (Nat.le_of_eq hil.symm)))) | (apply draw_put rfl; (focus (intro S1 hS; exact stp_loadE' rfl (by as_aux_lemma => kernel_rfl) (hS.op rfl) (hS.ch _ _ rfl) rfl hrow gr)))); apply draw_put rfl; (intro S1 hS; exact stp_move rfl (hS.op rfl)); (first | (apply draw_put rfl; (focus (intro S1 hS; exact stp_ix (j := f) rfl (hS.op rfl) (hS.op rfl) (hS.ch _ _ rfl) rfl (by as_aux_lemma => kernel_rfl) rfl hfN hPi))) | (apply draw_put rfl; (focus (intro S1 hS; exact stp_ix (j := e) rfl (hS.op rfl) (hS.op rfl) (hS.ch _ _ rfl) rfl (by as_aux_lemma => kernel_rfl) rfl heN hPi))) | (apply draw_put rfl; (focus (intro S1 hS; exact stp_ix (j := k) rfl (hS.op rfl) (hS.op rfl) (hS.ch _ _ rfl) rfl (by as_aux_lemma => kernel_rfl) rfl hkn (Nat.le_of_eq hTl.symm)))) | (apply draw_put rfl; (focus (intro S1 hS; exact stp_loadF rfl (by as_aux_lemma => kernel_rfl) (hS.op rfl) (hS.ch _ _ rfl) rfl rfl))) | (apply draw_put rfl; (focus (intro S1 hS; exact stp_loadR rfl (by as_aux_lemma => kernel_rfl) (hS.op rfl) (hS.ch _ _ rfl) rfl hrow hil))) | (apply draw_put rfl; (focus (intro S1 hS; exact stp_loadV rfl (by as_aux_lemma => kernel_rfl) (hS.op rfl) (hS.ch _ _ rfl) rfl gf))) | (apply draw_put rfl; (focus (intro S1 hS; exact stp_loadV rfl (by as_aux_lemma => kernel_rfl) (hS.op rfl) (hS.ch _ _ rfl) rfl ge))) | (apply draw_put rfl; (focus (intro S1 hS; exact stp_ixE (j := f) rfl (hS.op rfl) (hS.op rfl) (hS.ch _ _ rfl) rfl (by as_aux_lemma => kernel_rfl) hrow rfl hfN (Nat.le_of_eq hil.symm)))) | (apply draw_put rfl; (focus (intro S1 hS; exact stp_loadE' rfl (by as_aux_lemma => kernel_rfl) (hS.op rfl) (hS.ch _ _ rfl) rfl hrow gr)))); (first | (apply draw_put rfl; (focus (intro S1 hS; exact stp_ix (j := f) rfl (hS.op rfl) (hS.op rfl) (hS.ch _ _ rfl) rfl (by as_aux_lemma => kernel_rfl) rfl hfN hPi))) | (apply draw_put rfl; (focus (intro S1 hS; exact stp_ix (j := e) rfl (hS.op rfl) (hS.op rfl) (hS.ch _ _ rfl) rfl (by as_aux_lemma => kernel_rfl) rfl heN hPi))) | (apply draw_put rfl; (focus (intro S1 hS; exact stp_ix (j := k) rfl (hS.op rfl) (hS.op rfl) (hS.ch _ _ rfl) rfl (by as_aux_lemma => kernel_rfl) rfl hkn (Nat.le_of_eq hTl.symm)))) | (apply draw_put rfl; (focus (intro S1 hS; exact stp_loadF rfl (by as_aux_lemma => kernel_rfl) (hS.op rfl) (hS.ch _ _ rfl) rfl rfl))) | (apply draw_put rfl; (focus (intro S1 hS; exact stp_loadR rfl (by as_aux_lemma => kernel_rfl) (hS.op rfl) (hS.ch _ _ rfl) rfl hrow hil))) | (apply draw_put rfl; (focus (intro S1 hS; exact stp_loadV rfl (by as_aux_lemma => kernel_rfl) (hS.op rfl) (hS.ch _ _ rfl) rfl gf))) | (apply draw_put rfl; (focus (intro S1 hS; exact stp_loadV rfl (by as_aux_lemma => kernel_rfl) (hS.op rfl) (hS.ch _ _ rfl) rfl ge))) | (apply draw_put rfl; (focus (intro S1 hS; exact stp_ixE (j := f) rfl (hS.op rfl) (hS.op rfl) (hS.ch _ _ rfl) rfl (by as_aux_lemma => kernel_rfl) hrow rfl hfN (Nat.le_of_eq hil.symm)))) | (apply draw_put rfl; (focus (intro S1 hS; exact stp_loadE' rfl (by as_aux_lemma => kernel_rfl) (hS.op rfl) (hS.ch _ _ rfl) rfl hrow gr)))); (first | (apply draw_put rfl; (focus (intro S1 hS; exact stp_ix (j := f) rfl (hS.op rfl) (hS.op rfl) (hS.ch _ _ rfl) rfl (by as_aux_lemma => kernel_rfl) rfl hfN hPi))) | (apply draw_put rfl; (focus (intro S1 hS; exact stp_ix (j := e) rfl (hS.op rfl) (hS.op rfl) (hS.ch _ _ rfl) rfl (by as_aux_lemma => kernel_rfl) rfl heN hPi))) | (apply draw_put rfl; (focus (intro S1 hS; exact stp_ix (j := k) rfl (hS.op rfl) (hS.op rfl) (hS.ch _ _ rfl) rfl (by as_aux_lemma => kernel_rfl) rfl hkn (Nat.le_of_eq hTl.symm)))) | (apply draw_put rfl; (focus (intro S1 hS; exact stp_loadF rfl (by as_aux_lemma => kernel_rfl) (hS.op rfl) (hS.ch _ _ rfl) rfl rfl))) | (apply draw_put rfl; (focus (intro S1 hS; exact stp_loadR rfl (by as_aux_lemma => kernel_rfl) (hS.op rfl) (hS.ch _ _ rfl) rfl hrow hil))) | (apply draw_put rfl; (focus (intro S1 hS; exact stp_loadV rfl (by as_aux_lemma => kernel_rfl) (hS.op rfl) (hS.ch _ _ rfl) rfl gf))) | (apply draw_put rfl; (focus (intro S1 hS; exact stp_loadV rfl (by as_aux_lemma => kernel_rfl) (hS.op rfl) (hS.ch _ _ rfl) rfl ge))) | (apply draw_put rfl; (focus (intro S1 hS; exact stp_ixE (j := f) rfl (hS.op rfl) (hS.op rfl) (hS.ch _ _ rfl) rfl (by as_aux_lemma => kernel_rfl) hrow rfl hfN (Nat.le_of_eq hil.symm)))) | (apply draw_put rfl; (focus (intro S1 hS; exact stp_loadE' rfl (by as_aux_lemma => kernel_rfl) (hS.op rfl) (hS.ch _ _ rfl) rfl hrow gr)))); (first | (apply draw_put rfl; (focus (intro S1 hS; exact stp_ix (j := f) rfl (hS.op rfl) (hS.op rfl) (hS.ch _ _ rfl) rfl (by as_aux_lemma => kernel_rfl) rfl hfN hPi))) | (apply draw_put rfl; (focus (intro S1 hS; exact stp_ix (j := e) rfl (hS.op rfl) (hS.op rfl) (hS.ch _ _ rfl) rfl (by as_aux_lemma => kernel_rfl) rfl heN hPi))) | (apply draw_put rfl; (focus (intro S1 hS; exact stp_ix (j := k) rfl (hS.op rfl) (hS.op rfl) (hS.ch _ _ rfl) rfl (by as_aux_lemma => kernel_rfl) rfl hkn (Nat.le_of_eq hTl.symm)))) | (apply draw_put rfl; (focus (intro S1 hS; exact stp_loadF rfl (by as_aux_lemma => kernel_rfl) (hS.op rfl) (hS.ch _ _ rfl) rfl rfl))) | (apply draw_put rfl; (focus (intro S1 hS; exact stp_loadR rfl (by as_aux_lemma => kernel_rfl) (hS.op rfl) (hS.ch _ _ rfl) rfl hrow hil))) | (apply draw_put rfl; (focus (intro S1 hS; exact stp_loadV rfl (by as_aux_lemma => kernel_rfl) (hS.op rfl) (hS.ch _ _ rfl) rfl gf))) | (apply draw_put rfl; (focus (intro S1 hS; exact stp_loadV rfl (by as_aux_lemma => kernel_rfl) (hS.op rfl) (hS.ch _ _ rfl) rfl ge))) | (apply draw_put rfl; (focus (intro S1 hS; exact stp_ixE (j := f) rfl (hS.op rfl) (hS.op rfl) (hS.ch _ _ rfl) rfl (by as_aux_lemma => kernel_rfl) hrow rfl hfN (Nat.le_of_eq hil.symm)))) | (apply draw_put rfl; (focus (intro S1 hS; exact stp_loadE' rfl (by as_aux_lemma => kernel_rfl) (hS.op rfl) (hS.ch _ _ rfl) rfl hrow gr)))); exact Draw.nil)
      · rfl
      ((apply rest_one 16 rfl (by as_aux_lemma => kernel_rfl) rfl rfl; (first | exact stp_ix (j := d) rfl rfl rfl rfl rfl (by as_aux_lemma => kernel_rfl) rfl hdN hLi | exact stp_stI rfl rfl rfl rfl rfl (by omega) (by as_aux_lemma => kernel_rfl))); (apply rest_one 17 rfl (by as_aux_lemma => kernel_rfl) rfl rfl; (first | exact stp_ix (j := d) rfl rfl rfl rfl rfl (by as_aux_lemma => kernel_rfl) rfl hdN hLi | exact stp_stI rfl rfl rfl rfl rfl (by omega) (by as_aux_lemma => kernel_rfl))); (refine rest_done (by as_aux_lemma => kernel_rfl) ?_; skip))
      (refine fin_block ?_; refine fin_seq ?_; refine goes_region ?_; apply run_step rfl; (exact stp_move rfl rfl); apply run_step rfl; (exact stp_add rfl rfl rfl (by first | exact IntWalk.i64_in _ (by omega) | rfl)); apply run_step rfl; (exact stp_assign rfl rfl); refine run_nil ?_)
      exact fin_round (f + 1) hfN (by show N - (f + 1) < N - f; omega) (Wk.of ⟨rfl, rfl, rfl, rfl, rfl, rfl, rfl, trivial⟩ ⟨rfl, rfl, rfl, rfl, rfl, rfl, congrArg (fun l => some (leOw l)) hs.symm, trivial⟩ trivial)
    · obtain rfl : f = N := by omega
      rw [hLe] at hfr
      rw [hfr] at hnext
      (refine goes_exit ?_; refine fin_exit_then ?_; refine fin_exit_then ?_; refine fin_exit_eq ?_; refine fin_seq ?_; refine goes_region ?_; apply run_step rfl; (exact stp_fieldAddr (d := 0) rfl rfl rfl (by as_aux_lemma => kernel_rfl)); apply run_step rfl; (first | exact stp_loadF rfl (by as_aux_lemma => kernel_rfl) rfl rfl rfl rfl | exact stp_lit1 rfl rfl rfl rfl rfl | exact stp_appR (E := 49) (F := 2) rfl (by as_aux_lemma => kernel_rfl) rfl rfl hkl rfl rfl rfl hL rfl (by omega) | exact stp_storeF rfl rfl rfl rfl rfl rfl (by as_aux_lemma => kernel_rfl) rfl); apply run_step rfl; (exact stp_move rfl rfl); apply run_step rfl; (exact stp_lit1 (E := 49) rfl (by as_aux_lemma => kernel_rfl) rfl rfl rfl); apply run_step rfl; (first | exact stp_loadF rfl (by as_aux_lemma => kernel_rfl) rfl rfl rfl rfl | exact stp_lit1 rfl rfl rfl rfl rfl | exact stp_appR (E := 49) (F := 2) rfl (by as_aux_lemma => kernel_rfl) rfl rfl hkl rfl rfl rfl hL rfl (by omega) | exact stp_storeF rfl rfl rfl rfl rfl rfl (by as_aux_lemma => kernel_rfl) rfl); apply run_step rfl; (exact stp_fieldAddr (d := 0) rfl rfl rfl (by as_aux_lemma => kernel_rfl)); apply run_step rfl; (first | exact stp_loadF rfl (by as_aux_lemma => kernel_rfl) rfl rfl rfl rfl | exact stp_lit1 rfl rfl rfl rfl rfl | exact stp_appR (E := 49) (F := 2) rfl (by as_aux_lemma => kernel_rfl) rfl rfl hkl rfl rfl rfl hL rfl (by omega) | exact stp_storeF rfl rfl rfl rfl rfl rfl (by as_aux_lemma => kernel_rfl) rfl); refine run_nil ?_; refine fin_block ?_; refine fin_seq ?_; refine goes_region ?_; apply run_step rfl; (exact stp_move rfl rfl); apply run_step rfl; (exact stp_add rfl rfl rfl (by first | exact IntWalk.i64_in _ (by omega) | rfl)); apply run_step rfl; (exact stp_assign rfl rfl); refine run_nil ?_)
      exact fin_round (k + 1) hkn (by show T.length - (k + 1) < T.length - k; omega) (Wk.of ⟨rfl, rfl, rfl, rfl, rfl, trivial⟩ ⟨rfl, rfl, rfl, rfl, rfl, congrArg (fun l => some (imOw l)) hnext.symm, trivial⟩ trivial)
  · obtain rfl : k = T.length := by omega
    rw [List.take_length]
    (refine goes_exit ?_; refine fin_exit_then ?_; refine fin_exit_then ?_; refine fin_exit_eq ?_; refine fin_seq ?_; refine goes_seq ?_; refine goes_region ?_; apply run_step rfl; (first | exact stp_loadAgg (k := 1) rfl rfl rfl rfl rfl rfl (by as_aux_lemma => kernel_rfl) | exact stp_storeAgg rfl rfl rfl rfl rfl rfl rfl rfl (by as_aux_lemma => kernel_rfl) rfl); apply run_step rfl; (first | exact stp_loadAgg (k := 1) rfl rfl rfl rfl rfl rfl (by as_aux_lemma => kernel_rfl) | exact stp_storeAgg rfl rfl rfl rfl rfl rfl rfl rfl (by as_aux_lemma => kernel_rfl) rfl); refine run_nil ?_; refine fin_seq ?_; refine goes_ret ?_)
    exact fin_ret1 (.inl rfl) rfl (.cell rfl rfl rfl rfl rfl (by as_aux_lemma => kernel_rfl)) ⟨rfl, trivial⟩ trivial
set_option maxRecDepth 100000 in
set_option maxHeartbeats 2000000 in
theorem formS_fc (T : List (List Int)) (N : Nat) (hT : Leads T N) (hpos : 0 < T.length) (hN : N ≤ 1000000) (hg : T.length ≤ 1000000) (hc : 0 < N) (hfull : (orb T N 0).2.length = N) (hin : ∀ f, f < N → 0 ≤ iget (backL (orb T N 0).2) f ∧ iget (backL (orb T N 0).2) f < N) :
    FC Try.prog 164 [(1003, rowsRo T)] [mA T.length, vv (I6 0)] [(9, imOw (formL T (backL (orb T N 0).2)))] (.s (.agg [.sl 9 0 T.length])) [] := by
  have hNum := (numbS_fc T N 0 hT hpos hN hg hc hfull).nm [(1003, 1003), (11, 8)] (by kernel_rfl)
  have hBl : (backL (orb T N 0).2).length = N := by unfold backL; rw [putL_len, hfull]
  have hNum : FC Try.prog 207 [(1003, rowsRo T)] [mA T.length, vv (I6 0)] [(8, leOw (backL (orb T N 0).2))] (o1 (.sl 8 0 N)) [] := hNum
  have hRen := (renS_fc T (backL (orb T N 0).2) N hT hBl hin hN hg).nm [(1002, 8), (1003, 1003), (1000, 9)] (by kernel_rfl)
  have hRen : FC Try.prog 206 [(8, wRo (backL (orb T N 0).2)), (1003, rowsRo T)] [mA T.length, o1 (.sl 8 0 N)] [(9, imOw (formL T (backL (orb T N 0).2)))] (.s (.agg [.sl 9 0 T.length])) [] := hRen
  generalize backL (orb T N 0).2 = B at *
  generalize formL T B = R at *
  generalize hL : T.length = L at *
  refine fc_enter (nt := 10) Try.func164 rfl rfl (by simp) fun w0 ω0 => ?_
  (refine goes_seq ?_; refine goes_region ?_; apply run_step rfl; (exact stp_box rfl rfl rfl rfl); apply run_step rfl; (exact stp_allocZ [.slice none 0 0] rfl (by as_aux_lemma => kernel_rfl)); refine run_nil ?_; refine fin_seq ?_; refine goes_seq ?_)
  refine goes_cut (St.of [(4, o1 (.ptr 4 0))] [(4, ⟨true, 41, 1, .flat [.sl 9 0 L]⟩), (9, imOw R)]) ?_ ?_
  · apply goes_drawF 3 [] 0 [[], [], [], [1, 2], [0, 1, 2, 3], [0, 1, 2, 3, 4]] [5, 6, 7] [] (by kernel_rfl) (by kernel_rfl) (by kernel_rfl)
    · ((first | (apply draw_put rfl; (focus (intro S1 hS; exact stp_loadAgg (k := 1) rfl (hS.op rfl) (hS.ch _ _ rfl) rfl rfl rfl (by as_aux_lemma => kernel_rfl))))); (first | (apply draw_put rfl; (focus (intro S1 hS; exact stp_loadAgg (k := 1) rfl (hS.op rfl) (hS.ch _ _ rfl) rfl rfl rfl (by as_aux_lemma => kernel_rfl))))); apply draw_put rfl; (intro S1 hS; exact stp_move rfl (hS.op rfl)); exact Draw.nil)
    · rfl
    · ((apply rest_one 3 rfl (by as_aux_lemma => kernel_rfl) rfl rfl; (apply call_gate 207; exact stp_callN hNum (by as_aux_lemma => kernel_rfl) rfl rfl ⟨⟨.inl rfl, trivial⟩, rfl, trivial⟩ ⟨⟨_, rfl, .inl rfl⟩, trivial⟩ rfl rfl rfl)); (apply rest_one 4 rfl (by as_aux_lemma => kernel_rfl) rfl rfl; (apply call_gate 206; exact stp_callN hRen (by as_aux_lemma => kernel_rfl) rfl rfl ⟨⟨.inl rfl, trivial⟩, rfl, trivial⟩ ⟨⟨_, rfl, .inr rfl⟩, ⟨_, rfl, .inl rfl⟩, trivial⟩ rfl rfl rfl)); (apply rest_one 5 rfl (by as_aux_lemma => kernel_rfl) rfl rfl; (exact stp_storeAgg rfl rfl rfl rfl rfl rfl rfl rfl (by as_aux_lemma => kernel_rfl) rfl)); (refine rest_done (by as_aux_lemma => kernel_rfl) ?_; exact fin_join (Wk.of ⟨rfl, trivial⟩ ⟨rfl, rfl, trivial⟩ trivial)))
    · ((apply rest_two 0 3 rfl (by as_aux_lemma => kernel_rfl) rfl rfl rfl rfl; (exact stp_loadAgg (k := 1) rfl rfl rfl rfl rfl rfl (by as_aux_lemma => kernel_rfl)); (apply call_gate 207; exact stp_callN hNum (by as_aux_lemma => kernel_rfl) rfl rfl ⟨⟨.inl rfl, trivial⟩, rfl, trivial⟩ ⟨⟨_, rfl, .inl rfl⟩, trivial⟩ rfl rfl rfl); (focus ((apply rest_one 3 rfl (by as_aux_lemma => kernel_rfl) rfl rfl; (apply call_gate 207; exact stp_callN hNum (by as_aux_lemma => kernel_rfl) rfl rfl ⟨⟨.inl rfl, trivial⟩, rfl, trivial⟩ ⟨⟨_, rfl, .inl rfl⟩, trivial⟩ rfl rfl rfl)); (apply rest_one 4 rfl (by as_aux_lemma => kernel_rfl) rfl rfl; (apply call_gate 206; exact stp_callN hRen (by as_aux_lemma => kernel_rfl) rfl rfl ⟨⟨.inl rfl, trivial⟩, rfl, trivial⟩ ⟨⟨_, rfl, .inr rfl⟩, ⟨_, rfl, .inl rfl⟩, trivial⟩ rfl rfl rfl)); (apply rest_one 5 rfl (by as_aux_lemma => kernel_rfl) rfl rfl; (exact stp_storeAgg rfl rfl rfl rfl rfl rfl rfl rfl (by as_aux_lemma => kernel_rfl) rfl)); (refine rest_done (by as_aux_lemma => kernel_rfl) ?_; exact fin_join (Wk.of ⟨rfl, trivial⟩ ⟨rfl, rfl, trivial⟩ trivial)))); (focus ((apply rest_one 0 rfl (by as_aux_lemma => kernel_rfl) rfl rfl; (exact stp_loadAgg (k := 1) rfl rfl rfl rfl rfl rfl (by as_aux_lemma => kernel_rfl))); (apply rest_one 4 rfl (by as_aux_lemma => kernel_rfl) rfl rfl; (apply call_gate 206; exact stp_callN hRen (by as_aux_lemma => kernel_rfl) rfl rfl ⟨⟨.inl rfl, trivial⟩, rfl, trivial⟩ ⟨⟨_, rfl, .inr rfl⟩, ⟨_, rfl, .inl rfl⟩, trivial⟩ rfl rfl rfl)); (apply rest_one 5 rfl (by as_aux_lemma => kernel_rfl) rfl rfl; (exact stp_storeAgg rfl rfl rfl rfl rfl rfl rfl rfl (by as_aux_lemma => kernel_rfl) rfl)); (refine rest_done (by as_aux_lemma => kernel_rfl) ?_; exact fin_join (Wk.of ⟨rfl, trivial⟩ ⟨rfl, rfl, trivial⟩ trivial))))))
  (refine fin_seq ?_; refine goes_ret ?_)
  exact fin_ret1 (.inl rfl) rfl (.cell rfl rfl rfl rfl rfl (by as_aux_lemma => kernel_rfl)) ⟨rfl, trivial⟩ trivial
end Go.Proofs.Ytpognnifgcacnaa

/- A search from a flag on one side and the orbit of a flag on the other side meet the same flags in the same order. No program in sight. -/
namespace Go.Proofs.Ytpognnifgcacnaa
open Go.RowKit

theorem fndT_some {k : TF} : ∀ {ks : List TF} {i j : Nat}, fndT k ks i = some j → i ≤ j ∧ ks[j - i]? = some k
  | [], i, j, h => by simp [fndT] at h
  | a :: r, i, j, h => by
    unfold fndT at h
    split at h
    · rename_i e
      cases h
      exact ⟨Nat.le_refl _, by simp [e]⟩
    · obtain ⟨h1, h2⟩ := fndT_some h
      refine ⟨by omega, ?_⟩
      rw [show j - i = (j - (i + 1)) + 1 by omega]
      simpa using h2
theorem fndT_none {k : TF} : ∀ {ks : List TF} {i : Nat}, fndT k ks i = none → k ∉ ks
  | [], i, h => by simp
  | a :: r, i, h => by
    unfold fndT at h
    split at h
    · cases h
    · rename_i e
      have := fndT_none h
      simp [e, this]
/-- one flag more: the flags and the rows -/
abbrev PSt := List TF × List (List Int)
def pStep (b c n : Int) (t0 : TF) (s : PSt) (i : Nat) : PSt :=
  match fndT (tkey b c n (tmv i t0)) (s.1.map (tkey b c n)) 0 with
  | some j => (s.1, s.2.set i (lget s.2 i ++ [(j : Int)]))
  | none => (s.1 ++ [tmv i t0], s.2.set i (lget s.2 i ++ [(s.1.length : Int)]))
def pRow (b c n : Int) (t0 : TF) (s : PSt) (k : Nat) : PSt := (List.range k).foldl (pStep b c n t0) s
theorem pRow_succ (b c n : Int) (t0 : TF) (s : PSt) (k : Nat) : pRow b c n t0 s (k + 1) = pStep b c n t0 (pRow b c n t0 s k) k := by unfold pRow; rw [List.range_succ, List.foldl_append]; rfl
def tf0 : TF := ⟨0, 0, 0, true⟩
def tget (l : List TF) (i : Nat) : TF := l.getD i tf0
def pLoop (b c n : Int) : Nat → Nat → PSt → PSt
  | 0, _, s => s
  | f + 1, i, s => if i < s.1.length then pLoop b c n f (i + 1) (pRow b c n (tget s.1 i) s 3) else s
/-- the numbers of the one side are flags of the other -/
structure Iso (b c n : Int) (T : List (List Int)) (N : Nat) (φ : Nat → TF) : Prop where
  lead : Leads T N
  rows : T.length = 3
  inj : ∀ f g, f < N → g < N → φ f = φ g → f = g
  move : ∀ t f i, f < N → i < 3 → tkey b c n t = φ f → tkey b c n (tmv i t) = φ (bTo T f i)
  zero : tkey b c n tf0 = φ 0
  pos : 0 < N
/-- both are equally far: rows of length at, but those below r of length at + 1 -/
structure Alike (b c n : Int) (T : List (List Int)) (N : Nat) (φ : Nat → TF) (s : PSt) (o : MSt) (at_ r : Nat) : Prop where
  ok : MOK N o
  len : s.1.length = o.2.length
  key : ∀ j, j < s.1.length → tkey b c n (tget s.1 j) = φ (iget o.2 j).toNat
  three : s.2.length = 3
  rlen : ∀ i, i < 3 → (lget s.2 i).length = if i < r then at_ + 1 else at_
  row : ∀ i, i < 3 → ∀ j, j < (lget s.2 i).length → ∃ k : Nat, iget (lget s.2 i) j = (k : Int) ∧ k < o.2.length ∧ iget o.2 k = ((bTo T (iget o.2 j).toNat i : Nat) : Int)
theorem lget_set {α : Type} {l : List (List α)} {i j : Nat} {x : List α} (h : i < l.length) : lget (l.set i x) j = if i = j then x else lget l j := by
  unfold lget
  rw [List.getD_eq_getElem?_getD, List.getElem?_set]
  by_cases e : i = j
  · subst e; simp [h]
  · simp [e]
theorem tget_app_lt {l : List TF} {t : TF} {i : Nat} (h : i < l.length) : tget (l ++ [t]) i = tget l i := by simp [tget, List.getElem?_append_left h]
theorem tget_app_eq {l : List TF} {t : TF} : tget (l ++ [t]) l.length = t := by simp [tget]
section
variable {b c n : Int} {T : List (List Int)} {N : Nat} {φ : Nat → TF}
theorem isoTo_lt (I : Iso b c n T N φ) {f i : Nat} (hf : f < N) (hi : i < 3) : bTo T f i < N := by
  have := I.lead.within i (by rw [I.rows]; exact hi) f hf
  unfold bTo
  omega
theorem alike_step (I : Iso b c n T N φ) {s : PSt} {o : MSt} {at_ r : Nat} (h : Alike b c n T N φ s o at_ r) (hr : r < 3) (hat : at_ < s.1.length) (t0 : TF) (e : Nat) (he : iget o.2 at_ = (e : Int)) (heN : e < N) (ht0 : tkey b c n t0 = φ e) :
    Alike b c n T N φ (pStep b c n t0 s r) (oStep T e o r) at_ (r + 1) := by
  have hk := I.move t0 e r heN hr ht0
  have hdN := isoTo_lt I heN hr
  obtain ⟨d, hd⟩ : ∃ d, bTo T e r = d := ⟨_, rfl⟩
  rw [hd] at hk hdN
  have hrl := h.rlen r hr
  rw [if_neg (by omega)] at hrl
  have hs3 : r < s.2.length := by rw [h.three]; exact hr
  unfold pStep
  cases hf : fndT (tkey b c n (tmv r t0)) (s.1.map (tkey b c n)) 0 with
  | some j =>
    obtain ⟨_, h2⟩ := fndT_some hf
    rw [Nat.sub_zero, List.getElem?_map] at h2
    have hj : j < s.1.length := by
      rcases Nat.lt_or_ge j s.1.length with h3 | h3
      · exact h3
      · rw [List.getElem?_eq_none h3] at h2; cases h2
    have hkj : tkey b c n (tget s.1 j) = φ d := by
      rw [List.getElem?_eq_getElem hj] at h2
      have : tkey b c n s.1[j] = tkey b c n (tmv r t0) := by simpa using h2
      unfold tget
      rw [List.getD_eq_getElem?_getD, List.getElem?_eq_getElem hj, Option.getD_some, this, hk]
    rw [h.key j hj] at hkj
    obtain ⟨e', q1, q2, q3⟩ := h.ok.q j (by rw [← h.len]; exact hj)
    rw [q1, Int.toNat_natCast] at hkj
    have hed : e' = d := I.inj _ _ q2 hdN hkj
    subst hed
    have hst : oStep T e o r = o := by unfold oStep; rw [if_neg (by rw [hd, q3]; simp)]
    rw [hst]
    refine ⟨h.ok, h.len, h.key, by simp [h.three], fun i hi => ?_, fun i hi k hk' => ?_⟩
    · dsimp only
      rw [lget_set hs3]
      by_cases e2 : r = i
      · subst e2; rw [if_pos rfl, if_pos (by omega), List.length_append, hrl]; rfl
      · rw [if_neg e2, h.rlen i hi]
        by_cases e3 : i < r
        · rw [if_pos e3, if_pos (by omega)]
        · rw [if_neg e3, if_neg (by omega)]
    · dsimp only at hk' ⊢
      rw [lget_set hs3] at hk' ⊢
      by_cases e2 : r = i
      · subst e2
        rw [if_pos rfl] at hk' ⊢
        by_cases e3 : k < (lget s.2 r).length
        · rw [iget_app_lt e3]; exact h.row r hi k e3
        · obtain rfl : k = (lget s.2 r).length := by simp at hk'; omega
          refine ⟨j, iget_app_eq, by rw [← h.len]; exact hj, ?_⟩
          rw [hrl, he, Int.toNat_natCast, hd, q1]
      · rw [if_neg e2] at hk' ⊢
        exact h.row i hi k hk'
  | none =>
    have hno := fndT_none hf
    have hbat : bat o.1 d = false := by
      cases hb : bat o.1 d with
      | false => rfl
      | true =>
        obtain ⟨k, k1, k2⟩ := h.ok.cov d hdN hb
        have hk1 : k < s.1.length := by rw [h.len]; exact k1
        have := h.key k hk1
        rw [k2, Int.toNat_natCast, ← hk] at this
        exfalso
        apply hno
        rw [List.mem_map]
        refine ⟨tget s.1 k, ?_, this⟩
        unfold tget
        rw [List.getD_eq_getElem?_getD, List.getElem?_eq_getElem hk1]
        exact List.getElem_mem hk1
    have hst : oStep T e o r = (o.1.set d true, o.2 ++ [(d : Int)]) := by unfold oStep; rw [hd, if_pos hbat]
    have hok : MOK N (oStep T e o r) := by
      rw [← oStep_eq (T := T) (ng := 3) hr]
      exact mStep_ok h.ok (by rw [hd]; exact hdN)
    rw [hst] at hok ⊢
    refine ⟨hok, by simp [h.len], fun j hj => ?_, by simp [h.three], fun i hi => ?_, fun i hi k hk' => ?_⟩
    · dsimp only at hj ⊢
      by_cases e2 : j < s.1.length
      · rw [tget_app_lt e2, iget_app_lt (by rw [← h.len]; exact e2)]; exact h.key j e2
      · obtain rfl : j = s.1.length := by simp at hj; omega
        rw [tget_app_eq, h.len, iget_app_eq, Int.toNat_natCast]; exact hk
    · dsimp only
      rw [lget_set hs3]
      by_cases e2 : r = i
      · subst e2; rw [if_pos rfl, if_pos (by omega), List.length_append, hrl]; rfl
      · rw [if_neg e2, h.rlen i hi]
        by_cases e3 : i < r
        · rw [if_pos e3, if_pos (by omega)]
        · rw [if_neg e3, if_neg (by omega)]
    · dsimp only at hk' ⊢
      rw [lget_set hs3] at hk' ⊢
      have old : ∀ k, k < (lget s.2 i).length → k < o.2.length := fun k hk => by
        have := h.rlen i hi
        rw [← h.len]
        split at this <;> omega
      by_cases e2 : r = i
      · subst e2
        rw [if_pos rfl] at hk' ⊢
        by_cases e3 : k < (lget s.2 r).length
        · obtain ⟨x, x1, x2, x3⟩ := h.row r hi k e3
          rw [iget_app_lt e3, iget_app_lt (old k e3)]
          exact ⟨x, x1, by simp; omega, by rw [iget_app_lt x2]; exact x3⟩
        · obtain rfl : k = (lget s.2 r).length := by simp at hk'; omega
          refine ⟨s.1.length, iget_app_eq, by simp [h.len], ?_⟩
          rw [hrl, h.len, iget_app_eq, iget_app_lt (by rw [← h.len]; exact hat), he, Int.toNat_natCast, hd]
      · rw [if_neg e2] at hk' ⊢
        obtain ⟨x, x1, x2, x3⟩ := h.row i hi k hk'
        rw [iget_app_lt (old k hk')]
        exact ⟨x, x1, by simp; omega, by rw [iget_app_lt x2]; exact x3⟩
end
end Go.Proofs.Ytpognnifgcacnaa

/- The search of the one side and the form of the other are the same rows. No program in sight. -/
namespace Go.Proofs.Ytpognnifgcacnaa
open Go.RowKit

section
variable {b c n : Int} {T : List (List Int)} {N : Nat} {φ : Nat → TF}
theorem alike_row (I : Iso b c n T N φ) {s : PSt} {o : MSt} {at_ : Nat} (h : Alike b c n T N φ s o at_ 0) (hat : at_ < s.1.length) : ∀ k, k ≤ 3 →
    Alike b c n T N φ (pRow b c n (tget s.1 at_) s k) ((List.range k).foldl (mStep T (2 ^ 3 - 1) (iget o.2 at_).toNat) o) at_ k ∧ s.1.length ≤ (pRow b c n (tget s.1 at_) s k).1.length
  | 0, _ => ⟨h, Nat.le_refl _⟩
  | k + 1, hk => by
    obtain ⟨e, he, heN, _⟩ := h.ok.q at_ (by rw [← h.len]; exact hat)
    obtain ⟨h1, h2⟩ := alike_row I h hat k (by omega)
    have hg := (mRow_ok (mask := 2 ^ 3 - 1) I.lead I.rows (c := e) heN h.ok k (by omega)).2.1
    rw [pRow_succ, List.range_succ, List.foldl_append]
    rw [he, Int.toNat_natCast] at h1 ⊢
    have he2 : iget ((List.range k).foldl (mStep T (2 ^ 3 - 1) e) o).2 at_ = (e : Int) := (hg.pre at_ (by rw [← h.len]; exact hat)).trans he
    have hk0 := h.key at_ hat
    rw [he, Int.toNat_natCast] at hk0
    have := alike_step I h1 (by omega) (Nat.lt_of_lt_of_le hat h2) (tget s.1 at_) e he2 heN hk0
    rw [← oStep_eq (T := T) (ng := 3) (by omega)] at this
    refine ⟨this, Nat.le_trans h2 ?_⟩
    rw [this.len, h1.len]
    exact (mStep_grow _ _ _).len
theorem alike_loop (I : Iso b c n T N φ) : ∀ (f i : Nat) (s : PSt) (o : MSt), Alike b c n T N φ s o i 0 → i ≤ s.1.length → N + 1 ≤ f + i →
    Alike b c n T N φ (pLoop b c n f i s) (mLoop T (2 ^ 3 - 1) 3 f i o) (pLoop b c n f i s).1.length 0
  | 0, i, s, o, h, hi, hf => by
    have := h.ok.le
    rw [← h.len] at this
    omega
  | f + 1, i, s, o, h, hi, hf => by
    unfold pLoop mLoop
    by_cases e : i < s.1.length
    · rw [if_pos e, if_pos (by rw [← h.len]; exact e)]
      obtain ⟨h1, h2⟩ := alike_row I h e 3 (Nat.le_refl _)
      refine alike_loop I f (i + 1) _ _ ?_ (by omega) (by omega)
      exact ⟨h1.ok, h1.len, h1.key, h1.three, fun r hr => by rw [h1.rlen r hr, if_pos hr, if_neg (by omega)], h1.row⟩
    · rw [if_neg e, if_neg (by rw [← h.len]; exact e)]
      have : i = s.1.length := by omega
      subst this
      exact h
theorem alike_start (I : Iso b c n T N φ) : Alike b c n T N φ ([tf0], [[], [], []]) (oStart N 0) 0 0 := by
  refine ⟨oStart_ok I.pos, rfl, fun j hj => ?_, rfl, fun i hi => ?_, fun i hi j hj => ?_⟩
  · have : j = 0 := by simp at hj; omega
    subst this
    exact I.zero
  · rw [if_neg (by omega)]
    match i, hi with
    | 0, _ => rfl
    | 1, _ => rfl
    | 2, _ => rfl
  · exfalso
    match i, hi, hj with
    | 0, _, hj => exact absurd hj (by simp [lget])
    | 1, _, hj => exact absurd hj (by simp [lget])
    | 2, _, hj => exact absurd hj (by simp [lget])
theorem alike_end (I : Iso b c n T N φ) : Alike b c n T N φ (pLoop b c n (N + 1) 0 ([tf0], [[], [], []])) (orb T N 0) (pLoop b c n (N + 1) 0 ([tf0], [[], [], []])).1.length 0 := by
  have := alike_loop I (N + 1) 0 _ _ (alike_start I) (Nat.zero_le _) (by omega)
  unfold orb
  rw [I.rows]
  exact this
theorem nodup_lenT : ∀ (l1 l2 : List Nat), l1.Nodup → (∀ x ∈ l1, x ∈ l2) → l1.length ≤ l2.length
  | [], _, _, _ => Nat.zero_le _
  | a :: r, l2, hn, h => by
    obtain ⟨h1, h2⟩ := List.nodup_cons.1 hn
    have ha := h a (by simp)
    have := nodup_lenT r (l2.erase a) h2 fun x hx => by
      have hne : x ≠ a := fun e => h1 (e ▸ hx)
      exact (List.mem_erase_of_ne hne).2 (h x (by simp [hx]))
    rw [List.length_erase_of_mem ha] at this
    have : 0 < l2.length := List.length_pos_of_mem ha
    simp; omega
theorem surj_injT {φ : Nat → Nat} {n : Nat} (hs : ∀ j, j < n → ∃ x, x < n ∧ φ x = j) {x y : Nat} (hx : x < n) (hy : y < n) (e : φ x = φ y) : x = y := by
  rcases Nat.decEq x y with hne | he
  · exfalso
    have h1 := nodup_lenT (List.range n) (((List.range n).erase x).map φ) List.nodup_range fun j hj => by
      obtain ⟨z, hz, hz2⟩ := hs j (List.mem_range.1 hj)
      rw [List.mem_map]
      by_cases hzx : z = x
      · exact ⟨y, (List.mem_erase_of_ne (fun e => hne e.symm)).2 (List.mem_range.2 hy), by rw [← e, ← hzx]; exact hz2⟩
      · exact ⟨z, (List.mem_erase_of_ne hzx).2 (List.mem_range.2 hz), hz2⟩
    rw [List.length_map, List.length_erase_of_mem (List.mem_range.2 hx), List.length_range] at h1
    omega
  · exact he
theorem form_alike (I : Iso b c n T N φ) (hfull : (orb T N 0).2.length = N) : (pLoop b c n (N + 1) 0 ([tf0], [[], [], []])).2 = formL T (backL (orb T N 0).2) := by
  have h := alike_end I
  generalize pLoop b c n (N + 1) 0 ([tf0], [[], [], []]) = s at *
  have hq : ∀ k, k < N → ∃ d : Nat, iget (orb T N 0).2 k = (d : Int) ∧ d < N := fun k hk => by
    obtain ⟨d, h1, h2, _⟩ := h.ok.q k (by omega)
    exact ⟨d, h1, h2⟩
  have hall : ∀ d, d < N → ∃ k, k < N ∧ (iget (orb T N 0).2 k).toNat = d := fun d hd => by
    have h1 : bcnt (orb T N 0).1 = (orb T N 0).1.length := by rw [h.ok.cnt, hfull, h.ok.l]
    obtain ⟨k, k1, k2⟩ := h.ok.cov d hd (bcnt_full h1 d (by rw [h.ok.l]; exact hd))
    exact ⟨k, by omega, by rw [k2, Int.toNat_natCast]⟩
  have hinj : ∀ i j, i < N → j < N → (iget (orb T N 0).2 i).toNat = (iget (orb T N 0).2 j).toNat → i = j := fun i j hi hj e => surj_injT (φ := fun k => (iget (orb T N 0).2 k).toNat) hall hi hj e
  have hlen := h.len
  have hrl := h.rlen
  have hrow := h.row
  have h3 := h.three
  rw [hfull] at hlen
  unfold backL
  rw [hfull]
  generalize (orb T N 0).2 = O at *
  have hg : ∀ i, i < N → (iget O i).toNat < N := fun i hi => by obtain ⟨d, e1, e2⟩ := hq i hi; rw [e1, Int.toNat_natCast]; exact e2
  have hp : ∀ j, j < N → iget (putL N (fun i => (iget O i).toNat) (fun i => (i : Int)) N) (iget O j).toNat = (j : Int) := fun j hj => putL_get hg hinj N (Nat.le_refl _) j hj
  have hpl := putL_len N (fun i => (iget O i).toNat) (fun i => (i : Int)) N
  generalize putL N (fun i => (iget O i).toNat) (fun i => (i : Int)) N = p at *
  refine List.ext_getElem (by rw [h3]; unfold formL; rw [List.length_map, I.rows]) fun i hi1 hi2 => ?_
  have hi : i < 3 := by omega
  have hiT : i < T.length := by rw [I.rows]; exact hi
  have e1 : (formL T p)[i] = fRow p (lget T i) := by rw [lget_lt hiT]; exact List.getElem_map _
  rw [e1, ← lget_lt hi1]
  have hl := hrl i hi
  rw [if_neg (by omega), hlen] at hl
  unfold fRow
  rw [hpl]
  refine iget_ext (by rw [hl, putL_len]) fun j hj => ?_
  rw [hl] at hj
  obtain ⟨k, k1, k2, k3⟩ := hrow i hi j (by omega)
  rw [hfull] at k2
  obtain ⟨d, d1, d2⟩ := hq j hj
  have hpin : ∀ f, f < N → (iget p f).toNat < N := fun f hf => by
    obtain ⟨m, m1, m2⟩ := hall f hf
    rw [← m2, hp m m1, Int.toNat_natCast]; exact m1
  have hpi : ∀ x y, x < N → y < N → (iget p x).toNat = (iget p y).toNat → x = y := fun x y hx hy e => by
    obtain ⟨m, m1, m2⟩ := hall x hx
    obtain ⟨m', m1', m2'⟩ := hall y hy
    rw [← m2, ← m2', hp m m1, hp m' m1', Int.toNat_natCast, Int.toNat_natCast] at e
    subst e
    omega
  have hget := putL_get (v := fun f => iget p (iget (lget T i) f).toNat) hpin hpi N (Nat.le_refl _) d d2
  have hpd : iget p d = (j : Int) := by have := hp j hj; rwa [d1, Int.toNat_natCast] at this
  rw [hpd, Int.toNat_natCast] at hget
  rw [hget, k1]
  rw [d1, Int.toNat_natCast] at k3
  have hpk := hp k k2
  rw [k3, Int.toNat_natCast] at hpk
  rw [← hpk]
  rfl
end
end Go.Proofs.Ytpognnifgcacnaa

/- The program's search of a torus map: bounds, and its steps one by one. No program in sight. -/
namespace Go.Proofs.Ytpognnifgcacnaa
open Go.RowKit

/-- the j-th flag lies within j steps -/
def TB (L : List TF) : Prop := ∀ j, j < L.length → (-(j : Int) ≤ (tget L j).x ∧ (tget L j).x ≤ j) ∧ (-(j : Int) ≤ (tget L j).y ∧ (tget L j).y ≤ j) ∧ 0 ≤ (tget L j).d ∧ (tget L j).d ≤ 3
theorem TB.start : TB [tf0] := fun j hj => by
  have : j = 0 := by simp at hj; omega
  subst this
  exact ⟨by decide, by decide, by decide, by decide⟩
theorem tmv_near {t : TF} {i m : Nat} (hi : i < 3) (h : (-(m : Int) ≤ t.x ∧ t.x ≤ m) ∧ (-(m : Int) ≤ t.y ∧ t.y ≤ m) ∧ 0 ≤ t.d ∧ t.d ≤ 3) :
    (-((m + 1 : Nat) : Int) ≤ (tmv i t).x ∧ (tmv i t).x ≤ ((m + 1 : Nat) : Int)) ∧ (-((m + 1 : Nat) : Int) ≤ (tmv i t).y ∧ (tmv i t).y ≤ ((m + 1 : Nat) : Int)) ∧ 0 ≤ (tmv i t).d ∧ (tmv i t).d ≤ 3 := by
  have b1 : -1 ≤ sx t.d ∧ sx t.d ≤ 1 := by unfold sx; split; omega; split <;> omega
  have b2 : -1 ≤ sy t.d ∧ sy t.d ≤ 1 := by unfold sy; split; omega; split <;> omega
  obtain ⟨h1, h2, h3⟩ := h
  match i, hi with
  | 0, _ => exact ⟨by show _ ≤ t.x + sx t.d ∧ t.x + sx t.d ≤ _; omega, by show _ ≤ t.y + sy t.d ∧ t.y + sy t.d ≤ _; omega, by show 0 ≤ (t.d + 2) % 4 ∧ (t.d + 2) % 4 ≤ 3; omega⟩
  | 1, _ => exact ⟨by show _ ≤ t.x ∧ t.x ≤ _; omega, by show _ ≤ t.y ∧ t.y ≤ _; omega, by
      show 0 ≤ (if t.l = true then (t.d + 1) % 4 else (t.d + 3) % 4) ∧ (if t.l = true then (t.d + 1) % 4 else (t.d + 3) % 4) ≤ 3
      split <;> omega⟩
  | 2, _ => exact ⟨by show _ ≤ t.x ∧ t.x ≤ _; omega, by show _ ≤ t.y ∧ t.y ≤ _; omega, h3⟩
section
variable {b c n : Int}
theorem pStep_old {t0 : TF} {s : PSt} {i j : Nat} (h : fndT (tkey b c n (tmv i t0)) (s.1.map (tkey b c n)) 0 = some j) : pStep b c n t0 s i = (s.1, s.2.set i (lget s.2 i ++ [(j : Int)])) := by
  unfold pStep; rw [h]
theorem pStep_new {t0 : TF} {s : PSt} {i : Nat} (h : fndT (tkey b c n (tmv i t0)) (s.1.map (tkey b c n)) 0 = none) : pStep b c n t0 s i = (s.1 ++ [tmv i t0], s.2.set i (lget s.2 i ++ [(s.1.length : Int)])) := by
  unfold pStep; rw [h]
theorem TB.step {s : PSt} {m i : Nat} (h : TB s.1) (hm : m < s.1.length) (hi : i < 3) {t0 : TF} (ht : t0 = tget s.1 m) : TB (pStep b c n t0 s i).1 := by
  cases hf : fndT (tkey b c n (tmv i t0)) (s.1.map (tkey b c n)) 0 with
  | some j => rw [pStep_old hf]; exact h
  | none =>
    rw [pStep_new hf]
    intro j hj
    by_cases e : j < s.1.length
    · rw [tget_app_lt e]; exact h j e
    · obtain rfl : j = s.1.length := by simp at hj; omega
      rw [tget_app_eq]
      have := tmv_near hi (h m hm)
      rw [← ht] at this
      omega
theorem pStep_keep {s : PSt} {m i : Nat} (hm : m < s.1.length) (t0 : TF) : s.1.length ≤ (pStep b c n t0 s i).1.length ∧ tget (pStep b c n t0 s i).1 m = tget s.1 m := by
  cases hf : fndT (tkey b c n (tmv i t0)) (s.1.map (tkey b c n)) 0 with
  | some j => rw [pStep_old hf]; exact ⟨Nat.le_refl _, rfl⟩
  | none => rw [pStep_new hf]; exact ⟨by simp, tget_app_lt hm⟩
theorem pLoop_stop {f i : Nat} {s : PSt} (h : ¬ i < s.1.length) : pLoop b c n f i s = s := by
  cases f with
  | zero => rfl
  | succ f => unfold pLoop; rw [if_neg h]
theorem pLoop_go {f i : Nat} {s : PSt} (h : i < s.1.length) : pLoop b c n (f + 1) i s = pLoop b c n f (i + 1) (pRow b c n (tget s.1 i) s 3) := by
  conv => lhs; unfold pLoop
  rw [if_pos h]
end
end Go.Proofs.Ytpognnifgcacnaa

/- Torus maps, the program's search: the state of its walk. -/
namespace Go.Proofs.Ytpognnifgcacnaa
open Go.RowKit

/-- the cells of flags -/
def fcells : List TF → List Value
  | [] => []
  | t :: r => .int .i64 t.x :: .int .i64 t.y :: .int .i64 t.d :: .bool t.l :: fcells r
theorem fcells_len : ∀ L, (fcells L).length = L.length * 4
  | [] => rfl
  | t :: r => by simp [fcells, fcells_len r]; omega
theorem fcells_app (t : TF) : ∀ L, fcells L ++ [.int .i64 t.x, .int .i64 t.y, .int .i64 t.d, .bool t.l] = fcells (L ++ [t])
  | [] => rfl
  | u :: r => by simp [fcells, fcells_app t r]
theorem fcells_get : ∀ (L : List TF) (j : Nat), j < L.length → (fcells L)[j * 4]? = some (.int .i64 (tget L j).x) ∧ (fcells L)[j * 4 + 1]? = some (.int .i64 (tget L j).y) ∧ (fcells L)[j * 4 + 2]? = some (.int .i64 (tget L j).d) ∧ (fcells L)[j * 4 + 3]? = some (.bool (tget L j).l)
  | [], j, h => by simp at h
  | t :: r, 0, h => by simp [fcells, tget]
  | t :: r, j + 1, h => by
    have ih := fcells_get r j (by simpa using h)
    rw [show (j + 1) * 4 = j * 4 + 1 + 1 + 1 + 1 by omega]
    simpa [fcells, tget] using ih
/-- the slice at ao, of m flags, is a row of the call's own -/
def OwnF (w : World) (base : Nat) (ao : Option Addr) (m c : Nat) (L : List TF) : Prop :=
  w.ownsRow base 153 4 (.slice ao m c) m (fcells L) ∧ m ≤ 4398046511104
section
variable {w w' : World} {base : Nat} {ao : Option Addr} {m c : Nat} {L : List TF}
theorem OwnF.len (h : OwnF w base ao m c L) : L.length = m := by
  have := h.1.1; rw [fcells_len] at this; omega
theorem OwnF.lt (h : OwnF w base ao m c L) : ∀ g, bk ao = some g → base ≤ g ∧ g < w.heap.size := by
  have := h.1.lt
  rw [ownBlock_slice] at this; exact this
theorem OwnF.same (h : OwnF w base ao m c L) (hs : ∀ g, bk ao = some g → w'.heap[g]? = w.heap[g]?) : OwnF w' base ao m c L := by
  refine ⟨⟨h.1.1, ?_⟩, h.2⟩
  rcases h.1.2 with h2 | ⟨g, cap, cur, hv, hg, hh, r⟩
  · exact Or.inl h2
  · refine Or.inr ⟨g, cap, cur, hv, hg, ?_, r⟩
    have : bk ao = some g := by injection hv with h1; subst h1; rfl
    rw [hs g this]; exact hh
theorem OwnF.typ (h : OwnF w base ao m c L) {g : Nat} (hg : bk ao = some g) : ∃ cs, w.heap[g]? = some (.cells cs 153 (0, 0)) := by
  rcases h.1.2 with h2 | ⟨g', cap, cur, hv, _, hh, _⟩
  · have h2 := h2.1
    injection h2 with h3; subst h3; cases hg
  · injection hv with h3; subst h3
    obtain rfl := Option.some.inj hg
    exact ⟨cur, hh⟩
theorem OwnF.at_ (h : OwnF w base ao m c L) {j : Nat} (hj : j < m) : ∃ g, ao = some ⟨g, 0, none⟩ ∧ g < w.heap.size ∧ w.cell? ⟨g, j * 4, none⟩ = some (.int .i64 (tget L j).x) ∧ w.cell? ⟨g, j * 4 + 1, none⟩ = some (.int .i64 (tget L j).y) ∧ w.cell? ⟨g, j * 4 + 2, none⟩ = some (.int .i64 (tget L j).d) ∧ w.cell? ⟨g, j * 4 + 3, none⟩ = some (.bool (tget L j).l) := by
  have hl := h.len
  obtain ⟨g, cap, hv, hb, hlt⟩ := h.1.form (by omega)
  injection hv with h1 _ h2
  subst h1 h2
  have hg := fcells_get L j (by omega)
  exact ⟨g, rfl, hlt, (h.1.cellAt (j * 4) (by omega)).trans hg.1, (h.1.cellAt (j * 4 + 1) (by omega)).trans hg.2.1, (h.1.cellAt (j * 4 + 2) (by omega)).trans hg.2.2.1, (h.1.cellAt (j * 4 + 3) (by omega)).trans hg.2.2.2⟩
theorem OwnF.kept {row : Option Nat} (h : OwnF w base ao m c L) (hg : w.grownBy w' row) (hne : ∀ g, bk ao = some g → row ≠ some g) : OwnF w' base ao m c L :=
  h.same fun g hb => hg.block g (h.lt g hb).2 fun e => hne g hb e.symm
end
section
variable {ops : Array Oper} {rest : List Oper} {o : Oper} {a : Act} {Q : Exit → Act → World → Prop}
theorem info_flag : (Try.prog.info? 153).map (fun i => (i.zero, i.size, i.bytes)) = some (some (.agg #[.int .i64 0, .int .i64 0, .int .i64 0, .bool false]), 4, 32) := by kernel_rfl
/-- append(s, t) of one flag: it lies in a block of its own, just laid -/
theorem wpList_apF (w : World) (hg : o.guard = none) (s x : Operand) (ho : o.op = .call { callee := .builtin .append, args := #[s, x], argTypes := #[155, 155] })
    (base : Nat) (ao : Option Addr) (n c : Nat) (L : List TF) (hs : a.eval s = .slice ao n c) (hown : OwnF w base ao n c L) (t : TF)
    (hx : a.eval x = .slice (some ⟨w.heap.size, 0, none⟩) 1 1) (hn : n + 1 ≤ 4398046511104) (hbase : base ≤ w.heap.size)
    (hK : ∀ ao' c' w', OwnF w' base ao' (n + 1) c' (L ++ [t]) → w.grownBy w' (bk ao) → (bk ao' = bk ao ∨ bk ao' = some (w.heap.size + 1)) → wpList Try.prog ops Q rest (a.put o.dst (.slice ao' (n + 1) c')) w') :
    wpList Try.prog ops Q (o :: rest) a (w.alloc (.cells #[.int .i64 t.x, .int .i64 t.y, .int .i64 t.d, .bool t.l] 153)) := by
  obtain ⟨i, hi, hz, hsz, hby⟩ := info_parts info_flag
  have hown' : OwnF (w.alloc (.cells #[.int .i64 t.x, .int .i64 t.y, .int .i64 t.d, .bool t.l] 153)) base ao n c L := hown.same fun g hg => Below.heap_alloc w _ g (hown.lt g hg).2
  refine wpList_append_own_at _ hg s x 155 ho base 153 i (.agg #[.int .i64 0, .int .i64 0, .int .i64 0, .bool false]) 4 32 Try.underlying155 hi hz hsz hby rfl (by omega) (.slice ao n c) n (fcells L) hs hown'.1 ⟨w.heap.size, 0, none⟩ 1 1 [.int .i64 t.x, .int .i64 t.y, .int .i64 t.d, .bool t.l] hx rfl (by
      intro j y hj
      match j, hj with
      | 0, hj => simp at hj; subst hj; simp [Addr.add]
      | 1, hj => simp at hj; subst hj; simp [Addr.add]
      | 2, hj => simp at hj; subst hj; simp [Addr.add]
      | 3, hj => simp at hj; subst hj; simp [Addr.add]
      | j + 4, hj => simp at hj)
    (by intro y hy; simp at hy; rcases hy with rfl | rfl | rfl | rfl <;> rfl) (by simp [maxLen]; omega) (by omega) (by simp; omega) ?_
  intro v' w' h1 h2 _ h4
  rw [ownBlock_slice] at h2 h4
  rw [fcells_app] at h1
  obtain ⟨g, cap, rfl, hb, hlt⟩ := h1.form (by omega)
  refine hK _ _ _ ⟨h1, hn⟩ (grown_tr (World.grownBy_alloc w _ _) h2) ?_
  rw [ownBlock_slice] at h4
  simpa using h4
end
theorem Own.typF {w : World} {lo E n c : Nat} {ao : Option Addr} {xs : List Value} (h : Own w lo E ao n c xs) {g : Nat} (hg : bk ao = some g) : ∃ cs, w.heap[g]? = some (.cells cs E (0, 0)) := by
  rcases h.1.2 with h2 | ⟨g', cap, cur, hv, _, hh, _⟩
  · have h2 := h2.1
    injection h2 with h3; subst h3; cases hg
  · injection hv with h3; subst h3
    obtain rfl := Option.some.inj hg
    exact ⟨cur, hh⟩
theorem OwR.sameF {w w' : World} {lo hi E F : Nat} {ao : Option Addr} {n c : Nat} {xs : List Value} {ds : List (List Int)} (h : OwR (OwS F) w lo hi E ao n c xs ds) (hs : ∀ g cs t, lo ≤ g → g < hi → w.heap[g]? = some (.cells cs t (0, 0)) → t = E ∨ t = F → w'.heap[g]? = w.heap[g]?) : OwR (OwS F) w' lo hi E ao n c xs ds :=
  { own := h.own.same fun g hg => by
      obtain ⟨cs, hc⟩ := h.own.typF hg
      exact hs g cs E (h.own.lt g hg).1 (h.top g hg) hc (.inl rfl)
    top := h.top, len := h.len, rng := h.rng, out := h.out, apart := h.apart
    el := fun j u d hu hd => by
      obtain ⟨ao', n', c', rfl, ho⟩ := h.el j u d hu hd
      refine ⟨ao', n', c', rfl, ho.same fun g hg => ?_⟩
      obtain ⟨cs, hc⟩ := ho.typF hg
      have hr := h.rng j _ hu g (by rw [ownBlock_slice]; exact hg)
      exact hs g cs F hr.1 hr.2 hc (.inr rfl) }
abbrev clV (nb : Nat) : Value := .func (.func 165) #[] #[.pointer (some ⟨nb, 0, none⟩)]
/-- the search: its boxes (b, c, the result, n, the closure), the flags, the map, the rows -/
structure TS (b c n : Int) (w wr : World) (lo p1 p2 p3 p4 : Nat) (ao : Option Addr) (cap mb g0 : Nat) (us : List Value) (s : PSt) : Prop where
  bx : Blk wr w.heap.size 2 #[.int .i64 b]
  cx : Blk wr p1 2 #[.int .i64 c]
  mn : Blk wr p2 41 #[.slice none 0 0]
  nx : Blk wr p3 2 #[.int .i64 n]
  fx : Blk wr p4 92 #[clV p3]
  ps : (w.heap.size < p1 ∧ p1 < lo) ∧ (w.heap.size < p2 ∧ p2 < lo) ∧ (w.heap.size < p3 ∧ p3 < lo) ∧ (w.heap.size < p4 ∧ p4 < lo)
  ls : OwnF wr lo ao s.1.length cap s.1
  mp : MapT wr mb (s.1.map (tkey b c n))
  at_ : lo ≤ mb
  rws : OwR (OwS 2) wr lo wr.heap.size 49 (some ⟨g0, 0, none⟩) 3 3 us s.2
  bel : Below w.heap.size w wr
theorem MapT.lt {w : World} {b : Nat} {ks : List TF} (h : MapT w b ks) : b < w.heap.size := by
  obtain ⟨es, k, hb, _⟩ := h
  exact (Array.getElem?_eq_some_iff.1 hb).1
theorem MapT.same {w w' : World} {b : Nat} {ks : List TF} (h : MapT w b ks) (hs : w'.heap[b]? = w.heap[b]?) : MapT w' b ks := by
  obtain ⟨es, k, hb, hm⟩ := h
  exact ⟨es, k, hs.trans hb, hm⟩
section
variable {b c n : Int} {w wr w' : World} {lo p1 p2 p3 p4 : Nat} {ao : Option Addr} {cap mb g0 : Nat} {us : List Value} {s : PSt}
theorem TS.size (h : TS b c n w wr lo p1 p2 p3 p4 ao cap mb g0 us s) : lo ≤ wr.heap.size := by have := h.mp.lt; have := h.at_; omega
/-- what may turn: nothing below, neither the boxes -/
theorem TS.keep (h : TS b c n w wr lo p1 p2 p3 p4 ao cap mb g0 us s) (hb : Below wr.heap.size wr w') : TS b c n w w' lo p1 p2 p3 p4 ao cap mb g0 us s := by
  have hs := h.size
  exact ⟨h.bx.belowS hb, h.cx.belowS hb, h.mn.belowS hb, h.nx.belowS hb, h.fx.belowS hb, h.ps, h.ls.same fun g hg => hb.block g (h.ls.lt g hg).2, h.mp.same (hb.block mb h.mp.lt), h.at_, (h.rws.below (innerS _) hb).mono (Nat.le_refl _) hb.size, h.bel.trans (hb.mono h.bel.size)⟩
theorem TS.put (h : TS b c n w wr lo p1 p2 p3 p4 ao cap mb g0 us s) {k : TF} (ho : Only mb (mb + 1) wr w') (hm : MapT w' mb (s.1.map (tkey b c n) ++ [k])) :
    OwnF w' lo ao s.1.length cap s.1 ∧ (∀ {L : List TF} {r : List (List Int)} {ao' : Option Addr} {cap' : Nat} {w2 : World}, w'.grownBy w2 (bk ao) → OwnF w2 lo ao' L.length cap' L → L.map (tkey b c n) = s.1.map (tkey b c n) ++ [k] → r = s.2 → TS b c n w w2 lo p1 p2 p3 p4 ao' cap' mb g0 us (L, r)) := by
  have hs := h.size
  have hps := h.ps
  have hat := h.at_
  obtain ⟨es, ck, hmb, _⟩ := h.mp
  have hne : ∀ (g : Nat) (cs : Array Value) (t : TypeId), wr.heap[g]? = some (Obj.cells cs t (0, 0)) → g ≠ mb := fun g cs t hg e => by subst e; rw [hmb] at hg; cases hg
  have hk : ∀ g, g < wr.heap.size → g ≠ mb → w'.heap[g]? = wr.heap[g]? := fun g hg hn => ho.block g hg (by omega)
  have hF : OwnF w' lo ao s.1.length cap s.1 := h.ls.same fun g hg => by
    obtain ⟨cs, hc⟩ := h.ls.typ hg
    exact hk g (h.ls.lt g hg).2 (hne g cs _ hc)
  refine ⟨hF, fun {L r ao' cap' w2} hg hL hmap hr => ?_⟩
  subst hr
  have hsz := ho.size
  have hsz2 := hg.size
  have hB : Below lo w' w2 := ⟨hg.os, hg.tape, hg.output, hg.size, fun g hlt => hg.block g (by omega) fun e => by have := (h.ls.lt g e.symm).1; omega⟩
  have hB0 : Below lo wr w2 := (ho.below (by omega) hs).trans hB
  have hlist : ∀ (g : Nat) (cs : Array Value) (t : TypeId), w'.heap[g]? = some (Obj.cells cs t (0, 0)) → t ≠ 153 → w2.heap[g]? = w'.heap[g]? := fun g cs t hc hn => hg.block g (by exact (Array.getElem?_eq_some_iff.1 hc).1) fun e => by
    obtain ⟨cs', hc'⟩ := hF.typ e.symm
    rw [hc'] at hc
    injection hc with hc
    injection hc with h1 h2
    exact hn h2.symm
  refine ⟨h.bx.below hB0 (by omega), h.cx.below hB0 (by omega), h.mn.below hB0 (by omega), h.nx.below hB0 (by omega), h.fx.below hB0 (by omega), h.ps, hL, ?_, hat, ?_, h.bel.trans (hB0.mono (by omega))⟩
  · rw [hmap]
    obtain ⟨es', ck', hmb', e'⟩ := hm
    refine ⟨es', ck', ?_, e'⟩
    rw [hg.block mb (Array.getElem?_eq_some_iff.1 hmb').1 fun e => ?_]
    · exact hmb'
    · obtain ⟨cs', hc'⟩ := hF.typ e.symm
      rw [hc'] at hmb'; cases hmb'
  · have h1 := h.rws.sameF (w' := w2) fun g cs t _ hhi hc ht => by
      have e1 := hk g hhi (hne g cs t hc)
      rw [← e1] at hc ⊢
      exact hlist g cs t hc (by rcases ht with rfl | rfl <;> decide)
    exact h1.mono (Nat.le_refl _) (by omega)
/-- the number goes behind its row -/
theorem TS.row (h : TS b c n w wr lo p1 p2 p3 p4 ao cap mb g0 us s) {i : Nat} (hi : i < 3) {ra ra' : Option Addr} {rn rc rc' : Nat} (hu : us[i]? = some (.slice ra rn rc)) {zs : List Int} (hg : wr.grownBy w' (bk ra)) (ho : Own w' 0 2 ra' (rn + 1) rc' (zs.map (Value.int .i64))) (hat : bk ra' = bk ra ∨ ∃ g, bk ra' = some g ∧ wr.heap.size ≤ g) (hne : ∀ g, bk ra' = some g → lo ≤ g) :
    TS b c n w (w'.setCell ⟨g0, i, none⟩ (.slice ra' (rn + 1) rc')) lo p1 p2 p3 p4 ao cap mb g0 (us.set i (.slice ra' (rn + 1) rc')) (s.1, s.2.set i zs) := by
  have hs := h.size
  have hps := h.ps
  have hat_ := h.at_
  have hsz := hg.size
  have hg0 := h.rws.own.lt g0 rfl
  obtain ⟨cs0, hc0⟩ := h.rws.own.typF (g := g0) rfl
  have hrow : ∀ g, bk ra = some g → lo ≤ g ∧ ∃ cs, wr.heap[g]? = some (.cells cs 2 (0, 0)) := fun g e => by
    have hr := h.rws.rng i _ hu g (by rw [ownBlock_slice]; exact e)
    obtain ⟨d, hd⟩ : ∃ d, s.2[i]? = some d := ⟨_, List.getElem?_eq_getElem (by have := h.rws.len; omega)⟩
    obtain ⟨a1, n1, c1, e1, o1⟩ := h.rws.el i _ d hu hd
    injection e1 with e1 e2 e3
    subst e1 e2 e3
    exact ⟨hr.1, o1.typF e⟩
  have hB : Below lo wr w' := ⟨hg.os, hg.tape, hg.output, hg.size, fun g hlt => hg.block g (by omega) fun e => by have := (hrow g e.symm).1; omega⟩
  have hB2 : Below lo wr (w'.setCell ⟨g0, i, none⟩ (.slice ra' (rn + 1) rc')) := hB.setCell (by show _ ≤ g0; omega) _
  have hset : ∀ g, g ≠ g0 → (w'.setCell ⟨g0, i, none⟩ (.slice ra' (rn + 1) rc')).heap[g]? = w'.heap[g]? := fun g hne => Below.heap_setCell _ _ _ _ hne
  have hoth : ∀ g o, wr.heap[g]? = some o → (∀ (cs : Array Value) (t : TypeId), o = Obj.cells cs t (0, 0) → t ≠ 2 ∧ t ≠ 49) → (w'.setCell ⟨g0, i, none⟩ (.slice ra' (rn + 1) rc')).heap[g]? = wr.heap[g]? := fun g o hgo hn => by
    rw [hset g fun e => by rw [e, hc0] at hgo; exact (hn _ _ (Option.some.inj hgo).symm).2 rfl]
    exact hg.block g (Array.getElem?_eq_some_iff.1 hgo).1 fun e => by
      obtain ⟨_, cs, hc⟩ := hrow g e.symm
      rw [hc] at hgo
      exact (hn _ _ (Option.some.inj hgo).symm).1 rfl
  have hput := h.rws.put (innerS _) (w' := w') (u' := .slice ra' (rn + 1) rc') (d' := zs) hu (by rw [ownBlock_slice]; exact hg) ⟨_, _, _, rfl, ho⟩ (by rw [ownBlock_slice, ownBlock_slice]; rcases hat with e | ⟨g, e1, e2⟩; exact .inr (.inl e); exact .inr (.inr ⟨g, e1, e2⟩)) (Nat.le_refl _) hs
  refine ⟨h.bx.below hB2 (by omega), h.cx.below hB2 (by omega), h.mn.below hB2 (by omega), h.nx.below hB2 (by omega), h.fx.below hB2 (by omega), h.ps, ?_, ?_, hat_, ?_, h.bel.trans (hB2.mono (by omega))⟩
  · exact h.ls.same fun g hg => by
      obtain ⟨cs, hc⟩ := h.ls.typ hg
      exact hoth g _ hc fun cs' t e => by injection e with e1 e2; subst e2; decide
  · obtain ⟨es, ck, hmb, e⟩ := h.mp
    exact ⟨es, ck, (hoth mb _ hmb fun cs t e => by cases e).trans hmb, e⟩
  · have : (w'.setCell ⟨g0, i, none⟩ (.slice ra' (rn + 1) rc')).heap.size = w'.heap.size := by simp [World.setCell]
    rw [this]; exact hput
end
theorem TS.init {b c n : Int} {w w6 w7 w8 w9 : World} {lo p1 p2 p3 p4 p5 mb : Nat} (k1 : Blk w6 w.heap.size 2 #[.int .i64 b]) (k2 : Blk w6 p1 2 #[.int .i64 c]) (k3 : Blk w6 p2 41 #[.slice none 0 0]) (k4 : Blk w6 p3 2 #[.int .i64 n]) (k5 : Blk w6 p4 92 #[clV p3])
    (ps : (w.heap.size < p1 ∧ p1 < lo) ∧ (w.heap.size < p2 ∧ p2 < lo) ∧ (w.heap.size < p3 ∧ p3 < lo) ∧ (w.heap.size < p4 ∧ p4 < lo)) (k6 : OwnF w6 lo (some ⟨p5, 0, none⟩) 1 1 [tf0]) (kb : Below w.heap.size w w6) (ks : w6.heap.size = mb) (hm : lo ≤ mb)
    (b7 : Below (w6.alloc (.map #[] 0)).heap.size (w6.alloc (.map #[] 0)) w7) (o8 : Only mb (mb + 1) w7 w8) (m8 : MapT w8 mb ([] ++ [tkey b c n tf0])) (h9 : Own w9 lo 49 (some ⟨w8.heap.size, 0, none⟩) 3 3 (List.replicate 3 (.slice none 0 0))) (g9 : w8.grownBy w9 none) :
    TS b c n w w9 lo p1 p2 p3 p4 (some ⟨p5, 0, none⟩) 1 mb w8.heap.size (List.replicate 3 (.slice none 0 0)) ([tf0], [[], [], []]) := by
  subst ks
  have b7' : Below w6.heap.size w6 w7 := (below_alloc1 w6 _).trans (b7.mono (by simp))
  have s7 := b7.size
  simp at s7
  have b8 : Below w6.heap.size w6 w8 := b7'.trans (o8.below (Nat.le_refl _) (by omega))
  have s8 := o8.size
  have b9' : Below w8.heap.size w8 w9 := ⟨g9.os, g9.tape, g9.output, g9.size, fun k hk => g9.block k hk (by simp)⟩
  have b9 : Below w6.heap.size w6 w9 := b8.trans (b9'.mono (by omega))
  refine ⟨k1.belowS b9, k2.belowS b9, k3.belowS b9, k4.belowS b9, k5.belowS b9, ps, k6.same fun g hg => b9.block g (k6.lt g hg).2, m8.same (b9'.block _ (by omega)), hm, ?_, kb.trans (b9.mono kb.size)⟩
  exact OwR.blank rfl h9 ⟨none, 0, 0, rfl, Own.nil_ _ _ _⟩ fun g hg => (h9.lt g hg).2
end Go.Proofs.Ytpognnifgcacnaa

/- Torus maps: l10Same walked. guards: -/
namespace Go.Proofs.Ytpognnifgcacnaa
open Go.RowKit

section
variable {P : Program} {nt : Nat} {S S' S2 : St} {t : Nat} {ty : TypeId} {ps : String} {af : Array Edge} {gd : Option (Nat × Bool)} {x y : Operand} {o : Oper}
theorem stp_remI {xt yt : TypeId} {a b r : Int} (ht : Nat.blt t nt = true) (hx : S.op x = some (vv (I6 a))) (hy : S.op y = some (vv (I6 b))) (hb : b ≠ 0) (hr : a.tmod b = r) :
    Stp P nt ⟨some t, .binOp .rem xt x y yt, ty, ps, af, gd⟩ S (S.put t (vv (I6 r))) :=
  Stp.pure rfl ht fun _ _ η _ s w hs => by
    refine ⟨I6 r, ?_, rfl⟩
    have e : Op.intDiv .rem .i64 a b = pure (I6 r) := by
      unfold Op.intDiv
      rw [if_neg hb]
      show pure (Value.int .i64 (a.tmod b)) = _
      rw [hr]
    simp [execOp, hs.opV hx, hs.opV hy, eqGuard, binOp, e]
end
theorem mul_in {a b : Int} {A B : Nat} (ha : -(A : Int) ≤ a ∧ a ≤ A) (hb : -(B : Int) ≤ b ∧ b ≤ B) : -((A * B : Nat) : Int) ≤ a * b ∧ a * b ≤ ((A * B : Nat) : Int) := by
  have h1 : a.natAbs ≤ A := by omega
  have h2 : b.natAbs ≤ B := by omega
  have h3 : (a * b).natAbs ≤ A * B := by rw [Int.natAbs_mul]; exact Nat.mul_le_mul h1 h2
  omega
attribute [local irreducible] IntKind.wrap
theorem torN {b c : Nat} (hb : b ≤ 7) (hc : c ≤ 7) : b * b ≤ 49 ∧ c * c ≤ 49 := ⟨Nat.mul_le_mul hb hb, Nat.mul_le_mul hc hc⟩
set_option maxRecDepth 100000 in
theorem same_fc (b c : Nat) (x y : Int) (hb : b ≤ 7) (hc : c ≤ 7) (hn : 0 < b * b + c * c) (hx : -1000 ≤ x ∧ x ≤ 1000) (hy : -1000 ≤ y ∧ y ≤ 1000) :
    FC Try.prog 163 [] [vv (I6 b), vv (I6 c), vv (I6 x), vv (I6 y)] [] (vv (.bool (sameB b c x y))) [] := by
  obtain ⟨hbb, hcc⟩ := torN hb hc
  have B : -((7 : Nat) : Int) ≤ (b : Int) ∧ (b : Int) ≤ ((7 : Nat) : Int) := by omega
  have C : -((7 : Nat) : Int) ≤ (c : Int) ∧ (c : Int) ≤ ((7 : Nat) : Int) := by omega
  have X : -((1000 : Nat) : Int) ≤ x ∧ x ≤ ((1000 : Nat) : Int) := by omega
  have Y : -((1000 : Nat) : Int) ≤ y ∧ y ≤ ((1000 : Nat) : Int) := by omega
  have m1 := mul_in X B
  have m2 := mul_in Y C
  have m3 := mul_in Y B
  have m4 := mul_in X C
  unfold sameB
  have e1 : IntKind.i64.wrap ((b : Int) * b) = ((b * b : Nat) : Int) := by rw [← Int.natCast_mul]; exact IntWalk.i64_in _ (by omega)
  have e2 : IntKind.i64.wrap ((c : Int) * c) = ((c * c : Nat) : Int) := by rw [← Int.natCast_mul]; exact IntWalk.i64_in _ (by omega)
  generalize b * b = bb at *
  generalize c * c = cc at *
  have e3 : IntKind.i64.wrap ((bb : Int) + (cc : Int)) = ((bb + cc : Nat) : Int) := by rw [IntWalk.i64_in _ (by omega)]; omega
  obtain ⟨xb, hxb⟩ : ∃ z, z = x * (b : Int) := ⟨_, rfl⟩
  obtain ⟨yc, hyc⟩ : ∃ z, z = y * (c : Int) := ⟨_, rfl⟩
  obtain ⟨yb, hyb⟩ : ∃ z, z = y * (b : Int) := ⟨_, rfl⟩
  obtain ⟨xc, hxc⟩ : ∃ z, z = x * (c : Int) := ⟨_, rfl⟩
  rw [← hxb] at m1
  rw [← hyc] at m2
  rw [← hyb] at m3
  rw [← hxc] at m4
  rw [← hxb, ← hyc, ← hyb, ← hxc]
  have f1 : IntKind.i64.wrap (x * b) = xb := by rw [← hxb]; exact IntWalk.i64_in _ (by omega)
  have f2 : IntKind.i64.wrap (y * c) = yc := by rw [← hyc]; exact IntWalk.i64_in _ (by omega)
  have f3 : IntKind.i64.wrap (y * b) = yb := by rw [← hyb]; exact IntWalk.i64_in _ (by omega)
  have f4 : IntKind.i64.wrap (x * c) = xc := by rw [← hxc]; exact IntWalk.i64_in _ (by omega)
  clear hxb hyc hyb hxc
  have f5 : IntKind.i64.wrap (xb + yc) = xb + yc := IntWalk.i64_in _ (by omega)
  have f6 : IntKind.i64.wrap (yb - xc) = yb - xc := IntWalk.i64_in _ (by omega)
  have hne : ((bb + cc : Nat) : Int) ≠ 0 := by omega
  generalize ((bb + cc : Nat) : Int) = n at *
  generalize hr1 : (xb + yc).tmod n = r1
  generalize hr2 : (yb - xc).tmod n = r2
  refine fc_enter (nt := 39) Try.func163 rfl rfl (by simp) fun w0 ω0 => ?_
  cases g1 : (r1 == 0) with
  | false =>
    rw [Bool.false_and]
    (refine goes_seq ?_; refine goes_region ?_; apply run_step rfl; (exact stp_assign rfl rfl); refine run_nil ?_; refine fin_seq ?_; refine goes_seq ?_; refine goes_region ?_; apply run_step rfl; (exact stp_move rfl rfl); apply run_step rfl; (exact stp_move rfl rfl); apply run_step rfl; (first | exact stp_mul rfl rfl rfl e1 | exact stp_mul rfl rfl rfl e2 | exact stp_mul rfl rfl rfl f1 | exact stp_mul rfl rfl rfl f2 | exact stp_add rfl rfl rfl e3 | exact stp_add rfl rfl rfl f5 | exact stp_remI rfl rfl rfl hne hr1 | exact stp_bin rfl rfl rfl (show binI .i64 .eql r1 0 = some (.bool false) by rw [← g1]; rfl)); apply run_step rfl; (exact stp_move rfl rfl); apply run_step rfl; (exact stp_move rfl rfl); apply run_step rfl; (first | exact stp_mul rfl rfl rfl e1 | exact stp_mul rfl rfl rfl e2 | exact stp_mul rfl rfl rfl f1 | exact stp_mul rfl rfl rfl f2 | exact stp_add rfl rfl rfl e3 | exact stp_add rfl rfl rfl f5 | exact stp_remI rfl rfl rfl hne hr1 | exact stp_bin rfl rfl rfl (show binI .i64 .eql r1 0 = some (.bool false) by rw [← g1]; rfl)); apply run_step rfl; (first | exact stp_mul rfl rfl rfl e1 | exact stp_mul rfl rfl rfl e2 | exact stp_mul rfl rfl rfl f1 | exact stp_mul rfl rfl rfl f2 | exact stp_add rfl rfl rfl e3 | exact stp_add rfl rfl rfl f5 | exact stp_remI rfl rfl rfl hne hr1 | exact stp_bin rfl rfl rfl (show binI .i64 .eql r1 0 = some (.bool false) by rw [← g1]; rfl)); apply run_step rfl; (exact stp_assign rfl rfl); refine run_nil ?_; refine fin_seq ?_; refine goes_seq ?_; refine goes_region ?_; apply run_step rfl; (exact stp_move rfl rfl); apply run_step rfl; (exact stp_move rfl rfl); apply run_step rfl; (first | exact stp_mul rfl rfl rfl e1 | exact stp_mul rfl rfl rfl e2 | exact stp_mul rfl rfl rfl f1 | exact stp_mul rfl rfl rfl f2 | exact stp_add rfl rfl rfl e3 | exact stp_add rfl rfl rfl f5 | exact stp_remI rfl rfl rfl hne hr1 | exact stp_bin rfl rfl rfl (show binI .i64 .eql r1 0 = some (.bool false) by rw [← g1]; rfl)); apply run_step rfl; (exact stp_move rfl rfl); apply run_step rfl; (exact stp_move rfl rfl); apply run_step rfl; (first | exact stp_mul rfl rfl rfl e1 | exact stp_mul rfl rfl rfl e2 | exact stp_mul rfl rfl rfl f1 | exact stp_mul rfl rfl rfl f2 | exact stp_add rfl rfl rfl e3 | exact stp_add rfl rfl rfl f5 | exact stp_remI rfl rfl rfl hne hr1 | exact stp_bin rfl rfl rfl (show binI .i64 .eql r1 0 = some (.bool false) by rw [← g1]; rfl)); apply run_step rfl; (first | exact stp_mul rfl rfl rfl e1 | exact stp_mul rfl rfl rfl e2 | exact stp_mul rfl rfl rfl f1 | exact stp_mul rfl rfl rfl f2 | exact stp_add rfl rfl rfl e3 | exact stp_add rfl rfl rfl f5 | exact stp_remI rfl rfl rfl hne hr1 | exact stp_bin rfl rfl rfl (show binI .i64 .eql r1 0 = some (.bool false) by rw [← g1]; rfl)); apply run_step rfl; (exact stp_move rfl rfl); apply run_step rfl; (first | exact stp_mul rfl rfl rfl e1 | exact stp_mul rfl rfl rfl e2 | exact stp_mul rfl rfl rfl f1 | exact stp_mul rfl rfl rfl f2 | exact stp_add rfl rfl rfl e3 | exact stp_add rfl rfl rfl f5 | exact stp_remI rfl rfl rfl hne hr1 | exact stp_bin rfl rfl rfl (show binI .i64 .eql r1 0 = some (.bool false) by rw [← g1]; rfl)); apply run_step rfl; (first | exact stp_mul rfl rfl rfl e1 | exact stp_mul rfl rfl rfl e2 | exact stp_mul rfl rfl rfl f1 | exact stp_mul rfl rfl rfl f2 | exact stp_add rfl rfl rfl e3 | exact stp_add rfl rfl rfl f5 | exact stp_remI rfl rfl rfl hne hr1 | exact stp_bin rfl rfl rfl (show binI .i64 .eql r1 0 = some (.bool false) by rw [← g1]; rfl)); apply run_step rfl; (exact stp_move rfl rfl); apply run_gNo rfl rfl rfl rfl rfl; apply run_gNo rfl rfl rfl rfl rfl; apply run_gNo rfl rfl rfl rfl rfl; apply run_gNo rfl rfl rfl rfl rfl; apply run_gNo rfl rfl rfl rfl rfl; apply run_gNo rfl rfl rfl rfl rfl; apply run_gNo rfl rfl rfl rfl rfl; apply run_gNo rfl rfl rfl rfl rfl; apply run_gNo rfl rfl rfl rfl rfl; apply run_gNo rfl rfl rfl rfl rfl; apply run_step rfl; (exact stp_pickF rfl rfl rfl); apply run_step rfl; (exact stp_assign rfl rfl); refine run_nil ?_; refine fin_seq ?_; refine goes_ret ?_)
    exact fin_ret1 (.inl rfl) rfl (.tmp rfl) trivial trivial
  | true =>
    rw [Bool.true_and]
    (refine goes_seq ?_; refine goes_region ?_; apply run_step rfl; (exact stp_assign rfl rfl); refine run_nil ?_; refine fin_seq ?_; refine goes_seq ?_; refine goes_region ?_; apply run_step rfl; (exact stp_move rfl rfl); apply run_step rfl; (exact stp_move rfl rfl); apply run_step rfl; (first | exact stp_mul rfl rfl rfl e1 | exact stp_mul rfl rfl rfl e2 | exact stp_mul rfl rfl rfl f1 | exact stp_mul rfl rfl rfl f2 | exact stp_mul rfl rfl rfl f3 | exact stp_mul rfl rfl rfl f4 | exact stp_add rfl rfl rfl e3 | exact stp_add rfl rfl rfl f5 | exact stp_sub rfl rfl rfl f6 | exact stp_remI rfl rfl rfl hne hr1 | exact stp_remI rfl rfl rfl hne hr2 | exact stp_bin rfl rfl rfl (show binI .i64 .eql r1 0 = some (.bool true) by rw [← g1]; rfl)); apply run_step rfl; (exact stp_move rfl rfl); apply run_step rfl; (exact stp_move rfl rfl); apply run_step rfl; (first | exact stp_mul rfl rfl rfl e1 | exact stp_mul rfl rfl rfl e2 | exact stp_mul rfl rfl rfl f1 | exact stp_mul rfl rfl rfl f2 | exact stp_mul rfl rfl rfl f3 | exact stp_mul rfl rfl rfl f4 | exact stp_add rfl rfl rfl e3 | exact stp_add rfl rfl rfl f5 | exact stp_sub rfl rfl rfl f6 | exact stp_remI rfl rfl rfl hne hr1 | exact stp_remI rfl rfl rfl hne hr2 | exact stp_bin rfl rfl rfl (show binI .i64 .eql r1 0 = some (.bool true) by rw [← g1]; rfl)); apply run_step rfl; (first | exact stp_mul rfl rfl rfl e1 | exact stp_mul rfl rfl rfl e2 | exact stp_mul rfl rfl rfl f1 | exact stp_mul rfl rfl rfl f2 | exact stp_mul rfl rfl rfl f3 | exact stp_mul rfl rfl rfl f4 | exact stp_add rfl rfl rfl e3 | exact stp_add rfl rfl rfl f5 | exact stp_sub rfl rfl rfl f6 | exact stp_remI rfl rfl rfl hne hr1 | exact stp_remI rfl rfl rfl hne hr2 | exact stp_bin rfl rfl rfl (show binI .i64 .eql r1 0 = some (.bool true) by rw [← g1]; rfl)); apply run_step rfl; (exact stp_assign rfl rfl); refine run_nil ?_; refine fin_seq ?_; refine goes_seq ?_; refine goes_region ?_; apply run_step rfl; (exact stp_move rfl rfl); apply run_step rfl; (exact stp_move rfl rfl); apply run_step rfl; (first | exact stp_mul rfl rfl rfl e1 | exact stp_mul rfl rfl rfl e2 | exact stp_mul rfl rfl rfl f1 | exact stp_mul rfl rfl rfl f2 | exact stp_mul rfl rfl rfl f3 | exact stp_mul rfl rfl rfl f4 | exact stp_add rfl rfl rfl e3 | exact stp_add rfl rfl rfl f5 | exact stp_sub rfl rfl rfl f6 | exact stp_remI rfl rfl rfl hne hr1 | exact stp_remI rfl rfl rfl hne hr2 | exact stp_bin rfl rfl rfl (show binI .i64 .eql r1 0 = some (.bool true) by rw [← g1]; rfl)); apply run_step rfl; (exact stp_move rfl rfl); apply run_step rfl; (exact stp_move rfl rfl); apply run_step rfl; (first | exact stp_mul rfl rfl rfl e1 | exact stp_mul rfl rfl rfl e2 | exact stp_mul rfl rfl rfl f1 | exact stp_mul rfl rfl rfl f2 | exact stp_mul rfl rfl rfl f3 | exact stp_mul rfl rfl rfl f4 | exact stp_add rfl rfl rfl e3 | exact stp_add rfl rfl rfl f5 | exact stp_sub rfl rfl rfl f6 | exact stp_remI rfl rfl rfl hne hr1 | exact stp_remI rfl rfl rfl hne hr2 | exact stp_bin rfl rfl rfl (show binI .i64 .eql r1 0 = some (.bool true) by rw [← g1]; rfl)); apply run_step rfl; (first | exact stp_mul rfl rfl rfl e1 | exact stp_mul rfl rfl rfl e2 | exact stp_mul rfl rfl rfl f1 | exact stp_mul rfl rfl rfl f2 | exact stp_mul rfl rfl rfl f3 | exact stp_mul rfl rfl rfl f4 | exact stp_add rfl rfl rfl e3 | exact stp_add rfl rfl rfl f5 | exact stp_sub rfl rfl rfl f6 | exact stp_remI rfl rfl rfl hne hr1 | exact stp_remI rfl rfl rfl hne hr2 | exact stp_bin rfl rfl rfl (show binI .i64 .eql r1 0 = some (.bool true) by rw [← g1]; rfl)); apply run_step rfl; (exact stp_move rfl rfl); apply run_step rfl; (first | exact stp_mul rfl rfl rfl e1 | exact stp_mul rfl rfl rfl e2 | exact stp_mul rfl rfl rfl f1 | exact stp_mul rfl rfl rfl f2 | exact stp_mul rfl rfl rfl f3 | exact stp_mul rfl rfl rfl f4 | exact stp_add rfl rfl rfl e3 | exact stp_add rfl rfl rfl f5 | exact stp_sub rfl rfl rfl f6 | exact stp_remI rfl rfl rfl hne hr1 | exact stp_remI rfl rfl rfl hne hr2 | exact stp_bin rfl rfl rfl (show binI .i64 .eql r1 0 = some (.bool true) by rw [← g1]; rfl)); apply run_step rfl; (first | exact stp_mul rfl rfl rfl e1 | exact stp_mul rfl rfl rfl e2 | exact stp_mul rfl rfl rfl f1 | exact stp_mul rfl rfl rfl f2 | exact stp_mul rfl rfl rfl f3 | exact stp_mul rfl rfl rfl f4 | exact stp_add rfl rfl rfl e3 | exact stp_add rfl rfl rfl f5 | exact stp_sub rfl rfl rfl f6 | exact stp_remI rfl rfl rfl hne hr1 | exact stp_remI rfl rfl rfl hne hr2 | exact stp_bin rfl rfl rfl (show binI .i64 .eql r1 0 = some (.bool true) by rw [← g1]; rfl)); apply run_step rfl; (exact stp_move rfl rfl); apply run_gYes rfl rfl rfl; (exact stp_move rfl rfl); apply run_gYes rfl rfl rfl; (exact stp_move rfl rfl); apply run_gYes rfl rfl rfl; (first | exact stp_mul rfl rfl rfl e1 | exact stp_mul rfl rfl rfl e2 | exact stp_mul rfl rfl rfl f1 | exact stp_mul rfl rfl rfl f2 | exact stp_mul rfl rfl rfl f3 | exact stp_mul rfl rfl rfl f4 | exact stp_add rfl rfl rfl e3 | exact stp_add rfl rfl rfl f5 | exact stp_sub rfl rfl rfl f6 | exact stp_remI rfl rfl rfl hne hr1 | exact stp_remI rfl rfl rfl hne hr2 | exact stp_bin rfl rfl rfl (show binI .i64 .eql r1 0 = some (.bool true) by rw [← g1]; rfl)); apply run_gYes rfl rfl rfl; (exact stp_move rfl rfl); apply run_gYes rfl rfl rfl; (exact stp_move rfl rfl); apply run_gYes rfl rfl rfl; (first | exact stp_mul rfl rfl rfl e1 | exact stp_mul rfl rfl rfl e2 | exact stp_mul rfl rfl rfl f1 | exact stp_mul rfl rfl rfl f2 | exact stp_mul rfl rfl rfl f3 | exact stp_mul rfl rfl rfl f4 | exact stp_add rfl rfl rfl e3 | exact stp_add rfl rfl rfl f5 | exact stp_sub rfl rfl rfl f6 | exact stp_remI rfl rfl rfl hne hr1 | exact stp_remI rfl rfl rfl hne hr2 | exact stp_bin rfl rfl rfl (show binI .i64 .eql r1 0 = some (.bool true) by rw [← g1]; rfl)); apply run_gYes rfl rfl rfl; (first | exact stp_mul rfl rfl rfl e1 | exact stp_mul rfl rfl rfl e2 | exact stp_mul rfl rfl rfl f1 | exact stp_mul rfl rfl rfl f2 | exact stp_mul rfl rfl rfl f3 | exact stp_mul rfl rfl rfl f4 | exact stp_add rfl rfl rfl e3 | exact stp_add rfl rfl rfl f5 | exact stp_sub rfl rfl rfl f6 | exact stp_remI rfl rfl rfl hne hr1 | exact stp_remI rfl rfl rfl hne hr2 | exact stp_bin rfl rfl rfl (show binI .i64 .eql r1 0 = some (.bool true) by rw [← g1]; rfl)); apply run_gYes rfl rfl rfl; (exact stp_move rfl rfl); apply run_gYes rfl rfl rfl; (first | exact stp_mul rfl rfl rfl e1 | exact stp_mul rfl rfl rfl e2 | exact stp_mul rfl rfl rfl f1 | exact stp_mul rfl rfl rfl f2 | exact stp_mul rfl rfl rfl f3 | exact stp_mul rfl rfl rfl f4 | exact stp_add rfl rfl rfl e3 | exact stp_add rfl rfl rfl f5 | exact stp_sub rfl rfl rfl f6 | exact stp_remI rfl rfl rfl hne hr1 | exact stp_remI rfl rfl rfl hne hr2 | exact stp_bin rfl rfl rfl (show binI .i64 .eql r1 0 = some (.bool true) by rw [← g1]; rfl)); apply run_gYes rfl rfl rfl; (exact stp_bin rfl rfl rfl rfl); apply run_step rfl; (exact stp_pickT rfl rfl rfl); apply run_step rfl; (exact stp_assign rfl rfl); refine run_nil ?_; refine fin_seq ?_; refine goes_ret ?_)
    exact fin_ret1 (.inl rfl) rfl (.tmp rfl) trivial trivial
end Go.Proofs.Ytpognnifgcacnaa

/- A memory of names: function values that hold variables. No program in sight. -/
namespace Go.Proofs.Ytpognnifgcacnaa
open Go.RowKit

section
variable {P : Program} {nt : Nat} {S S' : St} {w0 w : World} {ω0 : Beg} {ω : Own?} {η : Env} {a : Act}
theorem stp_callG {f : FuncId} {o : Oper} {dst : Option Nat} {ins outs : List (Nm × Ch)} {args : List AV} {res : AV} {back : List (Nat × AV)} (kp : List (Nat × Nm))
    (hfc : FC P f ins args outs res back) (hod : o.dst = dst) (ht : (dst.map fun t => Nat.blt t nt) != some false) (hop : ∀ {w0 : World} {ω0 : Beg} {η : Env} {ω : Own?} {a : Act} {w : World}, SatE w0 ω0 nt S η ω a w → ∃ us, (execOp a.eval o).run P w = .ok (.enter f us.toArray) w ∧ DenL η args us)
    (hin : allIn S ins) (hkp : allKp ins args back kp)
    (hnr : (res.names.all (inL outs)) = true) (hno : (outs.all fun p => p.2.own && p.2.names.all (inL outs)) = true) :
    Stp P nt o S ((S.after ins outs (kp.map (·.2))).putO dst res) := by
  classical
  refine ⟨fun w0 ω0 a w Q ⟨η, ω, hs⟩ => ?_⟩
  obtain ⟨us, hrun, hopsL⟩ := hop hs
  let η1 : Env := { η with h := fun x => if lk x ins = none then none else η.h x }
  let ω1 : Own? := fun b => match ω b with
    | some (x, i) => if consB ins x = true then some (x, i) else none
    | none => none
  have hω1n : ∀ b, ω b = none → ω1 b = none := fun b h => by simp only [ω1, h]
  have hω1s : ∀ b x i, ω b = some (x, i) → consB ins x = true → ω1 b = some (x, i) := fun b x i h h' => by simp only [ω1, h, if_pos h']
  have hω1f : ∀ b x i, ω b = some (x, i) → consB ins x = false → ω1 b = none := fun b x i h h' => by simp [ω1, h, h']
  have hη1 : ∀ x, η1.h x = none ∨ (η1.h x = η.h x ∧ ∀ i, η1.r x i = η.r x i) := fun x => by
    by_cases e : lk x ins = none
    · exact .inl (if_pos e)
    · exact .inr ⟨if_neg e, fun _ => rfl⟩
  have hmem : Mem η1 ω1 w fun x => lk x ins := by
    refine ⟨fun x c hx => ?_, fun x hx => if_pos hx⟩
    have hx : lk x ins = some c := hx
    obtain ⟨c', hc', hcc⟩ := allIn_lk hin hx
    obtain ⟨hd, h1, h2⟩ := hs.mem.1 x c' hc'
    refine ⟨hd, by simp only [η1]; rw [if_neg (by rw [hx]; simp)]; exact h1, ?_⟩
    by_cases hown : c.own = true
    · have hcc' : c' = c := by
        rcases hcc with h | h
        · exact h
        · rw [h] at hown; cases hown
      subst hcc'
      refine h2.own ⟨Nat.le_refl _, fun b hb hp => ⟨rfl, ?_⟩⟩ (fun _ => rfl) fun l _ a _ z _ => hη1 z
      rcases hp with hp | ⟨i, hp⟩
      · rw [hp]; exact hω1n b hp
      · rw [hp]; exact hω1s b x i hp (by unfold consB; rw [hx]; exact hown)
    · have hcons : consB ins x = false := by unfold consB; rw [hx]; simpa using hown
      have hc0 : c = { c' with own := false } := by
        rcases hcc with h | h
        · rw [h]; have : c.own = false := by simpa using hown
          rw [← this]
        · exact h
      rw [hc0]
      exact h2.view hω1n (fun b i hb => hω1f b x i hb hcons) (fun _ => rfl) fun l _ a _ z _ => hη1 z
  have hargs : DenL η1 args (us) := by
    obtain ⟨h1, h2⟩ := hopsL
    refine ⟨h1, fun j av hj => ?_⟩
    obtain ⟨u, h3, h4⟩ := h2 j av hj
    exact ⟨u, h3, h4.mono fun y _ => hη1 y⟩
  have hcall := hfc w η1 ω1 _ hmem hargs
  unfold Oper.wp
  rw [hrun, Oper.upon_enter]
  refine hcall.mono fun e w' hl => ?_
  obtain ⟨v, η2, ω2, rfl, hdv, hm2, hfr, hbk⟩ := hl
  have hdst : ∀ t, dst = some t → t < nt := fun t ht' => by subst ht'; simpa using ht
  let ω3 : Own? := fun b => if b < w.heap.size ∧ ω1 b = none then ω b else ω2 b
  let η3 : Env := { h := fun y => if inL outs y = true then η2.h y else if consB ins y = true then none else η.h y
                    r := fun y i => if inL outs y = true then η2.r y i else η.r y i }
  have hturn : Turn η η3 (inL outs) (memB (kp.map (·.2))) := fun y => by
    by_cases ho : inL outs y = true
    · refine .inr (.inr ⟨ho, fun hk h' he => ?_⟩)
      obtain ⟨hin', j, hj, hj'⟩ := allKp_mem hkp hk
      obtain ⟨u, hu, hdu⟩ := hbk j _ hj'
      obtain ⟨u', hu', hdu'⟩ := hopsL.2 j _ hj
      rw [hu] at hu'; obtain rfl := Option.some.inj hu'
      have he2 : η2.h y = some h' := by simp only [η3, if_pos ho] at he; exact he
      obtain ⟨b, o, g1, g2⟩ := (show Den1 η2 (.ptr y 0) u from hdu).2 h' he2
      obtain ⟨u'', hu'', hdu''⟩ := hargs.2 j _ hj
      have hlk : ∃ h, η.h y = some h := by
        obtain ⟨c, hc⟩ := Option.isSome_iff_exists.1 hin'
        obtain ⟨c', hc', _⟩ := allIn_lk hin hc
        obtain ⟨h, hh, _⟩ := hs.mem.1 y c' hc'
        exact ⟨h, hh⟩
      obtain ⟨h, hh⟩ := hlk
      obtain ⟨b', o', g1', g2'⟩ := (show Den1 η (.ptr y 0) u from hdu').2 h hh
      rw [g2] at g2'
      injection g2' with g2'; injection g2' with g2'; injection g2' with g2' g3'
      refine ⟨h, hh, ?_⟩
      rw [g1, g1']
      subst g2'
      simp at g3'
      rw [g3']
    · by_cases hc : consB ins y = true
      · exact .inl (by simp only [η3, if_neg ho, if_pos hc])
      · exact .inr (.inl ⟨by simp only [η3, if_neg ho, if_neg hc], fun i => by simp only [η3, if_neg ho]⟩)
  have hω3 : ∀ b, b < w.heap.size → ω1 b = none → ω3 b = ω b := fun b h1 h2 => by simp only [ω3, if_pos (And.intro h1 h2)]
  have hb3 : ∀ b, b < w.heap.size → ω1 b = none → w'.heap[b]? = w.heap[b]? := fun b h1 h2 => (hfr.block b h1 h2).1
  have hω32 : ∀ b o, ω2 b = some o → ω3 b = some o := fun b o h => by
    by_cases e : b < w.heap.size ∧ ω1 b = none
    · have := (hfr.block b e.1 e.2).2
      rw [this] at h; cases h
    · simp only [ω3, if_neg e, h]
  have hsame : Same ω w ω3 w' (fun o => o = none ∨ ∃ y i, o = some (y, i) ∧ consB ins y = false) := by
    refine ⟨hfr.size, fun b hb hp => ?_⟩
    have h1 : ω1 b = none := by
      rcases hp with h | ⟨y, i, h, hc⟩
      · exact hω1n b h
      · exact hω1f b y i h hc
    exact ⟨hb3 b hb h1, hω3 b hb h1⟩
  have hst : SatE w0 ω0 nt (S.after ins outs (kp.map (·.2))) η3 ω3 a w' := by
    refine { dfr := hs.dfr, tsz := hs.tsz, slots := fun t av ht' => ?_, phs := fun t av ht' => ?_, mem := ⟨fun y c hy => ?_, fun y hy => ?_⟩, fr := ?_ }
    · obtain ⟨h1, h2⟩ := bind_bad ht'
      obtain ⟨u, h3, h4⟩ := hs.slots t av h1
      exact ⟨u, h3, h4.turn hturn h2⟩
    · obtain ⟨h1, h2⟩ := bind_bad ht'
      obtain ⟨u, h3, h4⟩ := hs.phs t av h1
      exact ⟨u, h3, h4.turn hturn h2⟩
    · have hy : (match lk y outs with
        | some c => some c
        | none => bif consB ins y then none else (S.ch y).map (Ch.clean (inL outs) (memB (kp.map (·.2))))) = some c := hy
      cases hl : lk y outs with
      | some c1 =>
        rw [hl] at hy
        obtain rfl := Option.some.inj hy
        have ho : inL outs y = true := by unfold inL; rw [hl]; rfl
        obtain ⟨hd, h1, h2⟩ := hm2.1 y c1 hl
        refine ⟨hd, by simp only [η3, if_pos ho]; exact h1, ?_⟩
        have hall := List.all_eq_true.1 hno _ (lk_mem hl)
        simp only [Bool.and_eq_true] at hall
        refine ChIs.sameO (η := η2) (ω := ω2) (w := w') hall.1 (fun b i _ hb => ⟨rfl, hω32 b _ hb⟩) (fun i => by simp only [η3, if_pos ho]) (fun l hlf b1 hb1 z hz => ?_) h2
        have hz' : inL outs z = true := List.all_eq_true.1 hall.2 z (Ch.names_mem hlf hb1 hz)
        exact .inr ⟨by simp only [η3, if_pos hz'], fun i => by simp only [η3, if_pos hz']⟩
      | none =>
        rw [hl] at hy
        have ho : inL outs y = false := by unfold inL; rw [hl]; rfl
        cases hc : consB ins y with
        | true => rw [hc] at hy; cases hy
        | false =>
          rw [hc] at hy
          simp only [cond_false, Option.map_eq_some_iff] at hy
          obtain ⟨c0, hc0, rfl⟩ := hy
          obtain ⟨hd, h1, h2⟩ := hs.mem.1 y c0 hc0
          refine ⟨hd, by simp only [η3, ho, hc]; exact h1, ?_⟩
          exact h2.turn hsame (.inl rfl) (fun i => .inr ⟨y, i, rfl, hc⟩) (fun i => by simp only [η3, ho]; rfl) hturn
    · have hy : (match lk y outs with
        | some c => some c
        | none => bif consB ins y then none else (S.ch y).map (Ch.clean (inL outs) (memB (kp.map (·.2))))) = none := hy
      cases hl : lk y outs with
      | some c1 => rw [hl] at hy; cases hy
      | none =>
        rw [hl] at hy
        have ho : inL outs y = false := by unfold inL; rw [hl]; rfl
        cases hc : consB ins y with
        | true => simp only [η3, ho, hc]; rfl
        | false =>
          rw [hc] at hy
          simp only [cond_false, Option.map_eq_none_iff] at hy
          simp only [η3, ho, hc]
          exact hs.mem.2 y hy
    · refine ⟨hfr.os.trans hs.fr.os, hfr.tape.trans hs.fr.tape, hfr.output.trans hs.fr.output, Nat.le_trans hs.fr.size hfr.size, fun b hb hn => ?_⟩
      obtain ⟨h1, h2⟩ := hs.fr.block b hb hn
      have hlt := Nat.lt_of_lt_of_le hb hs.fr.size
      exact ⟨(hb3 b hlt (hω1n b h2)).trans h1, (hω3 b hlt (hω1n b h2)).trans h2⟩
  rw [hod]
  cases dst with
  | none => exact ⟨η3, ω3, hst⟩
  | some t => exact ⟨η3, ω3, hst.putV (hdst t rfl) (hdv.mono fun y hy => by
      have hz' : inL outs y = true := List.all_eq_true.1 hnr y (AV.has_names hy)
      exact .inr ⟨by simp only [η3, if_pos hz'], fun i => by simp only [η3, if_pos hz']⟩)⟩
variable {t : Nat} {ty : TypeId} {ps : String} {af : Array Edge} {gd : Option (Nat × Bool)} {x y : Operand}
/-- a call of a function value that holds one variable, which only reads -/
theorem stp_callC {f : FuncId} {xs : Array Operand} {ts : Array TypeId} {n off : Nat} {ins : List (Nm × Ch)} {args args' : List AV} {res : AV} {back : List (Nat × AV)} (hy : S.op y = some (o1 (.clo (.func f) [(n, off)])))
    (hfc : FC P f ins (args ++ [o1 (.ptr n off)]) [] res back) (hf : goFnB P f = true) (ht : Nat.blt t nt = true) (hx' : opL S xs.toList = some args') (hto : allTo args' args) (hin : allIn S ins) (hro : (ins.all fun p => !p.2.own) = true) (hnr : (res.names.all (inL [])) = true) :
    Stp P nt ⟨some t, .call { callee := .value y, args := xs, argTypes := ts }, ty, ps, af, gd⟩ S (S.put t res) :=
  (stp_callG (dst := some t) (kp := []) hfc rfl (by simp [ht]) (fun {w0 ω0 η ω a w} hs => by
    obtain ⟨us, hev, hus, hat⟩ : Den1 η (.clo (.func f) [(n, off)]) (a.eval y) := hs.opv hy
    obtain ⟨q, hq, hp1, hp2⟩ := hat 0 (n, off) rfl
    have hl : us.size = 1 := hus
    have hue : us = #[q] := by
      apply Array.ext (by simpa using hl)
      intro i h1 h2
      obtain rfl : i = 0 := by simp at h2; omega
      rw [Array.getElem?_eq_getElem h1] at hq
      simpa using hq
    subst hue
    obtain ⟨d1, d2⟩ := (hs.opsL hx').to hto
    refine ⟨xs.toList.map a.eval ++ [q], ?_, by rw [List.length_append, List.length_append, d1]; rfl, fun j av hj => ?_⟩
    · have : (xs.toList.map a.eval ++ [q]).toArray = xs.map a.eval ++ #[q] := by apply Array.ext'; simp
      rw [this]
      simp [execOp, resolve, hev, Deferred.ofValue, invoke, goFnB_run hf]
    · by_cases h : j < args.length
      · rw [List.getElem?_append_left h] at hj
        obtain ⟨u, g1, g2⟩ := d2 j av hj
        exact ⟨u, by rw [List.getElem?_append_left (by rw [d1]; exact h)]; exact g1, g2⟩
      · rw [List.getElem?_append_right (by omega)] at hj
        have e : j - args.length = 0 := by
          have := (List.getElem?_eq_some_iff.1 hj).1
          simp at this; omega
        rw [e] at hj
        obtain rfl := Option.some.inj hj
        exact ⟨q, by rw [List.getElem?_append_right (by omega), d1, e]; rfl, hp1, hp2⟩) hin trivial hnr rfl).wk (wk_after0 hro)
end
end Go.Proofs.Ytpognnifgcacnaa

/- Torus maps, the program's: the closures in names. -/
namespace Go.Proofs.Ytpognnifgcacnaa
open Go.RowKit

attribute [local irreducible] IntKind.wrap
abbrev nBox (n : Int) : Ch := ⟨false, 2, 1, .flat [.val (I6 n)]⟩
set_option maxRecDepth 100000 in
theorem mod_fc (n k : Int) (hn : 1 ≤ n ∧ n ≤ 98) (hk : -1000000 ≤ k ∧ k ≤ 1000000) :
    FC Try.prog 165 [(1006, nBox n)] [vv (I6 k), o1 (.ptr 1006 0)] [] (vv (I6 (mdI n k))) [] := by
  have hb := Int.tmod_lt_of_pos k (show 0 < n by omega)
  have hb2 : -n < k.tmod n := Int.lt_tmod_of_pos k (show 0 < n by omega)
  unfold mdI
  have hne : n ≠ 0 := by omega
  obtain ⟨r, hr⟩ : ∃ r, k.tmod n = r := ⟨_, rfl⟩
  rw [hr] at hb hb2 ⊢
  obtain ⟨a, ha⟩ : ∃ a, r + n = a := ⟨_, rfl⟩
  have hw1 : IntKind.i64.wrap (r + n) = a := by rw [IntWalk.i64_in _ (by omega)]; exact ha
  rw [ha]
  obtain ⟨q, hq⟩ : ∃ q, a.tmod n = q := ⟨_, rfl⟩
  rw [hq]
  refine fc_enter (nt := 11) Try.func165 rfl rfl (by simp) fun w0 ω0 => ?_
  (refine goes_seq ?_; refine goes_region ?_; apply run_step rfl; (exact stp_assign rfl rfl); refine run_nil ?_; refine fin_seq ?_; refine goes_seq ?_)
  apply goes_draw 7 [] [[], [], [0, 1], [], [0, 1, 2, 3], [], [0, 1, 2, 3, 4, 5], [0, 1, 2, 3, 4, 5, 6]] [4, 5, 6, 7, 8, 9, 10] [] (by kernel_rfl) (by kernel_rfl)
  · (apply draw_put rfl; (intro S1 hS; exact stp_move rfl (hS.op rfl)); apply draw_put rfl; (intro S1 hS; exact stp_loadF rfl (by as_aux_lemma => kernel_rfl) (hS.op rfl) (hS.ch _ _ rfl) rfl rfl); (first | (apply draw_put rfl; (focus (intro S1 hS; exact stp_remI rfl (hS.op rfl) (hS.op rfl) hne hr))) | (apply draw_put rfl; (focus (intro S1 hS; exact stp_remI rfl (hS.op rfl) (hS.op rfl) hne hq))) | (apply draw_put rfl; (focus (intro S1 hS; exact stp_add rfl (hS.op rfl) (hS.op rfl) hw1)))); apply draw_put rfl; (intro S1 hS; exact stp_loadF rfl (by as_aux_lemma => kernel_rfl) (hS.op rfl) (hS.ch _ _ rfl) rfl rfl); (first | (apply draw_put rfl; (focus (intro S1 hS; exact stp_remI rfl (hS.op rfl) (hS.op rfl) hne hr))) | (apply draw_put rfl; (focus (intro S1 hS; exact stp_remI rfl (hS.op rfl) (hS.op rfl) hne hq))) | (apply draw_put rfl; (focus (intro S1 hS; exact stp_add rfl (hS.op rfl) (hS.op rfl) hw1)))); apply draw_put rfl; (intro S1 hS; exact stp_loadF rfl (by as_aux_lemma => kernel_rfl) (hS.op rfl) (hS.ch _ _ rfl) rfl rfl); (first | (apply draw_put rfl; (focus (intro S1 hS; exact stp_remI rfl (hS.op rfl) (hS.op rfl) hne hr))) | (apply draw_put rfl; (focus (intro S1 hS; exact stp_remI rfl (hS.op rfl) (hS.op rfl) hne hq))) | (apply draw_put rfl; (focus (intro S1 hS; exact stp_add rfl (hS.op rfl) (hS.op rfl) hw1)))); exact Draw.nil)
  · rfl
  ((apply rest_one 7 rfl (by as_aux_lemma => kernel_rfl) rfl rfl; (exact stp_assign rfl rfl)); (refine rest_done (by as_aux_lemma => kernel_rfl) ?_; skip))
  (refine fin_seq ?_; refine goes_ret ?_)
  exact fin_ret1 (.inl rfl) rfl (.tmp rfl) trivial trivial
abbrev mBx : Ch := ⟨false, 92, 1, .flat [.clo (.func 165) [(1006, 0)]]⟩
set_option maxRecDepth 100000 in
set_option maxHeartbeats 2000000 in
theorem key_fc (b c n : Int) (t : TF) (hn : 1 ≤ n ∧ n ≤ 98) (hb : 0 ≤ b ∧ b ≤ 7) (hc : 0 ≤ c ∧ c ≤ 7) (hx : -10000 ≤ t.x ∧ t.x ≤ 10000) (hy : -10000 ≤ t.y ∧ t.y ≤ 10000) :
    FC Try.prog 166 [(1001, mBx), (1002, nBox b), (1003, nBox c), (1006, nBox n)] [.s (.agg [.val (I6 t.x), .val (I6 t.y), .val (I6 t.d), .val (.bool t.l)]), o1 (.ptr 1001 0), o1 (.ptr 1002 0), o1 (.ptr 1003 0)] []
      (.s (.agg [.val (I6 (tkey b c n t).x), .val (I6 (tkey b c n t).y), .val (I6 t.d), .val (.bool t.l)])) [] := by
  obtain ⟨x, y, d, l⟩ := t
  dsimp only at hx hy
  have m1 := mul_in (A := 10000) (B := 7) (by omega) (show -((7 : Nat) : Int) ≤ b ∧ b ≤ ((7 : Nat) : Int) by omega) (a := x)
  have m2 := mul_in (A := 10000) (B := 7) (by omega) (show -((7 : Nat) : Int) ≤ c ∧ c ≤ ((7 : Nat) : Int) by omega) (a := y)
  have m3 := mul_in (A := 10000) (B := 7) (by omega) (show -((7 : Nat) : Int) ≤ b ∧ b ≤ ((7 : Nat) : Int) by omega) (a := y)
  have m4 := mul_in (A := 10000) (B := 7) (by omega) (show -((7 : Nat) : Int) ≤ c ∧ c ≤ ((7 : Nat) : Int) by omega) (a := x)
  unfold tkey
  dsimp only
  obtain ⟨xb, hxb⟩ : ∃ z, z = x * b := ⟨_, rfl⟩
  obtain ⟨yc, hyc⟩ : ∃ z, z = y * c := ⟨_, rfl⟩
  obtain ⟨yb, hyb⟩ : ∃ z, z = y * b := ⟨_, rfl⟩
  obtain ⟨xc, hxc⟩ : ∃ z, z = x * c := ⟨_, rfl⟩
  rw [← hxb] at m1
  rw [← hyc] at m2
  rw [← hyb] at m3
  rw [← hxc] at m4
  rw [← hxb, ← hyc, ← hyb, ← hxc]
  have w1 : IntKind.i64.wrap (x * b) = xb := by rw [← hxb]; exact IntWalk.i64_in _ (by omega)
  have w2 : IntKind.i64.wrap (y * c) = yc := by rw [← hyc]; exact IntWalk.i64_in _ (by omega)
  have w3 : IntKind.i64.wrap (y * b) = yb := by rw [← hyb]; exact IntWalk.i64_in _ (by omega)
  have w4 : IntKind.i64.wrap (x * c) = xc := by rw [← hxc]; exact IntWalk.i64_in _ (by omega)
  obtain ⟨u, hu⟩ : ∃ z, z = xb + yc := ⟨_, rfl⟩
  obtain ⟨v, hv⟩ : ∃ z, z = yb - xc := ⟨_, rfl⟩
  have w5 : IntKind.i64.wrap (xb + yc) = u := by rw [← hu]; exact IntWalk.i64_in _ (by omega)
  have w6 : IntKind.i64.wrap (yb - xc) = v := by rw [← hv]; exact IntWalk.i64_in _ (by omega)
  rw [← hu, ← hv]
  have hA := mod_fc n u hn (by omega)
  have hB := mod_fc n v hn (by omega)
  generalize mdI n u = p at *
  generalize mdI n v = q at *
  clear hxb hyc hyb hxc hu hv
  refine fc_enter (nt := 31) Try.func166 rfl rfl (by simp) fun w0 ω0 => ?_
  (refine goes_seq ?_; refine goes_region ?_; apply run_step rfl; (exact stp_box rfl rfl rfl rfl); apply run_step rfl; (exact stp_allocZ [.int .i64 0, .int .i64 0, .int .i64 0, .bool false] rfl (by as_aux_lemma => kernel_rfl)); refine run_nil ?_; refine fin_seq ?_; refine goes_seq ?_)
  apply goes_draw 23 [] [[], [], [1], [], [1, 2, 3], [], [5], [], [5, 6, 7], [1, 2, 3, 4, 5, 6, 7, 8], [0, 1, 2, 3, 4, 5, 6, 7, 8, 9], [], [], [12], [], [12, 13, 14], [], [16], [], [16, 17, 18], [12, 13, 14, 15, 16, 17, 18, 19], [0, 1, 2, 3, 4, 5, 6, 7, 8, 9, 10, 11, 12, 13, 14, 15, 16, 17, 18, 19, 20], [0, 1, 2, 3, 4, 5, 6, 7, 8, 9, 10, 12, 13, 16, 17], [0, 1, 2, 3, 4, 5, 6, 7, 8, 9, 10, 11, 12, 13, 14, 15, 16, 17, 18, 19, 20, 21, 22], [0, 1, 2, 3, 4, 5, 6, 7, 8, 9, 10, 11, 12, 13, 14, 15, 16, 17, 18, 19, 20, 21, 22, 23], [0, 1, 2, 3, 4, 5, 6, 7, 8, 9, 10, 11, 12, 13, 14, 15, 16, 17, 18, 19, 20, 21, 22, 23, 24]] [6, 7, 8, 9, 10, 11, 12, 13, 14, 15, 16, 17, 18, 19, 20, 21, 22, 23, 24, 25, 26, 27, 28] [] (by kernel_rfl) (by kernel_rfl)
  · (apply draw_put rfl; (intro S1 hS; exact stp_loadF rfl (by as_aux_lemma => kernel_rfl) (hS.op rfl) (hS.ch _ _ rfl) rfl rfl); apply draw_put rfl; (intro S1 hS; exact stp_fieldAddr (d := 0) rfl (hS.op rfl) (hS.ch _ _ rfl) (by as_aux_lemma => kernel_rfl)); apply draw_put rfl; (intro S1 hS; exact stp_loadF rfl (by as_aux_lemma => kernel_rfl) (hS.op rfl) (hS.ch _ _ rfl) rfl rfl); apply draw_put rfl; (intro S1 hS; exact stp_loadF rfl (by as_aux_lemma => kernel_rfl) (hS.op rfl) (hS.ch _ _ rfl) rfl rfl); (first | (apply draw_put rfl; (focus (intro S1 hS; exact stp_mul rfl (hS.op rfl) (hS.op rfl) w1))) | (apply draw_put rfl; (focus (intro S1 hS; exact stp_mul rfl (hS.op rfl) (hS.op rfl) w2))) | (apply draw_put rfl; (focus (intro S1 hS; exact stp_mul rfl (hS.op rfl) (hS.op rfl) w3))) | (apply draw_put rfl; (focus (intro S1 hS; exact stp_mul rfl (hS.op rfl) (hS.op rfl) w4))) | (apply draw_put rfl; (focus (intro S1 hS; exact stp_add rfl (hS.op rfl) (hS.op rfl) w5))) | (apply draw_put rfl; (focus (intro S1 hS; exact stp_sub rfl (hS.op rfl) (hS.op rfl) w6))) | (apply draw_put rfl; (focus (intro S1 hS; exact stp_callC (args := [vv (I6 u)]) (hS.op rfl) hA (by as_aux_lemma => kernel_rfl) rfl (opL_le hS rfl) ⟨rfl, trivial⟩ (allIn_le hS ⟨⟨_, rfl, .inl rfl⟩, trivial⟩) rfl rfl))) | (apply draw_put rfl; (focus (intro S1 hS; exact stp_callC (args := [vv (I6 v)]) (hS.op rfl) hB (by as_aux_lemma => kernel_rfl) rfl (opL_le hS rfl) ⟨rfl, trivial⟩ (allIn_le hS ⟨⟨_, rfl, .inl rfl⟩, trivial⟩) rfl rfl)))); apply draw_put rfl; (intro S1 hS; exact stp_fieldAddr (d := 1) rfl (hS.op rfl) (hS.ch _ _ rfl) (by as_aux_lemma => kernel_rfl)); apply draw_put rfl; (intro S1 hS; exact stp_loadF rfl (by as_aux_lemma => kernel_rfl) (hS.op rfl) (hS.ch _ _ rfl) rfl rfl); apply draw_put rfl; (intro S1 hS; exact stp_loadF rfl (by as_aux_lemma => kernel_rfl) (hS.op rfl) (hS.ch _ _ rfl) rfl rfl); (first | (apply draw_put rfl; (focus (intro S1 hS; exact stp_mul rfl (hS.op rfl) (hS.op rfl) w1))) | (apply draw_put rfl; (focus (intro S1 hS; exact stp_mul rfl (hS.op rfl) (hS.op rfl) w2))) | (apply draw_put rfl; (focus (intro S1 hS; exact stp_mul rfl (hS.op rfl) (hS.op rfl) w3))) | (apply draw_put rfl; (focus (intro S1 hS; exact stp_mul rfl (hS.op rfl) (hS.op rfl) w4))) | (apply draw_put rfl; (focus (intro S1 hS; exact stp_add rfl (hS.op rfl) (hS.op rfl) w5))) | (apply draw_put rfl; (focus (intro S1 hS; exact stp_sub rfl (hS.op rfl) (hS.op rfl) w6))) | (apply draw_put rfl; (focus (intro S1 hS; exact stp_callC (args := [vv (I6 u)]) (hS.op rfl) hA (by as_aux_lemma => kernel_rfl) rfl (opL_le hS rfl) ⟨rfl, trivial⟩ (allIn_le hS ⟨⟨_, rfl, .inl rfl⟩, trivial⟩) rfl rfl))) | (apply draw_put rfl; (focus (intro S1 hS; exact stp_callC (args := [vv (I6 v)]) (hS.op rfl) hB (by as_aux_lemma => kernel_rfl) rfl (opL_le hS rfl) ⟨rfl, trivial⟩ (allIn_le hS ⟨⟨_, rfl, .inl rfl⟩, trivial⟩) rfl rfl)))); (first | (apply draw_put rfl; (focus (intro S1 hS; exact stp_mul rfl (hS.op rfl) (hS.op rfl) w1))) | (apply draw_put rfl; (focus (intro S1 hS; exact stp_mul rfl (hS.op rfl) (hS.op rfl) w2))) | (apply draw_put rfl; (focus (intro S1 hS; exact stp_mul rfl (hS.op rfl) (hS.op rfl) w3))) | (apply draw_put rfl; (focus (intro S1 hS; exact stp_mul rfl (hS.op rfl) (hS.op rfl) w4))) | (apply draw_put rfl; (focus (intro S1 hS; exact stp_add rfl (hS.op rfl) (hS.op rfl) w5))) | (apply draw_put rfl; (focus (intro S1 hS; exact stp_sub rfl (hS.op rfl) (hS.op rfl) w6))) | (apply draw_put rfl; (focus (intro S1 hS; exact stp_callC (args := [vv (I6 u)]) (hS.op rfl) hA (by as_aux_lemma => kernel_rfl) rfl (opL_le hS rfl) ⟨rfl, trivial⟩ (allIn_le hS ⟨⟨_, rfl, .inl rfl⟩, trivial⟩) rfl rfl))) | (apply draw_put rfl; (focus (intro S1 hS; exact stp_callC (args := [vv (I6 v)]) (hS.op rfl) hB (by as_aux_lemma => kernel_rfl) rfl (opL_le hS rfl) ⟨rfl, trivial⟩ (allIn_le hS ⟨⟨_, rfl, .inl rfl⟩, trivial⟩) rfl rfl)))); (first | (apply draw_put rfl; (focus (intro S1 hS; exact stp_mul rfl (hS.op rfl) (hS.op rfl) w1))) | (apply draw_put rfl; (focus (intro S1 hS; exact stp_mul rfl (hS.op rfl) (hS.op rfl) w2))) | (apply draw_put rfl; (focus (intro S1 hS; exact stp_mul rfl (hS.op rfl) (hS.op rfl) w3))) | (apply draw_put rfl; (focus (intro S1 hS; exact stp_mul rfl (hS.op rfl) (hS.op rfl) w4))) | (apply draw_put rfl; (focus (intro S1 hS; exact stp_add rfl (hS.op rfl) (hS.op rfl) w5))) | (apply draw_put rfl; (focus (intro S1 hS; exact stp_sub rfl (hS.op rfl) (hS.op rfl) w6))) | (apply draw_put rfl; (focus (intro S1 hS; exact stp_callC (args := [vv (I6 u)]) (hS.op rfl) hA (by as_aux_lemma => kernel_rfl) rfl (opL_le hS rfl) ⟨rfl, trivial⟩ (allIn_le hS ⟨⟨_, rfl, .inl rfl⟩, trivial⟩) rfl rfl))) | (apply draw_put rfl; (focus (intro S1 hS; exact stp_callC (args := [vv (I6 v)]) (hS.op rfl) hB (by as_aux_lemma => kernel_rfl) rfl (opL_le hS rfl) ⟨rfl, trivial⟩ (allIn_le hS ⟨⟨_, rfl, .inl rfl⟩, trivial⟩) rfl rfl)))); apply draw_put rfl; (intro S1 hS; exact stp_loadF rfl (by as_aux_lemma => kernel_rfl) (hS.op rfl) (hS.ch _ _ rfl) rfl rfl); apply draw_put rfl; (intro S1 hS; exact stp_fieldAddr (d := 1) rfl (hS.op rfl) (hS.ch _ _ rfl) (by as_aux_lemma => kernel_rfl)); apply draw_put rfl; (intro S1 hS; exact stp_loadF rfl (by as_aux_lemma => kernel_rfl) (hS.op rfl) (hS.ch _ _ rfl) rfl rfl); apply draw_put rfl; (intro S1 hS; exact stp_loadF rfl (by as_aux_lemma => kernel_rfl) (hS.op rfl) (hS.ch _ _ rfl) rfl rfl); (first | (apply draw_put rfl; (focus (intro S1 hS; exact stp_mul rfl (hS.op rfl) (hS.op rfl) w1))) | (apply draw_put rfl; (focus (intro S1 hS; exact stp_mul rfl (hS.op rfl) (hS.op rfl) w2))) | (apply draw_put rfl; (focus (intro S1 hS; exact stp_mul rfl (hS.op rfl) (hS.op rfl) w3))) | (apply draw_put rfl; (focus (intro S1 hS; exact stp_mul rfl (hS.op rfl) (hS.op rfl) w4))) | (apply draw_put rfl; (focus (intro S1 hS; exact stp_add rfl (hS.op rfl) (hS.op rfl) w5))) | (apply draw_put rfl; (focus (intro S1 hS; exact stp_sub rfl (hS.op rfl) (hS.op rfl) w6))) | (apply draw_put rfl; (focus (intro S1 hS; exact stp_callC (args := [vv (I6 u)]) (hS.op rfl) hA (by as_aux_lemma => kernel_rfl) rfl (opL_le hS rfl) ⟨rfl, trivial⟩ (allIn_le hS ⟨⟨_, rfl, .inl rfl⟩, trivial⟩) rfl rfl))) | (apply draw_put rfl; (focus (intro S1 hS; exact stp_callC (args := [vv (I6 v)]) (hS.op rfl) hB (by as_aux_lemma => kernel_rfl) rfl (opL_le hS rfl) ⟨rfl, trivial⟩ (allIn_le hS ⟨⟨_, rfl, .inl rfl⟩, trivial⟩) rfl rfl)))); apply draw_put rfl; (intro S1 hS; exact stp_fieldAddr (d := 0) rfl (hS.op rfl) (hS.ch _ _ rfl) (by as_aux_lemma => kernel_rfl)); apply draw_put rfl; (intro S1 hS; exact stp_loadF rfl (by as_aux_lemma => kernel_rfl) (hS.op rfl) (hS.ch _ _ rfl) rfl rfl); apply draw_put rfl; (intro S1 hS; exact stp_loadF rfl (by as_aux_lemma => kernel_rfl) (hS.op rfl) (hS.ch _ _ rfl) rfl rfl); (first | (apply draw_put rfl; (focus (intro S1 hS; exact stp_mul rfl (hS.op rfl) (hS.op rfl) w1))) | (apply draw_put rfl; (focus (intro S1 hS; exact stp_mul rfl (hS.op rfl) (hS.op rfl) w2))) | (apply draw_put rfl; (focus (intro S1 hS; exact stp_mul rfl (hS.op rfl) (hS.op rfl) w3))) | (apply draw_put rfl; (focus (intro S1 hS; exact stp_mul rfl (hS.op rfl) (hS.op rfl) w4))) | (apply draw_put rfl; (focus (intro S1 hS; exact stp_add rfl (hS.op rfl) (hS.op rfl) w5))) | (apply draw_put rfl; (focus (intro S1 hS; exact stp_sub rfl (hS.op rfl) (hS.op rfl) w6))) | (apply draw_put rfl; (focus (intro S1 hS; exact stp_callC (args := [vv (I6 u)]) (hS.op rfl) hA (by as_aux_lemma => kernel_rfl) rfl (opL_le hS rfl) ⟨rfl, trivial⟩ (allIn_le hS ⟨⟨_, rfl, .inl rfl⟩, trivial⟩) rfl rfl))) | (apply draw_put rfl; (focus (intro S1 hS; exact stp_callC (args := [vv (I6 v)]) (hS.op rfl) hB (by as_aux_lemma => kernel_rfl) rfl (opL_le hS rfl) ⟨rfl, trivial⟩ (allIn_le hS ⟨⟨_, rfl, .inl rfl⟩, trivial⟩) rfl rfl)))); (first | (apply draw_put rfl; (focus (intro S1 hS; exact stp_mul rfl (hS.op rfl) (hS.op rfl) w1))) | (apply draw_put rfl; (focus (intro S1 hS; exact stp_mul rfl (hS.op rfl) (hS.op rfl) w2))) | (apply draw_put rfl; (focus (intro S1 hS; exact stp_mul rfl (hS.op rfl) (hS.op rfl) w3))) | (apply draw_put rfl; (focus (intro S1 hS; exact stp_mul rfl (hS.op rfl) (hS.op rfl) w4))) | (apply draw_put rfl; (focus (intro S1 hS; exact stp_add rfl (hS.op rfl) (hS.op rfl) w5))) | (apply draw_put rfl; (focus (intro S1 hS; exact stp_sub rfl (hS.op rfl) (hS.op rfl) w6))) | (apply draw_put rfl; (focus (intro S1 hS; exact stp_callC (args := [vv (I6 u)]) (hS.op rfl) hA (by as_aux_lemma => kernel_rfl) rfl (opL_le hS rfl) ⟨rfl, trivial⟩ (allIn_le hS ⟨⟨_, rfl, .inl rfl⟩, trivial⟩) rfl rfl))) | (apply draw_put rfl; (focus (intro S1 hS; exact stp_callC (args := [vv (I6 v)]) (hS.op rfl) hB (by as_aux_lemma => kernel_rfl) rfl (opL_le hS rfl) ⟨rfl, trivial⟩ (allIn_le hS ⟨⟨_, rfl, .inl rfl⟩, trivial⟩) rfl rfl)))); (first | (apply draw_put rfl; (focus (intro S1 hS; exact stp_mul rfl (hS.op rfl) (hS.op rfl) w1))) | (apply draw_put rfl; (focus (intro S1 hS; exact stp_mul rfl (hS.op rfl) (hS.op rfl) w2))) | (apply draw_put rfl; (focus (intro S1 hS; exact stp_mul rfl (hS.op rfl) (hS.op rfl) w3))) | (apply draw_put rfl; (focus (intro S1 hS; exact stp_mul rfl (hS.op rfl) (hS.op rfl) w4))) | (apply draw_put rfl; (focus (intro S1 hS; exact stp_add rfl (hS.op rfl) (hS.op rfl) w5))) | (apply draw_put rfl; (focus (intro S1 hS; exact stp_sub rfl (hS.op rfl) (hS.op rfl) w6))) | (apply draw_put rfl; (focus (intro S1 hS; exact stp_callC (args := [vv (I6 u)]) (hS.op rfl) hA (by as_aux_lemma => kernel_rfl) rfl (opL_le hS rfl) ⟨rfl, trivial⟩ (allIn_le hS ⟨⟨_, rfl, .inl rfl⟩, trivial⟩) rfl rfl))) | (apply draw_put rfl; (focus (intro S1 hS; exact stp_callC (args := [vv (I6 v)]) (hS.op rfl) hB (by as_aux_lemma => kernel_rfl) rfl (opL_le hS rfl) ⟨rfl, trivial⟩ (allIn_le hS ⟨⟨_, rfl, .inl rfl⟩, trivial⟩) rfl rfl)))); apply draw_put rfl; (intro S1 hS; exact stp_fieldAddr (d := 0) rfl (hS.op rfl) (hS.ch _ _ rfl) (by as_aux_lemma => kernel_rfl)); exact Draw.nil)
  · rfl
  ((apply rest_one 23 rfl (by as_aux_lemma => kernel_rfl) rfl rfl; (exact stp_storeF rfl rfl rfl rfl rfl rfl (by as_aux_lemma => kernel_rfl) rfl)); (apply rest_one 24 rfl (by as_aux_lemma => kernel_rfl) rfl rfl; (exact stp_fieldAddr (d := 1) rfl rfl rfl (by as_aux_lemma => kernel_rfl))); (apply rest_one 25 rfl (by as_aux_lemma => kernel_rfl) rfl rfl; (exact stp_storeF rfl rfl rfl rfl rfl rfl (by as_aux_lemma => kernel_rfl) rfl)); (refine rest_done (by as_aux_lemma => kernel_rfl) ?_; skip))
  (refine fin_seq ?_; refine goes_seq ?_; refine goes_region ?_; apply run_step rfl; (first | exact stp_loadAgg (k := 4) rfl rfl rfl rfl rfl rfl (by as_aux_lemma => kernel_rfl) | exact stp_storeAgg rfl rfl rfl rfl rfl rfl rfl rfl (by as_aux_lemma => kernel_rfl) rfl); apply run_step rfl; (first | exact stp_loadAgg (k := 4) rfl rfl rfl rfl rfl rfl (by as_aux_lemma => kernel_rfl) | exact stp_storeAgg rfl rfl rfl rfl rfl rfl rfl rfl (by as_aux_lemma => kernel_rfl) rfl); refine run_nil ?_; refine fin_seq ?_; refine goes_ret ?_)
  exact fin_ret1 (.inl rfl) rfl (.cell rfl rfl rfl rfl rfl (by as_aux_lemma => kernel_rfl)) trivial trivial
end Go.Proofs.Ytpognnifgcacnaa

/- Torus maps, the program's: its closures and moves. -/
namespace Go.Proofs.Ytpognnifgcacnaa
open Go.RowKit

abbrev stepsV : Value := .agg #[.int .i64 1, .int .i64 0, .int .i64 0, .int .i64 1, .int .i64 (-1), .int .i64 0, .int .i64 0, .int .i64 (-1)]
theorem step_run (d : Int) (hd : d = 0 ∨ d = 1 ∨ d = 2 ∨ d = 3) (w : World) : (Instr.index 195 stepsV (.int .i64 d)).run Try.prog w = .ok (.agg #[.int .i64 (sx d), .int .i64 (sy d)]) w := by
  rcases hd with rfl | rfl | rfl | rfl <;> simp [Instr.index, run_underlying Try.underlying195, run_underlying Try.underlying171, run_underlying Try.underlying2, asIntOf, go_sem, sx, sy]
set_option maxRecDepth 100000 in
set_option maxHeartbeats 3200000 in
theorem moved0 (x y d : Int) (l : Bool) (w : World) (hd : d = 0 ∨ d = 1 ∨ d = 2 ∨ d = 3) (hx : -10000 ≤ x ∧ x ≤ 10000) (hy : -10000 ≤ y ∧ y ≤ 10000) :
    Calls Try.prog 167 #[.agg #[.int .i64 x, .int .i64 y, .int .i64 d, .bool l], .int .i64 0] w fun e w' => e = .returned (fv (tmv 0 ⟨x, y, d, l⟩)) ∧ Below w.heap.size w w' := by
  have hix := step_run d hd
  have hd4 : 0 ≤ d ∧ d ≤ 3 := by omega
  have b1 : -1 ≤ sx d ∧ sx d ≤ 1 := by unfold sx; split; omega; split <;> omega
  have b2 : -1 ≤ sy d ∧ sy d ≤ 1 := by unfold sy; split; omega; split <;> omega
  unfold tmv
  generalize sx d = X at *
  generalize sy d = Y at *
  have w1 : IntKind.i64.wrap (x + X) = x + X := IntWalk.i64_in _ (by omega)
  have w2 : IntKind.i64.wrap (y + Y) = y + Y := IntWalk.i64_in _ (by omega)
  have w3 : IntKind.i64.wrap (d + 2) = d + 2 := IntWalk.i64_in _ (by omega)
  clear hd
  go_enter Try.func167, Try.ntmps167
  go_wp2
  exact bodyPost_ret (v := .agg #[.int .i64 (x + X), .int .i64 (y + Y), .int .i64 ((d + 2) % 4), .bool (!l)]) (by simp [results, Try.f167, go_sem]) rfl ⟨rfl, below_alloc3 w _ _ _⟩
set_option maxRecDepth 100000 in
set_option maxHeartbeats 3200000 in
theorem moved1 (x y d : Int) (l : Bool) (w : World) (hd4 : 0 ≤ d ∧ d ≤ 3) :
    Calls Try.prog 167 #[.agg #[.int .i64 x, .int .i64 y, .int .i64 d, .bool l], .int .i64 1] w fun e w' => e = .returned (fv (tmv 1 ⟨x, y, d, l⟩)) ∧ Below w.heap.size w w' := by
  unfold tmv
  have w1 : IntKind.i64.wrap (d + 1) = d + 1 := IntWalk.i64_in _ (by omega)
  have w3 : IntKind.i64.wrap (d + 3) = d + 3 := IntWalk.i64_in _ (by omega)
  cases l with
  | true =>
    go_enter Try.func167, Try.ntmps167
    go_wp2
    exact bodyPost_ret (v := .agg #[.int .i64 x, .int .i64 y, .int .i64 ((d + 1) % 4), .bool false]) (by simp [results, Try.f167, go_sem]) rfl ⟨rfl, below_alloc2 w _ _⟩
  | false =>
    go_enter Try.func167, Try.ntmps167
    go_wp2
    exact bodyPost_ret (v := .agg #[.int .i64 x, .int .i64 y, .int .i64 ((d + 3) % 4), .bool true]) (by simp [results, Try.f167, go_sem]) rfl ⟨rfl, below_alloc2 w _ _⟩
set_option maxRecDepth 100000 in
set_option maxHeartbeats 3200000 in
theorem moved2 (x y d : Int) (l : Bool) (w : World) :
    Calls Try.prog 167 #[.agg #[.int .i64 x, .int .i64 y, .int .i64 d, .bool l], .int .i64 2] w fun e w' => e = .returned (fv (tmv 2 ⟨x, y, d, l⟩)) ∧ Below w.heap.size w w' := by
  unfold tmv
  go_enter Try.func167, Try.ntmps167
  go_wp2
  exact bodyPost_ret (v := .agg #[.int .i64 x, .int .i64 y, .int .i64 d, .bool (!l)]) (by simp [results, Try.f167, go_sem]) rfl ⟨rfl, below_alloc2 w _ _⟩
theorem moved_any (t : TF) (i : Nat) (w : World) (hi : i < 3) (hd : 0 ≤ t.d ∧ t.d ≤ 3) (hx : -10000 ≤ t.x ∧ t.x ≤ 10000) (hy : -10000 ≤ t.y ∧ t.y ≤ 10000) :
    Calls Try.prog 167 #[fv t, .int .i64 i] w fun e w' => e = .returned (fv (tmv i t)) ∧ Below w.heap.size w w' := by
  obtain ⟨x, y, d, l⟩ := t
  match i, hi with
  | 0, _ => exact moved0 x y d l w (by dsimp only at hd; omega) hx hy
  | 1, _ => exact moved1 x y d l w hd
  | 2, _ => exact moved2 x y d l w
end Go.Proofs.Ytpognnifgcacnaa
