/- The numbers of orbits, the program's: orbitLabels. -/
import Derived.Test.YtmdhljleaijkbaaDoorPart3
import Derived.Test.YtmdhljleaijkbaaDoorPart1
import Derived.Test.YtmdhljleaijkbaaDoorPart2
import Derived.Lib.LazyBuf
import Derived.Lib.SliceRun
import Derived.RegionTactic
import Derived.Deep.DeepCutAuto
import Derived.Deep.RegionHeld3
namespace Go.Proofs.YtmdhljleaijkbaaDoor
open Go.RowKit

theorem ivals_take (zs : List Int) (m : Nat) : (ivals zs).take m = ivals (zs.take m) := by simp [ivals, List.map_take]
set_option maxRecDepth 100000 in
set_option maxHeartbeats 2000000 in
theorem orbI_fc (zss : List (List Int)) (n ng : Nat) (hng : zss.length = ng) (hT : Leads zss n) (hB : Back2 zss n) (hpos : 0 < n) (hn : n ≤ 1000000) (hg : ng ≤ 1000000) :
    FC Tryd.prog 37 [(1003, rowsRo zss)] [vv (I6 n), o1 (.sl 1003 0 ng)] [(16, leOw (labs zss n).1)] (.tup [.one (.sl 16 0 n), .one (.val (I6 (labs zss n).2))]) [] := by
  have hlen : (irows zss).length = ng := by rw [irows_len]; exact hng
  have hR : FC Tryd.prog 51 [(14, ⟨false, 2, 1, .vals (ivals [-1])⟩)] [o1 (.sl 14 0 1), vv (I6 n)] [(16, ⟨true, 2, 1, .vals (ivals (List.replicate n (-1)))⟩)] (o1 (.sl 16 0 n)) [] := repeat1_fc 14 16 n (-1) (by omega) hpos
  refine fc_enter (nt := 75) Tryd.func37 rfl rfl (by simp) fun w0 ω0 => ?_
  (refine goes_seq ?_; refine goes_region ?_; apply run_step rfl; (exact stp_assign rfl rfl); apply run_step rfl; (exact stp_assign rfl rfl); refine run_nil ?_; refine fin_seq ?_; refine goes_seq ?_; refine goes_region ?_; apply run_step rfl; (exact stp_lit1I (E := 2) rfl (by as_aux_lemma => kernel_rfl) rfl); apply run_step rfl; (exact stp_move rfl rfl); apply run_step rfl; (apply call_gate 51; exact stp_callN hR (by as_aux_lemma => kernel_rfl) rfl rfl ⟨rfl, rfl, trivial⟩ ⟨⟨_, rfl, .inr rfl⟩, trivial⟩ rfl rfl rfl); apply run_step rfl; (exact stp_assign rfl rfl); refine run_nil ?_; refine fin_seq ?_; refine goes_seq ?_; refine goes_region ?_; apply run_step rfl; (exact stp_assign rfl rfl); refine run_nil ?_; refine fin_seq ?_; refine goes_seq ?_; refine goes_seq ?_; refine goes_region ?_; apply run_step rfl; (exact stp_move rfl rfl); apply run_step rfl; (exact stp_move rfl rfl); refine run_nil ?_; refine fin_seq ?_; refine goes_block ?_)
  refine goes_loop (fun q : Nat × LSt => St.of [(1, o1 (.sl 1003 0 ng)), (6, o1 (.sl 16 0 n)), (7, vv (I6 q.2.2)), (17, vv (I6 n)), (18, vv (I6 q.1))] [(1003, rowsRo zss), (16, leOw q.2.1)]) (fun q => q.1 ≤ n ∧ labTo zss n q.1 = q.2) (fun q => n - q.1) (0, labStart n) ⟨Nat.zero_le _, rfl⟩ (Wk.of ⟨rfl, rfl, rfl, rfl, rfl, trivial⟩ ⟨rfl, rfl, trivial⟩ trivial) ?_
  rintro ⟨i, L, k⟩ ⟨hi, hl⟩
  dsimp only at hi hl ⊢
  have hOK := labTo_ok hT hB i hi
  rw [hl] at hOK
  have hLl : L.length = n := hOK.len
  have hil : n ≤ (ivals L).length := by rw [ivals_len, hLl]; exact Nat.le_refl _
  have hnext := labTo_succ (T := zss) (n := n) i
  rw [hl] at hnext
  unfold labStep at hnext
  (refine goes_seq ?_; refine goes_region ?_; apply run_step rfl; (exact stp_bin rfl rfl rfl rfl); refine run_nil ?_; refine fin_seq ?_; refine goes_seq ?_)
  refine goes_if rfl (fun h => ?_) (fun h => ?_)
  · have hin : i < n := by omega
    have gi : (ivals L)[i]? = some (I6 (iget L i)) := ivals_get (by omega)
    have hkb : k ≤ n := by
      have hk : ∀ m, m ≤ n → (labTo zss n m).2 ≤ m := by
        intro m
        induction m with
        | zero => intro _; exact Nat.le_refl _
        | succ m ih =>
          intro hm
          have := ih (by omega)
          rw [labTo_succ]; unfold labStep; split
          · omega
          · show (labTo zss n m).2 + 1 ≤ m + 1; omega
      have := hk i hi
      rw [hl] at this
      have : k ≤ i := this
      omega
    (refine goes_skip ?_; refine fin_seq ?_; refine goes_seq ?_; refine goes_block ?_; refine goes_seq ?_; refine goes_region ?_; apply run_step rfl; (exact stp_move rfl rfl); apply run_step rfl; (exact stp_assign rfl rfl); refine run_nil ?_; refine fin_seq ?_; refine goes_seq ?_; refine goes_seq ?_; refine goes_region ?_; apply run_step rfl; (exact stp_move rfl rfl); apply run_step rfl; (exact stp_move rfl rfl); apply run_step rfl; (exact stp_ix (j := i) rfl rfl rfl rfl rfl (by as_aux_lemma => kernel_rfl) rfl hin hil); apply run_step rfl; (exact stp_loadV rfl (by as_aux_lemma => kernel_rfl) rfl rfl rfl (by first | assumption | exact ivals_get (by assumption) | exact irows_get (by assumption) | exact ivals_get (by omega) | exact irows_get (by omega) | rfl)); apply run_step rfl; (exact stp_bin rfl rfl rfl rfl); refine run_nil ?_; refine fin_seq ?_)
    refine goes_if rfl (fun h1 => ?_) (fun h1 => ?_)
    · have h1' : 0 ≤ iget L i := h1
      rw [if_pos h1'] at hnext
      (refine goes_exit ?_; refine fin_exit_then ?_; refine fin_exit_eq ?_; refine fin_seq ?_; refine goes_region ?_; apply run_step rfl; (exact stp_add rfl rfl rfl (by first | exact IntWalk.i64_in _ (by omega) | rfl)); apply run_step rfl; (exact stp_move rfl rfl); refine run_nil ?_)
      exact fin_round (i + 1, L, k) ⟨hin, hnext⟩ (by show n - (i + 1) < n - i; omega) (Wk.of ⟨rfl, rfl, rfl, rfl, rfl, trivial⟩ ⟨rfl, rfl, trivial⟩ trivial)
    · have h1' : ¬ 0 ≤ iget L i := h1
      rw [if_neg h1'] at hnext
      have hnew : ∀ d, d < n → rch zss n i d = true → iget L d = -1 := fun d hd hr => lab_new hT hB hin hOK (by dsimp only; omega) hd hr
      (refine goes_skip ?_; refine fin_seq ?_; refine goes_seq ?_; refine goes_region ?_; apply run_step rfl; (exact stp_move rfl rfl); apply run_step rfl; (exact stp_move rfl rfl); apply run_step rfl; (exact stp_move rfl rfl); apply run_step rfl; (first | exact stp_ix (j := i) rfl rfl rfl rfl rfl (by as_aux_lemma => kernel_rfl) rfl hin hil | exact stp_stI rfl rfl rfl rfl rfl (by omega) (by as_aux_lemma => kernel_rfl)); apply run_step rfl; (first | exact stp_ix (j := i) rfl rfl rfl rfl rfl (by as_aux_lemma => kernel_rfl) rfl hin hil | exact stp_stI rfl rfl rfl rfl rfl (by omega) (by as_aux_lemma => kernel_rfl)); refine run_nil ?_; refine fin_seq ?_; refine goes_seq ?_; refine goes_seq ?_; refine goes_region ?_; apply run_step rfl; (exact stp_move rfl rfl); apply run_step rfl; (exact stp_lit1I (E := 2) rfl (by as_aux_lemma => kernel_rfl) rfl); apply run_step rfl; (exact stp_assign rfl rfl); refine run_nil ?_; refine fin_seq ?_; refine goes_block ?_)
      refine goes_loop (fun q : List Int × List Int => St.of [(1, o1 (.sl 1003 0 ng)), (6, o1 (.sl 16 0 n)), (7, vv (I6 k)), (9, o1 (.sl 31 0 q.2.length)), (17, vv (I6 n)), (18, vv (I6 i))] [(1003, rowsRo zss), (16, leOw q.1), (31, leOw q.2)])
        (fun q => DOK zss n i k L (fun _ => False) q.1 q.2 ∧ 2 * negc q.1 + q.2.length ≤ 2 * n + 1) (fun q => 2 * negc q.1 + q.2.length) (L.set i (k : Int), [(i : Int)]) ⟨dok_start hT hin hLl hnew, ?_⟩ (Wk.of ⟨rfl, rfl, rfl, rfl, rfl, rfl, trivial⟩ ⟨rfl, rfl, rfl, trivial⟩ trivial) ?_
      · have h2 : negc L ≤ L.length := List.length_filter_le _ _
        have h3 := negc_set L i (k : Int) (by omega) (by omega) (by omega)
        show 2 * negc (L.set i (k : Int)) + 1 ≤ 2 * n + 1
        omega
      rintro ⟨M, st⟩ ⟨hD, hmu⟩
      dsimp only at hD hmu ⊢
      have hMl : M.length = n := hD.len
      (refine goes_seq ?_; refine goes_seq ?_; refine goes_region ?_; apply run_step rfl; (exact stp_move rfl rfl); apply run_step rfl; (exact stp_len rfl rfl rfl (by as_aux_lemma => kernel_rfl)); apply run_step rfl; (exact stp_bin rfl rfl rfl rfl); refine run_nil ?_; refine fin_seq ?_)
      refine goes_if rfl (fun h2 => ?_) (fun h2 => ?_)
      · obtain ⟨m, hm⟩ : ∃ m, st.length = m + 1 := ⟨st.length - 1, by omega⟩
        obtain ⟨x, hx1, hx2, hx3, hx4⟩ := hD.st_ (iget st m) (iget_mem (by omega))
        have hP := dok_pop hD hm hx1
        have gm : (ivals st)[m]? = some (I6 (x : Int)) := by rw [ivals_get (by omega), hx1]
        have hm1 : ((st.length : Int) - 1) = ((m : Nat) : Int) := by omega
        have hsl : m + 1 ≤ (ivals st).length := by rw [ivals_len]; omega
        have htk : (st.take m).length = m := by rw [List.length_take]; omega
        rw [hm]
        rw [hm] at hm1
        (refine goes_skip ?_; refine fin_seq ?_; refine goes_block ?_; refine goes_seq ?_; refine goes_region ?_; apply run_step rfl; (exact stp_move rfl rfl); apply run_step rfl; (exact stp_move rfl rfl); apply run_step rfl; (exact stp_len rfl rfl rfl (by as_aux_lemma => kernel_rfl)); apply run_step rfl; (first | exact stp_sub rfl rfl rfl (IntWalk.i64_in _ (by omega)) | exact stp_ix (j := m) rfl rfl rfl rfl rfl (by as_aux_lemma => kernel_rfl) hm1 (by omega) hsl | exact stp_slice (k := 1) (l := 0) (h := m) rfl rfl rfl rfl (by as_aux_lemma => kernel_rfl) (by omega) bnd_none (bnd_some rfl hm1) (by omega) (by omega) (by rw [Nat.mul_one, Nat.zero_add]; exact hsl)); apply run_step rfl; (first | exact stp_sub rfl rfl rfl (IntWalk.i64_in _ (by omega)) | exact stp_ix (j := m) rfl rfl rfl rfl rfl (by as_aux_lemma => kernel_rfl) hm1 (by omega) hsl | exact stp_slice (k := 1) (l := 0) (h := m) rfl rfl rfl rfl (by as_aux_lemma => kernel_rfl) (by omega) bnd_none (bnd_some rfl hm1) (by omega) (by omega) (by rw [Nat.mul_one, Nat.zero_add]; exact hsl)); apply run_step rfl; (exact stp_loadV rfl (by as_aux_lemma => kernel_rfl) rfl rfl rfl (by first | assumption | exact ivals_get (by assumption) | exact irows_get (by assumption) | exact ivals_get (by omega) | exact irows_get (by omega) | rfl)); apply run_step rfl; (exact stp_assign rfl rfl); refine run_nil ?_; refine fin_seq ?_; refine goes_seq ?_; refine goes_region ?_; apply run_step rfl; (exact stp_move rfl rfl); apply run_step rfl; (exact stp_move rfl rfl); apply run_step rfl; (exact stp_len rfl rfl rfl (by as_aux_lemma => kernel_rfl)); apply run_step rfl; (first | exact stp_sub rfl rfl rfl (IntWalk.i64_in _ (by omega)) | exact stp_ix (j := m) rfl rfl rfl rfl rfl (by as_aux_lemma => kernel_rfl) hm1 (by omega) hsl | exact stp_slice (k := 1) (l := 0) (h := m) rfl rfl rfl rfl (by as_aux_lemma => kernel_rfl) (by omega) bnd_none (bnd_some rfl hm1) (by omega) (by omega) (by rw [Nat.mul_one, Nat.zero_add]; exact hsl)); apply run_step rfl; (first | exact stp_sub rfl rfl rfl (IntWalk.i64_in _ (by omega)) | exact stp_ix (j := m) rfl rfl rfl rfl rfl (by as_aux_lemma => kernel_rfl) hm1 (by omega) hsl | exact stp_slice (k := 1) (l := 0) (h := m) rfl rfl rfl rfl (by as_aux_lemma => kernel_rfl) (by omega) bnd_none (bnd_some rfl hm1) (by omega) (by omega) (by rw [Nat.mul_one, Nat.zero_add]; exact hsl)); apply run_step rfl; (exact stp_assign rfl rfl); refine run_nil ?_; refine fin_seq ?_; refine goes_seq ?_; refine goes_region ?_; apply run_step rfl; (exact stp_move rfl rfl); apply run_step rfl; (exact stp_len rfl rfl rfl (by as_aux_lemma => kernel_rfl)); apply run_step rfl; (exact stp_move rfl rfl); refine run_nil ?_; refine fin_seq ?_; refine goes_block ?_)
        have hsame : 2 * negc M + m + 1 = 2 * negc M + st.length := by omega
        refine goes_loop (fun q : Nat × List Int × List Int => St.of [(1, o1 (.sl 1003 0 ng)), (6, o1 (.sl 16 0 n)), (7, vv (I6 k)), (9, o1 (.sl 31 0 q.2.2.length)), (10, vv (I6 x)), (17, vv (I6 n)), (18, vv (I6 i)), (46, o1 (.sl 1003 0 ng)), (47, vv (I6 ng)), (48, vv (I6 q.1))] [(1003, rowsRo zss), (16, leOw q.2.1), (31, leOw q.2.2)])
          (fun q => q.1 ≤ ng ∧ DOK zss n i k L (fun d => d = x) q.2.1 q.2.2 ∧ (∀ g, g < q.1 → iget q.2.1 (bTo zss x g) = (k : Int)) ∧ 2 * negc q.2.1 + q.2.2.length ≤ 2 * negc M + m) (fun q => ng - q.1) (0, M, st.take m) ⟨Nat.zero_le _, hP, fun g hg => absurd hg (by omega), by dsimp only; omega⟩
          (Wk.trans (wk_cut (n := 31) (m := m) (vs := ivals st) rfl (by rw [ivals_len]; omega)) (Wk.of ⟨rfl, rfl, rfl, by rw [htk]; rfl, rfl, rfl, rfl, rfl, rfl, rfl, trivial⟩ ⟨rfl, rfl, congrArg (fun l => some (⟨true, 2, 1, .vals l⟩ : Ch)) (ivals_take st m), trivial⟩ trivial)) ?_
        rintro ⟨g, N, su⟩ ⟨hgl, hD2, hdone, hmu2⟩
        dsimp only at hgl hD2 hdone hmu2 ⊢
        have hNl : N.length = n := hD2.len
        have hsu : su.length ≤ 2 * n + 1 := by omega
        (refine goes_seq ?_; refine goes_region ?_; apply run_step rfl; (exact stp_bin rfl rfl rfl rfl); refine run_nil ?_; refine fin_seq ?_; refine goes_seq ?_)
        refine goes_if rfl (fun h3 => ?_) (fun h3 => ?_)
        · have hgn : g < ng := by omega
          have hgz : g < zss.length := by omega
          have hd := bTo_lt hT hx2 (g := g) hgz
          have hr := rch_on hT hin hx2 hx3 hgz
          obtain ⟨y, hy⟩ : ∃ y, bTo zss x g = y := ⟨_, rfl⟩
          rw [hy] at hd hr
          have hrowg : (irows zss)[g]? = some (ivals (lget zss g)) := irows_get hgz
          have hlg : (lget zss g).length = n := hT.len g hgz
          have gx : (ivals (lget zss g))[x]? = some (I6 (y : Int)) := by rw [ivals_get (by omega), hd.2]
          have gy : (ivals N)[y]? = some (I6 (iget N y)) := ivals_get (by omega)
          have hilg : (ivals (lget zss g)).length = n := by rw [ivals_len]; exact hlg
          have hNi : n ≤ (ivals N).length := by rw [ivals_len, hNl]; exact Nat.le_refl _
          have step : ∀ (N' : List Int), (∀ e, iget N e = (k : Int) → iget N' e = (k : Int)) → iget N' y = (k : Int) → ∀ g', g' < g + 1 → iget N' (bTo zss x g') = (k : Int) := fun N' hk hyk g' hg' => by
            by_cases e : g' = g
            · subst e; rw [hy]; exact hyk
            · exact hk _ (hdone g' (by omega))
          (refine goes_skip ?_; refine fin_seq ?_; refine goes_seq ?_; refine goes_block ?_; refine goes_seq ?_; refine goes_region ?_; apply run_step rfl; (first | exact stp_ix (j := g) rfl rfl rfl rfl rfl (by as_aux_lemma => kernel_rfl) rfl hgn (Nat.le_of_eq hlen.symm) | exact stp_loadR rfl (by as_aux_lemma => kernel_rfl) rfl rfl rfl hrowg hilg | exact stp_ixE (j := x) rfl rfl rfl rfl rfl (by as_aux_lemma => kernel_rfl) hrowg rfl hx2 (Nat.le_of_eq hilg.symm) | exact stp_loadE' rfl (by as_aux_lemma => kernel_rfl) rfl rfl rfl hrowg gx | exact stp_ix (j := y) rfl rfl rfl rfl rfl (by as_aux_lemma => kernel_rfl) rfl hd.1 hNi); apply run_step rfl; (first | exact stp_ix (j := g) rfl rfl rfl rfl rfl (by as_aux_lemma => kernel_rfl) rfl hgn (Nat.le_of_eq hlen.symm) | exact stp_loadR rfl (by as_aux_lemma => kernel_rfl) rfl rfl rfl hrowg hilg | exact stp_ixE (j := x) rfl rfl rfl rfl rfl (by as_aux_lemma => kernel_rfl) hrowg rfl hx2 (Nat.le_of_eq hilg.symm) | exact stp_loadE' rfl (by as_aux_lemma => kernel_rfl) rfl rfl rfl hrowg gx | exact stp_ix (j := y) rfl rfl rfl rfl rfl (by as_aux_lemma => kernel_rfl) rfl hd.1 hNi); apply run_step rfl; (exact stp_assign rfl rfl); refine run_nil ?_; refine fin_seq ?_; refine goes_seq ?_; refine goes_region ?_; apply run_step rfl; (exact stp_move rfl rfl); apply run_step rfl; (exact stp_move rfl rfl); apply run_step rfl; (first | exact stp_ix (j := g) rfl rfl rfl rfl rfl (by as_aux_lemma => kernel_rfl) rfl hgn (Nat.le_of_eq hlen.symm) | exact stp_loadR rfl (by as_aux_lemma => kernel_rfl) rfl rfl rfl hrowg hilg | exact stp_ixE (j := x) rfl rfl rfl rfl rfl (by as_aux_lemma => kernel_rfl) hrowg rfl hx2 (Nat.le_of_eq hilg.symm) | exact stp_loadE' rfl (by as_aux_lemma => kernel_rfl) rfl rfl rfl hrowg gx | exact stp_ix (j := y) rfl rfl rfl rfl rfl (by as_aux_lemma => kernel_rfl) rfl hd.1 hNi); apply run_step rfl; (first | exact stp_ix (j := g) rfl rfl rfl rfl rfl (by as_aux_lemma => kernel_rfl) rfl hgn (Nat.le_of_eq hlen.symm) | exact stp_loadR rfl (by as_aux_lemma => kernel_rfl) rfl rfl rfl hrowg hilg | exact stp_ixE (j := x) rfl rfl rfl rfl rfl (by as_aux_lemma => kernel_rfl) hrowg rfl hx2 (Nat.le_of_eq hilg.symm) | exact stp_loadE' rfl (by as_aux_lemma => kernel_rfl) rfl rfl rfl hrowg gx | exact stp_ix (j := y) rfl rfl rfl rfl rfl (by as_aux_lemma => kernel_rfl) rfl hd.1 hNi); apply run_step rfl; (exact stp_assign rfl rfl); refine run_nil ?_; refine fin_seq ?_; refine goes_seq ?_; refine goes_region ?_; apply run_step rfl; (exact stp_move rfl rfl); apply run_step rfl; (exact stp_move rfl rfl); apply run_step rfl; (first | exact stp_ix (j := g) rfl rfl rfl rfl rfl (by as_aux_lemma => kernel_rfl) rfl hgn (Nat.le_of_eq hlen.symm) | exact stp_loadR rfl (by as_aux_lemma => kernel_rfl) rfl rfl rfl hrowg hilg | exact stp_ixE (j := x) rfl rfl rfl rfl rfl (by as_aux_lemma => kernel_rfl) hrowg rfl hx2 (Nat.le_of_eq hilg.symm) | exact stp_loadE' rfl (by as_aux_lemma => kernel_rfl) rfl rfl rfl hrowg gx | exact stp_ix (j := y) rfl rfl rfl rfl rfl (by as_aux_lemma => kernel_rfl) rfl hd.1 hNi); apply run_step rfl; (exact stp_loadV rfl (by as_aux_lemma => kernel_rfl) rfl rfl rfl (by first | assumption | exact ivals_get (by assumption) | exact irows_get (by assumption) | exact ivals_get (by omega) | exact irows_get (by omega) | rfl)); apply run_step rfl; (exact stp_bin rfl rfl rfl rfl); refine run_nil ?_; refine fin_seq ?_)
          refine goes_if rfl (fun h4 => ?_) (fun h4 => ?_)
          · have h4' : iget N y < 0 := h4
            have hN' := negc_set N y (k : Int) (by omega) h4' (by omega)
            have hkeep : ∀ e, iget N e = (k : Int) → iget (N.set y (k : Int)) e = (k : Int) := fun e he => by
              rw [iget_setD]
              split
              · rfl
              · exact he
            have hyN : iget (N.set y (k : Int)) y = (k : Int) := by rw [iget_setD, if_pos ⟨rfl, by omega⟩]
            (refine goes_seq ?_; refine goes_region ?_; apply run_step rfl; (exact stp_move rfl rfl); apply run_step rfl; (exact stp_move rfl rfl); apply run_step rfl; (exact stp_move rfl rfl); apply run_step rfl; (first | exact stp_ix (j := y) rfl rfl rfl rfl rfl (by as_aux_lemma => kernel_rfl) rfl hd.1 hNi | exact stp_stI rfl rfl rfl rfl rfl (by omega) (by as_aux_lemma => kernel_rfl)); apply run_step rfl; (first | exact stp_ix (j := y) rfl rfl rfl rfl rfl (by as_aux_lemma => kernel_rfl) rfl hd.1 hNi | exact stp_stI rfl rfl rfl rfl rfl (by omega) (by as_aux_lemma => kernel_rfl)); refine run_nil ?_; refine fin_seq ?_; refine goes_region ?_; apply run_step rfl; (exact stp_move rfl rfl); apply run_step rfl; (exact stp_move rfl rfl); apply run_step rfl; (exact stp_lit1I (E := 2) rfl (by as_aux_lemma => kernel_rfl) rfl); apply run_step rfl; (exact stp_appI rfl (by as_aux_lemma => kernel_rfl) rfl rfl rfl (by first | rfl | assumption | (simp; done)) rfl rfl (by omega)); apply run_step rfl; (exact stp_assign rfl rfl); refine run_nil ?_; refine fin_block ?_; refine fin_seq ?_; refine goes_region ?_; apply run_step rfl; (exact stp_add rfl rfl rfl (by first | exact IntWalk.i64_in _ (by omega) | rfl)); apply run_step rfl; (exact stp_move rfl rfl); refine run_nil ?_)
            exact fin_round (g + 1, N.set y (k : Int), su ++ [(y : Int)]) ⟨hgn, dok_step hD2 hd.1 hr h4', step _ hkeep hyN, by simp only [List.length_append, List.length_singleton]; omega⟩ (by show ng - (g + 1) < ng - g; omega) (Wk.of ⟨rfl, rfl, rfl, congrArg (fun x => some (o1 (.sl 31 0 x))) (by simp), rfl, rfl, rfl, rfl, rfl, rfl, trivial⟩ ⟨rfl, rfl, rfl, trivial⟩ trivial)
          · have h4' : ¬ iget N y < 0 := h4
            have hyk : iget N y = (k : Int) := by
              rcases hD2.eq y hd.1 with h5 | h5
              · rw [hnew y hd.1 hr] at h5; omega
              · exact h5.1
            (refine goes_skip ?_; refine fin_block ?_; refine fin_seq ?_; refine goes_region ?_; apply run_step rfl; (exact stp_add rfl rfl rfl (by first | exact IntWalk.i64_in _ (by omega) | rfl)); apply run_step rfl; (exact stp_move rfl rfl); refine run_nil ?_)
            exact fin_round (g + 1, N, su) ⟨hgn, hD2, step N (fun _ h => h) hyk, hmu2⟩ (by show ng - (g + 1) < ng - g; omega) (Wk.of ⟨rfl, rfl, rfl, rfl, rfl, rfl, rfl, rfl, rfl, rfl, trivial⟩ ⟨rfl, rfl, rfl, trivial⟩ trivial)
        · obtain rfl : g = ng := by omega
          (refine goes_exit ?_; refine fin_exit_then ?_; refine fin_exit_then ?_; refine fin_exit_eq ?_; refine fin_block ?_)
          exact fin_round (N, su) ⟨dok_end hD2 (fun g' hg' => hdone g' (by omega)), by dsimp only; omega⟩ (by show 2 * negc N + su.length < 2 * negc M + st.length; omega) (Wk.of ⟨rfl, rfl, rfl, rfl, rfl, rfl, trivial⟩ ⟨rfl, rfl, rfl, trivial⟩ trivial)
      · obtain rfl : st = [] := List.length_eq_zero_iff.1 (by omega)
        have hM := dok_done hT hin hD
        have hk1 : (((labSet zss n i (L, k)).2 : Nat) : Int) = (k : Int) + 1 := by show ((k + 1 : Nat) : Int) = _; omega
        (refine goes_exit ?_; refine fin_exit_then ?_; refine fin_exit_then ?_; refine fin_exit_eq ?_; refine fin_seq ?_; refine goes_region ?_; apply run_step rfl; (exact stp_move rfl rfl); apply run_step rfl; (exact stp_add rfl rfl rfl (by first | exact IntWalk.i64_in _ (by omega) | rfl)); apply run_step rfl; (exact stp_assign rfl rfl); refine run_nil ?_; refine fin_block ?_; refine fin_seq ?_; refine goes_region ?_; apply run_step rfl; (exact stp_add rfl rfl rfl (by first | exact IntWalk.i64_in _ (by omega) | rfl)); apply run_step rfl; (exact stp_move rfl rfl); refine run_nil ?_)
        exact fin_round (i + 1, labSet zss n i (L, k)) ⟨hin, hnext⟩ (by show n - (i + 1) < n - i; omega) (Wk.of ⟨rfl, rfl, congrArg (fun z => some (vv (I6 z))) hk1.symm, rfl, rfl, trivial⟩ ⟨rfl, congrArg (fun l => some (leOw l)) hM, trivial⟩ trivial)
  · obtain rfl : i = n := by omega
    have hfin : labs zss i = (L, k) := hl
    rw [hfin]
    (refine goes_exit ?_; refine fin_exit_then ?_; refine fin_exit_then ?_; refine fin_exit_eq ?_; refine fin_seq ?_; refine goes_seq ?_; refine goes_region ?_; apply run_step rfl; (exact stp_move rfl rfl); apply run_step rfl; (exact stp_move rfl rfl); apply run_step rfl; (exact stp_assign rfl rfl); apply run_step rfl; (exact stp_assign rfl rfl); refine run_nil ?_; refine fin_seq ?_; refine goes_ret ?_)
    exact fin_ret2 (.inl rfl) rfl (.tmp rfl) (.tmp rfl) ⟨rfl, trivial⟩ trivial
end Go.Proofs.YtmdhljleaijkbaaDoor

/- The program's within, in names. -/
namespace Go.Proofs.YtmdhljleaijkbaaDoor
open Go.RowKit

theorem us_three {us : List Value} {u0 u1 u2 : Value} (hl : us.length = 3) (g0 : us[0]? = some u0) (g1 : us[1]? = some u1) (g2 : us[2]? = some u2) : us = [u0, u1, u2] := by
  match us, hl with
  | [p, q, r], _ => simp at g0 g1 g2; rw [g0, g1, g2]
theorem within_fc (a b c : Int) : FC Tryd.prog 33 [] [vv (I6 a), vv (I6 b), vv (I6 c)] [] (vv (.bool (inB a b c))) [] :=
  fc_of_calls fun w η ω us hm ⟨hl, ha⟩ => by
    obtain ⟨u0, g0, d0⟩ := ha 0 _ rfl
    obtain ⟨u1, g1, d1⟩ := ha 1 _ rfl
    obtain ⟨u2, g2, d2⟩ := ha 2 _ rfl
    have d0 : u0 = I6 a := d0
    have d1 : u1 = I6 b := d1
    have d2 : u2 = I6 c := d2
    subst d0 d1 d2
    rw [us_three hl g0 g1 g2]
    refine (within_any a b c w).mono ?_
    rintro e w' ⟨rfl, rfl⟩
    exact ⟨rfl, Below.refl _ _⟩
end Go.Proofs.YtmdhljleaijkbaaDoor

/- What a maniplex is, the program's: isManiplex. guards: -/
namespace Go.Proofs.YtmdhljleaijkbaaDoor
open Go.RowKit

abbrev mxV (R : Nat) : Ch := ⟨false, 26, 1, .flat [.sl 1003 0 R]⟩
theorem rank_fc (R : Nat) : FC Tryd.prog 34 [(1, mxV R)] [o1 (.ptr 1 0)] [] (vv (I6 R)) [] := by
  have hS := sizeR_fc 1003 R
  refine fc_enter (nt := 8) Tryd.func34 rfl rfl (by simp) fun w0 ω0 => ?_
  (refine goes_seq ?_; refine goes_region ?_; apply run_step rfl; (exact stp_assign rfl rfl); refine run_nil ?_; refine fin_seq ?_; refine goes_seq ?_; refine goes_region ?_; apply run_step rfl; (exact stp_move rfl rfl); apply run_step rfl; (exact stp_nilCheck rfl rfl rfl); apply run_step rfl; (exact stp_fieldAddr (d := 0) rfl rfl rfl (by as_aux_lemma => kernel_rfl)); apply run_step rfl; (exact stp_loadF rfl (by as_aux_lemma => kernel_rfl) rfl rfl rfl rfl); apply run_step rfl; (apply call_gate 49; exact stp_callR hS (by as_aux_lemma => kernel_rfl) rfl rfl ⟨rfl, trivial⟩ trivial rfl rfl); apply run_step rfl; (exact stp_assign rfl rfl); refine run_nil ?_; refine fin_seq ?_; refine goes_ret ?_)
  exact fin_ret1 (.inl rfl) rfl (.tmp rfl) trivial trivial
set_option maxRecDepth 100000 in
theorem flags_fc1 (zss : List (List Int)) (n : Nat) (hpos : 0 < zss.length) (hn : (lget zss 0).length = n) : FC Tryd.prog 20 [(1, mxV zss.length), (1003, rowsRo zss)] [o1 (.ptr 1 0)] [] (vv (I6 n)) [] := by
  have hlen : (irows zss).length = zss.length := irows_len _
  have hrow0 : (irows zss)[0]? = some (ivals (lget zss 0)) := irows_get hpos
  have hil : (ivals (lget zss 0)).length = n := by rw [ivals_len]; exact hn
  have hSz := sizeE_fc 1003 0 n
  refine fc_enter (nt := 10) Tryd.func20 rfl rfl (by simp) fun w0 ω0 => ?_
  (refine goes_seq ?_; refine goes_region ?_; apply run_step rfl; (exact stp_assign rfl rfl); refine run_nil ?_; refine fin_seq ?_; refine goes_seq ?_; refine goes_region ?_; apply run_step rfl; (exact stp_move rfl rfl); apply run_step rfl; (exact stp_nilCheck rfl rfl rfl); apply run_step rfl; (exact stp_fieldAddr (d := 0) rfl rfl rfl (by as_aux_lemma => kernel_rfl)); apply run_step rfl; (exact stp_loadF rfl (by as_aux_lemma => kernel_rfl) rfl rfl rfl rfl); apply run_step rfl; (first | exact stp_ix (j := 0) rfl rfl rfl rfl rfl (by as_aux_lemma => kernel_rfl) rfl hpos (Nat.le_of_eq hlen.symm) | exact stp_loadR rfl (by as_aux_lemma => kernel_rfl) rfl rfl rfl hrow0 hil | (apply call_gate 36; exact stp_callR hSz (by as_aux_lemma => kernel_rfl) rfl rfl ⟨rfl, trivial⟩ trivial rfl rfl)); apply run_step rfl; (first | exact stp_ix (j := 0) rfl rfl rfl rfl rfl (by as_aux_lemma => kernel_rfl) rfl hpos (Nat.le_of_eq hlen.symm) | exact stp_loadR rfl (by as_aux_lemma => kernel_rfl) rfl rfl rfl hrow0 hil | (apply call_gate 36; exact stp_callR hSz (by as_aux_lemma => kernel_rfl) rfl rfl ⟨rfl, trivial⟩ trivial rfl rfl)); apply run_step rfl; (first | exact stp_ix (j := 0) rfl rfl rfl rfl rfl (by as_aux_lemma => kernel_rfl) rfl hpos (Nat.le_of_eq hlen.symm) | exact stp_loadR rfl (by as_aux_lemma => kernel_rfl) rfl rfl rfl hrow0 hil | (apply call_gate 36; exact stp_callR hSz (by as_aux_lemma => kernel_rfl) rfl rfl ⟨rfl, trivial⟩ trivial rfl rfl)); apply run_step rfl; (exact stp_assign rfl rfl); refine run_nil ?_; refine fin_seq ?_; refine goes_ret ?_)
  exact fin_ret1 (.inl rfl) rfl (.tmp rfl) trivial trivial

set_option maxRecDepth 100000 in
set_option maxHeartbeats 4000000 in
theorem manI_fc (zss : List (List Int)) (hR : zss.length ≤ 1048576) (hl : ∀ i, i < zss.length → (lget zss i).length ≤ 1048576) :
    FC Tryd.prog 18 [(1003, rowsRo zss)] [mA zss.length] [] (vv (.bool (manB zss))) [] := by
  have hRk := rank_fc zss.length
  have hW1 := within_fc (zss.length : Int) 1 5
  refine fc_enter (nt := 101) Tryd.func18 rfl rfl (by simp) fun w0 ω0 => ?_
  have hlen : (irows zss).length = zss.length := irows_len _
  cases c1 : inB (zss.length : Int) 1 5 with
  | false =>
    rw [manB_no (fun h => by have h1 := h.n1; have h2 := h.n5; rw [inB_true.2 ⟨by omega, by omega⟩] at c1; cases c1)]
    rw [c1] at hW1
    (refine goes_seq ?_; refine goes_region ?_; apply run_step rfl; (exact stp_box rfl rfl rfl rfl); apply run_step rfl; (exact stp_assign rfl rfl); refine run_nil ?_; refine fin_seq ?_; refine goes_seq ?_; refine goes_seq ?_; refine goes_region ?_; apply run_step rfl; (first | (apply call_gate 34; exact stp_callR hRk (by as_aux_lemma => kernel_rfl) rfl rfl ⟨rfl, trivial⟩ ⟨⟨_, rfl, .inr rfl⟩, trivial⟩ rfl rfl) | (apply call_gate 33; exact stp_callR hW1 (by as_aux_lemma => kernel_rfl) rfl rfl ⟨rfl, rfl, rfl, trivial⟩ trivial rfl rfl)); apply run_step rfl; (first | (apply call_gate 34; exact stp_callR hRk (by as_aux_lemma => kernel_rfl) rfl rfl ⟨rfl, trivial⟩ ⟨⟨_, rfl, .inr rfl⟩, trivial⟩ rfl rfl) | (apply call_gate 33; exact stp_callR hW1 (by as_aux_lemma => kernel_rfl) rfl rfl ⟨rfl, rfl, rfl, trivial⟩ trivial rfl rfl)); apply run_step rfl; (exact stp_not rfl rfl); apply run_step rfl; (exact stp_move rfl rfl); apply run_gNo rfl rfl rfl rfl rfl; apply run_gNo rfl rfl rfl rfl rfl; apply run_gNo rfl rfl rfl rfl rfl; apply run_step rfl; (exact stp_pickT rfl rfl rfl); refine run_nil ?_; refine fin_seq ?_)
    refine goes_cond rfl (fun _ => ?_) (fun e => by cases e)
    (refine goes_seq ?_; refine goes_region ?_; apply run_step rfl; (exact stp_assign rfl rfl); refine run_nil ?_; refine fin_seq ?_; refine goes_ret ?_; refine fin_ret_then ?_)
    exact fin_ret1 (.inl rfl) rfl (.tmp rfl) trivial trivial
  | true =>
  rw [c1] at hW1
  have c1 := inB_true.1 c1
  have hpos : 0 < zss.length := by omega
  have hrow0 : (irows zss)[0]? = some (ivals (lget zss 0)) := irows_get hpos
  obtain ⟨n, hn⟩ : ∃ n, (lget zss 0).length = n := ⟨_, rfl⟩
  have hil : (ivals (lget zss 0)).length = n := by rw [ivals_len]; exact hn
  have hG := flags_fc1 zss n hpos hn
  have hW2 := within_fc (n : Int) 2 400
  cases c2 : inB (n : Int) 2 400 with
  | false =>
    rw [manB_no (fun h => by have h1 := h.f2; have h2 := h.f4; rw [inB_true.2 ⟨by omega, by omega⟩] at c2; cases c2)]
    rw [c2] at hW2
    (refine goes_seq ?_; refine goes_region ?_; apply run_step rfl; (exact stp_box rfl rfl rfl rfl); apply run_step rfl; (exact stp_assign rfl rfl); refine run_nil ?_; refine fin_seq ?_; refine goes_seq ?_; refine goes_seq ?_; refine goes_region ?_; apply run_step rfl; (first | (apply call_gate 34; exact stp_callR hRk (by as_aux_lemma => kernel_rfl) rfl rfl ⟨rfl, trivial⟩ ⟨⟨_, rfl, .inr rfl⟩, trivial⟩ rfl rfl) | (apply call_gate 33; exact stp_callR hW1 (by as_aux_lemma => kernel_rfl) rfl rfl ⟨rfl, rfl, rfl, trivial⟩ trivial rfl rfl) | (apply call_gate 33; exact stp_callR hW2 (by as_aux_lemma => kernel_rfl) rfl rfl ⟨rfl, rfl, rfl, trivial⟩ trivial rfl rfl) | (apply call_gate 20; exact stp_callR hG (by as_aux_lemma => kernel_rfl) rfl rfl ⟨rfl, trivial⟩ ⟨⟨_, rfl, .inr rfl⟩, ⟨_, rfl, .inl rfl⟩, trivial⟩ rfl rfl)); apply run_step rfl; (first | (apply call_gate 34; exact stp_callR hRk (by as_aux_lemma => kernel_rfl) rfl rfl ⟨rfl, trivial⟩ ⟨⟨_, rfl, .inr rfl⟩, trivial⟩ rfl rfl) | (apply call_gate 33; exact stp_callR hW1 (by as_aux_lemma => kernel_rfl) rfl rfl ⟨rfl, rfl, rfl, trivial⟩ trivial rfl rfl) | (apply call_gate 33; exact stp_callR hW2 (by as_aux_lemma => kernel_rfl) rfl rfl ⟨rfl, rfl, rfl, trivial⟩ trivial rfl rfl) | (apply call_gate 20; exact stp_callR hG (by as_aux_lemma => kernel_rfl) rfl rfl ⟨rfl, trivial⟩ ⟨⟨_, rfl, .inr rfl⟩, ⟨_, rfl, .inl rfl⟩, trivial⟩ rfl rfl)); apply run_step rfl; (exact stp_not rfl rfl); apply run_step rfl; (exact stp_move rfl rfl); apply run_gYes rfl rfl rfl; (first | (apply call_gate 34; exact stp_callR hRk (by as_aux_lemma => kernel_rfl) rfl rfl ⟨rfl, trivial⟩ ⟨⟨_, rfl, .inr rfl⟩, trivial⟩ rfl rfl) | (apply call_gate 33; exact stp_callR hW1 (by as_aux_lemma => kernel_rfl) rfl rfl ⟨rfl, rfl, rfl, trivial⟩ trivial rfl rfl) | (apply call_gate 33; exact stp_callR hW2 (by as_aux_lemma => kernel_rfl) rfl rfl ⟨rfl, rfl, rfl, trivial⟩ trivial rfl rfl) | (apply call_gate 20; exact stp_callR hG (by as_aux_lemma => kernel_rfl) rfl rfl ⟨rfl, trivial⟩ ⟨⟨_, rfl, .inr rfl⟩, ⟨_, rfl, .inl rfl⟩, trivial⟩ rfl rfl)); apply run_gYes rfl rfl rfl; (first | (apply call_gate 34; exact stp_callR hRk (by as_aux_lemma => kernel_rfl) rfl rfl ⟨rfl, trivial⟩ ⟨⟨_, rfl, .inr rfl⟩, trivial⟩ rfl rfl) | (apply call_gate 33; exact stp_callR hW1 (by as_aux_lemma => kernel_rfl) rfl rfl ⟨rfl, rfl, rfl, trivial⟩ trivial rfl rfl) | (apply call_gate 33; exact stp_callR hW2 (by as_aux_lemma => kernel_rfl) rfl rfl ⟨rfl, rfl, rfl, trivial⟩ trivial rfl rfl) | (apply call_gate 20; exact stp_callR hG (by as_aux_lemma => kernel_rfl) rfl rfl ⟨rfl, trivial⟩ ⟨⟨_, rfl, .inr rfl⟩, ⟨_, rfl, .inl rfl⟩, trivial⟩ rfl rfl)); apply run_gYes rfl rfl rfl; (exact stp_not rfl rfl); apply run_step rfl; (exact stp_pickF rfl rfl rfl); refine run_nil ?_; refine fin_seq ?_)
    refine goes_cond rfl (fun _ => ?_) (fun e => by cases e)
    (refine goes_seq ?_; refine goes_region ?_; apply run_step rfl; (exact stp_assign rfl rfl); refine run_nil ?_; refine fin_seq ?_; refine goes_ret ?_; refine fin_ret_then ?_)
    exact fin_ret1 (.inl rfl) rfl (.tmp rfl) trivial trivial
  | true =>
  rw [c2] at hW2
  have c2 := inB_true.1 c2
  (refine goes_seq ?_; refine goes_region ?_; apply run_step rfl; (exact stp_box rfl rfl rfl rfl); apply run_step rfl; (exact stp_assign rfl rfl); refine run_nil ?_; refine fin_seq ?_; refine goes_seq ?_; refine goes_seq ?_; refine goes_region ?_; apply run_step rfl; (first | (apply call_gate 34; exact stp_callR hRk (by as_aux_lemma => kernel_rfl) rfl rfl ⟨rfl, trivial⟩ ⟨⟨_, rfl, .inr rfl⟩, trivial⟩ rfl rfl) | (apply call_gate 33; exact stp_callR hW1 (by as_aux_lemma => kernel_rfl) rfl rfl ⟨rfl, rfl, rfl, trivial⟩ trivial rfl rfl) | (apply call_gate 33; exact stp_callR hW2 (by as_aux_lemma => kernel_rfl) rfl rfl ⟨rfl, rfl, rfl, trivial⟩ trivial rfl rfl) | (apply call_gate 20; exact stp_callR hG (by as_aux_lemma => kernel_rfl) rfl rfl ⟨rfl, trivial⟩ ⟨⟨_, rfl, .inr rfl⟩, ⟨_, rfl, .inl rfl⟩, trivial⟩ rfl rfl)); apply run_step rfl; (first | (apply call_gate 34; exact stp_callR hRk (by as_aux_lemma => kernel_rfl) rfl rfl ⟨rfl, trivial⟩ ⟨⟨_, rfl, .inr rfl⟩, trivial⟩ rfl rfl) | (apply call_gate 33; exact stp_callR hW1 (by as_aux_lemma => kernel_rfl) rfl rfl ⟨rfl, rfl, rfl, trivial⟩ trivial rfl rfl) | (apply call_gate 33; exact stp_callR hW2 (by as_aux_lemma => kernel_rfl) rfl rfl ⟨rfl, rfl, rfl, trivial⟩ trivial rfl rfl) | (apply call_gate 20; exact stp_callR hG (by as_aux_lemma => kernel_rfl) rfl rfl ⟨rfl, trivial⟩ ⟨⟨_, rfl, .inr rfl⟩, ⟨_, rfl, .inl rfl⟩, trivial⟩ rfl rfl)); apply run_step rfl; (exact stp_not rfl rfl); apply run_step rfl; (exact stp_move rfl rfl); apply run_gYes rfl rfl rfl; (first | (apply call_gate 34; exact stp_callR hRk (by as_aux_lemma => kernel_rfl) rfl rfl ⟨rfl, trivial⟩ ⟨⟨_, rfl, .inr rfl⟩, trivial⟩ rfl rfl) | (apply call_gate 33; exact stp_callR hW1 (by as_aux_lemma => kernel_rfl) rfl rfl ⟨rfl, rfl, rfl, trivial⟩ trivial rfl rfl) | (apply call_gate 33; exact stp_callR hW2 (by as_aux_lemma => kernel_rfl) rfl rfl ⟨rfl, rfl, rfl, trivial⟩ trivial rfl rfl) | (apply call_gate 20; exact stp_callR hG (by as_aux_lemma => kernel_rfl) rfl rfl ⟨rfl, trivial⟩ ⟨⟨_, rfl, .inr rfl⟩, ⟨_, rfl, .inl rfl⟩, trivial⟩ rfl rfl)); apply run_gYes rfl rfl rfl; (first | (apply call_gate 34; exact stp_callR hRk (by as_aux_lemma => kernel_rfl) rfl rfl ⟨rfl, trivial⟩ ⟨⟨_, rfl, .inr rfl⟩, trivial⟩ rfl rfl) | (apply call_gate 33; exact stp_callR hW1 (by as_aux_lemma => kernel_rfl) rfl rfl ⟨rfl, rfl, rfl, trivial⟩ trivial rfl rfl) | (apply call_gate 33; exact stp_callR hW2 (by as_aux_lemma => kernel_rfl) rfl rfl ⟨rfl, rfl, rfl, trivial⟩ trivial rfl rfl) | (apply call_gate 20; exact stp_callR hG (by as_aux_lemma => kernel_rfl) rfl rfl ⟨rfl, trivial⟩ ⟨⟨_, rfl, .inr rfl⟩, ⟨_, rfl, .inl rfl⟩, trivial⟩ rfl rfl)); apply run_gYes rfl rfl rfl; (exact stp_not rfl rfl); apply run_step rfl; (exact stp_pickF rfl rfl rfl); refine run_nil ?_; refine fin_seq ?_)
  refine goes_cond rfl (fun e => by cases e) (fun _ => ?_)
  (refine goes_skip ?_; refine fin_seq ?_; refine goes_seq ?_; refine goes_seq ?_; refine goes_region ?_; apply run_step rfl; (exact stp_fieldAddr (d := 0) rfl rfl rfl (by as_aux_lemma => kernel_rfl)); apply run_step rfl; (exact stp_loadF rfl (by as_aux_lemma => kernel_rfl) rfl rfl rfl rfl); apply run_step rfl; (exact stp_len rfl rfl rfl (by as_aux_lemma => kernel_rfl)); apply run_step rfl; (exact stp_move rfl rfl); refine run_nil ?_; refine fin_seq ?_; refine goes_block ?_)
  refine goes_loop (fun i : Nat => St.of [(1, o1 (.ptr 1 0)), (21, o1 (.sl 1003 0 zss.length)), (22, vv (I6 zss.length)), (23, vv (I6 i))] [(1003, rowsRo zss), (1, mxB zss.length)]) (fun i => i ≤ zss.length ∧ Rows zss n i) (fun i => zss.length - i) 0 ⟨Nat.zero_le _, fun j hj => absurd hj (by omega)⟩ (Wk.of ⟨rfl, rfl, rfl, rfl, trivial⟩ ⟨rfl, rfl, trivial⟩ trivial) ?_
  rintro i ⟨hi, hrows⟩
  (refine goes_seq ?_; refine goes_region ?_; apply run_step rfl; (exact stp_bin rfl rfl rfl rfl); refine run_nil ?_; refine fin_seq ?_; refine goes_seq ?_)
  refine goes_if rfl (fun hlt => ?_) (fun hlt => ?_)
  · have hiz : i < zss.length := by omega
    have hrowi : (irows zss)[i]? = some (ivals (lget zss i)) := irows_get hiz
    have hP := freeI_fc zss i hiz (hl i hiz)
    obtain ⟨m, hm⟩ : ∃ m, (lget zss i).length = m := ⟨_, rfl⟩
    have hilm : (ivals (lget zss i)).length = m := by rw [ivals_len]; exact hm
    rw [hm] at hP
    have hSz := sizeE_fc 1003 i m
    cases hf : freeInv (lget zss i) with
    | false =>
      rw [hf] at hP
      (refine goes_skip ?_; refine fin_seq ?_; refine goes_seq ?_; refine goes_block ?_; refine goes_seq ?_; refine goes_region ?_; apply run_step rfl; (first | exact stp_ix (j := i) rfl rfl rfl rfl rfl (by as_aux_lemma => kernel_rfl) rfl hiz (Nat.le_of_eq hlen.symm) | exact stp_loadR rfl (by as_aux_lemma => kernel_rfl) rfl rfl rfl hrowi hilm | (apply call_gate 35; exact stp_callR hP (by as_aux_lemma => kernel_rfl) rfl rfl ⟨rfl, trivial⟩ ⟨⟨_, rfl, .inl rfl⟩, trivial⟩ rfl rfl)); apply run_step rfl; (first | exact stp_ix (j := i) rfl rfl rfl rfl rfl (by as_aux_lemma => kernel_rfl) rfl hiz (Nat.le_of_eq hlen.symm) | exact stp_loadR rfl (by as_aux_lemma => kernel_rfl) rfl rfl rfl hrowi hilm | (apply call_gate 35; exact stp_callR hP (by as_aux_lemma => kernel_rfl) rfl rfl ⟨rfl, trivial⟩ ⟨⟨_, rfl, .inl rfl⟩, trivial⟩ rfl rfl)); apply run_step rfl; (exact stp_assign rfl rfl); refine run_nil ?_; refine fin_seq ?_; refine goes_seq ?_; refine goes_region ?_; apply run_step rfl; (exact stp_move rfl rfl); apply run_step rfl; (first | exact stp_ix (j := i) rfl rfl rfl rfl rfl (by as_aux_lemma => kernel_rfl) rfl hiz (Nat.le_of_eq hlen.symm) | exact stp_loadR rfl (by as_aux_lemma => kernel_rfl) rfl rfl rfl hrowi hilm | (apply call_gate 35; exact stp_callR hP (by as_aux_lemma => kernel_rfl) rfl rfl ⟨rfl, trivial⟩ ⟨⟨_, rfl, .inl rfl⟩, trivial⟩ rfl rfl)); apply run_step rfl; (exact stp_not rfl rfl); apply run_step rfl; (exact stp_move rfl rfl); apply run_gNo rfl rfl rfl rfl rfl; apply run_gNo rfl rfl rfl rfl rfl; apply run_gNo rfl rfl rfl rfl rfl; apply run_gNo rfl rfl rfl rfl rfl; apply run_step rfl; (exact stp_pickT rfl rfl rfl); refine run_nil ?_; refine fin_seq ?_)
      refine goes_cond rfl (fun _ => ?_) (fun e => by cases e)
      rw [manB_no (fun h => by have h1 := h.perm i hiz; have h2 := h.free i hiz; unfold freeInv at hf; rw [h1, h2] at hf; cases hf)]
      (refine goes_seq ?_; refine goes_region ?_; apply run_step rfl; (exact stp_assign rfl rfl); refine run_nil ?_; refine fin_seq ?_; refine goes_ret ?_; refine fin_ret_block ?_; refine fin_ret_then ?_; refine fin_ret_then ?_; refine fin_ret_block ?_; refine fin_ret_then ?_)
      exact fin_ret1 (.inl rfl) rfl (.tmp rfl) trivial trivial
    | true =>
      rw [hf] at hP
      unfold freeInv at hf
      rw [Bool.and_eq_true] at hf
      (refine goes_skip ?_; refine fin_seq ?_; refine goes_seq ?_; refine goes_block ?_; refine goes_seq ?_; refine goes_region ?_; apply run_step rfl; (first | exact stp_ix (j := i) rfl rfl rfl rfl rfl (by as_aux_lemma => kernel_rfl) rfl hiz (Nat.le_of_eq hlen.symm) | exact stp_loadR rfl (by as_aux_lemma => kernel_rfl) rfl rfl rfl hrowi hilm | (apply call_gate 35; exact stp_callR hP (by as_aux_lemma => kernel_rfl) rfl rfl ⟨rfl, trivial⟩ ⟨⟨_, rfl, .inl rfl⟩, trivial⟩ rfl rfl) | (apply call_gate 36; exact stp_callR hSz (by as_aux_lemma => kernel_rfl) rfl rfl ⟨rfl, trivial⟩ trivial rfl rfl) | (apply call_gate 20; exact stp_callR hG (by as_aux_lemma => kernel_rfl) rfl rfl ⟨rfl, trivial⟩ ⟨⟨_, rfl, .inr rfl⟩, ⟨_, rfl, .inl rfl⟩, trivial⟩ rfl rfl)); apply run_step rfl; (first | exact stp_ix (j := i) rfl rfl rfl rfl rfl (by as_aux_lemma => kernel_rfl) rfl hiz (Nat.le_of_eq hlen.symm) | exact stp_loadR rfl (by as_aux_lemma => kernel_rfl) rfl rfl rfl hrowi hilm | (apply call_gate 35; exact stp_callR hP (by as_aux_lemma => kernel_rfl) rfl rfl ⟨rfl, trivial⟩ ⟨⟨_, rfl, .inl rfl⟩, trivial⟩ rfl rfl) | (apply call_gate 36; exact stp_callR hSz (by as_aux_lemma => kernel_rfl) rfl rfl ⟨rfl, trivial⟩ trivial rfl rfl) | (apply call_gate 20; exact stp_callR hG (by as_aux_lemma => kernel_rfl) rfl rfl ⟨rfl, trivial⟩ ⟨⟨_, rfl, .inr rfl⟩, ⟨_, rfl, .inl rfl⟩, trivial⟩ rfl rfl)); apply run_step rfl; (exact stp_assign rfl rfl); refine run_nil ?_; refine fin_seq ?_; refine goes_seq ?_; refine goes_region ?_; apply run_step rfl; (exact stp_move rfl rfl); apply run_step rfl; (first | exact stp_ix (j := i) rfl rfl rfl rfl rfl (by as_aux_lemma => kernel_rfl) rfl hiz (Nat.le_of_eq hlen.symm) | exact stp_loadR rfl (by as_aux_lemma => kernel_rfl) rfl rfl rfl hrowi hilm | (apply call_gate 35; exact stp_callR hP (by as_aux_lemma => kernel_rfl) rfl rfl ⟨rfl, trivial⟩ ⟨⟨_, rfl, .inl rfl⟩, trivial⟩ rfl rfl) | (apply call_gate 36; exact stp_callR hSz (by as_aux_lemma => kernel_rfl) rfl rfl ⟨rfl, trivial⟩ trivial rfl rfl) | (apply call_gate 20; exact stp_callR hG (by as_aux_lemma => kernel_rfl) rfl rfl ⟨rfl, trivial⟩ ⟨⟨_, rfl, .inr rfl⟩, ⟨_, rfl, .inl rfl⟩, trivial⟩ rfl rfl)); apply run_step rfl; (exact stp_not rfl rfl); apply run_step rfl; (exact stp_move rfl rfl); apply run_gYes rfl rfl rfl; (exact stp_move rfl rfl); apply run_gYes rfl rfl rfl; (first | exact stp_ix (j := i) rfl rfl rfl rfl rfl (by as_aux_lemma => kernel_rfl) rfl hiz (Nat.le_of_eq hlen.symm) | exact stp_loadR rfl (by as_aux_lemma => kernel_rfl) rfl rfl rfl hrowi hilm | (apply call_gate 35; exact stp_callR hP (by as_aux_lemma => kernel_rfl) rfl rfl ⟨rfl, trivial⟩ ⟨⟨_, rfl, .inl rfl⟩, trivial⟩ rfl rfl) | (apply call_gate 36; exact stp_callR hSz (by as_aux_lemma => kernel_rfl) rfl rfl ⟨rfl, trivial⟩ trivial rfl rfl) | (apply call_gate 20; exact stp_callR hG (by as_aux_lemma => kernel_rfl) rfl rfl ⟨rfl, trivial⟩ ⟨⟨_, rfl, .inr rfl⟩, ⟨_, rfl, .inl rfl⟩, trivial⟩ rfl rfl)); apply run_gYes rfl rfl rfl; (first | exact stp_ix (j := i) rfl rfl rfl rfl rfl (by as_aux_lemma => kernel_rfl) rfl hiz (Nat.le_of_eq hlen.symm) | exact stp_loadR rfl (by as_aux_lemma => kernel_rfl) rfl rfl rfl hrowi hilm | (apply call_gate 35; exact stp_callR hP (by as_aux_lemma => kernel_rfl) rfl rfl ⟨rfl, trivial⟩ ⟨⟨_, rfl, .inl rfl⟩, trivial⟩ rfl rfl) | (apply call_gate 36; exact stp_callR hSz (by as_aux_lemma => kernel_rfl) rfl rfl ⟨rfl, trivial⟩ trivial rfl rfl) | (apply call_gate 20; exact stp_callR hG (by as_aux_lemma => kernel_rfl) rfl rfl ⟨rfl, trivial⟩ ⟨⟨_, rfl, .inr rfl⟩, ⟨_, rfl, .inl rfl⟩, trivial⟩ rfl rfl)); apply run_gYes rfl rfl rfl; (exact stp_bin rfl rfl rfl rfl); apply run_step rfl; (exact stp_pickF rfl rfl rfl); refine run_nil ?_; refine fin_seq ?_)
      refine goes_cond rfl (fun e1 => ?_) (fun e1 => ?_)
      · have e1 : (m : Int) ≠ n := by simpa using e1
        rw [manB_no (fun h => by have := h.len i hiz; omega)]
        (refine goes_seq ?_; refine goes_region ?_; apply run_step rfl; (exact stp_assign rfl rfl); refine run_nil ?_; refine fin_seq ?_; refine goes_ret ?_; refine fin_ret_block ?_; refine fin_ret_then ?_; refine fin_ret_then ?_; refine fin_ret_block ?_; refine fin_ret_then ?_)
        exact fin_ret1 (.inl rfl) rfl (.tmp rfl) trivial trivial
      · have e1 : (m : Int) = n := by simpa using e1
        (refine goes_skip ?_; refine fin_block ?_; refine fin_seq ?_; refine goes_region ?_; apply run_step rfl; (exact stp_add rfl rfl rfl (by first | exact IntWalk.i64_in _ (by omega) | rfl)); apply run_step rfl; (exact stp_move rfl rfl); refine run_nil ?_)
        exact fin_round (i + 1) ⟨hiz, fun j hj => by
          by_cases e : j = i
          · subst e; exact ⟨by omega, hf.1, hf.2⟩
          · exact hrows j (by omega)⟩ (by omega) (Wk.of ⟨rfl, rfl, rfl, rfl, trivial⟩ ⟨rfl, rfl, trivial⟩ trivial)
  obtain rfl : i = zss.length := by omega
  have hrn : Rows zss n zss.length := hrows
  have hT := rows_leads hrn
  have hB := rows_back hrn
  (refine goes_exit ?_; refine fin_exit_then ?_; refine fin_exit_then ?_; refine fin_exit_eq ?_; refine fin_seq ?_; refine goes_seq ?_; refine goes_seq ?_; refine goes_region ?_; apply run_step rfl; (exact stp_fieldAddr (d := 0) rfl rfl rfl (by as_aux_lemma => kernel_rfl)); apply run_step rfl; (exact stp_loadF rfl (by as_aux_lemma => kernel_rfl) rfl rfl rfl rfl); apply run_step rfl; (exact stp_len rfl rfl rfl (by as_aux_lemma => kernel_rfl)); apply run_step rfl; (exact stp_move rfl rfl); refine run_nil ?_; refine fin_seq ?_; refine goes_block ?_)
  refine goes_loop (fun i : Nat => St.of [(1, o1 (.ptr 1 0)), (38, o1 (.sl 1003 0 zss.length)), (39, vv (I6 zss.length)), (40, vv (I6 i))] [(1003, rowsRo zss), (1, mxB zss.length)]) (fun i => i ≤ zss.length ∧ ∀ i' k, i' < i → i' + 2 ≤ k → k < zss.length → ∀ f, f < n → commAt zss i' k f) (fun i => zss.length - i) 0 ⟨Nat.zero_le _, fun j k hj => absurd hj (by omega)⟩ (Wk.of ⟨rfl, rfl, rfl, rfl, trivial⟩ ⟨rfl, rfl, trivial⟩ trivial) ?_
  clear hi hrows hlt
  rintro i ⟨hi, hci⟩
  (refine goes_seq ?_; refine goes_region ?_; apply run_step rfl; (exact stp_bin rfl rfl rfl rfl); refine run_nil ?_; refine fin_seq ?_; refine goes_seq ?_)
  refine goes_if rfl (fun hlt => ?_) (fun hlt => ?_)
  · have hiz : i < zss.length := by omega
    have hrowi : (irows zss)[i]? = some (ivals (lget zss i)) := irows_get hiz
    have hilm : (ivals (lget zss i)).length = n := by rw [ivals_len]; exact (hrn i hiz).1
    obtain ⟨mm, hmm⟩ : ∃ mm, min (i + 2) zss.length = mm := ⟨_, rfl⟩
    have hmR : mm ≤ zss.length := by omega
    have hi2 : IntKind.i64.wrap ((i : Int) + 2) = ((i + 2 : Nat) : Int) := IntWalk.i64_in _ (by omega)
    (refine goes_skip ?_; refine fin_seq ?_; refine goes_seq ?_; refine goes_block ?_; refine goes_seq ?_; refine goes_region ?_; apply run_step rfl; (exact stp_move rfl rfl); apply run_step rfl; (first | exact stp_ix (j := i) rfl rfl rfl rfl rfl (by as_aux_lemma => kernel_rfl) rfl hiz (Nat.le_of_eq hlen.symm) | exact stp_loadR rfl (by as_aux_lemma => kernel_rfl) rfl rfl rfl hrowi hilm | exact stp_add rfl rfl rfl hi2 | exact stp_minN rfl rfl rfl | exact stp_slice (k := 1) (l := min (i + 2) zss.length) (h := zss.length) rfl rfl rfl rfl (by as_aux_lemma => kernel_rfl) (by omega) (bnd_some rfl rfl) bnd_none (by omega) (Nat.le_refl _) (by rw [Nat.mul_one, Nat.zero_add]; exact Nat.le_of_eq hlen.symm)); apply run_step rfl; (first | exact stp_ix (j := i) rfl rfl rfl rfl rfl (by as_aux_lemma => kernel_rfl) rfl hiz (Nat.le_of_eq hlen.symm) | exact stp_loadR rfl (by as_aux_lemma => kernel_rfl) rfl rfl rfl hrowi hilm | exact stp_add rfl rfl rfl hi2 | exact stp_minN rfl rfl rfl | exact stp_slice (k := 1) (l := min (i + 2) zss.length) (h := zss.length) rfl rfl rfl rfl (by as_aux_lemma => kernel_rfl) (by omega) (bnd_some rfl rfl) bnd_none (by omega) (Nat.le_refl _) (by rw [Nat.mul_one, Nat.zero_add]; exact Nat.le_of_eq hlen.symm)); apply run_step rfl; (exact stp_assign rfl rfl); apply run_step rfl; (exact stp_assign rfl rfl); refine run_nil ?_; refine fin_seq ?_; refine goes_seq ?_; refine goes_region ?_; apply run_step rfl; (exact stp_fieldAddr (d := 0) rfl rfl rfl (by as_aux_lemma => kernel_rfl)); apply run_step rfl; (exact stp_loadF rfl (by as_aux_lemma => kernel_rfl) rfl rfl rfl rfl); apply run_step rfl; (exact stp_move rfl rfl); apply run_step rfl; (first | exact stp_ix (j := i) rfl rfl rfl rfl rfl (by as_aux_lemma => kernel_rfl) rfl hiz (Nat.le_of_eq hlen.symm) | exact stp_loadR rfl (by as_aux_lemma => kernel_rfl) rfl rfl rfl hrowi hilm | exact stp_add rfl rfl rfl hi2 | exact stp_minN rfl rfl rfl | exact stp_slice (k := 1) (l := min (i + 2) zss.length) (h := zss.length) rfl rfl rfl rfl (by as_aux_lemma => kernel_rfl) (by omega) (bnd_some rfl rfl) bnd_none (by omega) (Nat.le_refl _) (by rw [Nat.mul_one, Nat.zero_add]; exact Nat.le_of_eq hlen.symm)); apply run_step rfl; (exact stp_fieldAddr (d := 0) rfl rfl rfl (by as_aux_lemma => kernel_rfl)); apply run_step rfl; (exact stp_loadF rfl (by as_aux_lemma => kernel_rfl) rfl rfl rfl rfl); apply run_step rfl; (exact stp_len rfl rfl rfl (by as_aux_lemma => kernel_rfl)); apply run_step rfl; (first | exact stp_ix (j := i) rfl rfl rfl rfl rfl (by as_aux_lemma => kernel_rfl) rfl hiz (Nat.le_of_eq hlen.symm) | exact stp_loadR rfl (by as_aux_lemma => kernel_rfl) rfl rfl rfl hrowi hilm | exact stp_add rfl rfl rfl hi2 | exact stp_minN rfl rfl rfl | exact stp_slice (k := 1) (l := min (i + 2) zss.length) (h := zss.length) rfl rfl rfl rfl (by as_aux_lemma => kernel_rfl) (by omega) (bnd_some rfl rfl) bnd_none (by omega) (Nat.le_refl _) (by rw [Nat.mul_one, Nat.zero_add]; exact Nat.le_of_eq hlen.symm)); apply run_step rfl; (first | exact stp_ix (j := i) rfl rfl rfl rfl rfl (by as_aux_lemma => kernel_rfl) rfl hiz (Nat.le_of_eq hlen.symm) | exact stp_loadR rfl (by as_aux_lemma => kernel_rfl) rfl rfl rfl hrowi hilm | exact stp_add rfl rfl rfl hi2 | exact stp_minN rfl rfl rfl | exact stp_slice (k := 1) (l := min (i + 2) zss.length) (h := zss.length) rfl rfl rfl rfl (by as_aux_lemma => kernel_rfl) (by omega) (bnd_some rfl rfl) bnd_none (by omega) (Nat.le_refl _) (by rw [Nat.mul_one, Nat.zero_add]; exact Nat.le_of_eq hlen.symm)); apply run_step rfl; (exact stp_len rfl rfl rfl (by as_aux_lemma => kernel_rfl)); apply run_step rfl; (exact stp_move rfl rfl); refine run_nil ?_; refine fin_seq ?_; refine goes_block ?_)
    rw [hmm]
    refine goes_loop (fun j : Nat => St.of [(1, o1 (.ptr 1 0)), (6, o1 (.esl 1003 i 0 n)), (38, o1 (.sl 1003 0 zss.length)), (39, vv (I6 zss.length)), (40, vv (I6 i)), (53, o1 (.sl 1003 mm (zss.length - mm))), (54, vv (I6 (zss.length - mm : Nat))), (55, vv (I6 j))] [(1003, rowsRo zss), (1, mxB zss.length)]) (fun j => j ≤ zss.length - mm ∧ ∀ k', i + 2 ≤ k' → k' < mm + j → ∀ f, f < n → commAt zss i k' f) (fun j => zss.length - mm - j) 0 ⟨Nat.zero_le _, fun k' h1 h2 => absurd h1 (by omega)⟩ (Wk.of ⟨rfl, rfl, rfl, rfl, rfl, congrArg (fun z => some (o1 (.sl 1003 z (zss.length - mm)))) (Nat.zero_add mm), rfl, rfl, trivial⟩ ⟨rfl, rfl, trivial⟩ trivial) ?_
    rintro j ⟨hj, hck⟩
    (refine goes_seq ?_; refine goes_region ?_; apply run_step rfl; (exact stp_bin rfl rfl rfl rfl); refine run_nil ?_; refine fin_seq ?_; refine goes_seq ?_)
    refine goes_if rfl (fun hlj => ?_) (fun hlj => ?_)
    · obtain ⟨k, hk⟩ : ∃ k, mm + j = k := ⟨_, rfl⟩
      have hkz : k < zss.length := by omega
      have hki : i + 2 ≤ k := by omega
      have hjl : j < zss.length - mm := by omega
      have hml : mm + (zss.length - mm) ≤ (irows zss).length := by rw [hlen]; omega
      have hrowk : (irows zss)[k]? = some (ivals (lget zss k)) := irows_get hkz
      have hilk : (ivals (lget zss k)).length = n := by rw [ivals_len]; exact (hrn k hkz).1
      (refine goes_skip ?_; refine fin_seq ?_; refine goes_seq ?_; refine goes_block ?_; refine goes_seq ?_; refine goes_region ?_; apply run_step rfl; (first | exact stp_ixK (j := j) rfl rfl rfl rfl rfl (by as_aux_lemma => kernel_rfl) rfl hjl hml hk | exact stp_loadR rfl (by as_aux_lemma => kernel_rfl) rfl rfl rfl hrowk hilk | (apply call_gate 20; exact stp_callR hG (by as_aux_lemma => kernel_rfl) rfl rfl ⟨rfl, trivial⟩ ⟨⟨_, rfl, .inr rfl⟩, ⟨_, rfl, .inl rfl⟩, trivial⟩ rfl rfl)); apply run_step rfl; (first | exact stp_ixK (j := j) rfl rfl rfl rfl rfl (by as_aux_lemma => kernel_rfl) rfl hjl hml hk | exact stp_loadR rfl (by as_aux_lemma => kernel_rfl) rfl rfl rfl hrowk hilk | (apply call_gate 20; exact stp_callR hG (by as_aux_lemma => kernel_rfl) rfl rfl ⟨rfl, trivial⟩ ⟨⟨_, rfl, .inr rfl⟩, ⟨_, rfl, .inl rfl⟩, trivial⟩ rfl rfl)); apply run_step rfl; (exact stp_assign rfl rfl); refine run_nil ?_; refine fin_seq ?_; refine goes_seq ?_; refine goes_region ?_; apply run_step rfl; (first | exact stp_ixK (j := j) rfl rfl rfl rfl rfl (by as_aux_lemma => kernel_rfl) rfl hjl hml hk | exact stp_loadR rfl (by as_aux_lemma => kernel_rfl) rfl rfl rfl hrowk hilk | (apply call_gate 20; exact stp_callR hG (by as_aux_lemma => kernel_rfl) rfl rfl ⟨rfl, trivial⟩ ⟨⟨_, rfl, .inr rfl⟩, ⟨_, rfl, .inl rfl⟩, trivial⟩ rfl rfl)); apply run_step rfl; (exact stp_move rfl rfl); refine run_nil ?_; refine fin_seq ?_; refine goes_block ?_)
      refine goes_loop (fun f : Nat => St.of [(1, o1 (.ptr 1 0)), (6, o1 (.esl 1003 i 0 n)), (8, o1 (.esl 1003 k 0 n)), (38, o1 (.sl 1003 0 zss.length)), (39, vv (I6 zss.length)), (40, vv (I6 i)), (53, o1 (.sl 1003 mm (zss.length - mm))), (54, vv (I6 (zss.length - mm : Nat))), (55, vv (I6 j)), (59, vv (I6 n)), (60, vv (I6 f))] [(1003, rowsRo zss), (1, mxB zss.length)]) (fun f => f ≤ n ∧ ∀ f', f' < f → commAt zss i k f') (fun f => n - f) 0 ⟨Nat.zero_le _, fun f' h1 => absurd h1 (by omega)⟩ (Wk.of ⟨rfl, rfl, rfl, rfl, rfl, rfl, rfl, rfl, rfl, rfl, rfl, trivial⟩ ⟨rfl, rfl, trivial⟩ trivial) ?_
      rintro f ⟨hf, hcf⟩
      (refine goes_seq ?_; refine goes_region ?_; apply run_step rfl; (exact stp_bin rfl rfl rfl rfl); refine run_nil ?_; refine fin_seq ?_; refine goes_seq ?_)
      refine goes_if rfl (fun hlf => ?_) (fun hlf => ?_)
      · have hfn : f < n := by omega
        have hd1 := bTo_lt hT hfn (g := i) hiz
        have hd2 := bTo_lt hT hfn (g := k) hkz
        have hx1 := bTo_lt hT hd1.1 (g := k) hkz
        have hx2 := bTo_lt hT hd2.1 (g := i) hiz
        have hcm : commAt zss i k f ↔ bTo zss (bTo zss f i) k = bTo zss (bTo zss f k) i ∧ bTo zss f i ≠ bTo zss f k := Iff.rfl
        generalize bTo zss (bTo zss f i) k = x1 at *
        generalize bTo zss (bTo zss f k) i = x2 at *
        generalize bTo zss f i = d1 at *
        generalize bTo zss f k = d2 at *
        have g1 : (ivals (lget zss i))[f]? = some (I6 (d1 : Int)) := by rw [ivals_get (by rw [(hrn i hiz).1]; exact hfn), hd1.2]
        have g2 : (ivals (lget zss k))[f]? = some (I6 (d2 : Int)) := by rw [ivals_get (by rw [(hrn k hkz).1]; exact hfn), hd2.2]
        have g3 : (ivals (lget zss k))[d1]? = some (I6 (x1 : Int)) := by rw [ivals_get (by rw [(hrn k hkz).1]; exact hd1.1), hx1.2]
        have g4 : (ivals (lget zss i))[d2]? = some (I6 (x2 : Int)) := by rw [ivals_get (by rw [(hrn i hiz).1]; exact hd2.1), hx2.2]
        have hni : n ≤ (ivals (lget zss i)).length := Nat.le_of_eq hilm.symm
        have hnk : n ≤ (ivals (lget zss k)).length := Nat.le_of_eq hilk.symm
        (refine goes_skip ?_; refine fin_seq ?_; refine goes_seq ?_; refine goes_block ?_; refine goes_seq ?_; refine goes_region ?_; apply run_step rfl; (exact stp_move rfl rfl); apply run_step rfl; (exact stp_assign rfl rfl); refine run_nil ?_; refine fin_seq ?_; refine goes_seq ?_)
        by_cases e1 : (d1 : Int) = d2
        · apply goes_drawG 26 [] [[], [], [0, 1], [0, 1, 2], [], [], [4, 5], [4, 5, 6], [0, 1, 2, 3, 4, 5, 6, 7], [0, 1, 2, 3, 4, 5, 6, 7, 8], [0, 1, 2, 3, 4, 5, 6, 7, 8, 9], [0, 1, 2, 3, 4, 5, 6, 7, 8, 9], [0, 1, 2, 3, 4, 5, 6, 7, 8, 9], [0, 1, 2, 3, 4, 5, 6, 7, 8, 9, 11, 12], [0, 1, 2, 3, 4, 5, 6, 7, 8, 9, 11, 12, 13], [0, 1, 2, 3, 4, 5, 6, 7, 8, 9, 10, 11, 12, 13, 14], [0, 1, 2, 3, 4, 5, 6, 7, 8, 9, 10, 11, 12, 13, 14, 15], [0, 1, 2, 3, 4, 5, 6, 7, 8, 9], [0, 1, 2, 3, 4, 5, 6, 7, 8, 9], [0, 1, 2, 3, 4, 5, 6, 7, 8, 9], [0, 1, 2, 3, 4, 5, 6, 7, 8, 9, 18, 19], [0, 1, 2, 3, 4, 5, 6, 7, 8, 9, 18, 19, 20], [0, 1, 2, 3, 4, 5, 6, 7, 8, 9, 17, 18, 19, 20, 21], [0, 1, 2, 3, 4, 5, 6, 7, 8, 9, 17, 18, 19, 20, 21, 22], [0, 1, 2, 3, 4, 5, 6, 7, 8, 9, 10, 11, 12, 13, 14, 15, 16, 17, 18, 19, 20, 21, 22, 23], [0, 1, 2, 3, 4, 5, 6, 7, 8, 9, 10, 11, 12, 13, 14, 15, 16, 17, 18, 19, 20, 21, 22, 23, 24]] [63, 64, 65, 66, 67, 68, 69, 70, 71, 72, 73, 74, 75, 76, 77, 78, 79, 80, 81, 82, 83, 84, 85, 86, 87, 88] [] (by kernel_rfl) (by kernel_rfl)
          · (apply drawG_put rfl; (intro S1 hS; exact stp_move rfl (hS.op rfl)))
            (apply drawG_put rfl; (intro S1 hS; exact stp_move rfl (hS.op rfl)))
            (apply drawG_put rfl; (intro S1 hS; exact stp_ixE (j := f) rfl (hS.op rfl) (hS.op rfl) (hS.ch _ _ rfl) rfl (by as_aux_lemma => kernel_rfl) hrowi rfl hfn hni))
            (apply drawG_put rfl; (intro S1 hS; exact stp_loadE' rfl (by as_aux_lemma => kernel_rfl) (hS.op rfl) (hS.ch _ _ rfl) rfl hrowi g1))
            (apply drawG_put rfl; (intro S1 hS; exact stp_move rfl (hS.op rfl)))
            (apply drawG_put rfl; (intro S1 hS; exact stp_move rfl (hS.op rfl)))
            (apply drawG_put rfl; (intro S1 hS; exact stp_ixE (j := f) rfl (hS.op rfl) (hS.op rfl) (hS.ch _ _ rfl) rfl (by as_aux_lemma => kernel_rfl) hrowk rfl hfn hnk))
            (apply drawG_put rfl; (intro S1 hS; exact stp_loadE' rfl (by as_aux_lemma => kernel_rfl) (hS.op rfl) (hS.ch _ _ rfl) rfl hrowk g2))
            (apply drawG_put rfl; (intro S1 hS; exact stp_bin rfl (hS.op rfl) (hS.op rfl) (binEql e1)))
            (apply drawG_put rfl; (intro S1 hS; exact stp_move rfl (hS.op rfl)))
            apply drawG_no rfl rfl rfl rfl rfl
            apply drawG_no rfl rfl rfl rfl rfl
            apply drawG_no rfl rfl rfl rfl rfl
            apply drawG_no rfl rfl rfl rfl rfl
            apply drawG_no rfl rfl rfl rfl rfl
            apply drawG_no rfl rfl rfl rfl rfl
            apply drawG_no rfl rfl rfl rfl rfl
            apply drawG_no rfl rfl rfl rfl rfl
            apply drawG_no rfl rfl rfl rfl rfl
            apply drawG_no rfl rfl rfl rfl rfl
            apply drawG_no rfl rfl rfl rfl rfl
            apply drawG_no rfl rfl rfl rfl rfl
            apply drawG_no rfl rfl rfl rfl rfl
            apply drawG_no rfl rfl rfl rfl rfl
            apply drawG_no rfl rfl rfl rfl rfl
            (apply drawG_put rfl; (intro S1 hS; exact stp_pickT rfl (hS.op rfl) (hS.op rfl)))
            exact DrawG.nil
          · rfl
          ((refine rest_done (by as_aux_lemma => kernel_rfl) ?_; skip))
          (refine fin_seq ?_)
          refine goes_cond rfl (fun _ => ?_) (fun e => by cases e)
          rw [manB_no (fun h => by have := (hcm.1 (h.comm i k hki hkz f (by omega))).2; omega)]
          (refine goes_seq ?_; refine goes_region ?_; apply run_step rfl; (exact stp_assign rfl rfl); refine run_nil ?_; refine fin_seq ?_; refine goes_ret ?_; refine fin_ret_block ?_; refine fin_ret_then ?_; refine fin_ret_then ?_; refine fin_ret_block ?_; refine fin_ret_block ?_; refine fin_ret_then ?_; refine fin_ret_then ?_; refine fin_ret_block ?_; refine fin_ret_block ?_; refine fin_ret_then ?_; refine fin_ret_then ?_; refine fin_ret_block ?_; refine fin_ret_then ?_)
          exact fin_ret1 (.inl rfl) rfl (.tmp rfl) trivial trivial
        · apply goes_drawG 26 [] [[], [], [0, 1], [0, 1, 2], [], [], [4, 5], [4, 5, 6], [0, 1, 2, 3, 4, 5, 6, 7], [0, 1, 2, 3, 4, 5, 6, 7, 8], [0, 1, 2, 3, 4, 5, 6, 7, 8, 9], [0, 1, 2, 3, 4, 5, 6, 7, 8, 9], [0, 1, 2, 3, 4, 5, 6, 7, 8, 9], [0, 1, 2, 3, 4, 5, 6, 7, 8, 9, 11, 12], [0, 1, 2, 3, 4, 5, 6, 7, 8, 9, 11, 12, 13], [0, 1, 2, 3, 4, 5, 6, 7, 8, 9, 10, 11, 12, 13, 14], [0, 1, 2, 3, 4, 5, 6, 7, 8, 9, 10, 11, 12, 13, 14, 15], [0, 1, 2, 3, 4, 5, 6, 7, 8, 9], [0, 1, 2, 3, 4, 5, 6, 7, 8, 9], [0, 1, 2, 3, 4, 5, 6, 7, 8, 9], [0, 1, 2, 3, 4, 5, 6, 7, 8, 9, 18, 19], [0, 1, 2, 3, 4, 5, 6, 7, 8, 9, 18, 19, 20], [0, 1, 2, 3, 4, 5, 6, 7, 8, 9, 17, 18, 19, 20, 21], [0, 1, 2, 3, 4, 5, 6, 7, 8, 9, 17, 18, 19, 20, 21, 22], [0, 1, 2, 3, 4, 5, 6, 7, 8, 9, 10, 11, 12, 13, 14, 15, 16, 17, 18, 19, 20, 21, 22, 23], [0, 1, 2, 3, 4, 5, 6, 7, 8, 9, 10, 11, 12, 13, 14, 15, 16, 17, 18, 19, 20, 21, 22, 23, 24]] [63, 64, 65, 66, 67, 68, 69, 70, 71, 72, 73, 74, 75, 76, 77, 78, 79, 80, 81, 82, 83, 84, 85, 86, 87, 88] [] (by kernel_rfl) (by kernel_rfl)
          · (apply drawG_put rfl; (intro S1 hS; exact stp_move rfl (hS.op rfl)))
            (apply drawG_put rfl; (intro S1 hS; exact stp_move rfl (hS.op rfl)))
            (apply drawG_put rfl; (intro S1 hS; exact stp_ixE (j := f) rfl (hS.op rfl) (hS.op rfl) (hS.ch _ _ rfl) rfl (by as_aux_lemma => kernel_rfl) hrowi rfl hfn hni))
            (apply drawG_put rfl; (intro S1 hS; exact stp_loadE' rfl (by as_aux_lemma => kernel_rfl) (hS.op rfl) (hS.ch _ _ rfl) rfl hrowi g1))
            (apply drawG_put rfl; (intro S1 hS; exact stp_move rfl (hS.op rfl)))
            (apply drawG_put rfl; (intro S1 hS; exact stp_move rfl (hS.op rfl)))
            (apply drawG_put rfl; (intro S1 hS; exact stp_ixE (j := f) rfl (hS.op rfl) (hS.op rfl) (hS.ch _ _ rfl) rfl (by as_aux_lemma => kernel_rfl) hrowk rfl hfn hnk))
            (apply drawG_put rfl; (intro S1 hS; exact stp_loadE' rfl (by as_aux_lemma => kernel_rfl) (hS.op rfl) (hS.ch _ _ rfl) rfl hrowk g2))
            (apply drawG_put rfl; (intro S1 hS; exact stp_bin rfl (hS.op rfl) (hS.op rfl) (binEql' e1)))
            (apply drawG_put rfl; (intro S1 hS; exact stp_move rfl (hS.op rfl)))
            (apply drawG_yes rfl rfl rfl; (intro S1 hS; exact stp_move rfl (hS.op rfl)))
            (apply drawG_yes rfl rfl rfl; (intro S1 hS; exact stp_move rfl (hS.op rfl)))
            (apply drawG_yes rfl rfl rfl; (intro S1 hS; exact stp_move rfl (hS.op rfl)))
            (apply drawG_yes rfl rfl rfl; (intro S1 hS; exact stp_ixE (j := f) rfl (hS.op rfl) (hS.op rfl) (hS.ch _ _ rfl) rfl (by as_aux_lemma => kernel_rfl) hrowi rfl hfn hni))
            (apply drawG_yes rfl rfl rfl; (intro S1 hS; exact stp_loadE' rfl (by as_aux_lemma => kernel_rfl) (hS.op rfl) (hS.ch _ _ rfl) rfl hrowi g1))
            (apply drawG_yes rfl rfl rfl; (intro S1 hS; exact stp_ixE (j := d1) rfl (hS.op rfl) (hS.op rfl) (hS.ch _ _ rfl) rfl (by as_aux_lemma => kernel_rfl) hrowk rfl hd1.1 hnk))
            (apply drawG_yes rfl rfl rfl; (intro S1 hS; exact stp_loadE' rfl (by as_aux_lemma => kernel_rfl) (hS.op rfl) (hS.ch _ _ rfl) rfl hrowk g3))
            (apply drawG_yes rfl rfl rfl; (intro S1 hS; exact stp_move rfl (hS.op rfl)))
            (apply drawG_yes rfl rfl rfl; (intro S1 hS; exact stp_move rfl (hS.op rfl)))
            (apply drawG_yes rfl rfl rfl; (intro S1 hS; exact stp_move rfl (hS.op rfl)))
            (apply drawG_yes rfl rfl rfl; (intro S1 hS; exact stp_ixE (j := f) rfl (hS.op rfl) (hS.op rfl) (hS.ch _ _ rfl) rfl (by as_aux_lemma => kernel_rfl) hrowk rfl hfn hnk))
            (apply drawG_yes rfl rfl rfl; (intro S1 hS; exact stp_loadE' rfl (by as_aux_lemma => kernel_rfl) (hS.op rfl) (hS.ch _ _ rfl) rfl hrowk g2))
            (apply drawG_yes rfl rfl rfl; (intro S1 hS; exact stp_ixE (j := d2) rfl (hS.op rfl) (hS.op rfl) (hS.ch _ _ rfl) rfl (by as_aux_lemma => kernel_rfl) hrowi rfl hd2.1 hni))
            (apply drawG_yes rfl rfl rfl; (intro S1 hS; exact stp_loadE' rfl (by as_aux_lemma => kernel_rfl) (hS.op rfl) (hS.ch _ _ rfl) rfl hrowi g4))
            (apply drawG_yes rfl rfl rfl; (intro S1 hS; exact stp_bin rfl (hS.op rfl) (hS.op rfl) rfl))
            (apply drawG_put rfl; (intro S1 hS; exact stp_pickF rfl (hS.op rfl) (hS.op rfl)))
            exact DrawG.nil
          · rfl
          ((refine rest_done (by as_aux_lemma => kernel_rfl) ?_; skip))
          (refine fin_seq ?_)
          refine goes_cond rfl (fun e2 => ?_) (fun e2 => ?_)
          · have e2 : (x1 : Int) ≠ x2 := by simpa using e2
            rw [manB_no (fun h => by have := (hcm.1 (h.comm i k hki hkz f (by omega))).1; omega)]
            (refine goes_seq ?_; refine goes_region ?_; apply run_step rfl; (exact stp_assign rfl rfl); refine run_nil ?_; refine fin_seq ?_; refine goes_ret ?_; refine fin_ret_block ?_; refine fin_ret_then ?_; refine fin_ret_then ?_; refine fin_ret_block ?_; refine fin_ret_block ?_; refine fin_ret_then ?_; refine fin_ret_then ?_; refine fin_ret_block ?_; refine fin_ret_block ?_; refine fin_ret_then ?_; refine fin_ret_then ?_; refine fin_ret_block ?_; refine fin_ret_then ?_)
            exact fin_ret1 (.inl rfl) rfl (.tmp rfl) trivial trivial
          · have e2 : (x1 : Int) = x2 := by simpa using e2
            (refine goes_skip ?_; refine fin_block ?_; refine fin_seq ?_; refine goes_region ?_; apply run_step rfl; (exact stp_add rfl rfl rfl (by first | exact IntWalk.i64_in _ (by omega) | rfl)); apply run_step rfl; (exact stp_move rfl rfl); refine run_nil ?_)
            exact fin_round (f + 1) ⟨hfn, fun f' hf' => by
              by_cases e : f' = f
              · subst e; exact hcm.2 ⟨by omega, by omega⟩
              · exact hcf f' (by omega)⟩ (by omega) (Wk.of ⟨rfl, rfl, rfl, rfl, rfl, rfl, rfl, rfl, rfl, rfl, rfl, trivial⟩ ⟨rfl, rfl, trivial⟩ trivial)
      · (refine goes_exit ?_; refine fin_exit_then ?_; refine fin_exit_then ?_; refine fin_exit_eq ?_; refine fin_block ?_; refine fin_seq ?_; refine goes_region ?_; apply run_step rfl; (exact stp_add rfl rfl rfl (by first | exact IntWalk.i64_in _ (by omega) | rfl)); apply run_step rfl; (exact stp_move rfl rfl); refine run_nil ?_)
        exact fin_round (j + 1) ⟨by omega, fun k' h1 h2 f' hf' => by
          by_cases e : k' = k
          · subst e; exact hcf f' (by omega)
          · exact hck k' h1 (by omega) f' hf'⟩ (by omega) (Wk.of ⟨rfl, rfl, rfl, rfl, rfl, rfl, rfl, rfl, trivial⟩ ⟨rfl, rfl, trivial⟩ trivial)
    · (refine goes_exit ?_; refine fin_exit_then ?_; refine fin_exit_then ?_; refine fin_exit_eq ?_; refine fin_block ?_; refine fin_seq ?_; refine goes_region ?_; apply run_step rfl; (exact stp_add rfl rfl rfl (by first | exact IntWalk.i64_in _ (by omega) | rfl)); apply run_step rfl; (exact stp_move rfl rfl); refine run_nil ?_)
      exact fin_round (i + 1) ⟨hiz, fun i' k' h1 h2 h3 => by
        by_cases e : i' = i
        · subst e; exact hck k' h2 (by omega)
        · exact hci i' k' (by omega) h2 h3⟩ (by omega) (Wk.of ⟨rfl, rfl, rfl, rfl, trivial⟩ ⟨rfl, rfl, trivial⟩ trivial)
  obtain rfl : i = zss.length := by omega
  have hM : Man0 zss := ⟨by omega, by omega, by omega, by omega, by rw [hn]; exact hrn, fun i k h1 h2 f hf => hci i k (by omega) h1 h2 f (by omega)⟩
  have hO := (orbI_fc zss n zss.length rfl hT hB (by omega) (by omega) (by omega)).nm [(1003, 1003), (16, 96)] (by kernel_rfl)
  have hO : FC Tryd.prog 37 [(1003, rowsRo zss)] [vv (I6 n), o1 (.sl 1003 0 zss.length)] [(96, leOw (labs zss n).1)] (.tup [.one (.sl 96 0 n), .one (.val (I6 (labs zss n).2))]) [] := hO
  have hv : manB zss = (((labs zss n).2 : Int) == 1) := by
    rw [hM.man, hn]
    have := labs_one hT hB (n := n) (by omega)
    by_cases hc : (orb zss n 0).2.length = n
    · rw [hc, this.2 hc]; simp
    · have h1 : (labs zss n).2 ≠ 1 := fun h => hc (this.1 h)
      have h2 : ((labs zss n).2 : Int) ≠ 1 := by omega
      have h3 : ((orb zss n 0).2.length : Int) ≠ n := by omega
      rw [beq_eq_false_iff_ne.2 h2, beq_eq_false_iff_ne.2 h3]
  rw [hv]
  (refine goes_exit ?_; refine fin_exit_then ?_; refine fin_exit_then ?_; refine fin_exit_eq ?_; refine fin_seq ?_; refine goes_seq ?_)
  apply goes_draw 5 [] [[], [], [1], [0, 1, 2], [0, 1, 2, 3], [0, 1, 2, 3, 4], [0, 1, 2, 3, 4], [0, 1, 2, 3, 4, 5], [0, 1, 2, 3, 4, 5, 6, 7]] [93, 94, 95, 96, 92] [96] (by kernel_rfl) (by kernel_rfl)
  · (apply draw_put rfl; (intro S1 hS; apply call_gate 20; exact stp_callR hG (by as_aux_lemma => kernel_rfl) rfl (opL_le hS rfl) ⟨rfl, trivial⟩ (allIn_le hS ⟨⟨_, rfl, .inr rfl⟩, ⟨_, rfl, .inl rfl⟩, trivial⟩) rfl rfl))
    (apply draw_put rfl; (intro S1 hS; exact stp_fieldAddr (d := 0) rfl (hS.op rfl) (hS.ch _ _ rfl) (by as_aux_lemma => kernel_rfl)))
    (apply draw_put rfl; (intro S1 hS; exact stp_loadF rfl (by as_aux_lemma => kernel_rfl) (hS.op rfl) (hS.ch _ _ rfl) rfl rfl))
    (apply draw_new rfl; (intro S1 hS; apply call_gate 37; exact stp_callN hO (by as_aux_lemma => kernel_rfl) rfl (opL_le hS rfl) ⟨rfl, rfl, trivial⟩ (allIn_le hS ⟨⟨_, rfl, .inl rfl⟩, trivial⟩) rfl rfl rfl))
    (apply draw_put rfl; (intro S1 hS; exact stp_move rfl (hS.op rfl)))
    exact Draw.nil
  · rfl
  refine rest_join (St.of [(11, vv (I6 (labs zss n).2))] []) ?_ ?_
  · ((apply rest_two 5 6 rfl (by as_aux_lemma => kernel_rfl) rfl rfl rfl rfl; (exact stp_extract rfl rfl rfl); (exact stp_extract rfl rfl rfl); (focus ((apply rest_two 6 7 rfl (by as_aux_lemma => kernel_rfl) rfl rfl rfl rfl; (exact stp_extract rfl rfl rfl); (exact stp_assign rfl rfl); (focus ((apply rest_one 7 rfl (by as_aux_lemma => kernel_rfl) rfl rfl; (exact stp_assign rfl rfl)); (apply rest_one 8 rfl (by as_aux_lemma => kernel_rfl) rfl rfl; (exact stp_assign rfl rfl)); (refine rest_done (by as_aux_lemma => kernel_rfl) ?_; exact fin_join (Wk.of ⟨rfl, trivial⟩ trivial trivial)))); (focus ((apply rest_one 6 rfl (by as_aux_lemma => kernel_rfl) rfl rfl; (exact stp_extract rfl rfl rfl)); (apply rest_one 8 rfl (by as_aux_lemma => kernel_rfl) rfl rfl; (exact stp_assign rfl rfl)); (refine rest_done (by as_aux_lemma => kernel_rfl) ?_; exact fin_join (Wk.of ⟨rfl, trivial⟩ trivial trivial))))))); (focus ((apply rest_one 5 rfl (by as_aux_lemma => kernel_rfl) rfl rfl; (exact stp_extract rfl rfl rfl)); (apply rest_one 7 rfl (by as_aux_lemma => kernel_rfl) rfl rfl; (exact stp_assign rfl rfl)); (apply rest_one 8 rfl (by as_aux_lemma => kernel_rfl) rfl rfl; (exact stp_assign rfl rfl)); (refine rest_done (by as_aux_lemma => kernel_rfl) ?_; exact fin_join (Wk.of ⟨rfl, trivial⟩ trivial trivial))))))
  (refine fin_seq ?_; refine goes_seq ?_; refine goes_region ?_; apply run_step rfl; (exact stp_move rfl rfl); apply run_step rfl; (exact stp_bin rfl rfl rfl rfl); apply run_step rfl; (exact stp_assign rfl rfl); refine run_nil ?_; refine fin_seq ?_; refine goes_ret ?_)
  exact fin_ret1 (.inl rfl) rfl (.tmp rfl) trivial trivial
end Go.Proofs.YtmdhljleaijkbaaDoor

/- Maniplexes: the test and the number of flags, in words. -/
namespace Go.Proofs.YtmdhljleaijkbaaDoor
open Go.RowKit

theorem specManW {E1 E : Nat} {lo hi : Nat} {v : Value} {d : List (List Int)} (w : World) (h : OwM E1 E w lo hi v d) (h1 : d.length ≤ 1048576) (h2 : ∀ i, i < d.length → (lget d i).length ≤ 1048576) :
    Calls Tryd.prog 12 #[v] w fun e w' => e = .returned (.bool (manB d)) ∧ Below w.heap.size w w' := one_val (callM (fun _ => manS_fc d h1 h2) h)
theorem implManW {E1 E : Nat} {lo hi : Nat} {v : Value} {d : List (List Int)} (w : World) (h : OwM E1 E w lo hi v d) (h1 : d.length ≤ 1048576) (h2 : ∀ i, i < d.length → (lget d i).length ≤ 1048576) :
    Calls Tryd.prog 18 #[v] w fun e w' => e = .returned (.bool (manB d)) ∧ Below w.heap.size w w' := one_val (callM (fun _ => manI_fc d h1 h2) h)
theorem size1_any (ao : Option Addr) (n c : Nat) (w : World) : Calls Tryd.prog 36 #[.slice ao n c] w fun e w' => e = .returned (.int .i64 n) ∧ w = w' := by
  go_enter Tryd.func36, Tryd.ntmps36
  go_wp2
  go_ret
  exact ⟨rfl, rfl⟩
theorem flagsI_any (mb : Nat) (ao : Option Addr) (n c m : Nat) (d : List (List Int)) (w : World) (hm : Blk w mb 26 #[.slice ao n c]) (h : RdSS w (.slice ao n c) d) (hn : 0 < n) (hl : (lget d 0).length = m) (hm4 : m ≤ 1000000) :
    Calls Tryd.prog 20 #[.pointer (some ⟨mb, 0, none⟩)] w fun e w' => e = .returned (.int .i64 m) ∧ w = w' := by
  obtain ⟨a1, n1, c1, e, hi⟩ := h
  injection e with e1 e2 e3
  subst e1 e2 e3
  obtain ⟨b, off, a', n', c', rfl, hc, hi'⟩ := hi.at_ hn
  have hnm : n' = m := by rw [← hi'.1]; exact hl
  subst hnm
  have x0 := hm.cell 0
  simp at x0 hc
  clear hi hi' hl hm
  go_enter Tryd.func20, Tryd.ntmps20
  go_wp2_with (go_at_call 36; refine (size1_any _ _ _ _).mono ?_; rintro e w' ⟨rfl, hw⟩; subst hw)
  go_ret
  exact ⟨rfl, rfl⟩
theorem flagsS_any (ao : Option Addr) (n c m : Nat) (d : List (List Int)) (w : World) (h : RdSS w (.slice ao n c) d) (hn : 0 < n) (hl : (lget d 0).length = m) (hm4 : m ≤ 1000000) :
    Calls Tryd.prog 14 #[.agg #[.slice ao n c]] w fun e w' => e = .returned (.int .i64 m) ∧ Below w.heap.size w w' := by
  obtain ⟨a1, n1, c1, e, hi⟩ := h
  injection e with e1 e2 e3
  subst e1 e2 e3
  obtain ⟨b, off, a', n', c', rfl, hc, hi'⟩ := hi.at_ hn
  have hnm : n' = m := by rw [← hi'.1]; exact hl
  subst hnm
  have hb := below_alloc1 w (.cells #[.slice (some ⟨b, off, none⟩) n c] 26)
  have hc2 := (hb.cell (p := ⟨b, off + 0, none⟩) (World.block_lt_of_cell? w _ hc)).trans hc
  have hc3 : (w.alloc (.cells #[.slice (some ⟨b, off, none⟩) n c] 26)).cell? ⟨b, off, none⟩ = some (.slice a' n' c') := hc2
  have kb : Blk (w.alloc (.cells #[.slice (some ⟨b, off, none⟩) n c] 26)) w.heap.size 26 #[.slice (some ⟨b, off, none⟩) n c] := blk_at rfl
  have x0 := kb.cell 0
  clear hi hi' hl hc hc2
  go_enter Tryd.func14, Tryd.ntmps14
  go_wp2
  go_ret
  exact ⟨rfl, hb⟩
end Go.Proofs.YtmdhljleaijkbaaDoor

/- A maniplex that grows, row by row, in a box of its own. -/
namespace Go.Proofs.YtmdhljleaijkbaaDoor
open Go.RowKit

/-- the box (bx), its rows from block lo on -/
structure MBx (w wr : World) (bx lo : Nat) (ao : Option Addr) (m c : Nat) (us : List Value) (ds : List (List Int)) : Prop where
  box : Blk wr bx 26 #[.slice ao m c]
  row : OwR (OwS 2) wr lo wr.heap.size 38 ao m c us ds
  at_ : w.heap.size ≤ bx ∧ bx < lo ∧ lo ≤ wr.heap.size
  bel : Below w.heap.size w wr
  few : m ≤ 1000
theorem own_nilMx {E1 E : Nat} {w : World} {lo hi : Nat} : OwM E1 E w lo hi (.agg #[.slice none 0 0]) [] := ⟨none, 0, 0, [], rfl, OwR.empty_ (Own.nil_ _ _ _) (fun g hg => by cases hg)⟩
section
variable {w wr w2 w3 w4 : World} {bx lo m c n1 c1 c2 : Nat} {ao a1 ao2 : Option Addr} {us : List Value} {ds : List (List Int)} {zs : List Int}
theorem MBx.below (st : MBx w wr bx lo ao m c us ds) (b : Below wr.heap.size wr w2) : MBx w w2 bx lo ao m c us ds := by
  obtain ⟨h1, h2, h3⟩ := st.at_
  have s := b.size
  exact ⟨st.box.belowS b, (st.row.below (innerS _) b).mono (Nat.le_refl _) s, ⟨h1, h2, by omega⟩, st.bel.trans (b.mono (by omega)), st.few⟩
theorem MBx.start (hb : Below w.heap.size w wr) (k : Blk wr bx 26 #[.slice none 0 0]) (h1 : w.heap.size ≤ bx) : MBx w wr bx (bx + 1) none 0 0 [] [] := by
  have hl := k.lt
  exact ⟨k, OwR.empty_ (Own.nil_ _ _ _) (fun g hg => by cases hg), ⟨h1, by omega, by omega⟩, hb, by omega⟩
theorem MBx.boxG (st : MBx w wr bx lo ao m c us ds) (hg : wr.grownBy w4 (bk ao)) : Blk w4 bx 26 #[.slice ao m c] := by
  obtain ⟨h1, h2, h3⟩ := st.at_
  unfold Blk
  rw [hg.block bx st.box.lt (fun e => by have := (st.row.own.lt _ e.symm).1; omega)]
  exact st.box
/-- a row is laid behind the others -/
theorem MBx.push (st : MBx w wr bx lo ao m c us ds) (hm : m + 1 ≤ 1000) (b2 : Below wr.heap.size wr w2) (o1 : Own w2 wr.heap.size 2 a1 n1 c1 (zs.map (Value.int .i64))) (b3 : Below w2.heap.size w2 w3) (o4 : Own w4 lo 38 ao2 (m + 1) c2 (us ++ [.slice a1 n1 c1]))
    (g4 : w3.grownBy w4 (bk ao)) (hat : bk ao2 = bk ao ∨ ∃ g, bk ao2 = some g ∧ w2.heap.size ≤ g) :
    MBx w (w4.setCell ⟨bx, 0, none⟩ (.slice ao2 (m + 1) c2)) bx lo ao2 (m + 1) c2 (us ++ [.slice a1 n1 c1]) (ds ++ [zs]) := by
  obtain ⟨h1, h2, h3⟩ := st.at_
  have hR := rows_push2 st.row h3 b2 o1 b3 o4 g4 hat
  have s2 := b2.size
  have s3 := b3.size
  have s4 := g4.size
  have hbx := st.box.lt
  have B4 : Below w.heap.size w w4 := (st.bel.trans ((b2.trans (b3.mono s2)).mono (by omega))).grown g4 (by omega) (fun g hg => by have := (st.row.own.lt g hg).1; omega)
  have hh : (w4.setCell ⟨bx, 0, none⟩ (.slice ao2 (m + 1) c2)).heap.size = w4.heap.size := by simp [World.setCell]
  have k : ∀ g, g < wr.heap.size → bk ao ≠ some g → w4.heap[g]? = wr.heap[g]? := fun g hg hne => by
    rw [g4.block g (by omega) (fun e => hne e.symm), b3.block g (by omega), b2.block g hg]
  refine ⟨?_, ?_, ⟨h1, h2, by rw [hh]; omega⟩, B4.setCell (by simp; omega) _, hm⟩
  · have : Blk w4 bx 26 #[.slice ao m c] := by unfold Blk; rw [k bx hbx (fun e => by have := (st.row.own.lt _ e).1; omega)]; exact st.box
    simpa using this.set_ 0 (.slice ao2 (m + 1) c2)
  · rw [hh]
    exact hR.same (innerS _) fun g h1 _ _ => Below.heap_setCell _ _ _ _ (by simp; omega)
theorem MBx.done (st : MBx w wr bx lo ao m c us ds) {p : Addr} (hp : p.block < bx) (u : Value) {lo' : Nat} (hl : lo' ≤ w.heap.size) : OwM 2 38 (wr.setCell p u) lo' (wr.setCell p u).heap.size (.agg #[.slice ao m c]) ds := by
  obtain ⟨h1, h2, h3⟩ := st.at_
  have hh : (wr.setCell p u).heap.size = wr.heap.size := by simp [World.setCell]
  refine ⟨ao, m, c, us, rfl, ?_⟩
  rw [hh]
  exact (st.row.same (innerS _) fun g h1 _ _ => Below.heap_setCell _ _ _ _ (by omega)).mono (by omega) (Nat.le_refl _)
theorem MBx.cell (st : MBx w wr bx lo ao m c us ds) : wr.cell? ⟨bx, 0, none⟩ = some (.slice ao m c) := by
  have := st.box.cell 0
  simpa using this
end
end Go.Proofs.YtmdhljleaijkbaaDoor

/- Groups of permutations, on lists: the search for the elements, ascending lists of lists. No program in sight. -/
namespace Go.Proofs.YtmdhljleaijkbaaDoor

/-- p, then q -/
def thenL (p q : List Int) : List Int := p.map fun x => iget q x.toNat
theorem thenL_len (p q : List Int) : (thenL p q).length = p.length := by simp [thenL]
def unitL (n : Nat) : List Int := (List.range n).map fun (i : Nat) => (i : Int)
/-- one list comes before another one -/
def ltL : List Int → List Int → Bool
  | [], [] => false
  | [], _ :: _ => true
  | _ :: _, [] => false
  | a :: r, b :: s => if a < b then true else if b < a then false else ltL r s
theorem ltL_irr : ∀ a : List Int, ltL a a = false
  | [] => rfl
  | a :: r => by unfold ltL; rw [if_neg (by omega), if_neg (by omega)]; exact ltL_irr r
theorem ltL_tri : ∀ a b : List Int, ltL a b = true ∨ a = b ∨ ltL b a = true
  | [], [] => .inr (.inl rfl)
  | [], _ :: _ => .inl rfl
  | _ :: _, [] => .inr (.inr rfl)
  | a :: r, b :: s => by
    unfold ltL
    by_cases h1 : a < b
    · left; rw [if_pos h1]
    · by_cases h2 : b < a
      · right; right; rw [if_pos h2]
      · obtain rfl : a = b := by omega
        rw [if_neg h1, if_neg h1]
        rcases ltL_tri r s with h | h | h
        · exact .inl h
        · exact .inr (.inl (by rw [h]))
        · right; right; rw [if_neg h1, if_neg h1]; exact h
theorem ltL_trans : ∀ {a b c : List Int}, ltL a b = true → ltL b c = true → ltL a c = true
  | [], [], _, h, _ => by simp [ltL] at h
  | [], _ :: _, [], _, h => by simp [ltL] at h
  | [], _ :: _, _ :: _, _, _ => rfl
  | _ :: _, [], _, h, _ => by simp [ltL] at h
  | _ :: _, _ :: _, [], _, h => by simp [ltL] at h
  | a :: r, b :: s, c :: t, h1, h2 => by
    unfold ltL at h1 h2 ⊢
    by_cases hab : a < b
    · by_cases hbc : b < c
      · rw [if_pos (by omega)]
      · rw [if_neg hbc] at h2
        by_cases hcb : c < b
        · rw [if_pos hcb] at h2; cases h2
        · rw [if_pos (by omega)]
    · rw [if_neg hab] at h1
      by_cases hba : b < a
      · rw [if_pos hba] at h1; cases h1
      · rw [if_neg hba] at h1
        by_cases hbc : b < c
        · rw [if_pos (by omega)]
        · rw [if_neg hbc] at h2
          by_cases hcb : c < b
          · rw [if_pos hcb] at h2; cases h2
          · rw [if_neg hcb] at h2
            rw [if_neg (by omega), if_neg (by omega)]
            exact ltL_trans h1 h2
theorem ltL_asym {a b : List Int} (h : ltL a b = true) : ltL b a = false := by
  cases h2 : ltL b a with
  | false => rfl
  | true => have := ltL_trans h h2; rw [ltL_irr] at this; cases this
/-- ascending -/
def AscL (xs : List (List Int)) : Prop := xs.Pairwise fun a b => ltL a b = true
theorem ascL_uniq : ∀ {xs ys : List (List Int)}, AscL xs → AscL ys → (∀ z, z ∈ xs ↔ z ∈ ys) → xs = ys
  | [], [], _, _, _ => rfl
  | [], y :: _, _, _, h => by have := (h y).2 (by simp); simp at this
  | x :: _, [], _, _, h => by have := (h x).1 (by simp); simp at this
  | x :: xs, y :: ys, hx, hy, h => by
    have hx' := List.pairwise_cons.1 hx
    have hy' := List.pairwise_cons.1 hy
    have hxy : x = y := by
      have h1 := (h x).1 (by simp)
      have h2 := (h y).2 (by simp)
      rw [List.mem_cons] at h1 h2
      rcases h1 with h1 | h1
      · exact h1
      · rcases h2 with h2 | h2
        · exact h2.symm
        · have a := hy'.1 x h1
          have b := hx'.1 y h2
          rw [ltL_asym a] at b; cases b
    subst hxy
    have := ascL_uniq hx'.2 hy'.2 fun z => by
      constructor
      · intro hz
        have := (h z).1 (List.mem_cons_of_mem _ hz)
        rcases List.mem_cons.1 this with e | e
        · subst e; have := hx'.1 z hz; rw [ltL_irr] at this; cases this
        · exact e
      · intro hz
        have := (h z).2 (List.mem_cons_of_mem _ hz)
        rcases List.mem_cons.1 this with e | e
        · subst e; have := hy'.1 z hz; rw [ltL_irr] at this; cases this
        · exact e
    rw [this]
/-- how many stand before p -/
def lowL (xs : List (List Int)) (p : List Int) : Nat := (xs.filter fun a => ltL a p).length
theorem lowL_le (xs : List (List Int)) (p : List Int) : lowL xs p ≤ xs.length := List.length_filter_le _ _
theorem lowL_at : ∀ {xs : List (List Int)} {p : List Int}, AscL xs → ∀ j, j < xs.length → (ltL (lget xs j) p = true ↔ j < lowL xs p)
  | [], _, _, j, h => by simp at h
  | x :: xs, p, hx, j, hj => by
    have hx' := List.pairwise_cons.1 hx
    cases hp : ltL x p with
    | true =>
      have e : lowL (x :: xs) p = lowL xs p + 1 := by simp [lowL, hp]
      rw [e]
      cases j with
      | zero => simp [lget, hp]
      | succ j =>
        have := lowL_at hx'.2 (p := p) j (by simpa using hj)
        have e2 : lget (x :: xs) (j + 1) = lget xs j := by simp [lget]
        rw [e2, this]; omega
    | false =>
      have hall : ∀ a ∈ xs, ltL a p = false := fun a ha => by
        cases h : ltL a p with
        | false => rfl
        | true => have := ltL_trans (hx'.1 a ha) h; rw [hp] at this; cases this
      have e : lowL (x :: xs) p = 0 := by
        have : xs.filter (fun a => ltL a p) = [] := List.filter_eq_nil_iff.2 fun a ha => by rw [hall a ha]; simp
        simp [lowL, hp, this]
      rw [e]
      constructor
      · intro h
        cases j with
        | zero => simp [lget, hp] at h
        | succ j =>
          have e2 : lget (x :: xs) (j + 1) = lget xs j := by simp [lget]
          rw [e2, hall _ (lget_mem (by simpa using hj))] at h; cases h
      · intro h; omega
/-- a list is put at its place -/
def putAt (xs : List (List Int)) (p : List Int) : List (List Int) := xs.take (lowL xs p) ++ p :: xs.drop (lowL xs p)
theorem mem_low {xs : List (List Int)} {p : List Int} (h : AscL xs) : p ∈ xs ↔ lowL xs p < xs.length ∧ lget xs (lowL xs p) = p := by
  constructor
  · intro hp
    obtain ⟨j, hj, e⟩ := List.getElem_of_mem hp
    have ej : lget xs j = p := by rw [lget_lt hj]; exact e
    have h1 : ¬ j < lowL xs p := fun q => by have := (lowL_at h j hj).2 q; rw [ej, ltL_irr] at this; cases this
    have h2 : ¬ lowL xs p < j := fun q => by
      have hl : lowL xs p < xs.length := by omega
      have hn : ¬ (ltL (lget xs (lowL xs p)) p = true) := fun t => by have := (lowL_at h _ hl).1 t; omega
      have := List.pairwise_iff_getElem.1 h _ _ hl hj q
      rw [← lget_lt hl, ← lget_lt hj, ej] at this
      exact hn this
    obtain rfl : lowL xs p = j := by omega
    exact ⟨hj, ej⟩
  · rintro ⟨h1, h2⟩
    rw [← h2]; exact lget_mem h1
theorem putAt_asc {xs : List (List Int)} {p : List Int} (h : AscL xs) (hp : p ∉ xs) : AscL (putAt xs p) ∧ ∀ z, z ∈ putAt xs p ↔ z ∈ xs ∨ z = p := by
  have htd := List.take_append_drop (lowL xs p) xs
  have hlt : ∀ a ∈ xs.take (lowL xs p), ltL a p = true := fun a ha => by
    obtain ⟨j, hj, e⟩ := List.getElem_of_mem ha
    rw [List.length_take] at hj
    rw [List.getElem_take] at e
    have := (lowL_at h (p := p) j (by omega)).2 (by omega)
    rw [lget_lt (by omega), e] at this; exact this
  have hgt : ∀ a ∈ xs.drop (lowL xs p), ltL p a = true := fun a ha => by
    obtain ⟨j, hj, e⟩ := List.getElem_of_mem ha
    rw [List.length_drop] at hj
    rw [List.getElem_drop] at e
    rcases ltL_tri a p with t | t | t
    · have := (lowL_at h (lowL xs p + j) (by omega)).1 (by rw [lget_lt (by omega), e]; exact t)
      omega
    · subst t; exact absurd (by rw [← e]; exact List.getElem_mem _) hp
    · exact t
  have h' := h
  unfold AscL at h'
  rw [← htd, List.pairwise_append] at h'
  refine ⟨?_, fun z => ?_⟩
  · unfold AscL putAt
    rw [List.pairwise_append, List.pairwise_cons]
    refine ⟨h'.1, ⟨hgt, h'.2.1⟩, fun a ha b hb => ?_⟩
    rcases List.mem_cons.1 hb with e | e
    · subst e; exact hlt a ha
    · exact h'.2.2 a ha b e
  · unfold putAt
    rw [List.mem_append, List.mem_cons]
    have : z ∈ xs ↔ z ∈ xs.take (lowL xs p) ∨ z ∈ xs.drop (lowL xs p) := by rw [← List.mem_append, htd]
    rw [this]
    constructor
    · rintro (h1 | h1 | h1)
      · exact .inl (.inl h1)
      · exact .inr h1
      · exact .inl (.inr h1)
    · rintro ((h1 | h1) | h1)
      · exact .inl h1
      · exact .inr (.inr h1)
      · exact .inr (.inl h1)
/-- one element times one generator -/
def stepG (gs es : List (List Int)) (i k : Nat) : List (List Int) := if thenL (lget es i) (lget gs k) ∈ es then es else es ++ [thenL (lget es i) (lget gs k)]
def rowG (gs es : List (List Int)) (i : Nat) : Nat → List (List Int)
  | 0 => es
  | k + 1 => stepG gs (rowG gs es i k) i k
theorem stepG_len (gs es : List (List Int)) (i k : Nat) : es.length ≤ (stepG gs es i k).length ∧ (stepG gs es i k).length ≤ es.length + 1 := by
  unfold stepG; split
  · omega
  · rw [List.length_append]; simp
theorem stepG_get {gs es : List (List Int)} {i k j : Nat} (hj : j < es.length) : lget (stepG gs es i k) j = lget es j := by
  unfold stepG; split
  · rfl
  · exact lget_app_lt hj
theorem rowG_len (gs es : List (List Int)) (i : Nat) : ∀ k, es.length ≤ (rowG gs es i k).length ∧ (rowG gs es i k).length ≤ es.length + k
  | 0 => ⟨Nat.le_refl _, Nat.le_refl _⟩
  | k + 1 => by
    have h1 := rowG_len gs es i k
    have h2 := stepG_len gs (rowG gs es i k) i k
    show es.length ≤ (stepG gs (rowG gs es i k) i k).length ∧ (stepG gs (rowG gs es i k) i k).length ≤ es.length + (k + 1)
    omega
theorem rowG_mono (gs es : List (List Int)) (i : Nat) {k l : Nat} (h : k ≤ l) : (rowG gs es i k).length ≤ (rowG gs es i l).length := by
  induction l with
  | zero => obtain rfl : k = 0 := by omega
            exact Nat.le_refl _
  | succ l ih =>
    by_cases e : k = l + 1
    · subst e; exact Nat.le_refl _
    · exact Nat.le_trans (ih (by omega)) (stepG_len gs (rowG gs es i l) i l).1
theorem rowG_get {gs es : List (List Int)} {i j : Nat} (hj : j < es.length) : ∀ k, lget (rowG gs es i k) j = lget es j
  | 0 => rfl
  | k + 1 => by
    show lget (stepG gs (rowG gs es i k) i k) j = _
    rw [stepG_get (by have := rowG_len gs es i k; omega)]
    exact rowG_get hj k
/-- the elements, if there are no more than 1000 -/
def runG (gs : List (List Int)) : Nat → Nat → List (List Int) → Option (List (List Int))
  | 0, _, _ => none
  | f + 1, i, es => if i < es.length then (if 1000 < (rowG gs es i gs.length).length then none else runG gs f (i + 1) (rowG gs es i gs.length)) else some es
theorem runG_go {gs es : List (List Int)} {f i : Nat} (h : i < es.length) (h2 : (rowG gs es i gs.length).length ≤ 1000) : runG gs (f + 1) i es = runG gs f (i + 1) (rowG gs es i gs.length) := by
  have e : runG gs (f + 1) i es = if i < es.length then (if 1000 < (rowG gs es i gs.length).length then none else runG gs f (i + 1) (rowG gs es i gs.length)) else some es := rfl
  rw [e]; rw [if_pos h, if_neg (by omega)]
theorem runG_bad {gs es : List (List Int)} {f i : Nat} (h : i < es.length) (h2 : 1000 < (rowG gs es i gs.length).length) : runG gs (f + 1) i es = none := by
  have e : runG gs (f + 1) i es = if i < es.length then (if 1000 < (rowG gs es i gs.length).length then none else runG gs f (i + 1) (rowG gs es i gs.length)) else some es := rfl
  rw [e]; rw [if_pos h, if_pos h2]
theorem runG_end {gs es : List (List Int)} {f i : Nat} (h : ¬ i < es.length) : runG gs (f + 1) i es = some es := by
  have e : runG gs (f + 1) i es = if i < es.length then (if 1000 < (rowG gs es i gs.length).length then none else runG gs f (i + 1) (rowG gs es i gs.length)) else some es := rfl
  rw [e]; rw [if_neg h]
def grpE (gs : List (List Int)) (n : Nat) : Option (List (List Int)) := runG gs 1002 0 [unitL n]
end Go.Proofs.YtmdhljleaijkbaaDoor

/- Groups of permutations: the reference's l01Less, l01Same, l01Then, l01Put. guards: -/
namespace Go.Proofs.YtmdhljleaijkbaaDoor
open Go.RowKit

theorem iget_cons_drop {x : List Int} {k : Nat} (h : k < x.length) : x.drop k = iget x k :: x.drop (k + 1) := by rw [List.drop_eq_getElem_cons h, iget_lt h]
theorem ltL_step {x y : List Int} {n k : Nat} (hx : x.length = n) (hy : y.length = n) (hk : k < n) : ltL (x.drop k) (y.drop k) = if iget x k < iget y k then true else if iget y k < iget x k then false else ltL (x.drop (k + 1)) (y.drop (k + 1)) := by
  rw [iget_cons_drop (by omega : k < x.length), iget_cons_drop (by omega : k < y.length)]; rfl
theorem quiet_tr {w w1 w2 : World} (h1 : ∃ m, w1 = w.drewN m) (h2 : ∃ m, w2 = w1.drewN m) : ∃ m, w2 = w.drewN m := by
  obtain ⟨a, rfl⟩ := h1
  obtain ⟨b, rfl⟩ := h2
  exact ⟨a + b, by simp [World.drewN, Nat.add_assoc]⟩
set_option maxHeartbeats 1600000 in
theorem specLess_any (a b : Option Addr) (n ca cb : Nat) (x y : List Int) (w : World) (ha : Ints w a n x) (hb : Ints w b n y) :
    Calls Tryd.prog 47 #[.slice a n ca, .slice b n cb] w fun e w' => e = .returned (.bool (ltL x y)) ∧ ∃ m, w' = w.drewN m := by
  have hla := ha.2.1
  have hx := ha.1
  have hy := hb.1
  obtain ⟨V, hV⟩ : ∃ V, V = ltL x y := ⟨_, rfl⟩
  have H0 : V = ltL (x.drop 0) (y.drop 0) := by rw [hV]; rfl
  rw [← hV]
  clear hV
  go_enter Tryd.func47, Tryd.ntmps47
  go_wp2
  go_loopw [5] (fun i wr => ∃ k m : Nat, k ≤ n ∧ i = .int .i64 k ∧ wr = w.drewN m ∧ V = ltL (x.drop k) (y.drop k)) (fun i _ => n - (intOf i).toNat)
  case atStart => exact ⟨0, 0, Nat.zero_le _, rfl, rfl, H0⟩
  case round =>
    clear H0
    obtain ⟨k, m, hk, rfl, rfl, hv⟩ := hrel
    by_cases hlt : k < n
    · obtain ⟨ba, oa, rfl, hca⟩ := ha.at_ hlt
      obtain ⟨bb, ob, rfl, hcb⟩ := hb.at_ hlt
      rw [ltL_step hx hy hlt] at hv
      have HV := Lib.hid hv
      have HA := Lib.hid ha
      have HB := Lib.hid hb
      clear hv ha hb
      generalize iget x k = p at *
      generalize iget y k = q at *
      by_cases hpq : p = q
      · have hv2 : V = ltL (x.drop (k + 1)) (y.drop (k + 1)) := by rw [HV.out, if_neg (by omega), if_neg (by omega)]
        have HV2 := Lib.hid hv2
        subst hpq
        have he' : (p != p) = false := by simp
        clear hv2
        go_wp2_with fail
        go_quiet (fail)
        go_wp2
        go_roundw
        case rel => exact ⟨k + 1, _, by omega, by go_num, rfl, HV2.out⟩
        case measure => first | (simp [intOf]; done) | (simp [intOf]; omega)
      · have he' : (p != q) = true := by simp [hpq]
        have hv2 : V = decide (p < q) := by
          rw [HV.out]
          by_cases h1 : p < q
          · rw [if_pos h1]; simp [h1]
          · rw [if_neg h1, if_pos (by omega)]; simp [h1]
        have HV2 := Lib.hid hv2
        clear hv2
        go_wp2_with fail
        go_quiet (fail)
        go_wp2_with fail
        go_quiet (fail)
        go_wp2_with fail
        rw [HV2.out]
        go_ret
        exact ⟨rfl, quiet_tr (quiet_tr ⟨m, rfl⟩ ⟨_, rfl⟩) ⟨_, rfl⟩⟩
    · obtain rfl : k = n := by omega
      have hv2 : V = false := by rw [hv, List.drop_of_length_le (by omega), List.drop_of_length_le (by omega)]; rfl
      have HV2 := Lib.hid hv2
      clear hv hv2
      go_wp2
      rw [HV2.out]
      go_ret
      exact ⟨rfl, _, rfl⟩
theorem thenL_take {p q : List Int} {k : Nat} (h : k < p.length) : thenL (p.take (k + 1)) q = thenL (p.take k) q ++ [iget q (iget p k).toNat] := by
  unfold thenL
  rw [List.take_succ_eq_append_getElem h, List.map_append, iget_lt h]; rfl
set_option maxHeartbeats 3200000 in
theorem specThen_any (a b : Option Addr) (n m ca cb : Nat) (p q : List Int) (w : World) (ha : Ints w a n p) (hb : Ints w b m q) (hp : ∀ k, k < n → ∃ x : Nat, iget p k = (x : Int) ∧ x < m) (hn : n ≤ 1000) :
    Calls Tryd.prog 15 #[.slice a n ca, .slice b m cb] w fun e w' => ∃ a2 c2, e = .returned (.slice a2 n c2) ∧ Own w' w.heap.size 2 a2 n c2 ((thenL p q).map (Value.int .i64)) ∧ Below w.heap.size w w' := by
  have hE := Own.empty_ w 2 (base := w.heap.size) (Nat.le_refl _)
  have hB := below_alloc1 w (.cells #[] 2)
  have HL := Lib.hid ha.1
  have HA := Lib.hid ha
  have HB := Lib.hid hb
  have HP := Lib.hid hp
  clear ha hb hp
  go_enter Tryd.func15, Tryd.ntmps15
  go_wp2_with fail
  go_loopw [5, 6] (fun sv iv wr => ∃ (k : Nat) (ao : Option Addr) (c : Nat), k ≤ n ∧ sv = .slice ao k c ∧ iv = .int .i64 k ∧ Own wr w.heap.size 2 ao k c ((thenL (p.take k) q).map (Value.int .i64)) ∧ Below w.heap.size w wr) (fun _ i _ => n - (intOf i).toNat)
  case atStart => exact ⟨0, _, _, Nat.zero_le _, rfl, rfl, by simpa [thenL] using hE, hB⟩
  case round =>
    clear hE hB
    obtain ⟨k, ao, c, hk, rfl, rfl, ho, hbl⟩ := hrel
    by_cases hlt : k < n
    · obtain ⟨x, hx, hxm⟩ := HP.out k hlt
      obtain ⟨ba, oa, rfl, hca⟩ := (HA.out.below hbl).at_ hlt
      obtain ⟨bb, ob, rfl, hcb⟩ := (HB.out.below hbl).at_ hxm
      have hT := thenL_take (p := p) (q := q) (k := k) (by rw [HL.out]; exact hlt)
      rw [hx, Int.toNat_natCast] at hT
      rw [hx] at hca
      have HO := Lib.hid ho
      have hlo := fun g hg => (ho.lt g hg).1
      have hsz := hbl.size
      have HT := Lib.hid hT
      generalize iget q x = y at *
      have hx0 : (0 : Int) ≤ (x : Int) := by omega
      have hx1 : (x : Int) < (m : Int) := by omega
      clear ho hT hx
      go_wp2_with (at_builtin; refine wpList_ap1 etI _ rfl _ _ rfl w.heap.size ao k c _ rfl HO.out (.int .i64 y) rfl rfl (by omega) hsz ?_; intro ao2 c2 w4 ho2 hg2 hblk)
      have HO2 := Lib.hid ho2
      have hb2 := hbl.grown hg2 hsz hlo
      clear ho2 hblk hg2 hbl hca hcb
      go_wp2
      go_roundw
      case rel => exact ⟨k + 1, ao2, c2, by omega, rfl, by go_num, by rw [HT.out, List.map_append]; exact HO2.out, hb2⟩
      case measure => simp [intOf]; omega
    · obtain rfl : k = n := by omega
      have ht : p.take k = p := List.take_of_length_le (by rw [HL.out]; exact Nat.le_refl _)
      rw [ht] at ho
      go_wp2_with fail
      go_ret
      exact ⟨ao, c, rfl, ho, hbl⟩
/-- the lists of a spine: each in a block of numbers that nothing writes any more -/
structure SpF (w : World) (lo : Nat) (ao : Option Addr) (n c : Nat) (us : List Value) (ds : List (List Int)) : Prop where
  own : Own w lo 38 ao n c us
  len : ds.length = n
  row : ∀ (j : Nat) (u : Value) (d : List Int), us[j]? = some u → ds[j]? = some d → ∃ a m k, u = .slice a m k ∧ Own w lo 2 a m k (d.map (Value.int .i64))
theorem Own.typG {w : World} {lo E n c : Nat} {ao : Option Addr} {xs : List Value} (h : Own w lo E ao n c xs) {g : Nat} (hg : bk ao = some g) : ∃ cs, w.heap[g]? = some (.cells cs E (0, 0)) := by
  rcases h.1.2 with h2 | ⟨g', cap, cur, hv, _, hh, _⟩
  · have h2 := h2.1
    injection h2 with h3; subst h3; cases hg
  · injection hv with h3; subst h3
    obtain rfl := Option.some.inj hg
    exact ⟨cur, hh⟩
theorem own_neT {w : World} {lo lo' E E' n n' c c' : Nat} {ao ao' : Option Addr} {xs xs' : List Value} (h : Own w lo E ao n c xs) (h' : Own w lo' E' ao' n' c' xs') (hE : E ≠ E') {g : Nat} (hg : bk ao = some g) : bk ao' ≠ some g := fun e => by
  obtain ⟨cs, h1⟩ := h.typG hg
  obtain ⟨cs', h2⟩ := h'.typG e
  rw [h1] at h2
  injection h2 with h2
  injection h2 with _ h2
  exact hE h2
section
variable {w w' : World} {lo : Nat} {ao : Option Addr} {n c : Nat} {us : List Value} {ds : List (List Int)}
theorem SpF.at_ (h : SpF w lo ao n c us ds) {j : Nat} (hj : j < n) : ∃ g a m k, ao = some ⟨g, 0, none⟩ ∧ w.cell? ⟨g, j, none⟩ = some (.slice a m k) ∧ us[j]? = some (.slice a m k) ∧ Own w lo 2 a m k ((lget ds j).map (Value.int .i64)) := by
  have hl := h.own.len
  have hd := h.len
  obtain ⟨g, rfl, -, -, -, hc, -⟩ := h.own.form (by omega)
  have hu := List.getElem?_eq_getElem (by omega : j < us.length)
  obtain ⟨a, m, k, e, ho⟩ := h.row j _ _ hu (get?_lget (by omega))
  exact ⟨g, a, m, k, rfl, by rw [hc j hj, hu, e], by rw [hu, e], ho⟩
/-- another spine has grown -/
theorem SpF.far (h : SpF w lo ao n c us ds) {b : Option Addr} {nb cb : Nat} {vs : List Value} {lob : Nat} (hb : Own w lob 38 b nb cb vs) (hg : w.grownBy w' (bk b)) (hne : ∀ g, bk ao = some g → bk b ≠ some g) : SpF w' lo ao n c us ds :=
  ⟨h.own.same fun g e => hg.block g (h.own.lt g e).2 (fun q => hne g e q.symm), h.len, fun j u d hu hd => by
    obtain ⟨a, m, k, e, ho⟩ := h.row j u d hu hd
    exact ⟨a, m, k, e, ho.same fun g eg => hg.block g (ho.lt g eg).2 (fun q => own_neT ho hb (by decide) eg q.symm)⟩⟩
theorem SpF.below (h : SpF w lo ao n c us ds) (hb : Below w.heap.size w w') : SpF w' lo ao n c us ds :=
  ⟨h.own.below hb, h.len, fun j u d hu hd => by
    obtain ⟨a, m, k, e, ho⟩ := h.row j u d hu hd
    exact ⟨a, m, k, e, ho.below hb⟩⟩
theorem SpF.push (h : SpF w lo ao n c us ds) {a' : Option Addr} {m' k' c' : Nat} {a2 : Option Addr} {d : List Int} (ho : Own w lo 2 a' m' k' (d.map (Value.int .i64))) (hg : w.grownBy w' (bk ao)) (hown : Own w' lo 38 a2 (n + 1) c' (us ++ [.slice a' m' k'])) : SpF w' lo a2 (n + 1) c' (us ++ [.slice a' m' k']) (ds ++ [d]) := by
  have hl := h.own.len
  have hd := h.len
  have keep : ∀ {a m k} {x : List Int}, Own w lo 2 a m k (x.map (Value.int .i64)) → Own w' lo 2 a m k (x.map (Value.int .i64)) := fun ho => ho.same fun g eg => hg.block g (ho.lt g eg).2 (fun q => own_neT ho h.own (by decide) eg q.symm)
  refine ⟨hown, by rw [List.length_append, hd]; rfl, fun j u x hu hx => ?_⟩
  by_cases hj : j < n
  · rw [List.getElem?_append_left (by omega)] at hu hx
    obtain ⟨a, m, k, e, ho⟩ := h.row j u x hu hx
    exact ⟨a, m, k, e, keep ho⟩
  · have hj2 : j = n := by have := (List.getElem?_eq_some_iff.1 hx).1; rw [List.length_append] at this; simp at this; omega
    subst hj2
    rw [List.getElem?_append_right (by omega), hl, Nat.sub_self] at hu
    rw [List.getElem?_append_right (by omega), hd, Nat.sub_self] at hx
    simp at hu hx
    subst hu hx
    exact ⟨_, _, _, rfl, keep ho⟩
end
end Go.Proofs.YtmdhljleaijkbaaDoor

/- Walks in names: bits of masks. No program in sight. -/
namespace Go.Proofs.YtmdhljleaijkbaaDoor
open Go.RowKit

section
variable {P : Program} {nt : Nat} {S S' S2 : St} {t : Nat} {ty : TypeId} {ps : String} {af : Array Edge} {gd : Option (Nat × Bool)} {x y : Operand} {o : Oper}
/-- a step behind a loss of knowledge -/
theorem Stp.pre (h : Wk S S') (k : Stp P nt o S' S2) : Stp P nt o S S2 :=
  ⟨fun w0 ω0 a w Q hs => k.go w0 ω0 a w Q (h.go _ _ _ _ _ hs)⟩
end
end Go.Proofs.YtmdhljleaijkbaaDoor

/- A memory of names: a call that turns one vector of the caller's in place; quotients and remainders. No program in sight. -/
namespace Go.Proofs.YtmdhljleaijkbaaDoor
open Go.RowKit

section
variable {P : Program} {nt : Nat} {S S' S2 : St} {t : Nat} {ty : TypeId} {ps : String} {af : Array Edge} {gd : Option (Nat × Bool)} {x y : Operand} {o : Oper}
end
end Go.Proofs.YtmdhljleaijkbaaDoor

/- ReverseDiagram: the reference's l12Turned, slices.Clone and slices.Reverse at []int64. -/
namespace Go.Proofs.YtmdhljleaijkbaaDoor
open Go.RowKit

/-- a list the other way round; closed to simp -/
def turned (zs : List Int) : List Int := zs.reverse
end Go.Proofs.YtmdhljleaijkbaaDoor

/- slices.Reverse at []int64: it turns a row of the call's own round, in place. -/
namespace Go.Proofs.YtmdhljleaijkbaaDoor
open Go.RowKit

end Go.Proofs.YtmdhljleaijkbaaDoor

/- Comparisons of lists, the greatest one of an ascending list, the greatest common divisor. -/
namespace Go.Proofs.YtmdhljleaijkbaaDoor
open Go.RowKit

set_option maxHeartbeats 400000 in
theorem same_any (a b : Option Addr) (na nb ca cb : Nat) (za zb : List Int) (w : World) (ha : Ints w a na za) (hb : Ints w b nb zb) :
    Calls Tryd.prog 16 #[.slice a na ca, .slice b nb cb] w fun e w' => e = .returned (.bool (decide (za = zb))) ∧ ∃ m, w' = w.drewN m := by
  have hla := ha.2.1
  have hlb := hb.2.1
  by_cases hl : na = nb
  · subst hl
    have hl' : ((na : Int) != (na:Int)) = false := by simp
    go_enter Tryd.func16, Tryd.ntmps16
    go_wp2
    go_loopw [5] (fun i wr => ∃ k : Nat, k ≤ na ∧ i = .int .i64 k ∧ za.take k = zb.take k ∧ ∃ m, wr = w.drewN m) (fun i _ => na - (intOf i).toNat)
    case atStart => exact ⟨0, Nat.zero_le _, rfl, rfl, 0, rfl⟩
    case round =>
      obtain ⟨k, hk, rfl, hpre, m, rfl⟩ := hrel
      have HP := Lib.hid hpre
      clear hpre
      by_cases hlt : k < na
      · obtain ⟨ba, oa, rfl, hca⟩ := ha.at_ hlt
        obtain ⟨bb, ob, rfl, hcb⟩ := hb.at_ hlt
        have h1 := ha.1
        have h2 := hb.1
        have H1 := Lib.hid h1
        have H2 := Lib.hid h2
        clear h1 h2
        by_cases he : iget za k = iget zb k
        · have he' : (iget za k != iget zb k) = false := by simp [he]
          have HE := Lib.hid he
          clear he
          go_wp2_with fail
          go_quiet (fail)
          go_wp2
          go_roundw
          case rel => exact ⟨k + 1, by omega, by go_num, by rw [take_iget (by rw [H1.out]; omega), take_iget (by rw [H2.out]; omega), HP.out, HE.out], _, rfl⟩
          case measure => simp [intOf]; omega
        · have he' : (iget za k != iget zb k) = true := by simp [he]
          have HE := Lib.hid he
          clear he
          go_wp2_with fail
          go_quiet (fail)
          go_wp2
          go_ret
          exact ⟨ret_bool (by symm; rw [decide_eq_false_iff_not]; intro e; exact HE.out (by rw [e])), _, World.drewN_drewN _ _ _⟩
      · obtain rfl : k = na := by omega
        have h1 := ha.1
        have h2 := hb.1
        have hab : za = zb := by have := HP.out; rwa [List.take_of_length_le (by omega), List.take_of_length_le (by omega)] at this
        have HA := Lib.hid hab
        clear h1 h2 hab
        go_wp2
        go_ret
        exact ⟨ret_bool (by symm; simpa using HA.out), _, rfl⟩
  · have hl' : ((na : Int) != (nb:Int)) = true := by simp; omega
    go_enter Tryd.func16, Tryd.ntmps16
    go_wp2
    go_ret
    refine ⟨ret_bool ?_, 0, rfl⟩
    symm
    rw [decide_eq_false_iff_not]
    intro e
    exact hl (by rw [← ha.1, ← hb.1, e])

end Go.Proofs.YtmdhljleaijkbaaDoor

/- Groups of permutations: the reference's l01Put. -/
namespace Go.Proofs.YtmdhljleaijkbaaDoor
open Go.RowKit

/-- the spine while its end is shifted: places up to k stand as they were -/
def shfL (us : List Value) (u : Value) (k : Nat) : List Value := (us ++ [u]).take (k + 1) ++ us.drop k
theorem shfL_start {us : List Value} {u : Value} {n : Nat} (h : us.length = n) : shfL us u n = us ++ [u] := by
  unfold shfL
  rw [List.take_of_length_le (by simp; omega), List.drop_of_length_le (by omega), List.append_nil]
theorem shfL_step {us : List Value} {u : Value} {n k : Nat} (h : us.length = n) (hk : 0 < k) (hkn : k ≤ n) : (shfL us u k).set k (us.getD (k - 1) u) = shfL us u (k - 1) ∧ (shfL us u k)[k - 1]? = some (us.getD (k - 1) u) := by
  unfold shfL
  have h1 : ((us ++ [u]).take (k + 1)).length = k + 1 := by simp; omega
  have h0 : k - 1 < us.length := by omega
  have hg : us.getD (k - 1) u = us[k - 1] := by rw [List.getD_eq_getElem?_getD, List.getElem?_eq_getElem h0]; rfl
  refine ⟨?_, ?_⟩
  · rw [List.set_append_left _ _ (by omega), hg]
    have h2 : us.drop (k - 1) = us[k - 1] :: us.drop k := by rw [List.drop_eq_getElem_cons h0, show k - 1 + 1 = k by omega]
    rw [h2, show k - 1 + 1 = k by omega]
    have h3 : (us ++ [u]).take (k + 1) = (us ++ [u]).take k ++ [(us ++ [u])[k]'(by simp; omega)] := by rw [List.take_succ_eq_append_getElem]
    rw [h3, List.set_append_right _ _ (by simp; omega)]
    have h4 : k - ((us ++ [u]).take k).length = 0 := by simp; omega
    rw [h4, List.set_cons_zero, List.append_assoc]; rfl
  · rw [List.getElem?_append_left (by omega), List.getElem?_take_of_lt (by omega), List.getElem?_append_left (by omega), List.getElem?_eq_getElem h0, hg]
theorem shfL_end {us : List Value} {u : Value} {n k : Nat} (h : us.length = n) (hkn : k ≤ n) : (shfL us u k).set k u = us.take k ++ u :: us.drop k := by
  unfold shfL
  have h3 : (us ++ [u]).take (k + 1) = (us ++ [u]).take k ++ [(us ++ [u])[k]'(by simp; omega)] := by rw [List.take_succ_eq_append_getElem]
  rw [h3, List.append_assoc, List.set_append_right _ _ (by simp; omega)]
  have h4 : k - ((us ++ [u]).take k).length = 0 := by simp; omega
  rw [h4]
  have h5 : (us ++ [u]).take k = us.take k := List.take_append_of_le_length (by omega)
  rw [h5]; rfl
theorem shfL_len {us : List Value} {u : Value} {n k : Nat} (h : us.length = n) (hkn : k ≤ n) : (shfL us u k).length = n + 1 := by
  unfold shfL; simp; omega
/-- what l01Put leaves of the spine -/
def PutAns (w : World) (lo : Nat) (ao : Option Addr) (n : Nat) (p : List Int) (ds : List (List Int)) (e : Ending) (w' : World) : Prop :=
  ∃ (fresh : Bool) (a2 : Option Addr) (n2 c2 : Nat) (us2 : List Value) (ds2 : List (List Int)), e = .returned (.tuple #[.slice a2 n2 c2, .bool fresh]) ∧ (fresh = true ↔ p ∉ ds) ∧ ds2 = (if fresh = true then putAt ds p else ds) ∧ SpF w' lo a2 n2 c2 us2 ds2 ∧ w.grownBy w' (bk ao) ∧ (bk a2 = bk ao ∨ ∃ g, bk a2 = some g ∧ w.heap.size ≤ g)
theorem grown_drew {w : World} {m : Nat} {row : Option Nat} : w.grownBy (w.drewN m) row := grown_of_below (below_drewN (Below.refl _ _) m) _
theorem grown_on {w w4 w5 : World} {row : Option Nat} {g2 : Nat} (hg : w.grownBy w4 row) (hg2 : w4.grownBy w5 (some g2)) (hat : some g2 = row ∨ w.heap.size ≤ g2) : w.grownBy w5 row :=
  ⟨hg2.os.trans hg.os, hg2.tape.trans hg.tape, hg2.output.trans hg.output, Nat.le_trans hg.size hg2.size, fun i hi hne => (hg2.block i (Nat.lt_of_lt_of_le hi hg.size) (fun e => by
    rcases hat with h | h
    · exact hne (by rw [← h]; exact e)
    · have := Option.some.inj e; omega)).trans (hg.block i hi hne)⟩
theorem put_rows {w w' : World} {lo q n c c2 : Nat} {ao a2 pa : Option Addr} {pn pc : Nat} {us : List Value} {ds : List (List Int)} {p : List Int} (h : SpF w lo ao n c us ds) (hp : Own w lo 2 pa pn pc (p.map (Value.int .i64))) (hq : q ≤ n) (hown : Own w' lo 38 a2 (n + 1) c2 (us.take q ++ .slice pa pn pc :: us.drop q)) (hg : w.grownBy w' (bk ao)) :
    SpF w' lo a2 (n + 1) c2 (us.take q ++ .slice pa pn pc :: us.drop q) (ds.take q ++ p :: ds.drop q) := by
  have hl := h.own.len
  have hd := h.len
  have keep : ∀ {a m k} {x : List Int}, Own w lo 2 a m k (x.map (Value.int .i64)) → Own w' lo 2 a m k (x.map (Value.int .i64)) := fun ho => ho.same fun g eg => hg.block g (ho.lt g eg).2 (fun e => own_neT ho h.own (by decide) eg e.symm)
  refine ⟨hown, by simp; omega, fun j u x hu hx => ?_⟩
  rcases Nat.lt_trichotomy j q with hj | hj | hj
  · rw [List.getElem?_append_left (by simp; omega), List.getElem?_take_of_lt hj] at hu hx
    obtain ⟨a, m, k, e, ho⟩ := h.row j u x hu hx
    exact ⟨a, m, k, e, keep ho⟩
  · subst hj
    have h1 : (us.take j).length = j := by simp; omega
    have h2 : (ds.take j).length = j := by simp; omega
    rw [List.getElem?_append_right (by omega), h1, Nat.sub_self] at hu
    rw [List.getElem?_append_right (by omega), h2, Nat.sub_self] at hx
    simp at hu hx
    subst hu hx
    exact ⟨_, _, _, rfl, keep hp⟩
  · have h1 : (us.take q).length = q := by simp; omega
    have h2 : (ds.take q).length = q := by simp; omega
    rw [List.getElem?_append_right (by omega), h1, show j - q = (j - q - 1) + 1 by omega, List.getElem?_cons_succ, List.getElem?_drop] at hu
    rw [List.getElem?_append_right (by omega), h2, show j - q = (j - q - 1) + 1 by omega, List.getElem?_cons_succ, List.getElem?_drop] at hx
    obtain ⟨a, m, k, e, ho⟩ := h.row _ u x hu hx
    exact ⟨a, m, k, e, keep ho⟩
set_option maxHeartbeats 6400000 in
set_option maxRecDepth 100000 in
theorem specPut_any (lo : Nat) (ao pa : Option Addr) (n c pn pc : Nat) (us : List Value) (ds : List (List Int)) (p : List Int) (w : World) (h : SpF w lo ao n c us ds) (hp : Own w lo 2 pa pn pc (p.map (Value.int .i64))) (hasc : AscL ds) (hlen : ∀ d ∈ ds, d.length = pn) (hlo : lo ≤ w.heap.size) (hn : n ≤ 2000) :
    Calls Tryd.prog 30 #[.slice ao n c, .slice pa pn pc] w (PutAns w lo ao n p ds) := by
  have hl := h.own.len
  have hd := h.len
  have HP := Lib.hid hp
  have H := Lib.hid h
  have HLEN := Lib.hid hlen
  have hlow := lowL_le ds p
  have hmem := mem_low (p := p) hasc
  have hat := fun j hj => lowL_at hasc (p := p) j hj
  rw [hd] at hlow hmem hat
  generalize hq : lowL ds p = q at *
  have HQ := Lib.hid hq
  have HM := Lib.hid hmem
  have HAT := Lib.hid hat
  have HASC := Lib.hid hasc
  clear h hp hlen hmem hat hasc hq
  go_enter Tryd.func30, Tryd.ntmps30
  go_wp2_with fail
  go_loopw [6, 7] (fun lv hv wr => ∃ l k m : Nat, l ≤ q ∧ q ≤ k ∧ k ≤ n ∧ lv = .int .i64 l ∧ hv = .int .i64 k ∧ wr = w.drewN m) (fun lv hv _ => (intOf hv).toNat - (intOf lv).toNat)
  case atStart => exact ⟨0, n, 0, Nat.zero_le _, hlow, Nat.le_refl _, rfl, rfl, rfl⟩
  case round =>
    obtain ⟨l, k, m, h1, h2, h3, rfl, rfl, rfl⟩ := hrel
    by_cases hlt : l < k
    · have hmid : ((l : Int) + (k : Int)).tdiv 2 = (((l + k) / 2 : Nat) : Int) := by rw [show ((l : Int) + (k : Int)) = ((l + k : Nat) : Int) by omega]; rfl
      obtain ⟨j, hj⟩ : ∃ j, j = (l + k) / 2 := ⟨_, rfl⟩
      rw [← hj] at hmid
      have hjk : j < k := by omega
      have hlj : l ≤ j := by omega
      have hjn : j < n := by omega
      obtain ⟨g, a, b, kk, rfl, hc, hu, ho⟩ := (H.out.below (below_drewN (Below.refl _ _) m)).at_ hjn
      have hbn : b = pn := by
        have h5 := ho.len
        rw [List.length_map, HLEN.out _ (lget_mem (by rw [hd]; exact hjn))] at h5
        exact h5.symm
      subst hbn
      have hmidd : ((l : Int) + (k : Int)) / 2 = (j : Int) := by omega
      have hj0 : (0 : Int) ≤ (j : Int) := by omega
      have hj1 : (j : Int) < (n : Int) := by omega
      have HI := Lib.hid ho.ints
      have HPI := Lib.hid (HP.out.below (below_drewN (Below.refl _ _) m)).ints
      have hA := HAT.out j hjn
      clear hj ho
      cases hless : ltL (lget ds j) p with
      | true =>
        have hjq := hA.1 hless
        have HLS := Lib.hid hless
        clear hless hA
        go_wp2_with (go_at_call 47; refine (specLess_any _ _ _ _ _ _ _ _ HI.out HPI.out).mono ?_; rintro e w2 ⟨rfl, m2, rfl⟩; rw [HLS.out])
        go_roundw
        case rel => exact ⟨j + 1, k, _, by omega, h2, h3, by go_num, rfl, rfl⟩
        case measure => simp [intOf]; omega
      | false =>
        have hjq : q ≤ j := by
          rcases Nat.lt_or_ge j q with t | t
          · rw [hA.2 t] at hless; cases hless
          · exact t
        have HLS := Lib.hid hless
        clear hless hA
        go_wp2_with (go_at_call 47; refine (specLess_any _ _ _ _ _ _ _ _ HI.out HPI.out).mono ?_; rintro e w2 ⟨rfl, m2, rfl⟩; rw [HLS.out])
        go_roundw
        case rel => exact ⟨l, j, _, h1, hjq, by omega, rfl, by go_num, rfl⟩
        case measure => simp [intOf]; omega
    · obtain rfl : l = q := by omega
      have HW := Lib.hid (H.out.below (below_drewN (Below.refl _ _) m))
      have HPW := Lib.hid (HP.out.below (below_drewN (Below.refl _ _) m))
      have hgw : w.grownBy (w.drewN m) (bk ao) := grown_drew
      have hsz : lo ≤ (w.drewN m).heap.size := hlo
      by_cases hin : p ∈ ds
      · obtain ⟨hln, hle⟩ := HM.out.1 hin
        obtain ⟨g, a, b, kk, rfl, hc, hu, ho⟩ := HW.out.at_ hln
        rw [hle] at ho
        have HI := Lib.hid ho.ints
        have hdec : decide (p = p) = true := by simp
        clear ho hle
        go_wp2_with (go_at_call 16; refine (same_any _ _ _ _ _ _ _ _ _ HI.out HPW.out.ints).mono ?_; rintro e w2 ⟨rfl, m2, rfl⟩; rw [hdec])
        exact bodyPost_ret (v := .tuple #[.slice (some ⟨g, 0, none⟩) n c, .bool false]) (by simp [results, Tryd.f30, go_sem]) rfl (by unfold PutAns; exact ⟨false, _, _, _, us, ds, rfl, by simp [hin], rfl, H.out.below (below_drewN (Below.refl _ _) _), grown_drew, .inl rfl⟩)
      go_upto_region 7 with fail
      go_cut [40] (fun s40 wx => s40 = .bool false ∧ ∃ m2, wx = w.drewN m2)
      case first =>
        by_cases hln : l < n
        · obtain ⟨g, a, b, kk, rfl, hc, hu, ho⟩ := HW.out.at_ hln
          have HI := Lib.hid ho.ints
          have hdec : decide (lget ds l = p) = false := by simp; exact fun e => hin (HM.out.2 ⟨hln, e⟩)
          clear ho
          go_wp2_with (go_at_call 16; refine (same_any _ _ _ _ _ _ _ _ _ HI.out HPW.out.ints).mono ?_; rintro e w2 ⟨rfl, m2, rfl⟩; rw [hdec])
          go_meet
          case rel => exact ⟨rfl, _, rfl⟩
        · go_wp2_with fail
          go_meet
          case rel => exact ⟨rfl, _, rfl⟩
      case rest =>
        obtain ⟨rfl, m2, rfl⟩ := hcut
        have HW2 := Lib.hid (H.out.below (below_drewN (Below.refl _ _) m2))
        have HP2 := Lib.hid (HP.out.below (below_drewN (Below.refl _ _) m2))
        have hgw2 : w.grownBy (w.drewN m2) (bk ao) := grown_drew
        have hsz2 : lo ≤ (w.drewN m2).heap.size := hlo
        clear HW HPW hgw hsz
        go_wp2_with (at_builtin; refine wpList_ap1 etSS _ rfl _ _ rfl lo ao n c us rfl HW2.out.own (.slice pa pn pc) rfl rfl (by omega) hsz2 ?_; intro ao2 c2 w4 o4 g4 hat)
        obtain ⟨g2, rfl, -, -, hnc2, -, -⟩ := o4.form (by omega)
        have O4 := Lib.hid (show Own w4 lo 38 (some ⟨g2, 0, none⟩) (n + 1) c2 (shfL us (.slice pa pn pc) n) by rw [shfL_start hl]; exact o4)
        have G4 := Lib.hid (grown_on (g2 := g2) g4 (World.grownBy.refl w4 _) (hat.imp id (fun e => by simp [bk] at e; show w.heap.size ≤ g2; omega)))
        have HAT2 := Lib.hid hat
        clear o4 hat
        go_wp2_with fail
        go_loopw [10] (fun iv wr => ∃ k : Nat, l ≤ k ∧ k ≤ n ∧ iv = .int .i64 k ∧ Own wr lo 38 (some ⟨g2, 0, none⟩) (n + 1) c2 (shfL us (.slice pa pn pc) k) ∧ w4.grownBy wr (some g2)) (fun iv _ => (intOf iv).toNat)
        case atStart => exact ⟨n, hlow, Nat.le_refl _, by go_num, O4.out, World.grownBy.refl _ _⟩
        case round =>
          clear O4
          obtain ⟨k, hk1, hk2, rfl, ho, hg⟩ := hrel
          obtain ⟨g', e', -, -, -, hcell, hfz⟩ := ho.form (by omega)
          injection e' with e'; injection e' with e'; subst e'
          have hsl := shfL_len (u := .slice pa pn pc) hl hk2
          by_cases hlt : l < k
          · obtain ⟨gq, a, b, kk, -, -, hu, -⟩ := H.out.at_ (j := k - 1) (by omega)
            obtain ⟨s1, s2⟩ := shfL_step (u := .slice pa pn pc) hl (by omega) hk2
            have hv : us.getD (k - 1) (.slice pa pn pc) = .slice a b kk := by rw [List.getD_eq_getElem?_getD, hu]; rfl
            rw [hv] at s1 s2
            have c1 := hcell (k - 1) (by omega)
            rw [s2] at c1
            have c2' := hcell k (by omega)
            rw [List.getElem?_eq_getElem (by omega)] at c2'
            have f1 := hfz k
            obtain ⟨st, gst⟩ := ho.stored k (.slice a b kk)
            rw [s1] at st
            have ST := Lib.hid st
            have GS := Lib.hid (grown_on hg gst (.inl rfl))
            generalize (shfL us (.slice pa pn pc) k)[k]'(by omega) = old at *
            have hk0 : ((k : Int) - 1).toNat = k - 1 := by omega
            have hk3 : (0 : Int) ≤ (k : Int) - 1 := by omega
            have hk4 : (k : Int) - 1 < (n : Int) + 1 := by omega
            have hk5 : (k : Int) < (n : Int) + 1 := by omega
            have hk6 : IntKind.i64.wrap ((k : Int) - 1) = (k : Int) - 1 := IntWalk.i64_in _ (by omega)
            clear ho hcell hfz st gst s1 s2 hv hu hg hsl
            go_wp2_with fail
            go_roundw
            case rel => exact ⟨k - 1, by omega, by omega, by rw [show (k : Int) - 1 = ((k - 1 : Nat) : Int) by omega], ST.out, GS.out⟩
            case measure => simp [intOf]; omega
          · obtain rfl : l = k := by omega
            have c2' := hcell l (by omega)
            rw [List.getElem?_eq_getElem (by omega)] at c2'
            have f1 := hfz l
            obtain ⟨st, gst⟩ := ho.stored l (.slice pa pn pc)
            rw [shfL_end hl hk2] at st
            have GS := grown_on hg gst (.inl rfl)
            have hgf : w.grownBy (wr.setCell ⟨g2, l, none⟩ (.slice pa pn pc)) (bk ao) := grown_on (grown_tr hgw2 G4.out) GS (HAT2.out.imp id (fun e => by simp [bk] at e; omega))
            have hsp := put_rows H.out HP.out hk2 st hgf
            have HSP := Lib.hid hsp
            have HGF := Lib.hid hgf
            have hk5 : (l : Int) < (n : Int) + 1 := by omega
            have hpa : putAt ds p = ds.take l ++ p :: ds.drop l := by unfold putAt; rw [HQ.out]
            have HPA := Lib.hid hpa
            generalize (shfL us (.slice pa pn pc) l)[l]'(by omega) = old at *
            clear ho hcell hfz st gst hsp hgf hpa GS hg
            go_wp2_with fail
            exact bodyPost_ret (v := .tuple #[.slice (some ⟨g2, 0, none⟩) (n + 1) c2, .bool true]) (by simp [results, Tryd.f30, go_sem]) rfl (by unfold PutAns; exact ⟨true, _, _, _, _, _, rfl, by simp [hin], rfl, by rw [if_pos rfl, HPA.out]; exact HSP.out, HGF.out, HAT2.out.imp id (fun e => ⟨_, e, Nat.le_succ _⟩)⟩)
end Go.Proofs.YtmdhljleaijkbaaDoor

/- The identity of n points: the reference's l01Unit. -/
namespace Go.Proofs.YtmdhljleaijkbaaDoor
open Go.RowKit

set_option maxHeartbeats 3200000 in
theorem unit_any (m : Nat) (w : World) (hm : m ≤ 1000) :
    Calls Tryd.prog 29 #[.int .i64 m] w fun e w' => ∃ ao c, e = .returned (.slice ao m c) ∧ Own w' w.heap.size 2 ao m c (((List.range m).map fun (i : Nat) => (i : Int)).map (Value.int .i64)) ∧ Below w.heap.size w w' := by
  have hE := Own.empty_ w 2 (base := w.heap.size) (Nat.le_refl _)
  have hB := below_alloc1 w (.cells #[] 2)
  go_enter Tryd.func29, Tryd.ntmps29
  go_wp2_with fail
  go_loopw [3, 4] (fun sv iv wr => ∃ (k : Nat) (ao : Option Addr) (c : Nat), k ≤ m ∧ sv = .slice ao k c ∧ iv = .int .i64 k ∧ Own wr w.heap.size 2 ao k c (((List.range k).map fun (i : Nat) => (i : Int)).map (Value.int .i64)) ∧ Below w.heap.size w wr) (fun _ i _ => m - (intOf i).toNat)
  case atStart => exact ⟨0, _, _, Nat.zero_le _, rfl, rfl, by simpa using hE, hB⟩
  case round =>
    clear hE hB
    obtain ⟨k, ao, c, hk, rfl, rfl, ho, hb⟩ := hrel
    by_cases hlt : k < m
    · have HO := Lib.hid ho
      have hlo := fun g hg => (ho.lt g hg).1
      have hsz := hb.size
      clear ho
      go_wp2_with (at_builtin; refine wpList_ap1 etI _ rfl _ _ rfl w.heap.size ao k c _ rfl HO.out (.int .i64 (k : Int)) rfl rfl (by omega) hsz ?_; intro ao2 c2 w4 ho2 hg2 hblk)
      have HO2 := Lib.hid ho2
      have hb2 := hb.grown hg2 hsz hlo
      clear ho2 hblk hg2 hb
      go_wp2
      go_roundw
      case rel => exact ⟨k + 1, ao2, c2, by omega, rfl, by go_num, by rw [List.range_succ, List.map_append, List.map_append]; exact HO2.out, hb2⟩
      case measure => simp [intOf]; omega
    · obtain rfl : k = m := by omega
      go_wp2_with fail
      go_ret
      exact ⟨ao, c, rfl, ho, hb⟩
end Go.Proofs.YtmdhljleaijkbaaDoor

/- Groups of permutations: the reference's l01Group. -/
namespace Go.Proofs.YtmdhljleaijkbaaDoor
open Go.RowKit

/-- lists of n numbers below n -/
def Pts (n : Nat) (p : List Int) : Prop := p.length = n ∧ ∀ k, k < n → ∃ x : Nat, iget p k = (x : Int) ∧ x < n
theorem unitL_pts (n : Nat) : Pts n (unitL n) := ⟨by simp [unitL], fun k hk => ⟨k, by simp [unitL, iget, hk], hk⟩⟩
theorem thenL_pts {n : Nat} {p q : List Int} (hp : Pts n p) (hq : Pts n q) : Pts n (thenL p q) := ⟨by rw [thenL_len]; exact hp.1, fun k hk => by
  obtain ⟨x, h1, h2⟩ := hp.2 k hk
  obtain ⟨y, h3, h4⟩ := hq.2 x h2
  have hl := hp.1
  refine ⟨y, ?_, h4⟩
  rw [← h3]
  unfold iget at h1 ⊢
  rw [List.getD_eq_getElem?_getD] at h1
  unfold thenL
  rw [List.getD_eq_getElem?_getD, List.getElem?_map, List.getElem?_eq_getElem (by omega)]
  rw [List.getElem?_eq_getElem (by omega)] at h1
  have h1 : p[k] = (x : Int) := h1
  show iget q (p[k]).toNat = q.getD x 0
  rw [h1, Int.toNat_natCast]; rfl⟩
/-- the search: what is found, and the same lists in order -/
structure GrS (w wr : World) (n : Nat) (gs : List (List Int)) (af : Option Addr) (nf cf : Nat) (uf : List Value) (es : List (List Int)) (as' : Option Addr) (ns cs : Nat) (us : List Value) (ss : List (List Int)) : Prop where
  fnd : SpF wr w.heap.size af nf cf uf es
  srt : SpF wr w.heap.size as' ns cs us ss
  asc : AscL ss
  mem : ∀ z, z ∈ ss ↔ z ∈ es
  pts : ∀ z, z ∈ es → Pts n z
  ne : ∀ g, bk af = some g → bk as' ≠ some g
  nn : ns = nf
  bel : Below w.heap.size w wr
section
variable {w wr w' : World} {n : Nat} {gs : List (List Int)} {af : Option Addr} {nf cf : Nat} {uf : List Value} {es : List (List Int)} {as' : Option Addr} {ns cs : Nat} {us : List Value} {ss : List (List Int)}
theorem GrS.below (h : GrS w wr n gs af nf cf uf es as' ns cs us ss) (b : Below wr.heap.size wr w') : GrS w w' n gs af nf cf uf es as' ns cs us ss :=
  ⟨h.fnd.below b, h.srt.below b, h.asc, h.mem, h.pts, h.ne, h.nn, h.bel.trans (b.mono h.bel.size)⟩
/-- a list that is new is put among those in order -/
theorem GrS.put (h : GrS w wr n gs af nf cf uf es as' ns cs us ss) {p : List Int} {a2 : Option Addr} {n2 c2 : Nat} {us2 : List Value} (hs : SpF w' w.heap.size a2 n2 c2 us2 ss) (hg : wr.grownBy w' (bk as')) (hat : bk a2 = bk as' ∨ ∃ g, bk a2 = some g ∧ wr.heap.size ≤ g) (_hp : p ∈ ss) : GrS w w' n gs af nf cf uf es a2 n2 c2 us2 ss :=
  ⟨h.fnd.far h.srt.own hg h.ne, hs, h.asc, h.mem, h.pts, fun g e => by
    rcases hat with q | ⟨g2, q, hge⟩
    · rw [q]; exact h.ne g e
    · rw [q]; intro t; have := Option.some.inj t; have := (h.fnd.own.lt g e).2; omega, by have := hs.len; have := h.srt.len; have := h.nn; omega, h.bel.grown hg h.bel.size (fun g e => (h.srt.own.lt g e).1)⟩
theorem GrS.grow {w2 w4 : World} {p : List Int} {pa a2 a4 : Option Addr} {pn pc c2 c4 n2 : Nat} {us2 : List Value} (h : GrS w wr n gs af nf cf uf es as' ns cs us ss) (hp : Pts n p) (hn : p ∉ ss) (hs : SpF w2 w.heap.size a2 n2 c2 us2 (putAt ss p)) (hg : wr.grownBy w2 (bk as')) (hat : bk a2 = bk as' ∨ ∃ g, bk a2 = some g ∧ wr.heap.size ≤ g)
    (ho : Own w2 w.heap.size 2 pa pn pc (p.map (Value.int .i64))) (hown : Own w4 w.heap.size 38 a4 (nf + 1) c4 (uf ++ [.slice pa pn pc])) (hg4 : w2.grownBy w4 (bk af)) (hat4 : bk a4 = bk af ∨ ∃ g, bk a4 = some g ∧ w2.heap.size ≤ g) :
    GrS w w4 n gs a4 (nf + 1) c4 (uf ++ [.slice pa pn pc]) (es ++ [p]) a2 n2 c2 us2 (putAt ss p) := by
  have hf2 := h.fnd.far h.srt.own hg h.ne
  have hsz := hg.size
  have ne2 : ∀ g, bk a2 = some g → bk af ≠ some g := fun g e q => by
    rcases hat with t | ⟨g2, t, hge⟩
    · exact h.ne g q (t ▸ e)
    · rw [t] at e; have := Option.some.inj e; have := (h.fnd.own.lt g q).2; omega
  obtain ⟨hasc, hmem⟩ := putAt_asc h.asc hn
  have hlen : (putAt ss p).length = ss.length + 1 := by
    unfold putAt
    have := lowL_le ss p
    simp; omega
  refine ⟨hf2.push ho hg4 hown, hs.far hf2.own hg4 ne2, hasc, fun z => ?_, fun z hz => ?_, fun g e q => ?_, ?_, ?_⟩
  · rw [hmem, h.mem, List.mem_append, List.mem_singleton]
  · rcases List.mem_append.1 hz with t | t
    · exact h.pts z t
    · simp at t; subst t; exact hp
  · rcases hat4 with t | ⟨g4, t, hge⟩
    · exact ne2 g q (t ▸ e)
    · rw [t] at e; have := Option.some.inj e; have := (hs.own.lt g q).2; omega
  · have a := hs.len; have b := h.srt.len; have c := h.nn; omega
  · exact (h.bel.grown hg h.bel.size (fun g e => (h.srt.own.lt g e).1)).grown hg4 (Nat.le_trans h.bel.size hsz) (fun g e => (h.fnd.own.lt g e).1)
end
end Go.Proofs.YtmdhljleaijkbaaDoor

/- Regular covers, plain: the elements in order, the maniplex whose flags they are. No program in sight. -/
namespace Go.Proofs.YtmdhljleaijkbaaDoor

theorem mem_stepG {gs es : List (List Int)} {i k : Nat} {z : List Int} (h : z ∈ es) : z ∈ stepG gs es i k := by
  unfold stepG; split
  · exact h
  · exact List.mem_append_left _ h
theorem stepG_has (gs es : List (List Int)) (i k : Nat) : thenL (lget es i) (lget gs k) ∈ stepG gs es i k := by
  unfold stepG; split
  · assumption
  · exact List.mem_append_right _ (by simp)
theorem stepG_nodup {gs es : List (List Int)} {i k : Nat} (h : es.Nodup) : (stepG gs es i k).Nodup := by
  unfold stepG; split
  · exact h
  · rename_i hn
    rw [List.nodup_append]
    refine ⟨h, by simp, fun a ha b hb => ?_⟩
    simp at hb; subst hb
    intro e; subst e; exact hn ha
theorem mem_rowG {gs es : List (List Int)} {i : Nat} {z : List Int} (h : z ∈ es) : ∀ k, z ∈ rowG gs es i k
  | 0 => h
  | k + 1 => mem_stepG (mem_rowG h k)
theorem mem_rowG_mono {gs es : List (List Int)} {i : Nat} {z : List Int} {k l : Nat} (hkl : k ≤ l) (h : z ∈ rowG gs es i k) : z ∈ rowG gs es i l := by
  induction l with
  | zero => obtain rfl : k = 0 := by omega
            exact h
  | succ l ih =>
    by_cases e : k = l + 1
    · subst e; exact h
    · exact mem_stepG (ih (by omega))
theorem rowG_nodup {gs es : List (List Int)} {i : Nat} (h : es.Nodup) : ∀ k, (rowG gs es i k).Nodup
  | 0 => h
  | k + 1 => stepG_nodup (rowG_nodup h k)
theorem rowG_has {gs es : List (List Int)} {i k l : Nat} (hi : i < es.length) (hk : k < l) : thenL (lget es i) (lget gs k) ∈ rowG gs es i l := by
  have h := stepG_has gs (rowG gs es i k) i k
  rw [rowG_get hi] at h
  exact mem_rowG_mono hk h
/-- what the search leaves -/
theorem runG_ok {gs : List (List Int)} : ∀ {f i : Nat} {es R : List (List Int)}, runG gs f i es = some R → es.Nodup → i ≤ es.length → (∀ i' k, i' < i → k < gs.length → thenL (lget es i') (lget gs k) ∈ es) →
    R.Nodup ∧ (∀ i' k, i' < R.length → k < gs.length → thenL (lget R i') (lget gs k) ∈ R) ∧ (∀ z, z ∈ es → z ∈ R)
  | 0, _, _, _, h, _, _, _ => by cases h
  | f + 1, i, es, R, h, hn, hi, hc => by
    by_cases hlt : i < es.length
    · by_cases hb : 1000 < (rowG gs es i gs.length).length
      · rw [runG_bad hlt hb] at h; cases h
      · rw [runG_go hlt (by omega)] at h
        obtain ⟨h1, h2, h3⟩ := runG_ok h (rowG_nodup hn _) (by have := (rowG_len gs es i gs.length).1; omega) (fun i' k hi' hk => by
          rw [rowG_get (by omega)]
          by_cases e : i' = i
          · subst e; exact rowG_has hlt hk
          · exact mem_rowG (hc i' k (by omega) hk) _)
        exact ⟨h1, h2, fun z hz => h3 z (mem_rowG hz _)⟩
    · rw [runG_end hlt] at h
      injection h with h; subst h
      exact ⟨hn, fun i' k hi' hk => hc i' k (by omega) hk, fun z hz => hz⟩
theorem grpE_ok {gs : List (List Int)} {n : Nat} {R : List (List Int)} (h : grpE gs n = some R) : R.Nodup ∧ (∀ i' k, i' < R.length → k < gs.length → thenL (lget R i') (lget gs k) ∈ R) ∧ unitL n ∈ R := by
  obtain ⟨h1, h2, h3⟩ := runG_ok h (by simp) (by omega) (fun i' k hi' => absurd hi' (by omega))
  exact ⟨h1, h2, h3 _ (by simp)⟩
theorem rowG_pts {gs es : List (List Int)} {i n : Nat} (he : ∀ z ∈ es, Pts n z) (hg : ∀ z ∈ gs, Pts n z) (hi : i < es.length) : ∀ k, k ≤ gs.length → ∀ z ∈ rowG gs es i k, Pts n z
  | 0, _ => he
  | k + 1, hk => fun z hz => by
    have ih := rowG_pts he hg hi k (by omega)
    have hz : z ∈ stepG gs (rowG gs es i k) i k := hz
    unfold stepG at hz
    split at hz
    · exact ih z hz
    · rcases List.mem_append.1 hz with t | t
      · exact ih z t
      · simp at t
        subst t
        exact thenL_pts (ih _ (lget_mem (by have := (rowG_len gs es i k).1; omega))) (hg _ (lget_mem (by omega)))
theorem runG_pts {gs : List (List Int)} {n : Nat} (hg : ∀ z ∈ gs, Pts n z) : ∀ {f i : Nat} {es R : List (List Int)}, runG gs f i es = some R → (∀ z ∈ es, Pts n z) → ∀ z ∈ R, Pts n z
  | 0, _, _, _, h, _ => by cases h
  | f + 1, i, es, R, h, he => by
    by_cases hlt : i < es.length
    · by_cases hb : 1000 < (rowG gs es i gs.length).length
      · rw [runG_bad hlt hb] at h; cases h
      · rw [runG_go hlt (by omega)] at h
        exact runG_pts hg h (rowG_pts he hg hlt _ (Nat.le_refl _))
    · rw [runG_end hlt] at h
      injection h with h; subst h
      exact he
theorem grpE_pts {gs : List (List Int)} {n : Nat} {R : List (List Int)} (hg : ∀ z ∈ gs, Pts n z) (h : grpE gs n = some R) : ∀ z ∈ R, Pts n z := runG_pts hg h fun z hz => by simp at hz; subst hz; exact unitL_pts n
/-- the lists in order -/
def srtE (es : List (List Int)) : List (List Int) := es.foldl putAt []
theorem srtE_go : ∀ {es acc : List (List Int)}, AscL acc → es.Nodup → (∀ z, z ∈ es → z ∉ acc) → AscL (es.foldl putAt acc) ∧ (∀ z, z ∈ es.foldl putAt acc ↔ z ∈ acc ∨ z ∈ es) ∧ (es.foldl putAt acc).length = acc.length + es.length
  | [], acc, h, _, _ => ⟨h, fun z => by simp, by simp⟩
  | p :: es, acc, h, hn, hd => by
    obtain ⟨h1, h2⟩ := putAt_asc h (hd p (by simp))
    have hn' := List.nodup_cons.1 hn
    obtain ⟨a, b, c⟩ := srtE_go (es := es) (acc := putAt acc p) h1 hn'.2 (fun z hz hz2 => by
      rcases (h2 z).1 hz2 with t | t
      · exact hd z (List.mem_cons_of_mem _ hz) t
      · subst t; exact hn'.1 hz)
    have hl : (putAt acc p).length = acc.length + 1 := by
      unfold putAt; have := lowL_le acc p; simp; omega
    refine ⟨a, fun z => ?_, by rw [List.foldl_cons, c, hl, List.length_cons]; omega⟩
    rw [List.foldl_cons, b, h2, List.mem_cons]
    constructor
    · rintro ((t | t) | t)
      · exact .inl t
      · exact .inr (.inl t)
      · exact .inr (.inr t)
    · rintro (t | t | t)
      · exact .inl (.inl t)
      · exact .inl (.inr t)
      · exact .inr t
theorem srtE_ok {es : List (List Int)} (h : es.Nodup) : AscL (srtE es) ∧ (∀ z, z ∈ srtE es ↔ z ∈ es) ∧ (srtE es).length = es.length := by
  obtain ⟨a, b, c⟩ := srtE_go (es := es) (acc := []) List.Pairwise.nil h (fun z _ => by simp)
  exact ⟨a, fun z => by show z ∈ es.foldl putAt [] ↔ _; rw [b]; simp, by show (es.foldl putAt []).length = _; rw [c]; simp⟩
theorem asc_srt {es ss : List (List Int)} (h : es.Nodup) (ha : AscL ss) (hm : ∀ z, z ∈ ss ↔ z ∈ es) : ss = srtE es := by
  obtain ⟨a, b, _⟩ := srtE_ok h
  exact ascL_uniq ha a fun z => (hm z).trans (b z).symm
/-- the numbers of p, moved by g -/
def cayRow (ss : List (List Int)) (g : List Int) (k : Nat) : List Int := (ss.take k).map fun p => (lowL ss (thenL p g) : Int)
def cayL (gs ss : List (List Int)) : List (List Int) := gs.map fun g => cayRow ss g ss.length
theorem cayRow_succ {ss : List (List Int)} {g : List Int} {k : Nat} (h : k < ss.length) : cayRow ss g (k + 1) = cayRow ss g k ++ [(lowL ss (thenL (lget ss k) g) : Int)] := by
  unfold cayRow
  rw [List.take_succ_eq_append_getElem h, List.map_append, lget_lt h]; rfl
theorem cayRow_len {ss : List (List Int)} {g : List Int} {k : Nat} (h : k ≤ ss.length) : (cayRow ss g k).length = k := by unfold cayRow; simp; omega
theorem cayL_take {gs ss : List (List Int)} {k : Nat} (h : k < gs.length) : (cayL gs ss).take (k + 1) = (cayL gs ss).take k ++ [cayRow ss (lget gs k) ss.length] := by
  unfold cayL
  rw [← List.map_take, ← List.map_take, List.take_succ_eq_append_getElem h, List.map_append, lget_lt h]; rfl
noncomputable def rcC (d : List (List Int)) : Int :=
  if manB d = true then (match grpE d (lget d 0).length with | none => 3 | some es => if es.length ≤ 400 then 0 else 3) else 1
noncomputable def rcR (d : List (List Int)) : List (List Int) :=
  if manB d = true then (match grpE d (lget d 0).length with | none => [] | some es => if es.length ≤ 400 then cayL d (srtE es) else []) else []
section
variable {d es : List (List Int)}
theorem rc_no (h : manB d = false) : rcC d = 1 ∧ rcR d = [] := by unfold rcC rcR; rw [h]; simp
theorem rc_none (h : manB d = true) (h2 : grpE d (lget d 0).length = none) : rcC d = 3 ∧ rcR d = [] := by unfold rcC rcR; rw [h, h2]; simp
theorem rc_big (h : manB d = true) (h2 : grpE d (lget d 0).length = some es) (h3 : ¬ es.length ≤ 400) : rcC d = 3 ∧ rcR d = [] := by unfold rcC rcR; rw [h, h2]; simp [h3]
theorem rc_yes (h : manB d = true) (h2 : grpE d (lget d 0).length = some es) (h3 : es.length ≤ 400) : rcC d = 0 ∧ rcR d = cayL d (srtE es) := by unfold rcC rcR; rw [h, h2]; simp [h3]
end
theorem lenSS_upto' {zss : List (List Int)} {k : Nat} (h : ∀ zs ∈ zss, zs.length ≤ k) : lenSS zss ≤ zss.length * k := by
  induction zss with
  | nil => simp [lenSS]
  | cons z t ih =>
    have h1 := h z (by simp)
    have h2 := ih fun x hx => h x (by simp [hx])
    simp [lenSS, Nat.add_mul] at *
    omega
theorem rcR_small (d : List (List Int)) : (rcR d).length ≤ 5 ∧ lenSS (rcR d) ≤ 2000 := by
  unfold rcR
  split
  · rename_i h
    have hM := manB_iff.1 h
    split
    · exact ⟨by simp, by simp [lenSS]⟩
    · rename_i es he
      split
      · rename_i hl
        have hn := (srtE_ok (grpE_ok he).1).2.2
        have h5 := hM.n5
        have hc : (cayL d (srtE es)).length = d.length := by simp [cayL]
        refine ⟨by omega, ?_⟩
        have := lenSS_upto' (zss := cayL d (srtE es)) (k := 400) (fun zs hz => by
          obtain ⟨g, hg, rfl⟩ := List.mem_map.1 hz
          rw [cayRow_len (Nat.le_refl _)]; omega)
        have h6 : (cayL d (srtE es)).length * 400 ≤ 5 * 400 := Nat.mul_le_mul_right _ (by omega)
        omega
      · exact ⟨by simp, by simp [lenSS]⟩
  · exact ⟨by simp, by simp [lenSS]⟩
/-- what a maniplex's moves are for the search -/
theorem man_pts {d : List (List Int)} (h : Man d) : ∀ z ∈ d, Pts (lget d 0).length z := fun z hz => by
  obtain ⟨i, hi, rfl⟩ := List.getElem_of_mem hz
  have hl := h.len i hi
  have hp := h.perm i hi
  rw [lget_lt hi] at hl hp
  refine ⟨hl, fun k hk => ?_⟩
  obtain ⟨h1, h2⟩ := isPerm_within hp (k := k) (by omega)
  exact ⟨(iget d[i] k).toNat, by omega, by omega⟩
end Go.Proofs.YtmdhljleaijkbaaDoor

/- Groups of permutations: the reference's l01Group, walked. -/
namespace Go.Proofs.YtmdhljleaijkbaaDoor
open Go.RowKit

theorem SpF.intss {w : World} {lo n c : Nat} {ao : Option Addr} {us : List Value} {ds : List (List Int)} (h : SpF w lo ao n c us ds) : Intss w ao n ds := by
  refine ⟨h.len, by have := h.own.2; omega, fun hn => ?_⟩
  obtain ⟨g, a, m, k, rfl, -, -, -⟩ := h.at_ hn
  refine ⟨g, 0, rfl, fun j hj => ?_⟩
  obtain ⟨g', a, m, k, e, hc, hu, ho⟩ := h.at_ hj
  injection e with e; injection e with e; subst e
  exact ⟨_, by rw [Nat.zero_add]; exact hc, a, m, k, rfl, ho.ints⟩
theorem lenSS_all {n : Nat} : ∀ {ds : List (List Int)}, (∀ d ∈ ds, d.length = n) → lenSS ds = n * ds.length
  | [], _ => by simp [lenSS]
  | d :: r, h => by
    have h1 := lenSS_all (ds := r) fun x hx => h x (by simp [hx])
    have e : lenSS (d :: r) = d.length + lenSS r := by simp [lenSS]
    rw [e, h1, h d (by simp), List.length_cons, Nat.mul_succ]; omega
/-- what both of the searches answer -/
def GrpAns (w : World) (R : Option (List (List Int))) (e : Ending) (w' : World) : Prop :=
  ∃ (a : Option Addr) (m c : Nat) (ss : List (List Int)), e = .returned (.tuple #[.slice a m c, .bool R.isSome]) ∧ (R = none → a = none ∧ m = 0 ∧ c = 0) ∧ (∀ es, R = some es → AscL ss ∧ (∀ z, z ∈ ss ↔ z ∈ es) ∧ OwSS 2 38 w' w.heap.size w'.heap.size (.slice a m c) ss) ∧ Below w.heap.size w w'
set_option maxRecDepth 100000 in
set_option maxHeartbeats 6400000 in
theorem specGroup_any (n gn gc : Nat) (ga : Option Addr) (gs : List (List Int)) (w : World) (hn0 : 1 ≤ n) (hn : n ≤ 400) (hg : Intss w ga gn gs) (hgp : ∀ z ∈ gs, Pts n z) (hg16 : gn ≤ 16) :
    Calls Tryd.prog 13 #[.int .i64 n, .slice ga gn gc] w (GrpAns w (grpE gs n)) := by
  obtain ⟨R, hR⟩ : ∃ R, R = grpE gs n := ⟨_, rfl⟩
  rw [← hR]
  have HR := Lib.hid hR
  have HG := Lib.hid hg
  have HGP := Lib.hid hgp
  have hgl := hg.1
  clear hR hg hgp
  go_enter Tryd.func13, Tryd.ntmps13
  go_wp2_with fail
  refine (unit_any n w (by omega)).mono ?_
  rintro e w1 ⟨a1, c1, rfl, o1, b1⟩
  have z1 := b1.size
  have O1 := Lib.hid (o1.alloc (.cells #[.slice a1 n c1] 38))
  have F1 := Lib.hid (own_lit (w := w1) (base := w.heap.size) (E := 38) (us := [.slice a1 n c1]) rfl z1 (by simp))
  have B1 := Lib.hid (b1.alloc z1 (.cells #[.slice a1 n c1] 38))
  clear o1 b1
  go_upto_region 2 with fail
  have hz2 : (w1.alloc (.cells #[.slice a1 n c1] 38)).heap.size = w1.heap.size + 1 := by simp
  generalize w1.alloc (.cells #[.slice a1 n c1] 38) = w2 at *
  go_wp2_with fail
  refine (unit_any n w2 (by omega)).mono ?_
  rintro e w3 ⟨a3, c3, rfl, o3, b3⟩
  have z3 := b3.size
  have G0 : GrS w (w3.alloc (.cells #[.slice a3 n c3] 38)) n gs (some ⟨w1.heap.size, 0, none⟩) 1 1 [.slice a1 n c1] [unitL n] (some ⟨w3.heap.size, 0, none⟩) 1 1 [.slice a3 n c3] [unitL n] := by
    have b4 := b3.alloc z3 (.cells #[.slice a3 n c3] 38)
    refine ⟨⟨F1.out.below b4, rfl, fun j u d hu hd => ?_⟩, ⟨own_lit (us := [.slice a3 n c3]) rfl (by omega) (by simp), rfl, fun j u d hu hd => ?_⟩, by simp [AscL], fun z => Iff.rfl, fun z hz => ?_, fun g e q => ?_, rfl, B1.out.trans (b4.mono (by omega))⟩
    · match j, hu, hd with
      | 0, hu, hd => simp at hu hd; subst hu hd; exact ⟨_, _, _, rfl, O1.out.below b4⟩
    · match j, hu, hd with
      | 0, hu, hd => simp at hu hd; subst hu hd; exact ⟨_, _, _, rfl, (o3.alloc _).mono (by omega)⟩
    · simp at hz; subst hz; exact unitL_pts n
    · simp [bk] at e q; omega
  have GH := Lib.hid G0
  clear G0 O1 F1 B1 o3 b3
  go_upto_region 3 with fail
  generalize w3.alloc (.cells #[.slice a3 n c3] 38) = w4 at *
  go_wp2_with fail
  go_loopw [6, 7, 8] (fun fv sv iv wr => ∃ (i f : Nat) (af : Option Addr) (nf cf : Nat) (uf : List Value) (es : List (List Int)) (as' : Option Addr) (ns cs : Nat) (us : List Value) (ss : List (List Int)), fv = .slice af nf cf ∧ sv = .slice as' ns cs ∧ iv = .int .i64 i ∧ i ≤ nf ∧ nf ≤ 1000 ∧ f + i = 1002 ∧ R = runG gs f i es ∧ GrS w wr n gs af nf cf uf es as' ns cs us ss) (fun _ _ iv _ => 1002 - (intOf iv).toNat)
  case atStart => exact ⟨0, 1002, _, 1, 1, _, _, _, 1, 1, _, _, rfl, rfl, rfl, by omega, by omega, rfl, HR.out, GH.out⟩
  case round =>
    clear GH
    obtain ⟨i, f, af, nf, cf, uf, es, as', ns, cs, us, ss, rfl, rfl, rfl, hi, hnf, hfi, hR, gr⟩ := hrel
    obtain ⟨f', rfl⟩ : ∃ f', f = f' + 1 := ⟨f - 1, by omega⟩
    have hel := gr.fnd.len
    by_cases hlt : i < nf
    · have GR := Lib.hid gr
      have H0 := Lib.hid hR
      clear gr hR
      have hie : i < es.length := by omega
      go_wp2_with fail
      go_loopw [6, 7, 9] (fun fv sv kv wr => ∃ (k : Nat) (af : Option Addr) (nf cf : Nat) (uf : List Value) (es' : List (List Int)) (as' : Option Addr) (ns cs : Nat) (us : List Value) (ss : List (List Int)), fv = .slice af nf cf ∧ sv = .slice as' ns cs ∧ kv = .int .i64 k ∧ k ≤ gn ∧ es' = rowG gs es i k ∧ nf ≤ 1000 ∧ GrS w wr n gs af nf cf uf es' as' ns cs us ss) (fun _ _ kv _ => gn - (intOf kv).toNat)
      case atStart => exact ⟨0, _, _, _, _, _, _, _, _, _, _, rfl, rfl, rfl, Nat.zero_le _, rfl, hnf, GR.out⟩
      case round =>
        clear GR hnf hlt hel hi
        obtain ⟨k, af, nf, cf, uf, es', as', ns, cs, us, ss, rfl, rfl, rfl, hk, he', hnf, gr⟩ := hrel
        have hel := gr.fnd.len
        have hrl := rowG_len gs es i k
        rw [← he'] at hrl
        have hbel := gr.bel
        by_cases hlt : k < gn
        · have hiN : i < nf := by omega
          obtain ⟨g1, a, b, kk, rfl, hc1, hu1, ho1⟩ := gr.fnd.at_ hiN
          obtain ⟨b2, off2, a2, n2, c2, rfl, hc2, hi2⟩ := (HG.out.below hbel).at_ hlt
          have hp1 := gr.pts (lget es' i) (lget_mem (by omega))
          have hp2 := HGP.out (lget gs k) (lget_mem (by omega))
          have hb1 : n = b := by have := ho1.len; rw [List.length_map, hp1.1] at this; exact this
          have hn2 : n = n2 := by rw [← hi2.1, hp2.1]
          subst hb1 hn2
          have hpt := thenL_pts hp1 hp2
          have hst : rowG gs es i (k + 1) = stepG gs es' i k := by rw [he']; rfl
          unfold stepG at hst
          obtain ⟨p, hpe⟩ : ∃ p, p = thenL (lget es' i) (lget gs k) := ⟨_, rfl⟩
          rw [← hpe] at hst hpt
          have HPE := Lib.hid hpe
          have hblk2 : b2 < wr.heap.size := World.block_lt_of_cell? wr _ hc2
          have hblk1 : g1 < wr.heap.size := World.block_lt_of_cell? wr _ hc1
          have HS := Lib.hid (show ∀ w', Below wr.heap.size wr w' → (Below wr.heap.size wr w' ∧ w'.cell? ⟨g1, i, none⟩ = some (.slice a n kk) ∧ w'.cell? ⟨b2, off2 + k, none⟩ = some (.slice a2 n c2)) from fun w' hb => ⟨hb, (hb.cell (p := ⟨g1, i, none⟩) hblk1).trans hc1, (hb.cell (p := ⟨b2, off2 + k, none⟩) hblk2).trans hc2⟩)
          have HI1 := Lib.hid ho1
          have HI2 := Lib.hid hi2
          have GR := Lib.hid gr
          have HST := Lib.hid hst
          have HP1 := Lib.hid hp1.2
          have hi0 : (i : Int) < (nf : Int) := by omega
          have hsz := hbel.size
          clear hpe hst hc1 hc2 ho1 hi2 gr hp1 hp2 hu1
          have K0 := Lib.hid (HS.out wr.drew (below_drew1 wr))
          go_upto_region 9 with fail
          go_region_held3 (fun w' => Below wr.heap.size wr w' ∧ w'.cell? ⟨g1, i, none⟩ = some (.slice a n kk) ∧ w'.cell? ⟨b2, off2 + k, none⟩ = some (.slice a2 n c2)) (first | exact K0.out | exact K5.out) (first | (go_at_call 15; refine (specThen_any _ _ n n _ _ (lget es' i) (lget gs k) _ (HI1.out.below (below_drew1 wr)).ints (HI2.out.below (below_drew1 wr)) HP1.out (by omega)).mono ?_; rintro e w5 ⟨a5, c5, rfl, o5, b5⟩; have B5 : Below wr.heap.size wr w5 := below_tr b5 (below_drew1 wr); have K5 := Lib.hid (HS.out w5 B5)))
          all_goals
            have GR5 := Lib.hid (GR.out.below B5)
            rw [← HPE.out] at o5
            have O5 := Lib.hid (o5.mono (show w.heap.size ≤ wr.heap.size from hsz))
            have hz5 := GR5.out.bel.size
            have hss : ∀ d ∈ ss, d.length = n := fun d hd => (GR5.out.pts d ((GR5.out.mem d).1 hd)).1
            have hns : ns ≤ 2000 := by have := GR5.out.nn; omega
            clear o5 b5 B5 K0 K5 GR HS HI1 HI2
            go_wp2_with fail
            refine (specPut_any w.heap.size as' a5 ns cs n c5 us ss p w5 GR5.out.srt O5.out GR5.out.asc hss hz5 hns).mono ?_
            rintro e w6 hput
            unfold PutAns at hput
            obtain ⟨fresh, a6, n6, c6, us6, ds6, rfl, hfr, hds, hsp, hgr, hat⟩ := hput
            cases fresh with
            | false =>
              have hin : p ∈ ss := by
                rcases Classical.em (p ∈ ss) with t | t
                · exact t
                · exact absurd (hfr.2 t) (by simp)
              rw [if_neg (by simp)] at hds
              subst hds
              have hst2 : rowG gs es i (k + 1) = es' := by rw [HST.out, if_pos ((GR5.out.mem p).1 hin)]
              have G6 := Lib.hid (GR5.out.put hsp hgr hat hin)
              have HS2 := Lib.hid hst2
              have hnf1 : ¬ ((1000 : Int) < (nf : Int)) := by omega
              clear hsp hgr hat hst2 GR5 hfr
              go_wp2_with fail
              go_roundw
              case rel => first | exact ⟨k + 1, _, _, _, _, _, _, _, _, _, _, rfl, rfl, by go_num, by omega, HS2.out.symm, hnf, G6.out⟩ | ((repeat apply Exists.intro); exact ⟨⟨k + 1, _, _, _, _, _, _, _, _, _, _, rfl, rfl, by go_num, by omega, HS2.out.symm, hnf, G6.out⟩, rfl⟩)
              case measure => simp [intOf]; omega
            | true =>
              have hnin : p ∉ ss := hfr.1 rfl
              rw [if_pos rfl] at hds
              subst hds
              have hst2 : rowG gs es i (k + 1) = es' ++ [p] := by rw [HST.out, if_neg (fun t => hnin ((GR5.out.mem p).2 t))]
              have hf6 := Lib.hid (GR5.out.fnd.far GR5.out.srt.own hgr GR5.out.ne)
              have hz6 := hgr.size
              have O6 := Lib.hid (show Own w6 w.heap.size 2 a5 n c5 (p.map (Value.int .i64)) from O5.out.same fun g e => hgr.block g (O5.out.lt g e).2 (fun q => own_neT O5.out GR5.out.srt.own (by decide) e q.symm))
              have hw6 : w.heap.size ≤ w6.heap.size := Nat.le_trans hz5 hz6
              have HSP := Lib.hid hsp
              have HGR := Lib.hid hgr
              have HAT := Lib.hid hat
              have HS2 := Lib.hid hst2
              have HNI := Lib.hid hnin
              have HPT := Lib.hid hpt
              clear hsp hgr hat hst2 hfr hnin hpt
              go_upto_region 14 with (at_builtin; refine wpList_ap1 etSS _ rfl _ _ rfl w.heap.size _ nf cf uf rfl hf6.out.own (.slice a5 n c5) rfl rfl (by omega) hw6 ?_; intro ao8 c8 w8 o8 g8 hat8)
              have GF := Lib.hid (GR5.out.grow HPT.out HNI.out HSP.out HGR.out HAT.out O6.out o8 g8 (hat8.imp id (fun e => ⟨_, e, Nat.le_succ _⟩)))
              clear o8 g8 hat8 hf6 HSP HGR HAT HNI HPT O6 GR5 O5
              by_cases hbig : nf < 1000
              · go_wp2_with fail
                go_roundw
                case rel => first | exact ⟨k + 1, _, _, _, _, _, _, _, _, _, _, rfl, rfl, by go_num, by omega, HS2.out.symm, by omega, GF.out⟩ | ((repeat apply Exists.intro); exact ⟨⟨k + 1, _, _, _, _, _, _, _, _, _, _, rfl, rfl, by go_num, by omega, HS2.out.symm, by omega, GF.out⟩, rfl⟩)
                case measure => simp [intOf]; omega
              · have hlong : 1000 < (rowG gs es i gs.length).length := by
                  have h1 := rowG_mono gs es i (show k + 1 ≤ gs.length by omega)
                  rw [HS2.out, List.length_append, List.length_singleton] at h1
                  omega
                have hRn : R = none := by rw [H0.out]; exact runG_bad hie hlong
                have HRN := Lib.hid hRn
                have HB := Lib.hid GF.out.bel
                clear hRn hlong
                go_wp2_with fail
                exact bodyPost_ret (v := .tuple #[.slice none 0 0, .bool false]) (by simp [results, Tryd.f13, go_sem]) rfl (by unfold GrpAns; exact ⟨none, 0, 0, [], by rw [HRN.out]; rfl, fun _ => ⟨rfl, rfl, rfl⟩, fun es h => (by rw [HRN.out] at h; cases h), HB.out⟩)
        · obtain rfl : k = gn := by omega
          have hR2 : R = runG gs f' (i + 1) es' := by
            rw [H0.out, runG_go hie (by rw [hgl, ← he']; omega), hgl, ← he']
          have HR2 := Lib.hid hR2
          have GR2 := Lib.hid gr
          clear gr hR2
          go_wp2_with fail
          go_roundw
          case rel => first | exact ⟨i + 1, f', _, _, _, _, _, _, _, _, _, _, rfl, rfl, by go_num, by omega, hnf, by omega, HR2.out, GR2.out⟩ | ((repeat apply Exists.intro); exact ⟨⟨i + 1, f', _, _, _, _, _, _, _, _, _, _, rfl, rfl, by go_num, by omega, hnf, by omega, HR2.out, GR2.out⟩, rfl⟩)
          case measure => simp [intOf]; omega
    · have he := runG_end (gs := gs) (f := f') (i := i) (es := es) (by omega)
      have hRe : R = some es := by rw [hR, he]
      have HRE := Lib.hid hRe
      have GR := Lib.hid gr
      clear gr hR he hRe
      have hss : lenSS ss = n * ss.length := lenSS_all fun d hd => (GR.out.pts d ((GR.out.mem d).1 hd)).1
      have hsl := GR.out.srt.len
      have hnn := GR.out.nn
      have hmul : n * ss.length ≤ 400 * 1000 := Nat.mul_le_mul hn (by omega)
      have hle : ss.length + lenSS ss ≤ 1048576 := by rw [hss]; omega
      have HI := Lib.hid GR.out.srt.intss
      have hbl := GR.out.bel
      clear hss hsl hnn hmul
      go_wp2_with fail
      refine (own2_any _ _ _ ss _ HI.out hle).mono ?_
      rintro e w9 ⟨v9, rfl, o9, b9⟩
      obtain ⟨a9, n9, c9, us9, rfl, or9⟩ := o9
      have hb9 := hbl.trans (b9.mono hbl.size)
      have O9 := Lib.hid (show OwSS 2 38 w9 w.heap.size w9.heap.size (.slice a9 n9 c9) ss from ⟨_, _, _, _, rfl, or9.mono hbl.size (Nat.le_refl _)⟩)
      clear or9 b9 hbl
      go_wp2_with fail
      exact bodyPost_ret (v := .tuple #[.slice a9 n9 c9, .bool true]) (by simp [results, Tryd.f13, go_sem]) rfl (by unfold GrpAns; exact ⟨a9, n9, c9, ss, by rw [HRE.out]; rfl, fun h => (by rw [HRE.out] at h; cases h), fun es' h => (by rw [HRE.out] at h; injection h with h; subst h; exact ⟨GR.out.asc, GR.out.mem, O9.out⟩), hb9⟩)
end Go.Proofs.YtmdhljleaijkbaaDoor

/- Regular covers, the reference's. guards: -/
namespace Go.Proofs.YtmdhljleaijkbaaDoor
open Go.RowKit

/-- the first place of q among ss -/
theorem low_first {ss : List (List Int)} {q : List Int} (ha : AscL ss) (hq : q ∈ ss) {k : Nat} (hk : k ≤ lowL ss q) : (decide (lget ss k = q) = true ↔ k = lowL ss q) ∧ k < ss.length := by
  obtain ⟨h1, h2⟩ := (mem_low ha).1 hq
  have hkl : k < ss.length := by omega
  refine ⟨?_, hkl⟩
  rw [decide_eq_true_iff]
  constructor
  · intro e
    by_cases hlt : k < lowL ss q
    · have := (lowL_at ha k hkl).2 hlt
      rw [e, ltL_irr] at this; cases this
    · omega
  · rintro rfl; exact h2
set_option maxRecDepth 100000 in
set_option maxHeartbeats 6400000 in
theorem api_specRc {E1 E : Nat} {lo hi : Nat} {v : Value} {d : List (List Int)} (w : World) (h : OwM E1 E w lo hi v d) (hs : d.length + lenSS d ≤ 1048576) :
    Calls Tryd.prog 5 #[v] w fun e w' => ∃ r, e = .returned (.tuple #[r, .int .i64 (rcC d)]) ∧ OwM 2 38 w' w.heap.size w'.heap.size r (rcR d) ∧ Below w.heap.size w w' := by
  have HI := Lib.hid (fun (w : World) (h : OwM E1 E w lo hi v d) => specManW w h (by omega) (fun i hi => by have := len_le_lenSS hi; omega))
  have HO := Lib.hid h
  obtain ⟨C, hC⟩ : ∃ C, rcC d = C := ⟨_, rfl⟩
  obtain ⟨R, hR⟩ : ∃ R, rcR d = R := ⟨_, rfl⟩
  rw [hC, hR]
  have HC := Lib.hid hC
  have HR := Lib.hid hR
  clear hC hR
  obtain ⟨u, rfl, hu⟩ := ofM h
  obtain ⟨ao, n, c, us, rfl, hrow⟩ := hu
  have hn := hrow.len
  have HIS := Lib.hid hrow.intss
  clear h hrow
  have b0 := below_alloc2 w (.cells #[.slice ao n c] 26) (.cells #[.slice none 0 0] 26)
  have kb : Blk ((w.alloc (.cells #[.slice ao n c] 26)).alloc (.cells #[.slice none 0 0] 26)) w.heap.size 26 #[.slice ao n c] := (blk_at rfl).alloc _
  have kr : Blk ((w.alloc (.cells #[.slice ao n c] 26)).alloc (.cells #[.slice none 0 0] 26)) (w.heap.size + 1) 26 #[.slice none 0 0] := blk_at (by simp)
  have HO1 := Lib.hid (HO.out.below b0)
  have x0 := kb.cell 0
  simp at x0
  by_cases hb : manB d = true
  case neg =>
    have hb : manB d = false := by simpa using hb
    have h2 := rc_no hb
    obtain rfl := h2.1.symm.trans HC.out
    obtain rfl := h2.2.symm.trans HR.out
    simp only [hb] at HI
    clear hb h2 HC HR
    go_enter Tryd.func5, Tryd.ntmps5
    go_wp2_with fail
    refine (HI.out _ HO1.out).mono ?_
    have z0 := b0.size
    rintro e w1 ⟨rfl, b1⟩
    have B1 := b0.trans (b1.mono z0)
    have kr1 := kr.belowS b1
    clear x0 b1 kb kr HO1 b0 z0
    have x2 := kr1.cell 0
    have f2 := kr1.frozen 0
    simp at x2
    go_wp2
    exact bodyPost_ret (v := .tuple #[.agg #[.slice none 0 0], .int .i64 1]) (by simp [results, Tryd.f5, go_sem, x2]) rfl ⟨_, rfl, own_nilMx, B1.setCell (by simp) _⟩
  case pos =>
    have hM := manB_iff.1 hb
    have hpts := man_pts hM
    have hn5 := hM.n5
    have hn1 := hM.n1
    have hf2 := hM.f2
    have hf4 := hM.f4
    simp only [hb] at HI
    obtain ⟨N, hN⟩ : ∃ N, (lget d 0).length = N := ⟨_, rfl⟩
    rw [hN] at hpts hf2 hf4
    have HN := Lib.hid hN
    have HP := Lib.hid hpts
    have HB := Lib.hid hb
    clear hM hb hpts hN
    go_enter Tryd.func5, Tryd.ntmps5
    go_wp2_with fail
    refine (HI.out _ HO1.out).mono ?_
    have z0 := b0.size
    rintro e w1 ⟨rfl, b1⟩
    have B1 := Lib.hid (b0.trans (b1.mono z0))
    have kr1 := kr.belowS b1
    have kb1 := kb.belowS b1
    have IS1 := Lib.hid (HIS.out.below B1.out)
    clear x0 b1 kb kr HO1 b0 z0 HI HO
    have xb1 := Lib.hid (kb1.cell 0)
    have S0 := Lib.hid (show ∀ w', Below w1.heap.size w1 w' → (Below w1.heap.size w1 w' ∧ w'.cell? ⟨w.heap.size, 0, none⟩ = some (.slice ao n c)) from fun w' hb => ⟨hb, by have := (kb1.belowS hb).cell 0; simpa using this⟩)
    have K0 := Lib.hid (S0.out w1.drew (below_drew1 w1))
    go_upto_region 3 with fail
    go_region_held3 (fun w' => Below w1.heap.size w1 w' ∧ w'.cell? ⟨w.heap.size, 0, none⟩ = some (.slice ao n c)) (first | exact K0.out | exact K5.out | exact K6.out) (first | (go_at_call 14; refine (flagsS_any ao n c N d _ ⟨ao, n, c, rfl, IS1.out.below (below_drew1 w1)⟩ (by omega) HN.out (by omega)).mono ?_; rintro e w5 ⟨rfl, b5⟩; have B5 : Below w1.heap.size w1 w5 := below_tr b5 (below_drew1 w1); have K5 := Lib.hid (S0.out w5 B5); have IS5 := Lib.hid (IS1.out.below B5)) | (go_at_call 13; refine (specGroup_any N n c ao d _ (by omega) hf4 IS5.out HP.out (by omega)).mono ?_; rintro e w6 hg; obtain ⟨ga, gm, gc, ss, rfl, hg1, hg2, b6⟩ := hg; have B6 : Below w1.heap.size w1 w6 := below_tr b6 B5; have K6 := Lib.hid (S0.out w6 B6)))
    have x6 := (kr1.belowS B6).cell 0
    have f6 := (kr1.belowS B6).frozen 0
    have KR6 := Lib.hid (kr1.belowS B6)
    have KB6 := Lib.hid (kb1.belowS B6)
    have hb6 := Lib.hid (B1.out.trans (B6.mono B1.out.size))
    have IS6 := Lib.hid (IS1.out.below B6)
    have hz6 := B6.size
    have hz1 := B1.out.size
    have hr1 := kr1.lt
    simp at x6
    clear B6 K6 K5 K0 S0 xb1 IS5 IS1 B5 b5 kr1 kb1 B1
    cases hG : grpE d N with
    | none =>
      have h2 := rc_none HB.out (by rw [HN.out]; exact hG)
      obtain rfl := h2.1.symm.trans HC.out
      obtain rfl := h2.2.symm.trans HR.out
      obtain ⟨rfl, rfl, rfl⟩ := hg1 hG
      clear h2 HC HR hg1 hg2 hG b6
      go_wp2_with fail
      exact bodyPost_ret (v := .tuple #[.agg #[.slice none 0 0], .int .i64 3]) (by simp [results, Tryd.f5, go_sem, x6]) rfl ⟨_, rfl, own_nilMx, hb6.out.setCell (by simp) _⟩
    | some es =>
      obtain ⟨hasc, hmem, hss⟩ := hg2 es hG
      obtain ⟨hnd, hcl, -⟩ := grpE_ok hG
      have hse := asc_srt hnd hasc hmem
      have hsl := (srtE_ok hnd).2.2
      rw [← hse] at hsl
      obtain ⟨ga', gm', gc', gus, e1, grow⟩ := hss
      injection e1 with e1 e2 e3
      subst e1 e2 e3
      have hgl := grow.len
      have hpt6 : ∀ z ∈ es, Pts N z := grpE_pts HP.out hG
      by_cases hbig : es.length ≤ 400
      case neg =>
        have h2 := rc_big HB.out (by rw [HN.out]; exact hG) hbig
        obtain rfl := h2.1.symm.trans HC.out
        obtain rfl := h2.2.symm.trans HR.out
        have hd : decide ((400 : Int) < (gm : Int)) = true := by simp; omega
        clear h2 HC HR hg1 hg2 hG b6 hcl hnd hasc hmem hse
        go_wp2_with fail
        exact bodyPost_ret (v := .tuple #[.agg #[.slice none 0 0], .int .i64 3]) (by simp [results, Tryd.f5, go_sem, x6]) rfl ⟨_, rfl, own_nilMx, hb6.out.setCell (by simp) _⟩
      case pos =>
        have h2 := rc_yes HB.out (by rw [HN.out]; exact hG) hbig
        rw [← hse] at h2
        obtain rfl := h2.1.symm.trans HC.out
        obtain rfl := h2.2.symm.trans HR.out
        have hd : decide ((400 : Int) < (gm : Int)) = false := by simp; omega
        have HASC := Lib.hid hasc
        have HSP := Lib.hid (show ∀ z ∈ ss, Pts N z from fun z hz => hpt6 z ((hmem z).1 hz))
        have HCL := Lib.hid (show ∀ i k, i < ss.length → k < d.length → thenL (lget ss i) (lget d k) ∈ ss from fun i k hi hk => by
          have h1 := (hmem _).1 (lget_mem hi)
          obtain ⟨j, hj, ej⟩ := List.getElem_of_mem h1
          have := hcl j k hj hk
          rw [lget_lt hj, ej] at this
          exact (hmem _).2 this)
        have GS6 := Lib.hid grow.intss
        clear h2 HC HR hg1 hg2 hG b6 hcl hnd hasc hmem hse hpt6 grow
        go_upto_region 7 with fail
        have b7 := (Below.refl w6.heap.size w6).alloc (Nat.le_refl _) (.cells #[.slice none 0 0] 26)
        have hz7 : (w6.alloc (.cells #[.slice none 0 0] 26)).heap.size = w6.heap.size + 1 := by simp
        have ST := Lib.hid (MBx.start (w := w6) b7 (Blk.new w6 26 #[.slice none 0 0]) (Nat.le_refl _))
        clear b7
        generalize w6.alloc (.cells #[.slice none 0 0] 26) = w7 at *
        obtain ⟨bx, hbx⟩ : ∃ bx, w6.heap.size = bx := ⟨_, rfl⟩
        have HBX := Lib.hid hbx
        rw [hbx] at ST hz7 ⊢
        clear hbx
        go_wp2_with fail
        go_loopw [7] (fun kv wr => ∃ (k : Nat) (ao : Option Addr) (c : Nat) (us : List Value), kv = .int .i64 k ∧ k ≤ n ∧ MBx w6 wr bx (bx + 1) ao k c us ((cayL d ss).take k)) (fun kv _ => n - (intOf kv).toNat)
        case atStart => exact ⟨0, none, 0, [], rfl, Nat.zero_le _, ST.out⟩
        case round =>
          clear ST hz7
          obtain ⟨k, am, cm, um, rfl, hk, st⟩ := hrel
          obtain ⟨wA, rfl⟩ : ∃ x, x = wr := ⟨_, rfl⟩
          have hx1 := (KB6.out.belowS (st.bel)).cell 0
          simp at hx1
          by_cases hlt : k < n
          · have ST := Lib.hid st
            have hbw := st.bel
            have hzr := hbw.size
            have hE : Own (wA.alloc (.cells #[] 2)) wA.heap.size 2 (some ⟨wA.heap.size, 0, none⟩) 0 0 [] := Own.empty_ wA 2 (Nat.le_refl _)
            have hB := below_alloc1 wA (.cells #[] 2)
            clear st
            go_wp2_with fail
            go_loopw [8, 9] (fun sv iv w8 => ∃ (i : Nat) (a : Option Addr) (cc : Nat), i ≤ gm ∧ sv = .slice a i cc ∧ iv = .int .i64 i ∧ Own w8 wA.heap.size 2 a i cc ((cayRow ss (lget d k) i).map (Value.int .i64)) ∧ Below wA.heap.size wA w8) (fun _ iv _ => gm - (intOf iv).toNat)
            case atStart => exact ⟨0, _, _, Nat.zero_le _, rfl, rfl, by simpa [cayRow] using hE, hB⟩
            case round =>
              clear hE hB hx1
              obtain ⟨i, a, cc, hi, rfl, rfl, ho, hb8⟩ := hrel
              obtain ⟨w8, rfl⟩ : ∃ x, x = wr := ⟨_, rfl⟩
              have HBW := Lib.hid (hbw.trans (hb8.mono hzr))
              have hx8 := (KB6.out.belowS HBW.out).cell 0
              simp at hx8
              have HO8 := Lib.hid ho
              have hsz8 := hb8.size
              clear ho
              by_cases hlti : i < gm
              · obtain ⟨b1, off1, a1, n1, c1, rfl, hc1, hi1⟩ := (GS6.out.below HBW.out).at_ hlti
                obtain ⟨b2, off2, a2, n2, c2, rfl, hc2, hi2⟩ := (IS6.out.below HBW.out).at_ hlt
                have hp1 := HSP.out (lget ss i) (lget_mem (by omega))
                have hp2 := HP.out (lget d k) (lget_mem (by omega))
                have hn1 : N = n1 := by rw [← hi1.1, hp1.1]
                have hn2 : N = n2 := by rw [← hi2.1, hp2.1]
                subst hn1
                subst hn2
                have hq := HCL.out i k (by omega) (by omega)
                have hrw := cayRow_succ (ss := ss) (g := lget d k) (k := i) (by omega)
                obtain ⟨q, hqe⟩ : ∃ q, thenL (lget ss i) (lget d k) = q := ⟨_, rfl⟩
                rw [hqe] at hq hrw
                have HQE := Lib.hid hqe
                have HQ := Lib.hid hq
                have HRW := Lib.hid hrw
                have HI1 := Lib.hid hi1
                have HI2 := Lib.hid hi2
                have HP1 := Lib.hid hp1.2
                have hl1 : b1 < w8.heap.size := World.block_lt_of_cell? w8 _ hc1
                have hl2 : b2 < w8.heap.size := World.block_lt_of_cell? w8 _ hc2
                have hl3 : w.heap.size < w8.heap.size := World.block_lt_of_cell? w8 _ hx8
                have S0 := Lib.hid (show ∀ w', Below w8.heap.size w8 w' → (Below w8.heap.size w8 w' ∧ w'.cell? ⟨b1, off1 + i, none⟩ = some (.slice a1 N c1) ∧ w'.cell? ⟨b2, off2 + k, none⟩ = some (.slice a2 N c2) ∧ w'.cell? ⟨w.heap.size, 0, none⟩ = some (.slice (some ⟨b2, off2, none⟩) n c)) from fun w' hb => ⟨hb, (hb.cell (p := ⟨b1, off1 + i, none⟩) hl1).trans hc1, (hb.cell (p := ⟨b2, off2 + k, none⟩) hl2).trans hc2, (hb.cell (p := ⟨w.heap.size, 0, none⟩) hl3).trans hx8⟩)
                have K0 := Lib.hid (S0.out w8.drew (below_drew1 w8))
                have hi0 : (i : Int) < (gm : Int) := by omega
                clear hqe hq hrw hi1 hi2 hp1 hp2 hc1 hc2 hx8 hl1 hl2 hl3
                go_upto_region 14 with fail
                go_region_held3 (fun w' => Below w8.heap.size w8 w' ∧ w'.cell? ⟨b1, off1 + i, none⟩ = some (.slice a1 N c1) ∧ w'.cell? ⟨b2, off2 + k, none⟩ = some (.slice a2 N c2) ∧ w'.cell? ⟨w.heap.size, 0, none⟩ = some (.slice (some ⟨b2, off2, none⟩) n c)) (first | exact K0.out | exact K5.out) (first | (go_at_call 15; refine (specThen_any _ _ N N _ _ (lget ss i) (lget d k) _ (HI1.out.below (below_drew1 w8)) (HI2.out.below (below_drew1 w8)) HP1.out (by omega)).mono ?_; rintro e w9 ⟨a9, c9, rfl, o9, b9⟩; have B9 : Below w8.heap.size w8 w9 := below_tr b9 (below_drew1 w8); have K5 := Lib.hid (S0.out w9 B9)))
                all_goals
                  rw [HQE.out] at o9
                  have O9 := Lib.hid o9
                  have hbw9 := Lib.hid (HBW.out.trans (B9.mono HBW.out.size))
                  have hsz9 := B9.size
                  have HO9 := Lib.hid (HO8.out.below B9)
                  have hb9 := Lib.hid (hb8.trans (B9.mono hsz8))
                  clear o9 b9 B9 K0 S0 HI1 HI2 HP1 K5
                  go_wp2_with fail
                  go_loopw [11] (fun tv w10 => ∃ t : Nat, tv = .int .i64 t ∧ t ≤ lowL ss q ∧ Below w9.heap.size w9 w10) (fun tv _ => gm - (intOf tv).toNat)
                  case atStart => exact ⟨0, rfl, Nat.zero_le _, Below.refl _ _⟩
                  case round =>
                    obtain ⟨t, rfl, ht, hb10⟩ := hrel
                    obtain ⟨w10, rfl⟩ : ∃ x, x = wr := ⟨_, rfl⟩
                    obtain ⟨hf1, hf2⟩ := low_first HASC.out HQ.out ht
                    have htg : t < gm := by omega
                    have HB10 := Lib.hid (hbw9.out.trans (hb10.mono hbw9.out.size))
                    obtain ⟨b3, off3, a3, n3, c3, e3, hc3, hi3⟩ := (GS6.out.below HB10.out).at_ htg
                    injection e3 with e3
                    injection e3 with e31 e32
                    subst e31 e32
                    have HI3 := Lib.hid hi3
                    have hsz10 := hb10.size
                    have ht0 : (t : Int) < (gm : Int) := by omega
                    clear hi3
                    by_cases hte : t = lowL ss q
                    · have HD := Lib.hid (hf1.2 hte)
                      have HO10 := Lib.hid (HO9.out.below hb10)
                      have hb11 := Lib.hid (hb9.out.trans (hb10.mono hb9.out.size))
                      have hz11 := hb11.out.size
                      have hlo := fun g hg => (HO10.out.lt g hg).1
                      have hte' := Lib.hid hte
                      have O10 := Lib.hid (O9.out.below hb10)
                      clear hte hf1 O9 HO9 hb9
                      go_wp2_with (first | (go_at_call 16; refine (same_any _ _ n3 N c3 c9 (lget ss t) q _ HI3.out O10.out.ints).mono ?_; rw [HD.out]; rintro e w' ⟨rfl, m1, rfl⟩) | (at_builtin; refine wpList_ap1 etI _ rfl _ _ rfl wA.heap.size a i cc _ rfl (HO10.out.drewN _) (.int .i64 (t : Int)) rfl rfl (by omega) hz11 ?_; intro ao2 c2' w4 ho2 hg2 hblk))
                      have HO2 := Lib.hid ho2
                      have hb12 := (below_drewN hb11.out m1).grown hg2 hz11 hlo
                      clear ho2 hblk hg2
                      go_wp2
                      go_roundw
                      case rel => first | exact ⟨i + 1, ao2, c2', by omega, rfl, by go_num, by rw [HRW.out, ← hte'.out, List.map_append]; exact HO2.out, hb12⟩ | ((repeat apply Exists.intro); exact ⟨⟨i + 1, ao2, c2', by omega, rfl, by go_num, by rw [HRW.out, ← hte'.out, List.map_append]; exact HO2.out, hb12⟩, rfl⟩)
                      case measure => simp [intOf]; omega
                    · have HD := Lib.hid (show decide (lget ss t = q) = false from by
                        cases hd : decide (lget ss t = q) with
                        | false => rfl
                        | true => exact absurd (hf1.1 hd) hte)
                      have O10 := Lib.hid (O9.out.below hb10)
                      go_wp2_with (go_at_call 16; refine (same_any _ _ n3 N c3 c9 (lget ss t) q _ HI3.out O10.out.ints).mono ?_; rw [HD.out]; rintro e w' ⟨rfl, m1, rfl⟩)
                      go_roundw
                      case rel => exact ⟨t + 1, by go_num, by omega, below_drewN hb10 m1⟩
                      case measure => simp [intOf]; omega
              · obtain rfl : i = gm := by omega
                have hzs : (cayL d ss).take (k + 1) = (cayL d ss).take k ++ [cayRow ss (lget d k) i] := by rw [cayL_take (by omega), hgl]
                have HZS := Lib.hid hzs
                have STB := Lib.hid (ST.out.below hb8)
                have xb := STB.out.cell
                have hlo8 := STB.out.at_.2.2
                clear hzs hx8
                go_wp2_with (at_builtin; refine wpList_ap1 etSS _ rfl _ _ rfl (bx + 1) am k cm _ rfl STB.out.row.own (.slice a i cc) rfl rfl (by omega) hlo8 ?_; intro ao2 c2' w4 ho2 hg2 hat; have x4 := (STB.out.boxG hg2).cell 0; have f4 := (STB.out.boxG hg2).frozen 0)
                have SP := Lib.hid (ST.out.push (by omega) hb8 HO8.out (Below.refl _ _) ho2 hg2 (hat.imp id fun e => ⟨_, e, Nat.le_succ _⟩))
                clear ho2 hg2 hat STB ST
                go_roundw
                case rel => first | exact ⟨k + 1, ao2, c2', _, by go_num, by omega, by rw [HZS.out]; exact SP.out⟩ | ((repeat apply Exists.intro); exact ⟨⟨k + 1, ao2, c2', _, by go_num, by omega, by rw [HZS.out]; exact SP.out⟩, rfl⟩)
                case measure => simp [intOf]; omega
          · obtain rfl : k = n := by omega
            have hall : (cayL d ss).take k = cayL d ss := List.take_of_length_le (by simp [cayL]; omega)
            rw [hall] at st
            have xb := st.cell
            have KRr := KR6.out.belowS st.bel
            have xr := KRr.cell 0
            have fr := KRr.frozen 0
            have BF := Lib.hid (hb6.out.trans (st.bel.mono hb6.out.size))
            have hzf := hb6.out.size
            have ST := Lib.hid st
            simp at xr
            clear st
            go_wp2
            have hfl : w.heap.size + 1 < bx := by rw [← HBX.out]; omega
            exact bodyPost_ret (v := .tuple #[.agg #[.slice am k cm], .int .i64 0]) (by simp [results, Tryd.f5, go_sem, xr]) rfl ⟨_, rfl, ST.out.done hfl _ hzf, BF.out.setCell (by simp) _⟩
end Go.Proofs.YtmdhljleaijkbaaDoor

/- Groups of permutations, the program's: slices.Compare at two lists of one length. guards: -/
namespace Go.Proofs.YtmdhljleaijkbaaDoor
open Go.RowKit

def cmpI (x y : Int) : Int := if x < y then -1 else if y < x then 1 else 0
def cmpL (a b : List Int) : Int := if ltL a b = true then -1 else if ltL b a = true then 1 else 0
theorem isNaN_any (x : Int) (w : World) : Calls Tryd.prog 68 #[.int .i64 x] w fun e w' => e = .returned (.bool false) ∧ ∃ m, w' = w.drewN m := by
  have h : (x != x) = false := by simp
  go_enter Tryd.func68, Tryd.ntmps68
  go_wp2
  go_ret
  exact ⟨rfl, 0, rfl⟩
set_option maxHeartbeats 1600000 in
theorem cmpInt_any (x y : Int) (w : World) : Calls Tryd.prog 55 #[.int .i64 x, .int .i64 y] w fun e w' => e = .returned (.int .i64 (cmpI x y)) ∧ ∃ m, w' = w.drewN m := by
  obtain ⟨V, hV⟩ : ∃ V, V = cmpI x y := ⟨_, rfl⟩
  rw [← hV]
  have HV := Lib.hid hV
  clear hV
  rcases Int.lt_trichotomy x y with h | h | h
  · have e : V = -1 := by rw [HV.out]; unfold cmpI; rw [if_pos h]
    subst e
    have h1 : decide (x < y) = true := by simp [h]
    go_enter Tryd.func55, Tryd.ntmps55
    go_wp2_with (go_at_call 68; refine (isNaN_any _ _).mono ?_; rintro e w' ⟨rfl, m, rfl⟩)
    go_ret
    exact ⟨rfl, _, rfl⟩
  · subst h
    have e : V = 0 := by rw [HV.out]; unfold cmpI; rw [if_neg (by omega), if_neg (by omega)]
    subst e
    have h1 : decide (x < x) = false := by simp
    go_enter Tryd.func55, Tryd.ntmps55
    go_wp2_with (go_at_call 68; refine (isNaN_any _ _).mono ?_; rintro e w' ⟨rfl, m, rfl⟩)
    go_ret
    exact ⟨rfl, _, rfl⟩
  · have e : V = 1 := by rw [HV.out]; unfold cmpI; rw [if_neg (by omega), if_pos h]
    subst e
    have h1 : decide (x < y) = false := by simp; omega
    have h2 : decide (y < x) = true := by simp [h]
    go_enter Tryd.func55, Tryd.ntmps55
    go_wp2_with (go_at_call 68; refine (isNaN_any _ _).mono ?_; rintro e w' ⟨rfl, m, rfl⟩)
    go_ret
    exact ⟨rfl, _, rfl⟩
theorem cmpL_step {x y : List Int} {n k : Nat} (hx : x.length = n) (hy : y.length = n) (hk : k < n) : cmpL (x.drop k) (y.drop k) = if iget x k = iget y k then cmpL (x.drop (k + 1)) (y.drop (k + 1)) else cmpI (iget x k) (iget y k) := by
  unfold cmpL
  rw [ltL_step hx hy hk, ltL_step hy hx hk]
  unfold cmpI
  rcases Int.lt_trichotomy (iget x k) (iget y k) with h | h | h
  · simp [h, show ¬ iget x k = iget y k by omega]
  · rw [h]; simp
  · simp [h, show ¬ iget x k = iget y k by omega, show ¬ iget x k < iget y k by omega]
theorem cmpI_ne {x y : Int} (h : x ≠ y) : (cmpI x y != 0) = true := by
  unfold cmpI
  split
  · rfl
  · split
    · rfl
    · exact absurd (by omega : x = y) h
set_option maxHeartbeats 1600000 in
theorem compare_any (a b : Option Addr) (n ca cb : Nat) (x y : List Int) (w : World) (ha : Ints w a n x) (hb : Ints w b n y) :
    Calls Tryd.prog 42 #[.slice a n ca, .slice b n cb] w fun e w' => e = .returned (.int .i64 (cmpL x y)) ∧ ∃ m, w' = w.drewN m := by
  have hla := ha.2.1
  have hx := ha.1
  have hy := hb.1
  obtain ⟨V, hV⟩ : ∃ V, V = cmpL x y := ⟨_, rfl⟩
  have H0 : V = cmpL (x.drop 0) (y.drop 0) := by rw [hV]; rfl
  rw [← hV]
  clear hV
  go_enter Tryd.func42, Tryd.ntmps42
  go_wp2
  go_loopw [11] (fun i wr => ∃ k m : Nat, k ≤ n ∧ i = .int .i64 k ∧ wr = w.drewN m ∧ V = cmpL (x.drop k) (y.drop k)) (fun i _ => n - (intOf i).toNat)
  case atStart => exact ⟨0, 0, Nat.zero_le _, rfl, rfl, H0⟩
  case round =>
    clear H0
    obtain ⟨k, m, hk, rfl, rfl, hv⟩ := hrel
    by_cases hlt : k < n
    · obtain ⟨ba, oa, rfl, hca⟩ := ha.at_ hlt
      obtain ⟨bb, ob, rfl, hcb⟩ := hb.at_ hlt
      rw [cmpL_step hx hy hlt] at hv
      have HV := Lib.hid hv
      clear hv ha hb
      generalize iget x k = p at *
      generalize iget y k = q at *
      by_cases hpq : p = q
      · have HV2 := Lib.hid (show V = cmpL (x.drop (k + 1)) (y.drop (k + 1)) by rw [HV.out, if_pos hpq])
        subst hpq
        have hc : cmpI p p = 0 := by unfold cmpI; rw [if_neg (by omega), if_neg (by omega)]
        have HC := Lib.hid hc
        clear hc
        go_wp2_with (go_at_call 55; refine (cmpInt_any _ _ _).mono ?_; rw [HC.out]; rintro e w' ⟨rfl, m2, rfl⟩)
        go_roundw
        case rel => exact ⟨k + 1, _, by omega, by go_num, rfl, HV2.out⟩
        case measure => first | (simp [intOf]; done) | (simp [intOf]; omega)
      · have HV2 := Lib.hid (show V = cmpI p q by rw [HV.out, if_neg hpq])
        have hne := cmpI_ne hpq
        go_wp2_with (go_at_call 55; refine (cmpInt_any _ _ _).mono ?_; rw [← HV2.out] at hne ⊢; rintro e w' ⟨rfl, m2, rfl⟩)
        go_ret
        exact ⟨rfl, _, rfl⟩
    · obtain rfl : k = n := by omega
      have hv2 : V = 0 := by rw [hv, List.drop_of_length_le (by omega), List.drop_of_length_le (by omega)]; rfl
      subst hv2
      clear hv
      go_wp2
      go_ret
      exact ⟨rfl, _, rfl⟩
end Go.Proofs.YtmdhljleaijkbaaDoor
