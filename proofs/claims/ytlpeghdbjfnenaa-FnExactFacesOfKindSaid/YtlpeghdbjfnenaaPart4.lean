/- Comparisons of lists, the greatest one of an ascending list, the greatest common divisor. -/
import Derived.Test.YtlpeghdbjfnenaaPart3
import Derived.Test.YtlpeghdbjfnenaaPart1
import Derived.BigQuiet
import Derived.Laws.CopyOwn
import Derived.Deep.RegionLaw
import Derived.RegionTactic
import Derived.Deep.RegionHeld3
namespace Go.Proofs.Ytlpeghdbjfnenaa
open Go.RowKit

set_option maxHeartbeats 400000 in
theorem same_any (a b : Option Addr) (na nb ca cb : Nat) (za zb : List Int) (w : World) (ha : Ints w a na za) (hb : Ints w b nb zb) :
    Calls Try.prog 143 #[.slice a na ca, .slice b nb cb] w fun e w' => e = .returned (.bool (decide (za = zb))) ∧ ∃ m, w' = w.drewN m := by
  have hla := ha.2.1
  have hlb := hb.2.1
  by_cases hl : na = nb
  · subst hl
    have hl' : ((na : Int) != (na:Int)) = false := by simp
    go_enter Try.func143, Try.ntmps143
    go_wp2
    go_loopw [5] (fun i wr => ∃ k : Nat, k ≤ na ∧ i = .int .i64 k ∧ za.take k = zb.take k ∧ ∃ m, wr = w.drewN m) (fun i _ => na - (intOf i).toNat)
    case atStart => exact ⟨0, Nat.zero_le _, rfl, rfl, 0, rfl⟩
    case round =>
      obtain ⟨k, hk, rfl, hpre, m, rfl⟩ := hrel
      have HP := Lib.hid hpre
      clear hpre
      by_cases hlt : k < na
      · obtain ⟨ba, oa, rfl, hca⟩ := ha.at_ hlt
        obtain ⟨bb, ob, rfl, hcb⟩ := hb.at_ hlt
        have h1 := ha.1
        have h2 := hb.1
        have H1 := Lib.hid h1
        have H2 := Lib.hid h2
        clear h1 h2
        by_cases he : iget za k = iget zb k
        · have he' : (iget za k != iget zb k) = false := by simp [he]
          have HE := Lib.hid he
          clear he
          go_wp2_with fail
          go_quiet (fail)
          go_wp2
          go_roundw
          case rel => exact ⟨k + 1, by omega, by go_num, by rw [take_iget (by rw [H1.out]; omega), take_iget (by rw [H2.out]; omega), HP.out, HE.out], _, rfl⟩
          case measure => simp [intOf]; omega
        · have he' : (iget za k != iget zb k) = true := by simp [he]
          have HE := Lib.hid he
          clear he
          go_wp2_with fail
          go_quiet (fail)
          go_wp2
          go_ret
          exact ⟨ret_bool (by symm; rw [decide_eq_false_iff_not]; intro e; exact HE.out (by rw [e])), _, World.drewN_drewN _ _ _⟩
      · obtain rfl : k = na := by omega
        have h1 := ha.1
        have h2 := hb.1
        have hab : za = zb := by have := HP.out; rwa [List.take_of_length_le (by omega), List.take_of_length_le (by omega)] at this
        have HA := Lib.hid hab
        clear h1 h2 hab
        go_wp2
        go_ret
        exact ⟨ret_bool (by symm; simpa using HA.out), _, rfl⟩
  · have hl' : ((na : Int) != (nb:Int)) = true := by simp; omega
    go_enter Try.func143, Try.ntmps143
    go_wp2
    go_ret
    refine ⟨ret_bool ?_, 0, rfl⟩
    symm
    rw [decide_eq_false_iff_not]
    intro e
    exact hl (by rw [← ha.1, ← hb.1, e])

set_option maxHeartbeats 400000 in
theorem equal_any (a b : Option Addr) (na nb ca cb : Nat) (za zb : List Int) (w : World) (ha : Ints w a na za) (hb : Ints w b nb zb) :
    Calls Try.prog 109 #[.slice a na ca, .slice b nb cb] w fun e w' => e = .returned (.bool (decide (za = zb))) ∧ ∃ m, w' = w.drewN m := by
  have hla := ha.2.1
  have hlb := hb.2.1
  by_cases hl : na = nb
  · subst hl
    have hl' : ((na : Int) != (na:Int)) = false := by simp
    go_enter Try.func109, Try.ntmps109
    go_wp2
    go_loopw [13] (fun i wr => ∃ k : Nat, k ≤ na ∧ i = .int .i64 k ∧ za.take k = zb.take k ∧ ∃ m, wr = w.drewN m) (fun i _ => na - (intOf i).toNat)
    case atStart => exact ⟨0, Nat.zero_le _, rfl, rfl, 0, rfl⟩
    case round =>
      obtain ⟨k, hk, rfl, hpre, m, rfl⟩ := hrel
      have HP := Lib.hid hpre
      clear hpre
      by_cases hlt : k < na
      · obtain ⟨ba, oa, rfl, hca⟩ := ha.at_ hlt
        obtain ⟨bb, ob, rfl, hcb⟩ := hb.at_ hlt
        have h1 := ha.1
        have h2 := hb.1
        have H1 := Lib.hid h1
        have H2 := Lib.hid h2
        clear h1 h2
        by_cases he : iget za k = iget zb k
        · have he' : (iget za k != iget zb k) = false := by simp [he]
          have HE := Lib.hid he
          clear he
          go_wp2_with fail
          go_quiet (fail)
          go_wp2
          go_roundw
          case rel => exact ⟨k + 1, by omega, by go_num, by rw [take_iget (by rw [H1.out]; omega), take_iget (by rw [H2.out]; omega), HP.out, HE.out], _, rfl⟩
          case measure => simp [intOf]; omega
        · have he' : (iget za k != iget zb k) = true := by simp [he]
          have HE := Lib.hid he
          clear he
          go_wp2_with fail
          go_quiet (fail)
          go_wp2
          go_ret
          exact ⟨ret_bool (by symm; rw [decide_eq_false_iff_not]; intro e; exact HE.out (by rw [e])), _, World.drewN_drewN _ _ _⟩
      · obtain rfl : k = na := by omega
        have h1 := ha.1
        have h2 := hb.1
        have hab : za = zb := by have := HP.out; rwa [List.take_of_length_le (by omega), List.take_of_length_le (by omega)] at this
        have HA := Lib.hid hab
        clear h1 h2 hab
        go_wp2
        go_ret
        exact ⟨ret_bool (by symm; simpa using HA.out), _, rfl⟩
  · have hl' : ((na : Int) != (nb:Int)) = true := by simp; omega
    go_enter Try.func109, Try.ntmps109
    go_wp2
    go_ret
    refine ⟨ret_bool ?_, 0, rfl⟩
    symm
    rw [decide_eq_false_iff_not]
    intro e
    exact hl (by rw [← ha.1, ← hb.1, e])


theorem us_two {us : List Value} {u0 u1 : Value} (hl : us.length = 2) (g0 : us[0]? = some u0) (g1 : us[1]? = some u1) : us = [u0, u1] := by
  match us, hl with
  | [p, q], _ => simp at g0 g1; rw [g0, g1]
theorem us_one {us : List Value} {u0 : Value} (hl : us.length = 1) (g0 : us[0]? = some u0) : us = [u0] := by
  match us, hl with
  | [p], _ => simp at g0; rw [g0]
theorem eqB (a b : List Int) : decide (a = b) = (a == b) := by
  by_cases h : a = b
  · subst h; simp
  · rw [decide_eq_false h]; symm; simpa using h
/-- slices.Equal of the labels of a component and of a list -/
theorem equalM_fc (cs : List Cel) (i m n E kk : Nat) (labs list : List Int) (hi : cs[i]? = some (.r 2 1 m (ivals labs))) (hm : labs.length = m) (hn : list.length = n) (hm4 : m ≤ 1000000) (hn4 : n ≤ 1000000) :
    FC Try.prog 109 [(1000, ⟨false, E, kk, .mix cs⟩), (1001, wRo list)] [o1 (.esl 1000 i 0 m), o1 (.sl 1001 0 n)] [] (vv (.bool (labs == list))) [] :=
  fc_of_calls fun w η ω us hme ⟨hl, ha⟩ => by
    subst hm hn
    obtain ⟨u0, g0, d0⟩ := ha 0 _ rfl
    obtain ⟨u1, g1, d1⟩ := ha 1 _ rfl
    obtain ⟨ao, c, rfl, h0⟩ := rdRowM (x := 1000) hme rfl hi d0 (by omega)
    obtain ⟨ao', c', rfl, h1⟩ := rdS (x := 1001) hme rfl d1 (by omega)
    rw [us_two hl g0 g1]
    refine (equal_any ao ao' _ _ c c' labs list w h0 h1).mono ?_
    rintro e w' ⟨rfl, hq⟩
    exact ⟨ret_bool (eqB _ _), below_of_quiet hq⟩
/-- l01Same of a row and of a list -/
theorem sameR_fc (zss : List (List Int)) (i n E : Nat) (list : List Int) (hi : i < zss.length) (hn : list.length = n) (hm4 : (lget zss i).length ≤ 1000000) (hn4 : n ≤ 1000000) :
    FC Try.prog 143 [(1000, rowsRo zss), (1001, wRo list)] [o1 (.esl 1000 i 0 (lget zss i).length), o1 (.sl 1001 0 n)] [] (vv (.bool (lget zss i == list))) [] :=
  fc_of_calls fun w η ω us hme ⟨hl, ha⟩ => by
    subst hn
    obtain ⟨u0, g0, d0⟩ := ha 0 _ rfl
    obtain ⟨u1, g1, d1⟩ := ha 1 _ rfl
    obtain ⟨ao, c, rfl, h0⟩ := rdRow (x := 1000) hme rfl hi d0 (by omega)
    obtain ⟨ao', c', rfl, h1⟩ := rdS (x := 1001) hme rfl d1 (by omega)
    rw [us_two hl g0 g1]
    refine (same_any ao ao' _ _ c c' _ list w h0 h1).mono ?_
    rintro e w' ⟨rfl, hq⟩
    exact ⟨ret_bool (eqB _ _), below_of_quiet hq⟩
theorem sameS_fc (zs list : List Int) (m n : Nat) (hm : zs.length = m) (hn : list.length = n) (hm4 : m ≤ 1000000) (hn4 : n ≤ 1000000) :
    FC Try.prog 143 [(1000, wRo zs), (1001, wRo list)] [o1 (.sl 1000 0 m), o1 (.sl 1001 0 n)] [] (vv (.bool (zs == list))) [] :=
  fc_of_calls fun w η ω us hme ⟨hl, ha⟩ => by
    subst hm hn
    obtain ⟨u0, g0, d0⟩ := ha 0 _ rfl
    obtain ⟨u1, g1, d1⟩ := ha 1 _ rfl
    obtain ⟨ao, c, rfl, h0⟩ := rdS (x := 1000) hme rfl d0 (by omega)
    obtain ⟨ao', c', rfl, h1⟩ := rdS (x := 1001) hme rfl d1 (by omega)
    rw [us_two hl g0 g1]
    refine (same_any ao ao' _ _ c c' _ list w h0 h1).mono ?_
    rintro e w' ⟨rfl, hq⟩
    exact ⟨ret_bool (eqB _ _), below_of_quiet hq⟩
/-- slices.Clone of a list -/
theorem cloneS_fc (x y n : Nat) (zs : List Int) (hn : zs.length = n) (hl : n ≤ 1000000) :
    FC Try.prog 117 [(x, wRo zs)] [o1 (.sl x 0 n)] [(y, leOw zs)] (o1 (.sl y 0 n)) [] := by
  subst hn
  exact fc_of_own fun w η ω us hm ⟨hl', ha⟩ => by
    obtain ⟨u0, g0, d0⟩ := ha 0 _ rfl
    obtain ⟨ao, c, rfl, hr⟩ := rdS (x := x) (own := false) (E := 2) hm (by simp [lk]) d0 (by omega)
    rw [us_one hl' g0]
    refine (clone_any ao _ c _ w hr (by omega)).mono ?_
    rintro e w' ⟨ao', c', rfl, ho, hb⟩
    exact ⟨ao', c', rfl, ho, hb⟩
/-- l12Turned of a row -/
theorem turnedR_fc (y : Nat) (zss : List (List Int)) (i : Nat) (hi : i < zss.length) (hl : (lget zss i).length ≤ 1000000) :
    FC Try.prog 125 [(1000, rowsRo zss)] [o1 (.esl 1000 i 0 (lget zss i).length)] [(y, leOw (lget zss i).reverse)] (o1 (.sl y 0 (lget zss i).length)) [] := by
  have h := fc_of_own (P := Try.prog) (f := 125) (ins := [(1000, rowsRo zss)]) (args := [o1 (.esl 1000 i 0 (lget zss i).length)]) (x := y) (E := 2) (zs := (lget zss i).reverse) fun w η ω us hm ⟨hl', ha⟩ => by
    obtain ⟨u0, g0, d0⟩ := ha 0 _ rfl
    obtain ⟨ao, c, rfl, hr⟩ := rdRow (x := 1000) hm rfl hi d0 (by omega)
    rw [us_one hl' g0]
    refine (spec12Turned_any ao _ c _ w hr (by omega)).mono ?_
    rintro e w' ⟨ao', c', rfl, ho, hb⟩
    rw [List.length_reverse]
    exact ⟨ao', c', rfl, ho, hb⟩
  rw [List.length_reverse] at h
  exact h

set_option maxRecDepth 100000 in
theorem maxA_fc (zs : List Int) (n : Nat) (hn : zs.length = n) (hpos : 0 < n) (hn4 : n ≤ 1000000) (ha : ∀ i, i + 1 < n → iget zs i ≤ iget zs (i + 1)) :
    FC Try.prog 126 [(1005, leRo zs)] [o1 (.sl 1005 0 n)] [] (vv (I6 (iget zs (n - 1)))) [] := by
  refine fc_enter (nt := 25) Try.func126 rfl rfl (by simp) fun w0 ω0 => ?_
  have hil : n ≤ (ivals zs).length := by rw [ivals_len, hn]; exact Nat.le_refl _
  (refine goes_seq ?_; refine goes_region ?_; apply run_step rfl; (exact stp_assign rfl rfl); refine run_nil ?_; refine fin_seq ?_; refine goes_seq ?_; refine goes_seq ?_; refine goes_region ?_; apply run_step rfl; (exact stp_move rfl rfl); apply run_step rfl; (exact stp_len rfl rfl rfl (by as_aux_lemma => kernel_rfl)); apply run_step rfl; (exact stp_bin rfl rfl rfl rfl); refine run_nil ?_; refine fin_seq ?_)
  refine goes_if rfl (fun h => absurd hpos (by omega)) (fun h => ?_)
  have hg0 : (ivals zs)[0]? = some (I6 (iget zs 0)) := ivals_get (by omega)
  (refine goes_skip ?_; refine fin_seq ?_; refine goes_seq ?_; refine goes_region ?_; apply run_step rfl; (exact stp_move rfl rfl); apply run_step rfl; (exact stp_ix (j := 0) rfl rfl rfl rfl rfl (by as_aux_lemma => kernel_rfl) rfl hpos hil); apply run_step rfl; (exact stp_loadV rfl (by as_aux_lemma => kernel_rfl) rfl rfl rfl (by first | assumption | exact ivals_get (by assumption) | exact irows_get (by assumption) | exact ivals_get (by omega) | exact irows_get (by omega) | rfl)); apply run_step rfl; (exact stp_assign rfl rfl); refine run_nil ?_; refine fin_seq ?_; refine goes_seq ?_; refine goes_seq ?_; refine goes_region ?_; apply run_step rfl; (exact stp_assign rfl rfl); refine run_nil ?_; refine fin_seq ?_; refine goes_block ?_)
  refine goes_loop (fun i : Nat => St.of [(0, o1 (.sl 1005 0 n)), (3, vv (I6 (iget zs (i - 1)))), (4, vv (I6 i))] [(1005, leRo zs)]) (fun i => 1 ≤ i ∧ i ≤ n) (fun i => n - i) 1 ⟨Nat.le_refl _, hpos⟩ (Wk.of ⟨rfl, rfl, rfl, trivial⟩ ⟨rfl, trivial⟩ trivial) ?_
  rintro i ⟨hi1, hi2⟩
  (refine goes_seq ?_; refine goes_seq ?_; refine goes_region ?_; apply run_step rfl; (exact stp_move rfl rfl); apply run_step rfl; (exact stp_move rfl rfl); apply run_step rfl; (exact stp_len rfl rfl rfl (by as_aux_lemma => kernel_rfl)); apply run_step rfl; (exact stp_bin rfl rfl rfl rfl); refine run_nil ?_; refine fin_seq ?_)
  refine goes_if rfl (fun hlt => ?_) (fun hlt => ?_)
  · have hlt' : i < n := by omega
    have hgi : (ivals zs)[i]? = some (I6 (iget zs i)) := ivals_get (by omega)
    have hle : iget zs (i - 1) ≤ iget zs i := by
      have := ha (i - 1) (by omega)
      rwa [show i - 1 + 1 = i by omega] at this
    have hmx : (if iget zs i > iget zs (i - 1) then iget zs i else iget zs (i - 1)) = iget zs (i + 1 - 1) := by
      rw [Nat.add_sub_cancel]; split
      · rfl
      · omega
    (refine goes_skip ?_; refine fin_seq ?_; refine goes_seq ?_; refine goes_block ?_; refine goes_region ?_; apply run_step rfl; (exact stp_move rfl rfl); apply run_step rfl; (exact stp_move rfl rfl); apply run_step rfl; (exact stp_move rfl rfl); apply run_step rfl; (exact stp_ix (j := i) rfl rfl rfl rfl rfl (by as_aux_lemma => kernel_rfl) rfl hlt' hil); apply run_step rfl; (exact stp_loadV rfl (by as_aux_lemma => kernel_rfl) rfl rfl rfl (by first | assumption | exact ivals_get (by assumption) | exact irows_get (by assumption) | exact ivals_get (by omega) | exact irows_get (by omega) | rfl)); apply run_step rfl; (exact stp_max rfl rfl rfl); apply run_step rfl; (exact stp_assign rfl rfl); refine run_nil ?_; refine fin_block ?_; refine fin_seq ?_; refine goes_region ?_; apply run_step rfl; (exact stp_move rfl rfl); apply run_step rfl; (exact stp_add rfl rfl rfl (by first | exact IntWalk.i64_in _ (by omega) | rfl)); apply run_step rfl; (exact stp_assign rfl rfl); refine run_nil ?_)
    exact fin_round (i + 1) ⟨by omega, by omega⟩ (by omega) (Wk.of ⟨rfl, congrArg (fun z => some (vv (I6 z))) hmx, rfl, trivial⟩ ⟨rfl, trivial⟩ trivial)
  · obtain rfl : i = n := by omega
    (refine goes_exit ?_; refine fin_exit_then ?_; refine fin_exit_then ?_; refine fin_exit_eq ?_; refine fin_seq ?_; refine goes_seq ?_; refine goes_region ?_; apply run_step rfl; (exact stp_move rfl rfl); apply run_step rfl; (exact stp_assign rfl rfl); refine run_nil ?_; refine fin_seq ?_; refine goes_ret ?_)
    exact fin_ret1 (.inl rfl) rfl (.tmp rfl) trivial trivial

set_option maxRecDepth 100000 in
theorem gcd_fc (a b : Nat) (ha : a < 1000000000000) (hb : b < 1000000000000) : FC Try.prog 127 [] [vv (I6 a), vv (I6 b)] [] (vv (I6 (Nat.gcd a b))) [] := by
  refine fc_enter (nt := 12) Try.func127 rfl rfl (by simp) fun w0 ω0 => ?_
  (refine goes_seq ?_; refine goes_region ?_; apply run_step rfl; (exact stp_assign rfl rfl); refine run_nil ?_; refine fin_seq ?_; refine goes_seq ?_; refine goes_block ?_)
  refine goes_loop (fun q : Nat × Nat => St.of [(0, vv (I6 q.1)), (1, vv (I6 q.2))] []) (fun q => Nat.gcd q.1 q.2 = Nat.gcd a b ∧ q.1 < 1000000000000 ∧ q.2 < 1000000000000) (fun q => q.2) (a, b) ⟨rfl, ha, hb⟩ (Wk.of ⟨rfl, rfl, trivial⟩ trivial trivial) ?_
  rintro ⟨c, d⟩ ⟨hg, hc, hd⟩
  dsimp only at hg hc hd ⊢
  (refine goes_seq ?_; refine goes_seq ?_; refine goes_region ?_; apply run_step rfl; (exact stp_move rfl rfl); apply run_step rfl; (exact stp_bin rfl rfl rfl rfl); refine run_nil ?_; refine fin_seq ?_)
  refine goes_cond rfl (fun h => ?_) (fun h => ?_)
  · have hd0 : 0 < d := by
      have : (d : Int) ≠ 0 := by simpa using h
      omega
    have hlt := Nat.mod_lt c hd0
    have hg' : Nat.gcd d (c % d) = Nat.gcd a b := by rw [← hg, Nat.gcd_comm c d, Nat.gcd_rec d c, Nat.gcd_comm]
    (refine goes_skip ?_; refine fin_seq ?_; refine goes_block ?_)
    apply goes_drawL 4 [] [2, 3] [[], [], [], [1, 2], [0, 1], [0, 1, 2, 3, 4]] [7, 8, 9, 10] [] (by kernel_rfl) (by kernel_rfl) (by kernel_rfl)
    · (apply draw_put rfl; (intro S1 hS; exact stp_move rfl (hS.op rfl)); apply draw_put rfl; (intro S1 hS; exact stp_move rfl (hS.op rfl)); apply draw_put rfl; (intro S1 hS; exact stp_move rfl (hS.op rfl)); (apply draw_put rfl; (focus (intro S1 hS; exact stp_remN rfl (hS.op rfl) (hS.op rfl) hd0 hc))); exact Draw.nil)
    · rfl
    refine ⟨⟨?_, ?_⟩, ?_, ?_⟩
    · refine rest_join (St.of [(0, vv (I6 d)), (1, vv (I6 (c % d : Nat)))] []) ?_ ?_
      · ((apply rest_one 4 rfl (by as_aux_lemma => kernel_rfl) rfl rfl; (exact stp_assign rfl rfl)); (apply rest_one 5 rfl (by as_aux_lemma => kernel_rfl) rfl rfl; (exact stp_assign rfl rfl)); (refine rest_done (by as_aux_lemma => kernel_rfl) ?_; exact fin_join (Wk.of ⟨rfl, rfl, trivial⟩ trivial trivial)))
      · (refine fin_block ?_)
        exact fin_round (d, c % d) ⟨hg', hd, by dsimp only; omega⟩ hlt (Wk.of ⟨rfl, rfl, trivial⟩ trivial trivial)
    · refine rest_join (St.of [(0, vv (I6 d)), (1, vv (I6 (c % d : Nat)))] []) ?_ ?_
      · ((apply rest_two 3 4 rfl (by as_aux_lemma => kernel_rfl) rfl rfl rfl rfl; (exact stp_remN rfl rfl rfl hd0 hc); (exact stp_assign rfl rfl); (focus ((apply rest_one 4 rfl (by as_aux_lemma => kernel_rfl) rfl rfl; (exact stp_assign rfl rfl)); (apply rest_one 5 rfl (by as_aux_lemma => kernel_rfl) rfl rfl; (exact stp_assign rfl rfl)); (refine rest_done (by as_aux_lemma => kernel_rfl) ?_; exact fin_join (Wk.of ⟨rfl, rfl, trivial⟩ trivial trivial)))); (focus ((apply rest_one 3 rfl (by as_aux_lemma => kernel_rfl) rfl rfl; (exact stp_remN rfl rfl rfl hd0 hc)); (apply rest_one 5 rfl (by as_aux_lemma => kernel_rfl) rfl rfl; (exact stp_assign rfl rfl)); (refine rest_done (by as_aux_lemma => kernel_rfl) ?_; exact fin_join (Wk.of ⟨rfl, rfl, trivial⟩ trivial trivial))))))
      · (refine fin_block ?_)
        exact fin_round (d, c % d) ⟨hg', hd, by dsimp only; omega⟩ hlt (Wk.of ⟨rfl, rfl, trivial⟩ trivial trivial)
    · refine rest_join (St.of [(0, vv (I6 d)), (1, vv (I6 (c % d : Nat)))] []) ?_ ?_
      · ((apply rest_two 2 4 rfl (by as_aux_lemma => kernel_rfl) rfl rfl rfl rfl; (exact stp_move rfl rfl); (exact stp_assign rfl rfl); (focus ((apply rest_one 4 rfl (by as_aux_lemma => kernel_rfl) rfl rfl; (exact stp_assign rfl rfl)); (apply rest_one 5 rfl (by as_aux_lemma => kernel_rfl) rfl rfl; (exact stp_assign rfl rfl)); (refine rest_done (by as_aux_lemma => kernel_rfl) ?_; exact fin_join (Wk.of ⟨rfl, rfl, trivial⟩ trivial trivial)))); (focus ((apply rest_one 2 rfl (by as_aux_lemma => kernel_rfl) rfl rfl; (exact stp_move rfl rfl)); (apply rest_one 5 rfl (by as_aux_lemma => kernel_rfl) rfl rfl; (exact stp_assign rfl rfl)); (refine rest_done (by as_aux_lemma => kernel_rfl) ?_; exact fin_join (Wk.of ⟨rfl, rfl, trivial⟩ trivial trivial))))))
      · (refine fin_block ?_)
        exact fin_round (d, c % d) ⟨hg', hd, by dsimp only; omega⟩ hlt (Wk.of ⟨rfl, rfl, trivial⟩ trivial trivial)
    · refine rest_join (St.of [(0, vv (I6 d)), (1, vv (I6 (c % d : Nat)))] []) ?_ ?_
      · ((apply rest_two 2 4 rfl (by as_aux_lemma => kernel_rfl) rfl rfl rfl rfl; (exact stp_move rfl rfl); (exact stp_assign rfl rfl); (focus ((apply rest_two 3 4 rfl (by as_aux_lemma => kernel_rfl) rfl rfl rfl rfl; (exact stp_remN rfl rfl rfl hd0 hc); (exact stp_assign rfl rfl); (focus ((apply rest_one 4 rfl (by as_aux_lemma => kernel_rfl) rfl rfl; (exact stp_assign rfl rfl)); (apply rest_one 5 rfl (by as_aux_lemma => kernel_rfl) rfl rfl; (exact stp_assign rfl rfl)); (refine rest_done (by as_aux_lemma => kernel_rfl) ?_; exact fin_join (Wk.of ⟨rfl, rfl, trivial⟩ trivial trivial)))); (focus ((apply rest_one 3 rfl (by as_aux_lemma => kernel_rfl) rfl rfl; (exact stp_remN rfl rfl rfl hd0 hc)); (apply rest_one 5 rfl (by as_aux_lemma => kernel_rfl) rfl rfl; (exact stp_assign rfl rfl)); (refine rest_done (by as_aux_lemma => kernel_rfl) ?_; exact fin_join (Wk.of ⟨rfl, rfl, trivial⟩ trivial trivial))))))); (focus ((apply rest_one 2 rfl (by as_aux_lemma => kernel_rfl) rfl rfl; (exact stp_move rfl rfl)); (apply rest_one 3 rfl (by as_aux_lemma => kernel_rfl) rfl rfl; (exact stp_remN rfl rfl rfl hd0 hc)); (apply rest_one 5 rfl (by as_aux_lemma => kernel_rfl) rfl rfl; (exact stp_assign rfl rfl)); (refine rest_done (by as_aux_lemma => kernel_rfl) ?_; exact fin_join (Wk.of ⟨rfl, rfl, trivial⟩ trivial trivial))))))
      · (refine fin_block ?_)
        exact fin_round (d, c % d) ⟨hg', hd, by dsimp only; omega⟩ hlt (Wk.of ⟨rfl, rfl, trivial⟩ trivial trivial)
  · have hd0 : d = 0 := by
      have : (d : Int) = 0 := by simpa using h
      omega
    subst hd0
    rw [← hg, Nat.gcd_zero_right]
    (refine goes_exit ?_; refine fin_exit_then ?_; refine fin_exit_then ?_; refine fin_exit_eq ?_; refine fin_seq ?_; refine goes_seq ?_; refine goes_region ?_; apply run_step rfl; (exact stp_move rfl rfl); apply run_step rfl; (exact stp_assign rfl rfl); refine run_nil ?_; refine fin_seq ?_; refine goes_ret ?_)
    exact fin_ret1 (.inl rfl) rfl (.tmp rfl) trivial trivial
end Go.Proofs.Ytlpeghdbjfnenaa

/- The kind of a diagram, on lists; isDiagram, allNodes and their like in names. -/
namespace Go.Proofs.Ytlpeghdbjfnenaa
open Go.RowKit

def kStep (k : Nat) (labs : List Int) : Nat := if (degs labs).length = 0 then (if affB labs = true ∧ k ≠ 2 then 1 else 2) else k
def kindN (ps : Cmps) (j : Nat) : Nat := (ps.take j).foldl (fun k p => kStep k p.2) 0
theorem kindN_succ {ps : Cmps} {j : Nat} (h : j < ps.length) : kindN ps (j + 1) = kStep (kindN ps j) (cget ps j).2 := by
  unfold kindN
  rw [List.take_add_one, List.getElem?_eq_getElem h, List.foldl_append, cget_lt h]
  rfl
theorem kindN_le (ps : Cmps) : ∀ j, kindN ps j ≤ 2 := by
  intro j
  induction j with
  | zero => exact Nat.zero_le _
  | succ j ih =>
    by_cases h : j < ps.length
    · rw [kindN_succ h]; unfold kStep; split
      · split
        · decide
        · exact Nat.le_refl _
      · exact ih
    · have : kindN ps (j + 1) = kindN ps j := by unfold kindN; rw [List.take_of_length_le (by omega), List.take_of_length_le (by omega)]
      rw [this]; exact ih
/-- the mask of all nodes -/
def allN (zs : List Int) : Nat := 2 ^ (zs.length + 1) - 1
theorem allN_lt {zs : List Int} (h : zs.length ≤ 4) : allN zs < 1000 := by
  have : 2 ^ (zs.length + 1) ≤ 2 ^ 5 := Nat.pow_le_pow_right (by decide) (by omega)
  unfold allN; omega
theorem isDiag_len {zs : List Int} (h : isDiag zs = true) : zs.length ≤ 4 := by unfold isDiag at h; simp at h; omega
theorem isDiag_mem {zs : List Int} (h : isDiag zs = true) : ∀ z ∈ zs, z = 0 ∨ (2 ≤ z ∧ z ≤ 32) := by
  intro z hz
  unfold isDiag at h
  simp at h
  have := h.1 z hz
  unfold isLabel inB at this
  simp at this
  omega
theorem labs_of {zs : List Int} {mask : Nat} (h : isDiag zs = true) {k : Nat} (hk : k < (comps zs mask).length) : Labs (cget (comps zs mask) k).2 := by
  have hl := isDiag_len h
  have hp := comps_ok zs mask
  have hm := cget_mem hk
  refine ⟨?_, fun z hz => ?_⟩
  · have h1 := csum_le hm
    have h2 := hp.sum
    omega
  · have h1 := hp.lab _ hm z hz
    have h2 := isDiag_mem h z h1.1
    have h3 := h1.2
    omega
theorem diagI_fc (zs : List Int) (L : Nat) (hL : zs.length = L) (hn : L ≤ 4398046511104) : FC Try.prog 62 [(1003, wRo zs)] [o1 (.sl 1003 0 L)] [] (vv (.bool (isDiag zs))) [] :=
  fc_of_calls fun w η ω us hm ⟨hl, ha⟩ => by
    subst hL
    obtain ⟨u0, g0, d0⟩ := ha 0 _ rfl
    obtain ⟨ao, c, rfl, hI⟩ := rdS (x := 1003) hm rfl d0 (by omega)
    rw [us_one hl g0]
    exact isDiagramImpl_any ao _ c _ w hI
theorem diagS_fc (zs : List Int) (L : Nat) (hL : zs.length = L) (hn : L ≤ 4398046511104) : FC Try.prog 59 [(1003, wRo zs)] [o1 (.sl 1003 0 L)] [] (vv (.bool (isDiag zs))) [] :=
  fc_of_calls fun w η ω us hm ⟨hl, ha⟩ => by
    subst hL
    obtain ⟨u0, g0, d0⟩ := ha 0 _ rfl
    obtain ⟨ao, c, rfl, hI⟩ := rdS (x := 1003) hm rfl d0 (by omega)
    rw [us_one hl g0]
    refine (spec12Is_any ao _ c _ w hI).mono ?_
    rintro e w' ⟨rfl, rfl⟩
    exact ⟨rfl, Below.refl _ _⟩
theorem allN_pos (L : Nat) : 1 ≤ 2 ^ L := Nat.one_le_two_pow
theorem allI_fc (zs : List Int) (L : Nat) (hL : zs.length = L) (h4 : L ≤ 4) : FC Try.prog 64 [(1003, wRo zs)] [o1 (.sl 1003 0 L)] [] (vv (I6 (allN zs))) [] := by
  have h5 : L ≤ 5 := by omega
  have hp : 2 ^ (L + 1) ≤ 2 ^ 5 := Nat.pow_le_pow_right (by decide) (by omega)
  have h1 := allN_pos (L + 1)
  have hw : IntKind.i64.wrap (((2 ^ (L + 1) : Nat) : Int) - 1) = ((allN zs : Nat) : Int) := by
    rw [IntWalk.i64_in _ (by omega)]
    unfold allN; rw [hL]; omega
  refine fc_enter (nt := 7) Try.func64 rfl rfl (by simp) fun w0 ω0 => ?_
  (refine goes_seq ?_; refine goes_region ?_; apply run_step rfl; (exact stp_assign rfl rfl); refine run_nil ?_; refine fin_seq ?_; refine goes_seq ?_; refine goes_region ?_; apply run_step rfl; (exact stp_move rfl rfl); apply run_step rfl; (exact stp_len rfl rfl rfl (by as_aux_lemma => kernel_rfl)); apply run_step rfl; (first | exact stp_shl2 (g := L) rfl rfl rfl h5 | exact stp_sub rfl rfl rfl hw); apply run_step rfl; (first | exact stp_shl2 (g := L) rfl rfl rfl h5 | exact stp_sub rfl rfl rfl hw); apply run_step rfl; (exact stp_assign rfl rfl); refine run_nil ?_; refine fin_seq ?_; refine goes_ret ?_)
  exact fin_ret1 (.inl rfl) rfl (.tmp rfl) trivial trivial
def kindR (zs : List Int) : Int := if isDiag zs = true then ((kindN (comps zs (allN zs)) (comps zs (allN zs)).length : Nat) : Int) else 0
def kindC (zs : List Int) : Int := if isDiag zs = true then 0 else 1
end Go.Proofs.Ytlpeghdbjfnenaa

/- A region that draws its order, whose operations only read and whose callees make new memory alone: one walk, in the order of the text. (The steps are printed by fill.py out of the mark CALM.) -/
namespace Go.Proofs.Ytlpeghdbjfnenaa
open Go.RowKit

section
variable {P : Program} {ops : Array Oper} {C : World → Prop} {o : Oper} {a : Act} {K : Act → Prop}
theorem quiet_val {u : Value} (h : ∀ w, C w → (execOp a.eval o).run P w = .ok (.value u) w) (hk : K (a.put o.dst u)) : o.quiet P a C K :=
  ⟨u, fun w hw => by unfold Oper.quietAt; rw [h w hw]; exact ⟨rfl, rfl⟩, hk⟩
theorem quiet_call {f : FuncId} {args : Array Value} {v : Value} (h : ∀ w, C w → (execOp a.eval o).run P w = .ok (.enter f args) w) (hc : ∀ w, C w → Calls P f args w (fun e w'' => e = .returned v ∧ C w'')) (hk : K (a.put o.dst v)) : o.quiet P a C K :=
  ⟨v, fun w hw => by unfold Oper.quietAt; rw [h w hw]; exact ⟨rfl, hc w hw⟩, hk⟩
theorem wp_region_calm {id : Nat} {Q : Exit → Act → World → Prop} {w : World} {l : List Oper} (hm : P.follows .mixedOrders = true) (hB : Region.lexB .any l.toArray = true)
    (h : wpQuiet P l.toArray (fun w' => Below w.heap.size w w') (fun a' => ∀ w', Below w.heap.size w w' → Q .normal a' w') l a) : (Code.region id l.toArray true).wp P Q a w :=
  wp_region_quiet (C := fun w' => Below w.heap.size w w') hm hB (below_drew1 w) (by simpa using h)
end

end Go.Proofs.Ytlpeghdbjfnenaa

/- slices.Sort at []int64, a few elements: it sorts a row of the call's own in place. -/
namespace Go.Proofs.Ytlpeghdbjfnenaa
open Go.RowKit

theorem nan_any (x : Int) (w : World) : Calls Try.prog 166 #[.int .i64 x] w fun e w' => e = .returned (.bool false) ∧ w' = w := by
  have hx : (x != x) = false := by simp
  go_enter Try.func166, Try.ntmps166
  go_wp2
  go_ret
  exact ⟨rfl, rfl⟩

theorem less_any (x y : Int) (w : World) : Calls Try.prog 156 #[.int .i64 x, .int .i64 y] w fun e w' => e = .returned (.bool (decide (x < y))) ∧ w' = w := by
  go_enter Try.func156, Try.ntmps156
  go_wp2_with (go_at_call 166; refine (nan_any _ _).mono ?_; rintro e w' ⟨rfl, rfl⟩)
  go_ret
  exact ⟨rfl, rfl⟩

set_option maxRecDepth 100000 in
theorem len64_0 (w : World) : Calls Try.prog 160 #[.int .u64 0] w fun e w' => (∃ r : Int, e = .returned (.int .i64 r)) ∧ w' = w := by
  go_enter Try.func160, Try.ntmps160
  go_wp2
  go_ret
  exact ⟨⟨_, rfl⟩, rfl⟩
set_option maxRecDepth 100000 in
theorem len64_1 (w : World) : Calls Try.prog 160 #[.int .u64 1] w fun e w' => (∃ r : Int, e = .returned (.int .i64 r)) ∧ w' = w := by
  go_enter Try.func160, Try.ntmps160
  go_wp2
  go_ret
  exact ⟨⟨_, rfl⟩, rfl⟩
set_option maxRecDepth 100000 in
theorem len64_2 (w : World) : Calls Try.prog 160 #[.int .u64 2] w fun e w' => (∃ r : Int, e = .returned (.int .i64 r)) ∧ w' = w := by
  go_enter Try.func160, Try.ntmps160
  go_wp2
  go_ret
  exact ⟨⟨_, rfl⟩, rfl⟩
set_option maxRecDepth 100000 in
theorem len64_3 (w : World) : Calls Try.prog 160 #[.int .u64 3] w fun e w' => (∃ r : Int, e = .returned (.int .i64 r)) ∧ w' = w := by
  go_enter Try.func160, Try.ntmps160
  go_wp2
  go_ret
  exact ⟨⟨_, rfl⟩, rfl⟩
set_option maxRecDepth 100000 in
theorem len64_4 (w : World) : Calls Try.prog 160 #[.int .u64 4] w fun e w' => (∃ r : Int, e = .returned (.int .i64 r)) ∧ w' = w := by
  go_enter Try.func160, Try.ntmps160
  go_wp2
  go_ret
  exact ⟨⟨_, rfl⟩, rfl⟩
set_option maxRecDepth 100000 in
theorem len64_5 (w : World) : Calls Try.prog 160 #[.int .u64 5] w fun e w' => (∃ r : Int, e = .returned (.int .i64 r)) ∧ w' = w := by
  go_enter Try.func160, Try.ntmps160
  go_wp2
  go_ret
  exact ⟨⟨_, rfl⟩, rfl⟩
theorem len64_any (k : Nat) (hk : k ≤ 5) (w : World) : Calls Try.prog 160 #[.int .u64 k] w fun e w' => (∃ r : Int, e = .returned (.int .i64 r)) ∧ w' = w := by
  rcases (by omega : k = 0 ∨ k = 1 ∨ k = 2 ∨ k = 3 ∨ k = 4 ∨ k = 5) with rfl | rfl | rfl | rfl | rfl | rfl
  · exact len64_0 w
  · exact len64_1 w
  · exact len64_2 w
  · exact len64_3 w
  · exact len64_4 w
  · exact len64_5 w
theorem len_any (k : Nat) (hk : k ≤ 5) (w : World) : Calls Try.prog 145 #[.int .u64 k] w fun e w' => (∃ r : Int, e = .returned (.int .i64 r)) ∧ w' = w := by
  go_enter Try.func145, Try.ntmps145
  go_wp2_with fail
  refine (len64_any k hk _).mono ?_
  rintro e w' ⟨⟨r, rfl⟩, rfl⟩
  go_wp2
  go_ret
  exact ⟨⟨_, rfl⟩, rfl⟩

/-- ascending, but for what stands at j, up to i -/
def asc (cur : List Int) (i j : Nat) : Prop := ∀ x y, x < y → y ≤ i → y ≠ j → iget cur x ≤ iget cur y
theorem swap_perm : ∀ (l : List Int) (k : Nat), k + 1 < l.length → ((l.set (k + 1) (iget l k)).set k (iget l (k + 1))).Perm l
  | [], k, h => by simp at h
  | [a], k, h => by simp at h
  | a :: b :: r, 0, _ => by
    simp only [List.set_cons_succ, List.set_cons_zero]
    exact List.Perm.swap a b r
  | a :: b :: r, k + 1, h => by
    have := swap_perm (b :: r) k (by simpa using h)
    rw [show iget (a :: b :: r) (k + 1) = iget (b :: r) k by simp [iget], show iget (a :: b :: r) (k + 1 + 1) = iget (b :: r) (k + 1) by simp [iget], List.set_cons_succ, List.set_cons_succ]
    exact this.cons a
theorem asc_next {cur : List Int} {i : Nat} (h : asc cur i (i + 1)) : asc cur (i + 1) (i + 1) := fun x y h1 h2 h3 => h x y h1 (by omega) h3
theorem asc_stop {cur : List Int} {i j : Nat} (h : asc cur i j) (hs : j = 0 ∨ iget cur (j - 1) ≤ iget cur j) : ∀ x y, x < y → y ≤ i → iget cur x ≤ iget cur y := by
  intro x y h1 h2
  by_cases e : y = j
  · subst e
    rcases hs with h0 | h0
    · omega
    · by_cases e2 : x = y - 1
      · rw [e2]; exact h0
      · exact Int.le_trans (h x (y - 1) (by omega) (by omega) (by omega)) h0
  · exact h x y h1 h2 e
theorem asc_swap {cur : List Int} {i k : Nat} (hl : k + 1 < cur.length) (hk : k + 1 ≤ i) (h : asc cur i (k + 1)) (hlt : iget cur (k + 1) < iget cur k) : asc ((cur.set (k + 1) (iget cur k)).set k (iget cur (k + 1))) i k := by
  have e1 : iget ((cur.set (k + 1) (iget cur k)).set k (iget cur (k + 1))) k = iget cur (k + 1) := iget_set_eq (by simp; omega) _
  have e2 : iget ((cur.set (k + 1) (iget cur k)).set k (iget cur (k + 1))) (k + 1) = iget cur k := by rw [iget_set_ne (by omega), iget_set_eq hl]
  have e3 : ∀ z, z ≠ k → z ≠ k + 1 → iget ((cur.set (k + 1) (iget cur k)).set k (iget cur (k + 1))) z = iget cur z := fun z h1 h2 => by rw [iget_set_ne (fun e => h1 e.symm), iget_set_ne (fun e => h2 e.symm)]
  intro x y h1 h2 h3
  by_cases y1 : y = k + 1
  · subst y1
    rw [e2]
    by_cases x1 : x = k
    · subst x1; rw [e1]; omega
    · rw [e3 x x1 (by omega)]; exact h x k (by omega) (by omega) (by omega)
  · rw [e3 y h3 y1]
    by_cases x1 : x = k
    · subst x1; rw [e1]; exact h (x + 1) y (by omega) h2 y1
    · by_cases x2 : x = k + 1
      · subst x2; rw [e2]; exact h k y (by omega) h2 y1
      · rw [e3 x x1 x2]; exact h x y h1 h2 y1

/-- the list, in ascending order -/
def sortL (zs : List Int) : List Int := zs.mergeSort (fun a b => decide (a ≤ b))
theorem pair_of_iget {l : List Int} (h : ∀ x y, x < y → y < l.length → iget l x ≤ iget l y) : l.Pairwise (· ≤ ·) := by
  rw [List.pairwise_iff_getElem]
  intro i j hi hj hij
  have := h i j hij hj
  rwa [iget_lt hi, iget_lt hj] at this
theorem sortL_uniq {l zs : List Int} (hp : l.Perm zs) (ha : l.Pairwise (· ≤ ·)) : l = sortL zs := by
  have h1 : (sortL zs).Pairwise (· ≤ ·) := by
    have := List.pairwise_mergeSort (le := fun a b : Int => decide (a ≤ b)) (fun a b c h1 h2 => by simp at *; omega) (fun a b => by simp; omega) zs
    exact this.imp (by simp)
  exact List.Perm.eq_of_pairwise (fun a b _ _ h1 h2 => Int.le_antisymm h1 h2) ha h1 (hp.trans (List.mergeSort_perm zs _).symm)
theorem sortL_len (zs : List Int) : (sortL zs).length = zs.length := (List.mergeSort_perm zs _).length_eq
end Go.Proofs.Ytlpeghdbjfnenaa

/- All degrees of a finite diagram, on lists. No program in sight. -/
namespace Go.Proofs.Ytlpeghdbjfnenaa

theorem fin_step {k : Nat} {labs : List Int} : kStep k labs = 0 ↔ k = 0 ∧ (degs labs).length ≠ 0 := by
  unfold kStep
  by_cases h : (degs labs).length = 0
  · rw [if_pos h]
    constructor
    · intro h2; split at h2 <;> omega
    · intro h2; exact absurd h h2.2
  · rw [if_neg h]; exact ⟨fun h2 => ⟨h2, h⟩, fun h2 => h2.1⟩
theorem fin_all {ps : Cmps} : ∀ j, j ≤ ps.length → (kindN ps j = 0 ↔ ∀ k, k < j → (degs (cget ps k).2).length ≠ 0)
  | 0, _ => ⟨fun _ k hk => absurd hk (by omega), fun _ => rfl⟩
  | j + 1, h => by
    rw [kindN_succ (by omega), fin_step, fin_all j (by omega)]
    constructor
    · intro ⟨h1, h2⟩ k hk
      by_cases e : k = j
      · rw [e]; exact h2
      · exact h1 k (by omega)
    · intro h1; exact ⟨fun k hk => h1 k (by omega), h1 j (by omega)⟩
def catD (ps : Cmps) (j : Nat) : List Int := ((ps.take j).map fun p => degs p.2).flatten
theorem catD_succ {ps : Cmps} {j : Nat} (h : j < ps.length) : catD ps (j + 1) = catD ps j ++ degs (cget ps j).2 := by
  unfold catD
  rw [List.take_add_one, List.getElem?_eq_getElem h, cget_lt h, List.map_append, List.flatten_append]
  simp only [Option.toList_some, List.map_cons, List.map_nil, List.flatten_cons, List.flatten_nil, List.append_nil]
/-- the greatest degree of a component -/
def topD (labs : List Int) : Nat := (iget (degs labs) ((degs labs).length - 1)).toNat
def mulD (ps : Cmps) (j : Nat) : Nat := (ps.take j).foldl (fun m p => Nat.lcm m (topD p.2)) 1
theorem mulD_succ {ps : Cmps} {j : Nat} (h : j < ps.length) : mulD ps (j + 1) = Nat.lcm (mulD ps j) (topD (cget ps j).2) := by
  unfold mulD
  rw [List.take_add_one, List.getElem?_eq_getElem h, List.foldl_append, cget_lt h]
  rfl
theorem topD_le {labs : List Int} (h : Labs labs) : topD labs ≤ 32 := by
  unfold topD
  by_cases hl : (degs labs).length = 0
  · rw [List.length_eq_zero_iff.1 hl]; simp [iget]
  · have := degs_in h _ (iget_mem (zs := degs labs) (k := (degs labs).length - 1) (by omega))
    omega
theorem topD_pos {labs : List Int} (h : Labs labs) (hl : (degs labs).length ≠ 0) : 0 < topD labs := by
  unfold topD
  have := degs_in h _ (iget_mem (zs := degs labs) (k := (degs labs).length - 1) (by omega))
  omega
theorem topD_int {labs : List Int} (h : Labs labs) (hl : (degs labs).length ≠ 0) : iget (degs labs) ((degs labs).length - 1) = (topD labs : Int) := by
  have := degs_in h _ (iget_mem (zs := degs labs) (k := (degs labs).length - 1) (by omega))
  unfold topD
  omega
theorem lcm_le' (m h : Nat) : Nat.lcm m h ≤ m * h := by unfold Nat.lcm; exact Nat.div_le_self _ _
theorem mulD_le {ps : Cmps} (hL : ∀ k, k < ps.length → Labs (cget ps k).2) : ∀ j, j ≤ ps.length → mulD ps j ≤ 32 ^ j
  | 0, _ => by simp [mulD]
  | j + 1, h => by
    rw [mulD_succ (by omega), Nat.pow_succ]
    exact Nat.le_trans (lcm_le' _ _) (Nat.mul_le_mul (mulD_le hL j (by omega)) (topD_le (hL j (by omega))))
theorem mulD_lt {ps : Cmps} (hL : ∀ k, k < ps.length → Labs (cget ps k).2) {j : Nat} (h : j ≤ ps.length) (h5 : j ≤ 5) : mulD ps j ≤ 33554432 :=
  Nat.le_trans (mulD_le hL j h) (Nat.le_trans (Nat.pow_le_pow_right (by decide) h5) (by decide))
theorem lcm_quo (m h : Nat) : m * (h / Nat.gcd m h) = Nat.lcm m h := by unfold Nat.lcm; rw [Nat.mul_div_assoc _ (Nat.gcd_dvd_right m h)]
theorem lcm_quo' (m h : Nat) : m / Nat.gcd m h * h = Nat.lcm m h := by
  unfold Nat.lcm; rw [Nat.mul_comm m h, Nat.mul_div_assoc _ (Nat.gcd_dvd_left m h), Nat.mul_comm]
theorem gcd_pos' {m h : Nat} (hh : 0 < h) : 0 < Nat.gcd m h := Nat.gcd_pos_of_pos_right m hh
theorem ramp_get {n : Nat} {step : Int} {i : Nat} (h : i < n) : iget (ramp n step) i = 2 + step * i := by
  rw [iget_lt (by rw [ramp_len]; exact h)]; simp [ramp]
theorem degs_asc {labs : List Int} (hL : Labs labs) : ∀ i, i + 1 < (degs labs).length → iget (degs labs) i ≤ iget (degs labs) (i + 1) := by
  have hr : ∀ step : Int, 0 ≤ step → ∀ i, i + 1 < (ramp (labs.length + 1) step).length → iget (ramp (labs.length + 1) step) i ≤ iget (ramp (labs.length + 1) step) (i + 1) := fun step hs i hi => by
    rw [ramp_len] at hi
    rw [ramp_get (by omega), ramp_get hi]
    have : step * (i : Int) ≤ step * ((i + 1 : Nat) : Int) := Int.mul_le_mul_of_nonneg_left (by omega) hs
    omega
  have h0 : ∀ l : List Int, l.length ≤ 4 → (∀ i, i < 3 → i + 1 < l.length → iget l i ≤ iget l (i + 1)) → ∀ i, i + 1 < l.length → iget l i ≤ iget l (i + 1) := fun l h1 h2 i hi => h2 i (by omega) hi
  unfold degs
  split
  · intro i hi; simp at hi
  split
  · rename_i h1 h2
    have h3 := hL.2 _ (iget_mem (zs := labs) (k := 0) (by omega))
    intro i hi
    obtain rfl : i = 0 := by simp at hi; omega
    show (2 : Int) ≤ iget labs 0
    omega
  split
  · intro i hi; simp at hi
    rcases (by omega : i = 0 ∨ i = 1) with rfl | rfl <;> decide
  split
  · intro i hi; simp at hi
    rcases (by omega : i = 0 ∨ i = 1 ∨ i = 2) with rfl | rfl | rfl <;> decide
  split
  · intro i hi; simp at hi
    rcases (by omega : i = 0 ∨ i = 1 ∨ i = 2) with rfl | rfl | rfl <;> decide
  split
  · exact hr 1 (by decide)
  split
  · exact hr 2 (by decide)
  · intro i hi; simp at hi
/-- whether a set of nodes is finite -/
def finB (zs : List Int) (mask : Nat) : Bool := decide (kindN (comps zs mask) (comps zs mask).length = 0)
def allD (zs : List Int) (mask : Nat) : List Int := sortL (catD (comps zs mask) (comps zs mask).length)
def mulA (zs : List Int) (mask : Nat) : Nat := mulD (comps zs mask) (comps zs mask).length
theorem catD_len {ps : Cmps} (hL : ∀ k, k < ps.length → Labs (cget ps k).2) : ∀ j, j ≤ ps.length → (catD ps j).length ≤ csum (ps.take j)
  | 0, _ => by simp [catD]
  | j + 1, h => by
    rw [catD_succ (by omega), List.take_add_one, List.getElem?_eq_getElem (by omega), csum_app, List.length_append]
    have h1 := catD_len hL j (by omega)
    have h2 := degs_len (cget ps j).2 (hL j (by omega)).1
    rw [cget_lt (by omega)] at h2 ⊢
    simp [csum] at h1 ⊢
    omega
theorem csum_take (ps : Cmps) (j : Nat) : csum (ps.take j) ≤ csum ps := by
  have : csum ps = csum (ps.take j) + csum (ps.drop j) := by rw [← csum_app, List.take_append_drop]
  omega
end Go.Proofs.Ytlpeghdbjfnenaa

/- slices.Repeat at []int64. -/
namespace Go.Proofs.Ytlpeghdbjfnenaa
open Go.RowKit

theorem ofInt_u64 (a : Nat) (ha : a < 18446744073709551616) : (BitVec.ofInt 64 (a : Int)).toNat = a := by
  rw [BitVec.ofInt_natCast, BitVec.toNat_ofNat]; exact Nat.mod_eq_of_lt (by omega)
theorem and_low (a : Nat) (ha : a ≤ 1048576) : bits .and .u64 (a : Int) 4294967295 = (a : Int) := by
  show IntKind.u64.wrap ((BitVec.ofInt 64 (a : Int) &&& BitVec.ofInt 64 ((4294967295 : Nat) : Int)).toNat : Int) = _
  rw [BitVec.toNat_and, ofInt_u64 a (by omega), ofInt_u64 4294967295 (by omega), show (4294967295 : Nat) = 2 ^ 32 - 1 from rfl, Nat.and_two_pow_sub_one_eq_mod, Nat.mod_eq_of_lt (by omega)]
  simp [IntKind.wrap, IntKind.signed, IntKind.bits]; omega

theorem wrap_u64_nat (a : Nat) (ha : a ≤ 4294967295) : IntKind.u64.wrap ((a : Nat) : Int) = (a : Int) := by
  simp [IntKind.wrap, IntKind.signed, IntKind.bits]; omega

set_option maxHeartbeats 400000 in
theorem bitsMul_any (a b : Nat) (w : World) (ha : a ≤ 1048576) (hb : b ≤ 1048576) (hab : a * b ≤ 4294967295) :
    Calls Try.prog 136 #[.int .u64 a, .int .u64 b] w fun e w' => e = .returned (.tuple #[.int .u64 0, .int .u64 ((a * b : Nat) : Int)]) ∧ w = w' := by
  have e1 : (a : Int) / 4294967296 = 0 := by omega
  have e2 : (b : Int) / 4294967296 = 0 := by omega
  have e3 : bits .and .u64 (a : Int) 4294967295 = (a : Int) := and_low a ha
  have e4 : bits .and .u64 (b : Int) 4294967295 = (b : Int) := and_low b hb
  have e5 : (a : Int) * (b : Int) = ((a * b : Nat) : Int) := by rw [Int.natCast_mul]
  have e6 : IntKind.u64.wrap ((a : Int) * (b : Int)) = ((a * b : Nat) : Int) := by rw [e5]; exact wrap_u64_nat _ hab
  have e7 : ((a : Int) * (b : Int)) / 4294967296 = 0 := by rw [e5]; omega
  have e8 : bits .and .u64 0 4294967295 = 0 := by decide +kernel
  have e9 : IntKind.u64.wrap 0 = 0 := by decide +kernel
  have H6 := Lib.hid e6
  have H5 := Lib.hid e5
  clear e5 e6
  have e10 : IntKind.u64.wrap ((a : Int) * (b : Int)) = (a : Int) * (b : Int) := by rw [H6.out, H5.out]
  go_enter Try.func136, Try.ntmps136
  go_wp2
  go_ret2
  exact ⟨by simp, rfl⟩

/-- a list again and again -/
def repL {α : Type} (zs : List α) (count : Nat) : List α := (List.replicate count zs).flatten
theorem length_repL {α : Type} (zs : List α) (count : Nat) : (repL zs count).length = zs.length * count := by
  unfold repL; rw [List.length_flatten]; simp; exact Nat.mul_comm _ _
theorem repL_add {α : Type} (zs : List α) (a b : Nat) : repL zs (a + b) = repL zs a ++ repL zs b := by
  unfold repL; rw [← List.replicate_append_replicate, List.flatten_append]
theorem repL_one {α : Type} (zs : List α) : repL zs 1 = zs := by simp [repL]
/-- what is copied from the front to behind place k, k a multiple of the period -/
theorem repL_double {α : Type} {zs : List α} {count j c : Nat} (hj : j ≤ count) (hc : c ≤ zs.length * (count - j)) : (repL zs count).take (zs.length * j + c) = (repL zs count).take (zs.length * j) ++ (repL zs count).take c := by
  have h1 : repL zs count = repL zs j ++ repL zs (count - j) := by rw [← repL_add]; congr 1; omega
  have h2 : repL zs count = repL zs (count - j) ++ repL zs j := by rw [← repL_add]; congr 1; omega
  have l1 := length_repL zs j
  have l2 := length_repL zs (count - j)
  have e3 : (repL zs count).take c = (repL zs (count - j)).take c := by rw [h2, List.take_append_of_le_length (by omega)]
  have e4 : (repL zs count).take (zs.length * j) = repL zs j := by rw [h1, ← l1, List.take_left']; rfl
  rw [e3, e4, h1, List.take_append, List.take_of_length_le (by omega)]
  congr 2; omega

theorem splice_pad {α : Type} {R : List α} {z : α} {k c T : Nat} (hR : R.length = T) (hk : k + c ≤ T) (h : R.take (k + c) = R.take k ++ R.take c) : splice (R.take k ++ List.replicate (T - k) z) k (R.take c) = R.take (k + c) ++ List.replicate (T - (k + c)) z := by
  unfold splice
  have l1 : (R.take k).length = k := by simp; omega
  have l2 : (R.take c).length = c := by simp; omega
  rw [List.take_append_of_le_length (by omega), List.take_of_length_le (by omega), l2, List.drop_append, List.drop_of_length_le (by omega), l1, h]
  simp
  omega

theorem splice_map {α β : Type} (f : α → β) (xs : List α) (k : Nat) (ys : List α) : (splice xs k ys).map f = splice (xs.map f) k (ys.map f) := by
  unfold splice; simp

/-- a whole row of the call's own, cell by cell -/
theorem Own.heap_ {w : World} {base E g T : Nat} {xs : List Value} (h : Own w base E (some ⟨g, 0, none⟩) T T xs) : w.heap[g]? = some (.cells xs.toArray E (0, 0)) := by
  rcases h.1.2 with ⟨h2, _⟩ | ⟨g', cap, cur, hv, _, hh, _, _, hs, ht⟩
  · cases h2
  · injection hv with h1 h2 h3
    injection h1 with h1; injection h1 with h1
    subst h1 h3
    have : cur.toList = xs := by rw [← ht, List.take_of_length_le]; rw [Array.length_toList, hs]; exact Nat.le_refl _
    rw [hh, ← this, Array.toArray_toList]
theorem Own.of_heap {w w' : World} {base E g T : Nat} {xs ys : List Value} (h : Own w base E (some ⟨g, 0, none⟩) T T xs) (hh : w'.heap[g]? = some (.cells ys.toArray E (0, 0))) (hl : ys.length = T) : Own w' base E (some ⟨g, 0, none⟩) T T ys := by
  refine ⟨⟨by rw [hl, Nat.mul_one], .inr ⟨g, T, ys.toArray, rfl, (h.lt g rfl).1, hh, Nat.le_refl _, by have := h.2; simp [maxLen]; omega, by simp [hl], ?_⟩⟩, h.2⟩
  simp [← hl]
section
variable {P : Program} {ops : Array Oper} {rest : List Oper} {o : Oper} {a : Act} {Q : Exit → Act → World → Prop}
/-- copy into a row of the call's own -/
theorem wpList_cp {S E : TypeId} {z : Value} {bytes : Nat} (et : ET P S E z bytes) (w : World) (hg : o.guard = none) (d s : Operand) (ho : o.op = .call { callee := .builtin .copy, args := #[d, s], argTypes := #[S, S] })
    (base g T off : Nat) (xs cs : List Value) (hown : Own w base E (some ⟨g, 0, none⟩) T T xs) (dp : Option Addr) (dLen dCap : Nat) (hd : a.eval d = .slice dp dLen dCap) (sp : Option Addr) (sLen sCap : Nat) (hs : a.eval s = .slice sp sLen sCap)
    (hn : cs.length = Nat.min sLen dLen) (hpos : 0 < cs.length → dp = some ⟨g, off, none⟩ ∧ ∃ ad, sp = some ad ∧ ∀ j v, cs[j]? = some v → w.cell? (ad.add j) = some v) (hfit : off + cs.length ≤ T) (h1 : ∀ v ∈ cs, v.oneCell' = true)
    (h : ∀ w', Own w' base E (some ⟨g, 0, none⟩) T T (splice xs off cs) → Below g w w' → wpList P ops Q rest (a.put o.dst (goInt cs.length)) w') : wpList P ops Q (o :: rest) a w := by
  obtain ⟨i, hi, hz, hsz, hby⟩ := info_parts et.info
  refine wpList_copy_splice hg d s S S ho E et.und (by rw [hi]; simp [hsz]) dp sp dLen dCap sLen sCap hd hs g off xs E hown.heap_ cs hn hpos (by rw [hown.len]; exact hfit) h1 g w (Below.refl _ _) (Nat.le_refl _) ?_
  intro w' hh hb
  exact h w' (hown.of_heap hh.out (by rw [length_splice _ _ _ (by rw [hown.len]; exact hfit), hown.len])) hb
theorem step_cp {S E : TypeId} {z : Value} {bytes : Nat} (et : ET P S E z bytes) {w : World} {K : Act → World → Prop} {X : Prop} (hg : o.guard = none) (d s : Operand) (ho : o.op = .call { callee := .builtin .copy, args := #[d, s], argTypes := #[S, S] })
    (base g T off : Nat) (xs cs : List Value) (hown : Own w base E (some ⟨g, 0, none⟩) T T xs) (dp : Option Addr) (dLen dCap : Nat) (hd : a.eval d = .slice dp dLen dCap) (sp : Option Addr) (sLen sCap : Nat) (hs : a.eval s = .slice sp sLen sCap)
    (hn : cs.length = Nat.min sLen dLen) (hpos : 0 < cs.length → dp = some ⟨g, off, none⟩ ∧ ∃ ad, sp = some ad ∧ ∀ j v, cs[j]? = some v → w.cell? (ad.add j) = some v) (hfit : off + cs.length ≤ T) (h1 : ∀ v ∈ cs, v.oneCell' = true)
    (h : ∀ w', Own w' base E (some ⟨g, 0, none⟩) T T (splice xs off cs) → Below g w w' → K (a.put o.dst (goInt cs.length)) w') : if Region.wanted o (yielded ops a.tmps) = true then Oper.wp P o a w K Q else X := by
  obtain ⟨i, hi, hz, hsz, hby⟩ := info_parts et.info
  refine step_copy_splice hg d s S S ho E et.und (by rw [hi]; simp [hsz]) dp sp dLen dCap sLen sCap hd hs g off xs E hown.heap_ cs hn hpos (by rw [hown.len]; exact hfit) h1 g w (Below.refl _ _) (Nat.le_refl _) ?_
  intro w' hh hb
  exact h w' (hown.of_heap hh.out (by rw [length_splice _ _ _ (by rw [hown.len]; exact hfit), hown.len])) hb
end

set_option maxRecDepth 100000 in
set_option maxHeartbeats 3200000 in
theorem repeat_any (ao : Option Addr) (n c count : Nat) (zs : List Int) (w : World) (h : Ints w ao n zs) (hn : n ≤ 1048576) (hc : count ≤ 1048576) (hnc : n * count ≤ 1048576) (hpos : 0 < n * count) :
    Calls Try.prog 108 #[.slice ao n c, .int .i64 count] w fun e w' => ∃ ao' c', e = .returned (.slice ao' (n * count) c') ∧ Own w' w.heap.size 2 ao' (n * count) c' ((repL zs count).map (Value.int .i64)) ∧ Below w.heap.size w w' := by
  have HL := Lib.hid h.1
  have hn0 : 0 < n := Nat.pos_of_mul_pos_right hpos
  have hc0 : 0 < count := Nat.pos_of_mul_pos_left hpos
  have hle : n ≤ n * count := Nat.le_mul_of_pos_right _ hc0
  obtain ⟨T, hT⟩ : ∃ T, n * count = T := ⟨_, rfl⟩
  rw [hT] at hpos hle ⊢
  have HT := Lib.hid hT
  have hT2 : T ≤ 1048576 := by omega
  clear hT hnc
  have hRl : ((repL zs count)).length = T := by rw [length_repL, HL.out, HT.out]
  have HR := Lib.hid hRl
  clear hRl
  obtain ⟨b, off, rfl, hb0, hcells⟩ := h.all_ hn0
  obtain ⟨cs, hcs⟩ : ∃ cs : List Value, cs = ((repL zs count).take n).map (Value.int .i64) := ⟨_, rfl⟩
  have hcl : cs.length = n := by rw [hcs]; simp [HR.out]; omega
  have hc1 : ∀ v ∈ cs, v.oneCell' = true := by rw [hcs]; exact ints_oneCell _ _
  have hcsv : ∀ j v, cs[j]? = some v → w.cell? ⟨b, off + j, none⟩ = some v := by
    intro j v hv
    have hj : j < n := by have := (List.getElem?_eq_some_iff.1 hv).1; omega
    have hrn : (repL zs count).take n = zs := by
      have e : repL zs count = zs ++ repL zs (count - 1) := by
        have : count = 1 + (count - 1) := by omega
        conv => lhs; rw [this]
        rw [repL_add, repL_one]
      rw [e, ← HL.out, List.take_left']; rfl
    rw [hcs, hrn, List.getElem?_map, List.getElem?_eq_getElem (by rw [HL.out]; exact hj)] at hv
    rw [hcells j hj, ← hv, iget_lt (by rw [HL.out]; exact hj)]; rfl
  have HCS := Lib.hid hcs
  have HCL := Lib.hid hcl
  have HC1 := Lib.hid hc1
  have HCV := Lib.hid hcsv
  have x1 := wrap_u64_nat n (by omega)
  have x2 := wrap_u64_nat count (by omega)
  clear hcs hcl hc1 hcsv hcells
  go_enter Try.func108, Try.ntmps108
  go_wp2_with (first | (go_at_call 136; refine (bitsMul_any n count _ hn hc (by rw [HT.out]; omega)).mono ?_; rintro e w' ⟨rfl, rfl⟩; rw [HT.out]) | (at_make; refine wpList_mk etI _ rfl _ _ rfl w.heap.size _ _ _ _ T rfl rfl rfl rfl (by omega) (Nat.le_refl _) ?_; intro w1 hown hgrow hsz; have hb1 : Below w.heap.size w w1 := (Below.refl _ _).grown hgrow (Nat.le_refl _) (by simp); clear hgrow) | (with_reducible refine wpList_cp (o := ⟨some 33, _, _, _, _, _⟩) etI _ rfl (.tmp 31) (.tmp 32) rfl w.heap.size w.heap.size T 0 _ cs hown _ _ _ rfl _ _ _ rfl ?_ ?_ ?_ HC1.out ?_))
  · rw [HCL.out]; exact (Nat.min_eq_left hle).symm
  · exact fun _ j v hv => (hb1.cell (p := ⟨b, off + j, none⟩) hb0).trans (HCV.out j v hv)
  · rw [HCL.out]; omega
  intro w2 o2 b2
  have hb2 : Below w.heap.size w w2 := hb1.trans b2
  have e0 : splice (List.replicate T (Value.int .i64 0)) 0 cs = ((repL zs count).take n ++ List.replicate (T - n) 0).map (Value.int .i64) := by
    rw [HCS.out, ← List.map_replicate]
    have := splice_pad (R := repL zs count) (z := (0 : Int)) (k := 0) (c := n) HR.out (by omega) (by simp)
    simp only [List.take_zero, List.nil_append, Nat.zero_add, Nat.sub_zero] at this
    rw [← this]
    simp [splice]
  rw [e0] at o2
  rw [HCL.out]
  clear e0 hown hsz hb1 b2 HCV HC1 HCS HCL
  go_wp2
  go_loopw [8] (fun i wr => ∃ k j : Nat, i = .int .i64 k ∧ 0 < k ∧ k ≤ T ∧ (k = n * j ∧ j ≤ count ∨ k = T) ∧ Own wr w.heap.size 2 (some ⟨w.heap.size, 0, none⟩) T T (((repL zs count).take k ++ List.replicate (T - k) 0).map (Value.int .i64)) ∧ Below w.heap.size w wr) (fun i _ => T - (intOf i).toNat)
  case atStart => exact ⟨n, 1, by simp, hn0, hle, .inl ⟨by omega, by omega⟩, o2, hb2⟩
  case round =>
    obtain ⟨k, j, rfl, hk0, hkT, hkj, ho, hb⟩ := hrel
    clear o2 hb2
    have HK := Lib.hid hkj
    clear hkj
    by_cases hlt : k < T
    · obtain ⟨c2, hc2⟩ : ∃ c2, c2 = Nat.min k (T - k) := ⟨_, rfl⟩
      have hc2a : c2 ≤ k := by rw [hc2]; exact Nat.min_le_left _ _
      have hc2b : c2 ≤ T - k := by rw [hc2]; exact Nat.min_le_right _ _
      have hc2c : 0 < c2 := by rw [hc2]; exact Nat.lt_min.2 ⟨hk0, by omega⟩
      have hdb : (repL zs count).take (k + c2) = (repL zs count).take k ++ (repL zs count).take c2 := by
        rcases HK.out with ⟨e, hj⟩ | e
        · have hx : c2 ≤ zs.length * (count - j) := by rw [HL.out, Nat.mul_sub, HT.out, ← e]; exact hc2b
          have := repL_double (zs := zs) hj hx
          rwa [HL.out, ← e] at this
        · omega
      obtain ⟨cs, hcs⟩ : ∃ cs : List Value, cs = ((repL zs count).take c2).map (Value.int .i64) := ⟨_, rfl⟩
      have hcl : cs.length = c2 := by rw [hcs]; simp [HR.out]; omega
      have hc1 : ∀ v ∈ cs, v.oneCell' = true := by rw [hcs]; exact ints_oneCell _ _
      have hcsv : ∀ j v, cs[j]? = some v → wr.cell? ⟨w.heap.size, j, none⟩ = some v := by
        intro j v hv
        have hj : j < c2 := by have := (List.getElem?_eq_some_iff.1 hv).1; omega
        obtain ⟨g', eg, -, -, -, hcell, -⟩ := ho.form (by omega)
        injection eg with eg; injection eg with eg; subst eg
        rw [hcell j (by omega), ← hv, hcs, List.getElem?_map, List.getElem?_map, List.getElem?_append_left (by simp [HR.out]; omega), List.getElem?_take, List.getElem?_take, if_pos (by omega), if_pos (by omega)]
      have HD := Lib.hid hdb
      have HC := Lib.hid hcs
      have HCL := Lib.hid hcl
      have HC1 := Lib.hid hc1
      have HCV := Lib.hid hcsv
      have HC2 := Lib.hid hc2
      have hTk : ((T - k : Nat) : Int) = (T : Int) - k := by omega
      clear hdb hcs hcl hc1 hcsv hc2 hTk
      go_wp2_with fail
      have HB := Lib.hid hb
      have HS := Lib.hid (show ((k : Nat) : Int) + ((c2 : Nat) : Int) = ((k + c2 : Nat) : Int) by omega)
      have hw : IntKind.i64.wrap (((k + c2 : Nat) : Nat) : Int) = ((k + c2 : Nat) : Int) := by simp [IntKind.wrap, IntKind.signed, IntKind.bits]; omega
      have HW := Lib.hid hw
      clear hw
      go_region_held3 (fun w' => Below w.heap.size w w') (first | exact HB.out.drew | assumption) (first | (refine step_cp (o := ⟨some 45, _, _, _, _, _⟩) etI rfl (.tmp 41) (.tmp 44) rfl w.heap.size w.heap.size T k _ cs (ho.drewN 1) _ _ _ rfl _ _ _ rfl ?_ ?_ ?_ HC1.out ?_; (rw [HCL.out, HC2.out]); (intro _; exact ⟨if_neg (by omega), _, rfl, fun j v hv => by have hx := HCV.out j v hv; by_cases e : j = 0 <;> simp_all [Addr.add]⟩); (rw [HCL.out]; omega); intro w3 o3 b3; have b4 : Below w.heap.size w w3 := HB.out.drew.trans b3))
      rw [HCL.out, HS.out, HW.out]
      have o4 : Own w3 w.heap.size 2 (some ⟨w.heap.size, 0, none⟩) T T (((repL zs count).take (k + c2) ++ List.replicate (T - (k + c2)) 0).map (Value.int .i64)) := by
        have e := splice_pad (R := repL zs count) (z := (0 : Int)) (k := k) (c := c2) HR.out (by omega) HD.out
        rw [← e]
        rw [HC.out] at o3
        rw [splice_map]
        exact o3
      go_roundw
      case rel =>
        refine ⟨_, _, _, _, _, _, _, _, _, _, _, _, _, _, ⟨k + c2, 2 * j, rfl, by omega, by omega, ?_, o4, b4⟩, rfl⟩
        rcases HK.out with ⟨e, hj⟩ | e
        · by_cases hx : k ≤ T - k
          · have hc2k : c2 = k := by rw [HC2.out]; exact Nat.min_eq_left hx
            left
            have e2 : n * (2 * j) = k + k := by rw [e, Nat.mul_left_comm]; omega
            refine ⟨by omega, ?_⟩
            have : n * (2 * j) ≤ n * count := by rw [HT.out]; omega
            exact Nat.le_of_mul_le_mul_left this hn0
          · have hc2k : c2 = T - k := by rw [HC2.out]; exact Nat.min_eq_right (by omega)
            right; omega
        · omega
      case measure => simp [intOf]; omega
    · obtain rfl : k = T := by omega
      rw [Nat.sub_self, List.replicate_zero, List.append_nil, List.take_of_length_le (Nat.le_of_eq HR.out)] at ho
      go_wp2
      go_ret
      exact ⟨_, _, rfl, ho, hb⟩
end Go.Proofs.Ytlpeghdbjfnenaa

/- Contracts in names of small functions: size, slices.Repeat. -/
namespace Go.Proofs.Ytlpeghdbjfnenaa
open Go.RowKit

theorem size_fc (x n : Nat) (zs : List Int) (own : Bool) : FC Try.prog 88 [(x, ⟨false, 2, 1, .vals (ivals zs)⟩)] [o1 (.sl x 0 n)] [] (vv (I6 n)) [] := by
  refine fc_enter (nt := 5) Try.func88 rfl rfl (by simp) fun w0 ω0 => ?_
  (refine goes_seq ?_; refine goes_region ?_; apply run_step rfl; (exact stp_assign rfl rfl); refine run_nil ?_; refine fin_seq ?_; refine goes_seq ?_; refine goes_region ?_; apply run_step rfl; (exact stp_move rfl rfl); apply run_step rfl; (exact stp_len rfl rfl rfl (by as_aux_lemma => kernel_rfl)); apply run_step rfl; (exact stp_assign rfl rfl); refine run_nil ?_; refine fin_seq ?_; refine goes_ret ?_)
  exact fin_ret1 (.inl rfl) rfl (.tmp rfl) trivial trivial
theorem sizeR_fc (x n : Nat) : FC Try.prog 142 [] [o1 (.sl x 0 n)] [] (vv (I6 n)) [] := by
  refine fc_enter (nt := 5) Try.func142 rfl rfl (by simp) fun w0 ω0 => ?_
  (refine goes_seq ?_; refine goes_region ?_; apply run_step rfl; (exact stp_assign rfl rfl); refine run_nil ?_; refine fin_seq ?_; refine goes_seq ?_; refine goes_region ?_; apply run_step rfl; (exact stp_move rfl rfl); apply run_step rfl; (exact stp_len rfl rfl rfl (by as_aux_lemma => kernel_rfl)); apply run_step rfl; (exact stp_assign rfl rfl); refine run_nil ?_; refine fin_seq ?_; refine goes_ret ?_)
  exact fin_ret1 (.inl rfl) rfl (.tmp rfl) trivial trivial
theorem sizeV_fc (x n : Nat) : FC Try.prog 88 [] [o1 (.sl x 0 n)] [] (vv (I6 n)) [] := by
  refine fc_enter (nt := 5) Try.func88 rfl rfl (by simp) fun w0 ω0 => ?_
  (refine goes_seq ?_; refine goes_region ?_; apply run_step rfl; (exact stp_assign rfl rfl); refine run_nil ?_; refine fin_seq ?_; refine goes_seq ?_; refine goes_region ?_; apply run_step rfl; (exact stp_move rfl rfl); apply run_step rfl; (exact stp_len rfl rfl rfl (by as_aux_lemma => kernel_rfl)); apply run_step rfl; (exact stp_assign rfl rfl); refine run_nil ?_; refine fin_seq ?_; refine goes_ret ?_)
  exact fin_ret1 (.inl rfl) rfl (.tmp rfl) trivial trivial

theorem sizeE_fc (x i n : Nat) : FC Try.prog 88 [] [o1 (.esl x i 0 n)] [] (vv (I6 n)) [] := by
  refine fc_enter (nt := 5) Try.func88 rfl rfl (by simp) fun w0 ω0 => ?_
  (refine goes_seq ?_; refine goes_region ?_; apply run_step rfl; (exact stp_assign rfl rfl); refine run_nil ?_; refine fin_seq ?_; refine goes_seq ?_; refine goes_region ?_; apply run_step rfl; (exact stp_move rfl rfl); apply run_step rfl; (exact stp_len rfl rfl rfl (by as_aux_lemma => kernel_rfl)); apply run_step rfl; (exact stp_assign rfl rfl); refine run_nil ?_; refine fin_seq ?_; refine goes_ret ?_)
  exact fin_ret1 (.inl rfl) rfl (.tmp rfl) trivial trivial

theorem repL_single (z : Int) : ∀ n, repL [z] n = List.replicate n z := fun n => by
  unfold repL
  induction n with
  | zero => rfl
  | succ n ih => simp [List.replicate_succ] at ih ⊢
theorem lk_self {α : Type} (x : Nat) (c : α) : lk x [(x, c)] = some c := by simp [lk]
/-- slices.Repeat of a list of one number -/
theorem repeat1_fc (x y n : Nat) (z : Int) (hn : n ≤ 1048576) (hn0 : 0 < n) :
    FC Try.prog 108 [(x, ⟨false, 2, 1, .vals (ivals [z])⟩)] [o1 (.sl x 0 1), vv (I6 n)] [(y, ⟨true, 2, 1, .vals (ivals (List.replicate n z))⟩)] (o1 (.sl y 0 n)) [] := by
  have h := fc_of_own (P := Try.prog) (f := 108) (ins := [(x, ⟨false, 2, 1, .vals (ivals [z])⟩)]) (args := [o1 (.sl x 0 1), vv (I6 n)]) (x := y) (E := 2) (zs := List.replicate n z) fun w η ω us hm hd => by
    obtain ⟨hl, ha⟩ := hd
    obtain ⟨u0, h0, d0⟩ := ha 0 _ rfl
    obtain ⟨u1, h1, d1⟩ := ha 1 _ rfl
    obtain ⟨ao, c, e0, hi⟩ := rdS (zs := [z]) (E := 2) (own := false) hm (lk_self _ _) d0 (by simp)
    have d1 : u1 = I6 n := d1
    subst e0 d1
    obtain rfl : us = [.slice ao 1 c, I6 n] := by
      match us, hl, h0, h1 with
      | [p, q], _, h0, h1 => simp at h0 h1; rw [h0, h1]
    refine (repeat_any ao 1 c n [z] w hi (by omega) hn (by omega) (by omega)).mono ?_
    rintro e w' ⟨ao', c', rfl, ho, hb⟩
    rw [Nat.one_mul, repL_single] at ho
    rw [List.length_replicate]
    exact ⟨ao', c', by rw [Nat.one_mul], ho, hb⟩
  rw [List.length_replicate] at h
  exact h
end Go.Proofs.Ytlpeghdbjfnenaa

/- The components of a diagram, the program's: components. guards: -/
namespace Go.Proofs.Ytlpeghdbjfnenaa
open Go.RowKit

/-- components as cells: a mask, a row of labels -/
abbrev mixC (ps : Cmps) : List Cel := ps.flatMap fun p => [.v (I6 (p.1 : Int)), .r 2 1 p.2.length (ivals p.2)]
abbrev cpOw (ps : Cmps) : Ch := ⟨true, 67, 2, .mix (mixC ps)⟩
abbrev cpRo (ps : Cmps) : Ch := ⟨false, 67, 2, .mix (mixC ps)⟩
theorem mixC_len (ps : Cmps) : (mixC ps).length = ps.length * 2 := by
  induction ps with
  | nil => rfl
  | cons p r ih => simp [mixC] at ih ⊢; omega
theorem mixC_get : ∀ {ps : Cmps} {k : Nat}, k < ps.length → (mixC ps)[k * 2]? = some (.v (I6 ((cget ps k).1 : Int))) ∧ (mixC ps)[k * 2 + 1]? = some (.r 2 1 (cget ps k).2.length (ivals (cget ps k).2))
  | [], _, h => by simp at h
  | p :: r, 0, _ => ⟨rfl, rfl⟩
  | p :: r, k + 1, h => by
    have := mixC_get (ps := r) (k := k) (by simpa using h)
    rw [show (k + 1) * 2 = k * 2 + 2 by omega]
    exact this
theorem mixC_app (a b : Cmps) : mixC (a ++ b) = mixC a ++ mixC b := by simp [mixC]
theorem mixC_set : ∀ (ps : Cmps) (k : Nat) (m : Nat) (zs : List Int), k < ps.length → ((mixC ps).set (k * 2) (.v (I6 (m : Int)))).set (k * 2 + 1) (.r 2 1 zs.length (ivals zs)) = mixC (ps.set k (m, zs))
  | [], _, _, _, h => by simp at h
  | p :: r, 0, m, zs, _ => rfl
  | p :: r, k + 1, m, zs, h => by
    have := mixC_set r k m zs (by simpa using h)
    rw [show (k + 1) * 2 = k * 2 + 2 by omega]
    show ((.v (I6 (p.1 : Int))) :: .r 2 1 p.2.length (ivals p.2) :: ((mixC r).set (k * 2) (.v (I6 (m : Int)))).set (k * 2 + 1) (.r 2 1 zs.length (ivals zs))) = _
    rw [this]; rfl
set_option maxRecDepth 100000 in
set_option maxHeartbeats 2000000 in
theorem comps_fc (zs : List Int) (L mask : Nat) (hL : zs.length = L) (h4 : L ≤ 4) (hm : mask < 1000) :
    FC Try.prog 63 [(1003, wRo zs)] [o1 (.sl 1003 0 L), vv (I6 mask)] [(2000, cpOw (comps zs mask))] (o1 (.sl 2000 0 (comps zs mask).length)) [] := by
  have hSz := sizeV_fc 1003 L
  refine fc_enter (nt := 68) Try.func63 rfl rfl (by simp) fun w0 ω0 => ?_
  have hil : L ≤ (ivals zs).length := by rw [ivals_len, hL]; exact Nat.le_refl _
  have hL1 : IntKind.i64.wrap ((L : Int) + 1) = ((L + 1 : Nat) : Int) := IntWalk.i64_in _ (by omega)
  (refine goes_seq ?_; refine goes_region ?_; apply run_step rfl; (exact stp_assign rfl rfl); refine run_nil ?_; refine fin_seq ?_; refine goes_seq ?_; refine goes_region ?_; apply run_step rfl; (exact stp_assign rfl rfl); refine run_nil ?_; refine fin_seq ?_; refine goes_seq ?_; refine goes_region ?_; apply run_step rfl; (exact stp_assign rfl rfl); refine run_nil ?_; refine fin_seq ?_; refine goes_seq ?_; refine goes_seq ?_; refine goes_region ?_; apply run_step rfl; (exact stp_move rfl rfl); apply run_step rfl; (first | (apply call_gate 88; exact stp_callR hSz (by as_aux_lemma => kernel_rfl) rfl rfl ⟨rfl, trivial⟩ trivial rfl rfl) | exact stp_add rfl rfl rfl hL1); apply run_step rfl; (first | (apply call_gate 88; exact stp_callR hSz (by as_aux_lemma => kernel_rfl) rfl rfl ⟨rfl, trivial⟩ trivial rfl rfl) | exact stp_add rfl rfl rfl hL1); apply run_step rfl; (exact stp_move rfl rfl); refine run_nil ?_; refine fin_seq ?_; refine goes_block ?_)
  refine goes_loop (fun q : Nat × Cmps × Bool => St.of [(0, o1 (.sl 1003 0 L)), (1, vv (I6 mask)), (5, o1 (.sl 2000 0 q.2.1.length)), (6, vv (.bool q.2.2)), (11, vv (I6 (L + 1 : Nat))), (12, vv (I6 q.1))] [(1003, wRo zs), (2000, cpOw q.2.1)])
    (fun q => q.1 ≤ L + 1 ∧ pTo zs mask q.1 = q.2.1 ∧ (q.1 ≤ L → q.2.2 = jn zs mask q.1)) (fun q => L + 1 - q.1) (0, [], false) ⟨Nat.zero_le _, rfl, fun _ => rfl⟩
    (Wk.trans (wk_nil (t := 5) (n := 2000) (k := 2) (E := 67) (d := .mix (mixC [])) rfl rfl) (Wk.of ⟨rfl, rfl, rfl, rfl, rfl, rfl, trivial⟩ ⟨rfl, rfl, trivial⟩ trivial)) ?_
  rintro ⟨i, ps, jb⟩ ⟨hi, hp, hj⟩
  dsimp only at hi hp hj ⊢
  have hps := pTo_ok zs mask i (by omega)
  have hnx := pTo_succ zs mask i
  rw [hp] at hps hnx
  have hpl : ps.length ≤ 5 := by have := csum_len ps; have := hps.sum; omega
  have hmx := mixC_len ps
  (refine goes_seq ?_; refine goes_region ?_; apply run_step rfl; (exact stp_bin rfl rfl rfl rfl); refine run_nil ?_; refine fin_seq ?_; refine goes_seq ?_)
  refine goes_if rfl (fun hlt => ?_) (fun hlt => ?_)
  · have hiL : i ≤ L := by omega
    have hj := hj hiL
    have hi64 : i ≤ 64 := by omega
    have hmm : mask < 1000000 := by omega
    have hmle : mask / 2 ^ i ≤ mask := Nat.div_le_self _ _
    (refine goes_skip ?_; refine fin_seq ?_; refine goes_seq ?_; refine goes_block ?_; refine goes_seq ?_; refine goes_region ?_; apply run_step rfl; (exact stp_move rfl rfl); apply run_step rfl; (exact stp_assign rfl rfl); refine run_nil ?_; refine fin_seq ?_; refine goes_seq ?_; refine goes_seq ?_; refine goes_region ?_; apply run_step rfl; (exact stp_move rfl rfl); apply run_step rfl; (exact stp_move rfl rfl); apply run_step rfl; (first | exact stp_shrN (g := i) rfl rfl rfl hi64 | exact stp_bit rfl rfl hmm | exact stp_eqBit0 rfl rfl); apply run_step rfl; (first | exact stp_shrN (g := i) rfl rfl rfl hi64 | exact stp_bit rfl rfl hmm | exact stp_eqBit0 rfl rfl); apply run_step rfl; (first | exact stp_shrN (g := i) rfl rfl rfl hi64 | exact stp_bit rfl rfl hmm | exact stp_eqBit0 rfl rfl); refine run_nil ?_; refine fin_seq ?_)
    refine goes_cond rfl (fun hb => ?_) (fun hb => ?_)
    · have hb : mBit mask i = false := by simpa using hb
      have hv : pTo zs mask (i + 1) = ps := by rw [hnx]; unfold pStep; rw [if_neg (by rw [hb]; simp)]
      (refine goes_seq ?_; refine goes_region ?_; apply run_step rfl; (exact stp_assign rfl rfl); refine run_nil ?_; refine fin_seq ?_; refine goes_exit ?_; refine fin_exit_then ?_; refine fin_exit_eq ?_; refine fin_seq ?_; refine goes_region ?_; apply run_step rfl; (exact stp_add rfl rfl rfl (by first | exact IntWalk.i64_in _ (by omega) | rfl)); apply run_step rfl; (exact stp_move rfl rfl); refine run_nil ?_)
      exact fin_round (i + 1, ps, false) ⟨by omega, hv, fun _ => by unfold jn; rw [Nat.add_sub_cancel, hb]; simp⟩ (by show L + 1 - (i + 1) < L + 1 - i; omega) (Wk.of ⟨rfl, rfl, rfl, rfl, rfl, rfl, trivial⟩ ⟨rfl, rfl, trivial⟩ trivial)
    · have hb : mBit mask i = true := by simpa using hb
      unfold pStep at hnx
      rw [if_pos hb, ← hj] at hnx
      have hjn : ∀ b : Bool, i ≤ L → (i + 1 ≤ L → b = !(iget zs i == 2)) → (i + 1 ≤ L → b = jn zs mask (i + 1)) := fun b _ h1 h2 => by
        rw [h1 h2]; unfold jn; rw [Nat.add_sub_cancel, hb]; simp
      have hi5 : i ≤ 5 := by omega
      (refine goes_skip ?_; refine fin_seq ?_; refine goes_seq ?_; refine goes_seq ?_; refine goes_region ?_; apply run_step rfl; (exact stp_move rfl rfl); refine run_nil ?_; refine fin_seq ?_)
      refine goes_cut (St.of [(0, o1 (.sl 1003 0 L)), (1, vv (I6 mask)), (5, o1 (.sl 2000 0 (pTo zs mask (i + 1)).length)), (7, vv (I6 i)), (11, vv (I6 (L + 1 : Nat))), (12, vv (I6 i))] [(1003, wRo zs), (2000, cpOw (pTo zs mask (i + 1)))]) ?_ ?_
      · refine goes_cond rfl (fun hjb => ?_) (fun hjb => ?_)
        · have hjs := jn_spec (hj ▸ hjb)
          have hne := hps.ne hjs.1 hjs.2.1
          obtain ⟨j, hjl⟩ : ∃ j, ps.length = j + 1 := ⟨ps.length - 1, by omega⟩
          have hjp : j < ps.length := by omega
          have hv : pTo zs mask (i + 1) = ps.set j ((cget ps j).1 ||| 2 ^ i, (cget ps j).2 ++ [iget zs (i - 1)]) := by
            rw [hnx, if_pos hjb]; unfold pLast; rw [show ps.length - 1 = j by omega]
          have hsub : IntKind.i64.wrap ((ps.length : Int) - 1) = (j : Int) := by rw [hjl]; exact (IntWalk.i64_in _ (by omega)).trans (by omega)
          have hget := mixC_get hjp
          have hmlt := hps.lt _ (cget_mem hjp)
          have hllt := csum_le (cget_mem hjp)
          have hsum := hps.sum
          have h2i : 2 ^ i ≤ 2 ^ 5 := Nat.pow_le_pow_right (by decide) hi5
          have hset := mixC_set ps j ((cget ps j).1 ||| 2 ^ i) ((cget ps j).2 ++ [iget zs (i - 1)]) hjp
          have hml : (mixC ps).length = ps.length * 2 := hmx
          rw [hv]
          generalize (cget ps j).1 = m at *
          generalize (cget ps j).2 = labs at *
          have gz : (ivals zs)[i - 1]? = some (I6 (iget zs (i - 1))) := ivals_get (by omega)
          have hi1 : (i : Int) - 1 = ((i - 1 : Nat) : Int) := by omega
          have hi1L : i - 1 < L := by omega
          have hm6 : m < 1000000 := by omega
          have h2i6 : 2 ^ i < 1000000 := by omega
          have hv0 : (mixC ps)[j * 2 + 0]? = some (.v (I6 (m : Int))) := hget.1
          have hv1 : ((mixC ps).set (j * 2 + 0) (.v (I6 ((m ||| 2 ^ i : Nat) : Int))))[j * 2 + 1]? = some (.r 2 1 labs.length (ivals labs)) := by
            rw [List.getElem?_set_ne (by omega)]; exact hget.2
          have hvl : (ivals (labs ++ [iget zs (i - 1)])).length = (labs.length + 1) * 1 := by rw [ivals_len]; simp
          have hk1l : j * 2 + 1 < (((mixC ps).set (j * 2 + 0) (.v (I6 ((m ||| 2 ^ i : Nat) : Int)))).set (j * 2 + 1) .any).length := by rw [List.length_set, List.length_set]; omega
          have hfin : (((mixC ps).set (j * 2 + 0) (.v (I6 ((m ||| 2 ^ i : Nat) : Int)))).set (j * 2 + 1) .any).set (j * 2 + 1) (.r 2 1 (labs.length + 1) (ivals (labs ++ [iget zs (i - 1)]))) = mixC (ps.set j (m ||| 2 ^ i, labs ++ [iget zs (i - 1)])) := by
            rw [List.set_set, ← hset]; simp
          have hix : ps.length * 2 ≤ (mixC ps).length := Nat.le_of_eq hmx.symm
          (refine goes_seq ?_; refine goes_region ?_; apply run_step rfl; (exact stp_move rfl rfl); apply run_step rfl; (exact stp_move rfl rfl); apply run_step rfl; (exact stp_len rfl rfl rfl (by as_aux_lemma => kernel_rfl)); apply run_step rfl; (first | exact stp_sub rfl rfl rfl hsub | exact stp_ixT (k := 2) (j := j) rfl rfl rfl rfl rfl (by as_aux_lemma => kernel_rfl) rfl hjp hix (by omega) rfl); apply run_step rfl; (first | exact stp_sub rfl rfl rfl hsub | exact stp_ixT (k := 2) (j := j) rfl rfl rfl rfl rfl (by as_aux_lemma => kernel_rfl) rfl hjp hix (by omega) rfl); apply run_step rfl; (exact stp_assign rfl rfl); refine run_nil ?_; refine fin_seq ?_; refine goes_seq ?_)
          apply goes_draw 7 [] [[], [0], [0, 1], [0, 1, 2], [], [4], [0, 1, 2, 3, 4, 5], [0, 1, 2, 3, 4, 5, 6], [0, 1, 2, 3, 4, 5, 6, 7], [0, 1, 2, 3, 4, 5, 6, 7, 8]] [26, 27, 28, 29, 30, 31, 32] [] (by kernel_rfl) (by kernel_rfl)
          · (apply draw_put rfl; (intro S1 hS; exact stp_move rfl (hS.op rfl)); apply draw_put rfl; (intro S1 hS; exact stp_nilCheck rfl (hS.op rfl) (hS.ch _ _ rfl)); apply draw_put rfl; (intro S1 hS; exact stp_fieldAddr (d := 0) rfl (hS.op rfl) (hS.ch _ _ rfl) (by as_aux_lemma => kernel_rfl)); (first | (apply draw_put rfl; (focus (intro S1 hS; exact stp_loadM rfl (by as_aux_lemma => kernel_rfl) (hS.op rfl) (hS.ch _ _ rfl) rfl hv0))) | (apply draw_put rfl; (focus (intro S1 hS; exact stp_shl1 (g := i) rfl (hS.op rfl) (hS.op rfl) hi5))) | (apply draw_put rfl; (focus (intro S1 hS; exact stp_orN rfl (hS.op rfl) (hS.op rfl) hm6 h2i6)))); apply draw_put rfl; (intro S1 hS; exact stp_move rfl (hS.op rfl)); (first | (apply draw_put rfl; (focus (intro S1 hS; exact stp_loadM rfl (by as_aux_lemma => kernel_rfl) (hS.op rfl) (hS.ch _ _ rfl) rfl hv0))) | (apply draw_put rfl; (focus (intro S1 hS; exact stp_shl1 (g := i) rfl (hS.op rfl) (hS.op rfl) hi5))) | (apply draw_put rfl; (focus (intro S1 hS; exact stp_orN rfl (hS.op rfl) (hS.op rfl) hm6 h2i6)))); (first | (apply draw_put rfl; (focus (intro S1 hS; exact stp_loadM rfl (by as_aux_lemma => kernel_rfl) (hS.op rfl) (hS.ch _ _ rfl) rfl hv0))) | (apply draw_put rfl; (focus (intro S1 hS; exact stp_shl1 (g := i) rfl (hS.op rfl) (hS.op rfl) hi5))) | (apply draw_put rfl; (focus (intro S1 hS; exact stp_orN rfl (hS.op rfl) (hS.op rfl) hm6 h2i6)))); exact Draw.nil)
          · rfl
          ((apply rest_one 7 rfl (by as_aux_lemma => kernel_rfl) rfl rfl; (exact stp_nilCheck rfl rfl rfl)); (apply rest_one 8 rfl (by as_aux_lemma => kernel_rfl) rfl rfl; (exact stp_fieldAddr (d := 0) rfl rfl rfl (by as_aux_lemma => kernel_rfl))); (apply rest_one 9 rfl (by as_aux_lemma => kernel_rfl) rfl rfl; (exact stp_storeM rfl rfl rfl rfl rfl hv0 (by as_aux_lemma => kernel_rfl) rfl)); (refine rest_done (by as_aux_lemma => kernel_rfl) ?_; skip))
          (refine fin_seq ?_)
          apply goes_drawF 11 [] 0 [[], [], [1], [1, 2], [1, 2, 3], [], [], [6], [5, 6, 7], [5, 6, 7, 8], [5, 6, 7, 8, 9], [1, 2, 3, 4, 5, 6, 7, 8, 9, 10], [0, 1, 2, 3, 4, 5, 6, 7, 8, 9, 10, 11], [0, 1, 2, 3, 4, 5, 6, 7, 8, 9, 10, 11, 12], [0, 1, 2, 3, 4, 5, 6, 7, 8, 9, 10, 11, 12, 13]] [35, 36, 37, 38, 39, 40, 41, 42, 43, 44, 45] [45] (by kernel_rfl) (by kernel_rfl) rfl
          · (apply draw_put rfl; (intro S1 hS; exact stp_move rfl (hS.op rfl)); apply draw_put rfl; (intro S1 hS; exact stp_move rfl (hS.op rfl)); apply draw_put rfl; (intro S1 hS; exact stp_nilCheck rfl (hS.op rfl) (hS.ch _ _ rfl)); apply draw_put rfl; (intro S1 hS; exact stp_fieldAddr (d := 1) rfl (hS.op rfl) (hS.ch _ _ rfl) (by as_aux_lemma => kernel_rfl)); (first | (apply draw_put rfl; (focus (intro S1 hS; exact stp_loadMR rfl (by as_aux_lemma => kernel_rfl) (hS.op rfl) (hS.ch _ _ rfl) rfl hv1))) | (apply draw_put rfl; (focus (intro S1 hS; exact stp_sub rfl (hS.op rfl) (hS.op rfl) (IntWalk.i64_in _ (by omega))))) | (apply draw_put rfl; (focus (intro S1 hS; exact stp_ix (j := i - 1) rfl (hS.op rfl) (hS.op rfl) (hS.ch _ _ rfl) rfl (by as_aux_lemma => kernel_rfl) hi1 hi1L hil))) | (apply draw_put rfl; (focus (intro S1 hS; exact stp_loadV rfl (by as_aux_lemma => kernel_rfl) (hS.op rfl) (hS.ch _ _ rfl) rfl gz)))); apply draw_put rfl; (intro S1 hS; exact stp_move rfl (hS.op rfl)); apply draw_put rfl; (intro S1 hS; exact stp_move rfl (hS.op rfl)); (first | (apply draw_put rfl; (focus (intro S1 hS; exact stp_loadMR rfl (by as_aux_lemma => kernel_rfl) (hS.op rfl) (hS.ch _ _ rfl) rfl hv1))) | (apply draw_put rfl; (focus (intro S1 hS; exact stp_sub rfl (hS.op rfl) (hS.op rfl) (IntWalk.i64_in _ (by omega))))) | (apply draw_put rfl; (focus (intro S1 hS; exact stp_ix (j := i - 1) rfl (hS.op rfl) (hS.op rfl) (hS.ch _ _ rfl) rfl (by as_aux_lemma => kernel_rfl) hi1 hi1L hil))) | (apply draw_put rfl; (focus (intro S1 hS; exact stp_loadV rfl (by as_aux_lemma => kernel_rfl) (hS.op rfl) (hS.ch _ _ rfl) rfl gz)))); (first | (apply draw_put rfl; (focus (intro S1 hS; exact stp_loadMR rfl (by as_aux_lemma => kernel_rfl) (hS.op rfl) (hS.ch _ _ rfl) rfl hv1))) | (apply draw_put rfl; (focus (intro S1 hS; exact stp_sub rfl (hS.op rfl) (hS.op rfl) (IntWalk.i64_in _ (by omega))))) | (apply draw_put rfl; (focus (intro S1 hS; exact stp_ix (j := i - 1) rfl (hS.op rfl) (hS.op rfl) (hS.ch _ _ rfl) rfl (by as_aux_lemma => kernel_rfl) hi1 hi1L hil))) | (apply draw_put rfl; (focus (intro S1 hS; exact stp_loadV rfl (by as_aux_lemma => kernel_rfl) (hS.op rfl) (hS.ch _ _ rfl) rfl gz)))); (first | (apply draw_put rfl; (focus (intro S1 hS; exact stp_loadMR rfl (by as_aux_lemma => kernel_rfl) (hS.op rfl) (hS.ch _ _ rfl) rfl hv1))) | (apply draw_put rfl; (focus (intro S1 hS; exact stp_sub rfl (hS.op rfl) (hS.op rfl) (IntWalk.i64_in _ (by omega))))) | (apply draw_put rfl; (focus (intro S1 hS; exact stp_ix (j := i - 1) rfl (hS.op rfl) (hS.op rfl) (hS.ch _ _ rfl) rfl (by as_aux_lemma => kernel_rfl) hi1 hi1L hil))) | (apply draw_put rfl; (focus (intro S1 hS; exact stp_loadV rfl (by as_aux_lemma => kernel_rfl) (hS.op rfl) (hS.ch _ _ rfl) rfl gz)))); apply draw_new rfl; (intro S1 hS; exact stp_lit1I (E := 2) rfl (by as_aux_lemma => kernel_rfl) (hS.op rfl)); exact Draw.nil)
          · rfl
          · refine rest_join (St.of [(0, o1 (.sl 1003 0 L)), (1, vv (I6 mask)), (5, o1 (.sl 2000 0 ps.length)), (7, vv (I6 i)), (11, vv (I6 (L + 1 : Nat))), (12, vv (I6 i))] [(1003, wRo zs), (2000, cpOw (ps.set j (m ||| 2 ^ i, labs ++ [iget zs (i - 1)])))]) ?_ ?_
            · ((apply rest_one 11 rfl (by as_aux_lemma => kernel_rfl) rfl rfl; ((first | exact Stp.pre (wk_takeMx (n := 2000) (z := 46) (s := 39) rfl rfl hv1 rfl) (stp_appI rfl (by as_aux_lemma => kernel_rfl) rfl rfl rfl rfl rfl rfl (by omega)) | exact stp_storeMx rfl rfl rfl rfl hvl rfl hk1l (by as_aux_lemma => kernel_rfl)))); (apply rest_one 12 rfl (by as_aux_lemma => kernel_rfl) rfl rfl; (exact stp_nilCheck rfl rfl rfl)); (apply rest_one 13 rfl (by as_aux_lemma => kernel_rfl) rfl rfl; (exact stp_fieldAddr (d := 1) rfl rfl rfl (by as_aux_lemma => kernel_rfl))); (apply rest_one 14 rfl (by as_aux_lemma => kernel_rfl) rfl rfl; ((first | exact Stp.pre (wk_takeMx (n := 2000) (z := 46) (s := 39) rfl rfl hv1 rfl) (stp_appI rfl (by as_aux_lemma => kernel_rfl) rfl rfl rfl rfl rfl rfl (by omega)) | exact stp_storeMx rfl rfl rfl rfl hvl rfl hk1l (by as_aux_lemma => kernel_rfl)))); (refine rest_done (by as_aux_lemma => kernel_rfl) ?_; exact fin_join (Wk.of ⟨rfl, rfl, rfl, rfl, rfl, rfl, trivial⟩ ⟨rfl, congrArg (fun l => some (⟨true, 67, 2, .mix l⟩ : Ch)) hfin, trivial⟩ trivial)))
            · (skip)
              exact fin_join (Wk.of ⟨rfl, rfl, congrArg (fun n => some (o1 (.sl 2000 0 n))) (List.length_set ..).symm, rfl, rfl, rfl, trivial⟩ ⟨rfl, rfl, trivial⟩ trivial)
          · refine rest_join (St.of [(0, o1 (.sl 1003 0 L)), (1, vv (I6 mask)), (5, o1 (.sl 2000 0 ps.length)), (7, vv (I6 i)), (11, vv (I6 (L + 1 : Nat))), (12, vv (I6 i))] [(1003, wRo zs), (2000, cpOw (ps.set j (m ||| 2 ^ i, labs ++ [iget zs (i - 1)])))]) ?_ ?_
            · ((apply rest_two 0 11 rfl (by as_aux_lemma => kernel_rfl) rfl rfl rfl rfl; (exact stp_move rfl rfl); ((first | exact Stp.pre (wk_takeMx (n := 2000) (z := 46) (s := 39) rfl rfl hv1 rfl) (stp_appI rfl (by as_aux_lemma => kernel_rfl) rfl rfl rfl rfl rfl rfl (by omega)) | exact stp_storeMx rfl rfl rfl rfl hvl rfl hk1l (by as_aux_lemma => kernel_rfl))); (focus ((apply rest_one 11 rfl (by as_aux_lemma => kernel_rfl) rfl rfl; ((first | exact Stp.pre (wk_takeMx (n := 2000) (z := 46) (s := 39) rfl rfl hv1 rfl) (stp_appI rfl (by as_aux_lemma => kernel_rfl) rfl rfl rfl rfl rfl rfl (by omega)) | exact stp_storeMx rfl rfl rfl rfl hvl rfl hk1l (by as_aux_lemma => kernel_rfl)))); (apply rest_one 12 rfl (by as_aux_lemma => kernel_rfl) rfl rfl; (exact stp_nilCheck rfl rfl rfl)); (apply rest_one 13 rfl (by as_aux_lemma => kernel_rfl) rfl rfl; (exact stp_fieldAddr (d := 1) rfl rfl rfl (by as_aux_lemma => kernel_rfl))); (apply rest_one 14 rfl (by as_aux_lemma => kernel_rfl) rfl rfl; ((first | exact Stp.pre (wk_takeMx (n := 2000) (z := 46) (s := 39) rfl rfl hv1 rfl) (stp_appI rfl (by as_aux_lemma => kernel_rfl) rfl rfl rfl rfl rfl rfl (by omega)) | exact stp_storeMx rfl rfl rfl rfl hvl rfl hk1l (by as_aux_lemma => kernel_rfl)))); (refine rest_done (by as_aux_lemma => kernel_rfl) ?_; exact fin_join (Wk.of ⟨rfl, rfl, rfl, rfl, rfl, rfl, trivial⟩ ⟨rfl, congrArg (fun l => some (⟨true, 67, 2, .mix l⟩ : Ch)) hfin, trivial⟩ trivial)))); (focus ((apply rest_one 0 rfl (by as_aux_lemma => kernel_rfl) rfl rfl; (exact stp_move rfl rfl)); (apply rest_one 12 rfl (by as_aux_lemma => kernel_rfl) rfl rfl; (exact stp_nilCheck rfl rfl rfl)); (apply rest_one 13 rfl (by as_aux_lemma => kernel_rfl) rfl rfl; (exact stp_fieldAddr (d := 1) rfl rfl rfl (by as_aux_lemma => kernel_rfl))); (apply rest_one 14 rfl (by as_aux_lemma => kernel_rfl) rfl rfl; ((first | exact Stp.pre (wk_takeMx (n := 2000) (z := 46) (s := 39) rfl rfl hv1 rfl) (stp_appI rfl (by as_aux_lemma => kernel_rfl) rfl rfl rfl rfl rfl rfl (by omega)) | exact stp_storeMx rfl rfl rfl rfl hvl rfl hk1l (by as_aux_lemma => kernel_rfl)))); (refine rest_done (by as_aux_lemma => kernel_rfl) ?_; exact fin_join (Wk.of ⟨rfl, rfl, rfl, rfl, rfl, rfl, trivial⟩ ⟨rfl, congrArg (fun l => some (⟨true, 67, 2, .mix l⟩ : Ch)) hfin, trivial⟩ trivial))))))
            · (skip)
              exact fin_join (Wk.of ⟨rfl, rfl, congrArg (fun n => some (o1 (.sl 2000 0 n))) (List.length_set ..).symm, rfl, rfl, rfl, trivial⟩ ⟨rfl, rfl, trivial⟩ trivial)
        · have hv : pTo zs mask (i + 1) = ps ++ [(2 ^ i, [])] := by rw [hnx, if_neg (by rw [hjb]; simp)]
          rw [hv]
          have hcel : ∀ (j : Nat) (c : Cel) (u : Value), [Cel.v (I6 ((2 ^ i : Nat) : Int)), Cel.r 2 1 0 []][j]? = some c → [I6 ((2 ^ i : Nat) : Int), Value.slice none 0 0][j]? = some u → celNew c u := by
            intro j c u h1 h2
            match j, h1, h2 with
            | 0, h1, h2 => simp at h1 h2; subst h1 h2; rfl
            | 1, h1, h2 => simp at h1 h2; subst h1 h2; exact ⟨rfl, rfl, rfl⟩
          have h1c : ∀ v ∈ [I6 ((2 ^ i : Nat) : Int), Value.slice none 0 0], v.oneCell' = true := by
            intro v hv
            rcases List.mem_cons.1 hv with rfl | hv
            · rfl
            · obtain rfl : v = .slice none 0 0 := by simpa using hv
              rfl
          (refine goes_region ?_; apply run_step rfl; (exact stp_move rfl rfl); apply run_step rfl; (exact stp_move rfl rfl); apply run_step rfl; (first | exact stp_shl1 (g := i) rfl rfl rfl hi5 | exact stp_build1V (vs := [I6 ((2 ^ i : Nat) : Int), .slice none 0 0]) rfl rfl rfl | exact stp_lit2V (E := 67) rfl (by as_aux_lemma => kernel_rfl) rfl | exact stp_appendMx (cn := [Cel.v (I6 ((2 ^ i : Nat) : Int)), Cel.r 2 1 0 []]) (news := [I6 ((2 ^ i : Nat) : Int), .slice none 0 0]) (k := 2) (m := 1) rfl (by as_aux_lemma => kernel_rfl) rfl rfl rfl hmx rfl (reads_vals (k := 2) (vs := [I6 ((2 ^ i : Nat) : Int), .slice none 0 0]) rfl rfl rfl rfl (Nat.le_refl _)) (by omega) h1c rfl hcel (by omega)); apply run_step rfl; (first | exact stp_shl1 (g := i) rfl rfl rfl hi5 | exact stp_build1V (vs := [I6 ((2 ^ i : Nat) : Int), .slice none 0 0]) rfl rfl rfl | exact stp_lit2V (E := 67) rfl (by as_aux_lemma => kernel_rfl) rfl | exact stp_appendMx (cn := [Cel.v (I6 ((2 ^ i : Nat) : Int)), Cel.r 2 1 0 []]) (news := [I6 ((2 ^ i : Nat) : Int), .slice none 0 0]) (k := 2) (m := 1) rfl (by as_aux_lemma => kernel_rfl) rfl rfl rfl hmx rfl (reads_vals (k := 2) (vs := [I6 ((2 ^ i : Nat) : Int), .slice none 0 0]) rfl rfl rfl rfl (Nat.le_refl _)) (by omega) h1c rfl hcel (by omega)); apply run_step rfl; (first | exact stp_shl1 (g := i) rfl rfl rfl hi5 | exact stp_build1V (vs := [I6 ((2 ^ i : Nat) : Int), .slice none 0 0]) rfl rfl rfl | exact stp_lit2V (E := 67) rfl (by as_aux_lemma => kernel_rfl) rfl | exact stp_appendMx (cn := [Cel.v (I6 ((2 ^ i : Nat) : Int)), Cel.r 2 1 0 []]) (news := [I6 ((2 ^ i : Nat) : Int), .slice none 0 0]) (k := 2) (m := 1) rfl (by as_aux_lemma => kernel_rfl) rfl rfl rfl hmx rfl (reads_vals (k := 2) (vs := [I6 ((2 ^ i : Nat) : Int), .slice none 0 0]) rfl rfl rfl rfl (Nat.le_refl _)) (by omega) h1c rfl hcel (by omega)); apply run_step rfl; (first | exact stp_shl1 (g := i) rfl rfl rfl hi5 | exact stp_build1V (vs := [I6 ((2 ^ i : Nat) : Int), .slice none 0 0]) rfl rfl rfl | exact stp_lit2V (E := 67) rfl (by as_aux_lemma => kernel_rfl) rfl | exact stp_appendMx (cn := [Cel.v (I6 ((2 ^ i : Nat) : Int)), Cel.r 2 1 0 []]) (news := [I6 ((2 ^ i : Nat) : Int), .slice none 0 0]) (k := 2) (m := 1) rfl (by as_aux_lemma => kernel_rfl) rfl rfl rfl hmx rfl (reads_vals (k := 2) (vs := [I6 ((2 ^ i : Nat) : Int), .slice none 0 0]) rfl rfl rfl rfl (Nat.le_refl _)) (by omega) h1c rfl hcel (by omega)); apply run_step rfl; (exact stp_assign rfl rfl); refine run_nil ?_)
          exact fin_join (Wk.of ⟨rfl, rfl, congrArg (fun n => some (o1 (.sl 2000 0 n))) (by simp), rfl, rfl, rfl, trivial⟩ ⟨rfl, congrArg (fun l => some (⟨true, 67, 2, .mix l⟩ : Ch)) (mixC_app ps [(2 ^ i, [])]).symm, trivial⟩ trivial)
      · (refine fin_seq ?_; refine goes_region ?_; apply run_step rfl; (exact stp_move rfl rfl); apply run_step rfl; (exact stp_move rfl rfl); apply run_step rfl; (apply call_gate 88; exact stp_callR hSz (by as_aux_lemma => kernel_rfl) rfl rfl ⟨rfl, trivial⟩ trivial rfl rfl); apply run_step rfl; (exact stp_bin rfl rfl rfl rfl); apply run_step rfl; (exact stp_move rfl rfl))
        refine run_bool 59 rfl (fun h1 => ?_) (fun h1 => ?_)
        · have h1' : i < L := by have := of_decide_eq_true h1; omega
          have gi : (ivals zs)[i]? = some (I6 (iget zs i)) := ivals_get (by omega)
          (apply run_gYes rfl rfl rfl; (exact stp_move rfl rfl); apply run_gYes rfl rfl rfl; (exact stp_move rfl rfl); apply run_gYes rfl rfl rfl; (exact stp_ix (j := i) rfl rfl rfl rfl rfl (by as_aux_lemma => kernel_rfl) rfl h1' hil); apply run_gYes rfl rfl rfl; (exact stp_loadV rfl (by as_aux_lemma => kernel_rfl) rfl rfl rfl (by first | assumption | exact ivals_get (by assumption) | exact irows_get (by assumption) | exact ivals_get (by omega) | exact irows_get (by omega) | rfl)); apply run_gYes rfl rfl rfl; (exact stp_bin rfl rfl rfl rfl); apply run_step rfl; (exact stp_pickT rfl rfl rfl); apply run_step rfl; (exact stp_assign rfl rfl); refine run_nil ?_; refine fin_block ?_; refine fin_seq ?_; refine goes_region ?_; apply run_step rfl; (exact stp_add rfl rfl rfl (by first | exact IntWalk.i64_in _ (by omega) | rfl)); apply run_step rfl; (exact stp_move rfl rfl); refine run_nil ?_)
          exact fin_round (i + 1, pTo zs mask (i + 1), iget zs i != 2) ⟨by omega, rfl, hjn _ hiL fun _ => rfl⟩ (by show L + 1 - (i + 1) < L + 1 - i; omega) (Wk.of ⟨rfl, rfl, rfl, rfl, rfl, rfl, trivial⟩ ⟨rfl, rfl, trivial⟩ trivial)
        · have h1' : ¬ i < L := by have := of_decide_eq_false h1; omega
          (apply run_gNo rfl rfl rfl rfl rfl; apply run_gNo rfl rfl rfl rfl rfl; apply run_gNo rfl rfl rfl rfl rfl; apply run_gNo rfl rfl rfl rfl rfl; apply run_gNo rfl rfl rfl rfl rfl; apply run_step rfl; (exact stp_pickF rfl rfl rfl); apply run_step rfl; (exact stp_assign rfl rfl); refine run_nil ?_; refine fin_block ?_; refine fin_seq ?_; refine goes_region ?_; apply run_step rfl; (exact stp_add rfl rfl rfl (by first | exact IntWalk.i64_in _ (by omega) | rfl)); apply run_step rfl; (exact stp_move rfl rfl); refine run_nil ?_)
          exact fin_round (i + 1, pTo zs mask (i + 1), false) ⟨by omega, rfl, fun h => absurd h (by omega)⟩ (by show L + 1 - (i + 1) < L + 1 - i; omega) (Wk.of ⟨rfl, rfl, rfl, rfl, rfl, rfl, trivial⟩ ⟨rfl, rfl, trivial⟩ trivial)
  · obtain rfl : i = L + 1 := by omega
    have hv : comps zs mask = ps := by unfold comps; rw [hL]; exact hp
    rw [hv]
    (refine goes_exit ?_; refine fin_exit_then ?_; refine fin_exit_then ?_; refine fin_exit_eq ?_; refine fin_seq ?_; refine goes_seq ?_; refine goes_region ?_; apply run_step rfl; (exact stp_move rfl rfl); apply run_step rfl; (exact stp_assign rfl rfl); refine run_nil ?_; refine fin_seq ?_; refine goes_ret ?_)
    exact fin_ret1 (.inl rfl) rfl (.tmp rfl) ⟨rfl, trivial⟩ trivial
end Go.Proofs.Ytlpeghdbjfnenaa
