/- Comparisons of lists, the greatest one of an ascending list, the greatest common divisor. -/
import Derived.Test.YtlpeghdbjfnenaaPart3
import Derived.Test.YtlpeghdbjfnenaaPart1
namespace Go.Proofs.Ytlpeghdbjfnenaa
open Go.RowKit

set_option maxHeartbeats 400000 in
theorem same_any (a b : Option Addr) (na nb ca cb : Nat) (za zb : List Int) (w : World) (ha : Ints w a na za) (hb : Ints w b nb zb) :
    Calls Try.prog 143 #[.slice a na ca, .slice b nb cb] w fun e w' => e = .returned (.bool (decide (za = zb))) ∧ ∃ m, w' = w.drewN m := by
  have hla := ha.2.1
  have hlb := hb.2.1
  by_cases hl : na = nb
  · subst hl
    have hl' : ((na : Int) != (na:Int)) = false := by simp
    go_enter Try.func143, Try.ntmps143
    go_wp2
    go_loopw [5] (fun i wr => ∃ k : Nat, k ≤ na ∧ i = .int .i64 k ∧ za.take k = zb.take k ∧ ∃ m, wr = w.drewN m) (fun i _ => na - (intOf i).toNat)
    case atStart => exact ⟨0, Nat.zero_le _, rfl, rfl, 0, rfl⟩
    case round =>
      obtain ⟨k, hk, rfl, hpre, m, rfl⟩ := hrel
      have HP := Lib.hid hpre
      clear hpre
      by_cases hlt : k < na
      · obtain ⟨ba, oa, rfl, hca⟩ := ha.at_ hlt
        obtain ⟨bb, ob, rfl, hcb⟩ := hb.at_ hlt
        have h1 := ha.1
        have h2 := hb.1
        have H1 := Lib.hid h1
        have H2 := Lib.hid h2
        clear h1 h2
        by_cases he : iget za k = iget zb k
        · have he' : (iget za k != iget zb k) = false := by simp [he]
          have HE := Lib.hid he
          clear he
          go_wp2_with fail
          go_quiet (fail)
          go_wp2
          go_roundw
          case rel => exact ⟨k + 1, by omega, by go_num, by rw [take_iget (by rw [H1.out]; omega), take_iget (by rw [H2.out]; omega), HP.out, HE.out], _, rfl⟩
          case measure => simp [intOf]; omega
        · have he' : (iget za k != iget zb k) = true := by simp [he]
          have HE := Lib.hid he
          clear he
          go_wp2_with fail
          go_quiet (fail)
          go_wp2
          go_ret
          exact ⟨ret_bool (by symm; rw [decide_eq_false_iff_not]; intro e; exact HE.out (by rw [e])), _, World.drewN_drewN _ _ _⟩
      · obtain rfl : k = na := by omega
        have h1 := ha.1
        have h2 := hb.1
        have hab : za = zb := by have := HP.out; rwa [List.take_of_length_le (by omega), List.take_of_length_le (by omega)] at this
        have HA := Lib.hid hab
        clear h1 h2 hab
        go_wp2
        go_ret
        exact ⟨ret_bool (by symm; simpa using HA.out), _, rfl⟩
  · have hl' : ((na : Int) != (nb:Int)) = true := by simp; omega
    go_enter Try.func143, Try.ntmps143
    go_wp2
    go_ret
    refine ⟨ret_bool ?_, 0, rfl⟩
    symm
    rw [decide_eq_false_iff_not]
    intro e
    exact hl (by rw [← ha.1, ← hb.1, e])

set_option maxHeartbeats 400000 in
theorem equal_any (a b : Option Addr) (na nb ca cb : Nat) (za zb : List Int) (w : World) (ha : Ints w a na za) (hb : Ints w b nb zb) :
    Calls Try.prog 109 #[.slice a na ca, .slice b nb cb] w fun e w' => e = .returned (.bool (decide (za = zb))) ∧ ∃ m, w' = w.drewN m := by
  have hla := ha.2.1
  have hlb := hb.2.1
  by_cases hl : na = nb
  · subst hl
    have hl' : ((na : Int) != (na:Int)) = false := by simp
    go_enter Try.func109, Try.ntmps109
    go_wp2
    go_loopw [13] (fun i wr => ∃ k : Nat, k ≤ na ∧ i = .int .i64 k ∧ za.take k = zb.take k ∧ ∃ m, wr = w.drewN m) (fun i _ => na - (intOf i).toNat)
    case atStart => exact ⟨0, Nat.zero_le _, rfl, rfl, 0, rfl⟩
    case round =>
      obtain ⟨k, hk, rfl, hpre, m, rfl⟩ := hrel
      have HP := Lib.hid hpre
      clear hpre
      by_cases hlt : k < na
      · obtain ⟨ba, oa, rfl, hca⟩ := ha.at_ hlt
        obtain ⟨bb, ob, rfl, hcb⟩ := hb.at_ hlt
        have h1 := ha.1
        have h2 := hb.1
        have H1 := Lib.hid h1
        have H2 := Lib.hid h2
        clear h1 h2
        by_cases he : iget za k = iget zb k
        · have he' : (iget za k != iget zb k) = false := by simp [he]
          have HE := Lib.hid he
          clear he
          go_wp2_with fail
          go_quiet (fail)
          go_wp2
          go_roundw
          case rel => exact ⟨k + 1, by omega, by go_num, by rw [take_iget (by rw [H1.out]; omega), take_iget (by rw [H2.out]; omega), HP.out, HE.out], _, rfl⟩
          case measure => simp [intOf]; omega
        · have he' : (iget za k != iget zb k) = true := by simp [he]
          have HE := Lib.hid he
          clear he
          go_wp2_with fail
          go_quiet (fail)
          go_wp2
          go_ret
          exact ⟨ret_bool (by symm; rw [decide_eq_false_iff_not]; intro e; exact HE.out (by rw [e])), _, World.drewN_drewN _ _ _⟩
      · obtain rfl : k = na := by omega
        have h1 := ha.1
        have h2 := hb.1
        have hab : za = zb := by have := HP.out; rwa [List.take_of_length_le (by omega), List.take_of_length_le (by omega)] at this
        have HA := Lib.hid hab
        clear h1 h2 hab
        go_wp2
        go_ret
        exact ⟨ret_bool (by symm; simpa using HA.out), _, rfl⟩
  · have hl' : ((na : Int) != (nb:Int)) = true := by simp; omega
    go_enter Try.func109, Try.ntmps109
    go_wp2
    go_ret
    refine ⟨ret_bool ?_, 0, rfl⟩
    symm
    rw [decide_eq_false_iff_not]
    intro e
    exact hl (by rw [← ha.1, ← hb.1, e])


theorem us_two {us : List Value} {u0 u1 : Value} (hl : us.length = 2) (g0 : us[0]? = some u0) (g1 : us[1]? = some u1) : us = [u0, u1] := by
  match us, hl with
  | [p, q], _ => simp at g0 g1; rw [g0, g1]
theorem us_one {us : List Value} {u0 : Value} (hl : us.length = 1) (g0 : us[0]? = some u0) : us = [u0] := by
  match us, hl with
  | [p], _ => simp at g0; rw [g0]
theorem eqB (a b : List Int) : decide (a = b) = (a == b) := by
  by_cases h : a = b
  · subst h; simp
  · rw [decide_eq_false h]; symm; simpa using h
/-- slices.Equal of the labels of a component and of a list -/
theorem equalM_fc (cs : List Cel) (i m n E kk : Nat) (labs list : List Int) (hi : cs[i]? = some (.r 2 1 m (ivals labs))) (hm : labs.length = m) (hn : list.length = n) (hm4 : m ≤ 1000000) (hn4 : n ≤ 1000000) :
    FC Try.prog 109 [(1000, ⟨false, E, kk, .mix cs⟩), (1001, wRo list)] [o1 (.esl 1000 i 0 m), o1 (.sl 1001 0 n)] [] (vv (.bool (labs == list))) [] :=
  fc_of_calls fun w η ω us hme ⟨hl, ha⟩ => by
    subst hm hn
    obtain ⟨u0, g0, d0⟩ := ha 0 _ rfl
    obtain ⟨u1, g1, d1⟩ := ha 1 _ rfl
    obtain ⟨ao, c, rfl, h0⟩ := rdRowM (x := 1000) hme rfl hi d0 (by omega)
    obtain ⟨ao', c', rfl, h1⟩ := rdS (x := 1001) hme rfl d1 (by omega)
    rw [us_two hl g0 g1]
    refine (equal_any ao ao' _ _ c c' labs list w h0 h1).mono ?_
    rintro e w' ⟨rfl, hq⟩
    exact ⟨ret_bool (eqB _ _), below_of_quiet hq⟩
/-- l01Same of a row and of a list -/
theorem sameR_fc (zss : List (List Int)) (i n E : Nat) (list : List Int) (hi : i < zss.length) (hn : list.length = n) (hm4 : (lget zss i).length ≤ 1000000) (hn4 : n ≤ 1000000) :
    FC Try.prog 143 [(1000, rowsRo zss), (1001, wRo list)] [o1 (.esl 1000 i 0 (lget zss i).length), o1 (.sl 1001 0 n)] [] (vv (.bool (lget zss i == list))) [] :=
  fc_of_calls fun w η ω us hme ⟨hl, ha⟩ => by
    subst hn
    obtain ⟨u0, g0, d0⟩ := ha 0 _ rfl
    obtain ⟨u1, g1, d1⟩ := ha 1 _ rfl
    obtain ⟨ao, c, rfl, h0⟩ := rdRow (x := 1000) hme rfl hi d0 (by omega)
    obtain ⟨ao', c', rfl, h1⟩ := rdS (x := 1001) hme rfl d1 (by omega)
    rw [us_two hl g0 g1]
    refine (same_any ao ao' _ _ c c' _ list w h0 h1).mono ?_
    rintro e w' ⟨rfl, hq⟩
    exact ⟨ret_bool (eqB _ _), below_of_quiet hq⟩
theorem sameS_fc (zs list : List Int) (m n : Nat) (hm : zs.length = m) (hn : list.length = n) (hm4 : m ≤ 1000000) (hn4 : n ≤ 1000000) :
    FC Try.prog 143 [(1000, wRo zs), (1001, wRo list)] [o1 (.sl 1000 0 m), o1 (.sl 1001 0 n)] [] (vv (.bool (zs == list))) [] :=
  fc_of_calls fun w η ω us hme ⟨hl, ha⟩ => by
    subst hm hn
    obtain ⟨u0, g0, d0⟩ := ha 0 _ rfl
    obtain ⟨u1, g1, d1⟩ := ha 1 _ rfl
    obtain ⟨ao, c, rfl, h0⟩ := rdS (x := 1000) hme rfl d0 (by omega)
    obtain ⟨ao', c', rfl, h1⟩ := rdS (x := 1001) hme rfl d1 (by omega)
    rw [us_two hl g0 g1]
    refine (same_any ao ao' _ _ c c' _ list w h0 h1).mono ?_
    rintro e w' ⟨rfl, hq⟩
    exact ⟨ret_bool (eqB _ _), below_of_quiet hq⟩
/-- slices.Clone of a list -/
theorem cloneS_fc (x y n : Nat) (zs : List Int) (hn : zs.length = n) (hl : n ≤ 1000000) :
    FC Try.prog 117 [(x, wRo zs)] [o1 (.sl x 0 n)] [(y, leOw zs)] (o1 (.sl y 0 n)) [] := by
  subst hn
  exact fc_of_own fun w η ω us hm ⟨hl', ha⟩ => by
    obtain ⟨u0, g0, d0⟩ := ha 0 _ rfl
    obtain ⟨ao, c, rfl, hr⟩ := rdS (x := x) (own := false) (E := 2) hm (by simp [lk]) d0 (by omega)
    rw [us_one hl' g0]
    refine (clone_any ao _ c _ w hr (by omega)).mono ?_
    rintro e w' ⟨ao', c', rfl, ho, hb⟩
    exact ⟨ao', c', rfl, ho, hb⟩
/-- l12Turned of a row -/
theorem turnedR_fc (y : Nat) (zss : List (List Int)) (i : Nat) (hi : i < zss.length) (hl : (lget zss i).length ≤ 1000000) :
    FC Try.prog 125 [(1000, rowsRo zss)] [o1 (.esl 1000 i 0 (lget zss i).length)] [(y, leOw (lget zss i).reverse)] (o1 (.sl y 0 (lget zss i).length)) [] := by
  have h := fc_of_own (P := Try.prog) (f := 125) (ins := [(1000, rowsRo zss)]) (args := [o1 (.esl 1000 i 0 (lget zss i).length)]) (x := y) (E := 2) (zs := (lget zss i).reverse) fun w η ω us hm ⟨hl', ha⟩ => by
    obtain ⟨u0, g0, d0⟩ := ha 0 _ rfl
    obtain ⟨ao, c, rfl, hr⟩ := rdRow (x := 1000) hm rfl hi d0 (by omega)
    rw [us_one hl' g0]
    refine (spec12Turned_any ao _ c _ w hr (by omega)).mono ?_
    rintro e w' ⟨ao', c', rfl, ho, hb⟩
    rw [List.length_reverse]
    exact ⟨ao', c', rfl, ho, hb⟩
  rw [List.length_reverse] at h
  exact h

set_option maxRecDepth 100000 in
theorem maxA_fc (zs : List Int) (n : Nat) (hn : zs.length = n) (hpos : 0 < n) (hn4 : n ≤ 1000000) (ha : ∀ i, i + 1 < n → iget zs i ≤ iget zs (i + 1)) :
    FC Try.prog 126 [(1005, leRo zs)] [o1 (.sl 1005 0 n)] [] (vv (I6 (iget zs (n - 1)))) [] := by
  refine fc_enter (nt := 25) Try.func126 rfl rfl (by simp) fun w0 ω0 => ?_
  have hil : n ≤ (ivals zs).length := by rw [ivals_len, hn]; exact Nat.le_refl _
  (refine goes_seq ?_; refine goes_region ?_; apply run_step rfl; (exact stp_assign rfl rfl); refine run_nil ?_; refine fin_seq ?_; refine goes_seq ?_; refine goes_seq ?_; refine goes_region ?_; apply run_step rfl; (exact stp_move rfl rfl); apply run_step rfl; (exact stp_len rfl rfl rfl (by as_aux_lemma => kernel_rfl)); apply run_step rfl; (exact stp_bin rfl rfl rfl rfl); refine run_nil ?_; refine fin_seq ?_)
  refine goes_if rfl (fun h => absurd hpos (by omega)) (fun h => ?_)
  have hg0 : (ivals zs)[0]? = some (I6 (iget zs 0)) := ivals_get (by omega)
  (refine goes_skip ?_; refine fin_seq ?_; refine goes_seq ?_; refine goes_region ?_; apply run_step rfl; (exact stp_move rfl rfl); apply run_step rfl; (exact stp_ix (j := 0) rfl rfl rfl rfl rfl (by as_aux_lemma => kernel_rfl) rfl hpos hil); apply run_step rfl; (exact stp_loadV rfl (by as_aux_lemma => kernel_rfl) rfl rfl rfl (by first | assumption | exact ivals_get (by assumption) | exact irows_get (by assumption) | exact ivals_get (by omega) | exact irows_get (by omega) | rfl)); apply run_step rfl; (exact stp_assign rfl rfl); refine run_nil ?_; refine fin_seq ?_; refine goes_seq ?_; refine goes_seq ?_; refine goes_region ?_; apply run_step rfl; (exact stp_assign rfl rfl); refine run_nil ?_; refine fin_seq ?_; refine goes_block ?_)
  refine goes_loop (fun i : Nat => St.of [(0, o1 (.sl 1005 0 n)), (3, vv (I6 (iget zs (i - 1)))), (4, vv (I6 i))] [(1005, leRo zs)]) (fun i => 1 ≤ i ∧ i ≤ n) (fun i => n - i) 1 ⟨Nat.le_refl _, hpos⟩ (Wk.of ⟨rfl, rfl, rfl, trivial⟩ ⟨rfl, trivial⟩ trivial) ?_
  rintro i ⟨hi1, hi2⟩
  (refine goes_seq ?_; refine goes_seq ?_; refine goes_region ?_; apply run_step rfl; (exact stp_move rfl rfl); apply run_step rfl; (exact stp_move rfl rfl); apply run_step rfl; (exact stp_len rfl rfl rfl (by as_aux_lemma => kernel_rfl)); apply run_step rfl; (exact stp_bin rfl rfl rfl rfl); refine run_nil ?_; refine fin_seq ?_)
  refine goes_if rfl (fun hlt => ?_) (fun hlt => ?_)
  · have hlt' : i < n := by omega
    have hgi : (ivals zs)[i]? = some (I6 (iget zs i)) := ivals_get (by omega)
    have hle : iget zs (i - 1) ≤ iget zs i := by
      have := ha (i - 1) (by omega)
      rwa [show i - 1 + 1 = i by omega] at this
    have hmx : (if iget zs i > iget zs (i - 1) then iget zs i else iget zs (i - 1)) = iget zs (i + 1 - 1) := by
      rw [Nat.add_sub_cancel]; split
      · rfl
      · omega
    (refine goes_skip ?_; refine fin_seq ?_; refine goes_seq ?_; refine goes_block ?_; refine goes_region ?_; apply run_step rfl; (exact stp_move rfl rfl); apply run_step rfl; (exact stp_move rfl rfl); apply run_step rfl; (exact stp_move rfl rfl); apply run_step rfl; (exact stp_ix (j := i) rfl rfl rfl rfl rfl (by as_aux_lemma => kernel_rfl) rfl hlt' hil); apply run_step rfl; (exact stp_loadV rfl (by as_aux_lemma => kernel_rfl) rfl rfl rfl (by first | assumption | exact ivals_get (by assumption) | exact irows_get (by assumption) | exact ivals_get (by omega) | exact irows_get (by omega) | rfl)); apply run_step rfl; (exact stp_max rfl rfl rfl); apply run_step rfl; (exact stp_assign rfl rfl); refine run_nil ?_; refine fin_block ?_; refine fin_seq ?_; refine goes_region ?_; apply run_step rfl; (exact stp_move rfl rfl); apply run_step rfl; (exact stp_add rfl rfl rfl (by first | exact IntWalk.i64_in _ (by omega) | rfl)); apply run_step rfl; (exact stp_assign rfl rfl); refine run_nil ?_)
    exact fin_round (i + 1) ⟨by omega, by omega⟩ (by omega) (Wk.of ⟨rfl, congrArg (fun z => some (vv (I6 z))) hmx, rfl, trivial⟩ ⟨rfl, trivial⟩ trivial)
  · obtain rfl : i = n := by omega
    (refine goes_exit ?_; refine fin_exit_then ?_; refine fin_exit_then ?_; refine fin_exit_eq ?_; refine fin_seq ?_; refine goes_seq ?_; refine goes_region ?_; apply run_step rfl; (exact stp_move rfl rfl); apply run_step rfl; (exact stp_assign rfl rfl); refine run_nil ?_; refine fin_seq ?_; refine goes_ret ?_)
    exact fin_ret1 (.inl rfl) rfl (.tmp rfl) trivial trivial

set_option maxRecDepth 100000 in
theorem gcd_fc (a b : Nat) (ha : a < 1000000000000) (hb : b < 1000000000000) : FC Try.prog 127 [] [vv (I6 a), vv (I6 b)] [] (vv (I6 (Nat.gcd a b))) [] := by
  refine fc_enter (nt := 12) Try.func127 rfl rfl (by simp) fun w0 ω0 => ?_
  (refine goes_seq ?_; refine goes_region ?_; apply run_step rfl; (exact stp_assign rfl rfl); refine run_nil ?_; refine fin_seq ?_; refine goes_seq ?_; refine goes_block ?_)
  refine goes_loop (fun q : Nat × Nat => St.of [(0, vv (I6 q.1)), (1, vv (I6 q.2))] []) (fun q => Nat.gcd q.1 q.2 = Nat.gcd a b ∧ q.1 < 1000000000000 ∧ q.2 < 1000000000000) (fun q => q.2) (a, b) ⟨rfl, ha, hb⟩ (Wk.of ⟨rfl, rfl, trivial⟩ trivial trivial) ?_
  rintro ⟨c, d⟩ ⟨hg, hc, hd⟩
  dsimp only at hg hc hd ⊢
  (refine goes_seq ?_; refine goes_seq ?_; refine goes_region ?_; apply run_step rfl; (exact stp_move rfl rfl); apply run_step rfl; (exact stp_bin rfl rfl rfl rfl); refine run_nil ?_; refine fin_seq ?_)
  refine goes_cond rfl (fun h => ?_) (fun h => ?_)
  · have hd0 : 0 < d := by
      have : (d : Int) ≠ 0 := by simpa using h
      omega
    have hlt := Nat.mod_lt c hd0
    have hg' : Nat.gcd d (c % d) = Nat.gcd a b := by rw [← hg, Nat.gcd_comm c d, Nat.gcd_rec d c, Nat.gcd_comm]
    (refine goes_skip ?_; refine fin_seq ?_; refine goes_block ?_)
    apply goes_drawL 4 [] [2, 3] [[], [], [], [1, 2], [0, 1], [0, 1, 2, 3, 4]] [7, 8, 9, 10] [] (by kernel_rfl) (by kernel_rfl) (by kernel_rfl)
    · (apply draw_put rfl; (intro S1 hS; exact stp_move rfl (hS.op rfl)); apply draw_put rfl; (intro S1 hS; exact stp_move rfl (hS.op rfl)); apply draw_put rfl; (intro S1 hS; exact stp_move rfl (hS.op rfl)); (apply draw_put rfl; (focus (intro S1 hS; exact stp_remN rfl (hS.op rfl) (hS.op rfl) hd0 hc))); exact Draw.nil)
    · rfl
    refine ⟨⟨?_, ?_⟩, ?_, ?_⟩
    · refine rest_join (St.of [(0, vv (I6 d)), (1, vv (I6 (c % d : Nat)))] []) ?_ ?_
      · ((apply rest_one 4 rfl (by as_aux_lemma => kernel_rfl) rfl rfl; (exact stp_assign rfl rfl)); (apply rest_one 5 rfl (by as_aux_lemma => kernel_rfl) rfl rfl; (exact stp_assign rfl rfl)); (refine rest_done (by as_aux_lemma => kernel_rfl) ?_; exact fin_join (Wk.of ⟨rfl, rfl, trivial⟩ trivial trivial)))
      · (refine fin_block ?_)
        exact fin_round (d, c % d) ⟨hg', hd, by dsimp only; omega⟩ hlt (Wk.of ⟨rfl, rfl, trivial⟩ trivial trivial)
    · refine rest_join (St.of [(0, vv (I6 d)), (1, vv (I6 (c % d : Nat)))] []) ?_ ?_
      · ((apply rest_two 3 4 rfl (by as_aux_lemma => kernel_rfl) rfl rfl rfl rfl; (exact stp_remN rfl rfl rfl hd0 hc); (exact stp_assign rfl rfl); (focus ((apply rest_one 4 rfl (by as_aux_lemma => kernel_rfl) rfl rfl; (exact stp_assign rfl rfl)); (apply rest_one 5 rfl (by as_aux_lemma => kernel_rfl) rfl rfl; (exact stp_assign rfl rfl)); (refine rest_done (by as_aux_lemma => kernel_rfl) ?_; exact fin_join (Wk.of ⟨rfl, rfl, trivial⟩ trivial trivial)))); (focus ((apply rest_one 3 rfl (by as_aux_lemma => kernel_rfl) rfl rfl; (exact stp_remN rfl rfl rfl hd0 hc)); (apply rest_one 5 rfl (by as_aux_lemma => kernel_rfl) rfl rfl; (exact stp_assign rfl rfl)); (refine rest_done (by as_aux_lemma => kernel_rfl) ?_; exact fin_join (Wk.of ⟨rfl, rfl, trivial⟩ trivial trivial))))))
      · (refine fin_block ?_)
        exact fin_round (d, c % d) ⟨hg', hd, by dsimp only; omega⟩ hlt (Wk.of ⟨rfl, rfl, trivial⟩ trivial trivial)
    · refine rest_join (St.of [(0, vv (I6 d)), (1, vv (I6 (c % d : Nat)))] []) ?_ ?_
      · ((apply rest_two 2 4 rfl (by as_aux_lemma => kernel_rfl) rfl rfl rfl rfl; (exact stp_move rfl rfl); (exact stp_assign rfl rfl); (focus ((apply rest_one 4 rfl (by as_aux_lemma => kernel_rfl) rfl rfl; (exact stp_assign rfl rfl)); (apply rest_one 5 rfl (by as_aux_lemma => kernel_rfl) rfl rfl; (exact stp_assign rfl rfl)); (refine rest_done (by as_aux_lemma => kernel_rfl) ?_; exact fin_join (Wk.of ⟨rfl, rfl, trivial⟩ trivial trivial)))); (focus ((apply rest_one 2 rfl (by as_aux_lemma => kernel_rfl) rfl rfl; (exact stp_move rfl rfl)); (apply rest_one 5 rfl (by as_aux_lemma => kernel_rfl) rfl rfl; (exact stp_assign rfl rfl)); (refine rest_done (by as_aux_lemma => kernel_rfl) ?_; exact fin_join (Wk.of ⟨rfl, rfl, trivial⟩ trivial trivial))))))
      · (refine fin_block ?_)
        exact fin_round (d, c % d) ⟨hg', hd, by dsimp only; omega⟩ hlt (Wk.of ⟨rfl, rfl, trivial⟩ trivial trivial)
    · refine rest_join (St.of [(0, vv (I6 d)), (1, vv (I6 (c % d : Nat)))] []) ?_ ?_
      · ((apply rest_two 2 4 rfl (by as_aux_lemma => kernel_rfl) rfl rfl rfl rfl; (exact stp_move rfl rfl); (exact stp_assign rfl rfl); (focus ((apply rest_two 3 4 rfl (by as_aux_lemma => kernel_rfl) rfl rfl rfl rfl; (exact stp_remN rfl rfl rfl hd0 hc); (exact stp_assign rfl rfl); (focus ((apply rest_one 4 rfl (by as_aux_lemma => kernel_rfl) rfl rfl; (exact stp_assign rfl rfl)); (apply rest_one 5 rfl (by as_aux_lemma => kernel_rfl) rfl rfl; (exact stp_assign rfl rfl)); (refine rest_done (by as_aux_lemma => kernel_rfl) ?_; exact fin_join (Wk.of ⟨rfl, rfl, trivial⟩ trivial trivial)))); (focus ((apply rest_one 3 rfl (by as_aux_lemma => kernel_rfl) rfl rfl; (exact stp_remN rfl rfl rfl hd0 hc)); (apply rest_one 5 rfl (by as_aux_lemma => kernel_rfl) rfl rfl; (exact stp_assign rfl rfl)); (refine rest_done (by as_aux_lemma => kernel_rfl) ?_; exact fin_join (Wk.of ⟨rfl, rfl, trivial⟩ trivial trivial))))))); (focus ((apply rest_one 2 rfl (by as_aux_lemma => kernel_rfl) rfl rfl; (exact stp_move rfl rfl)); (apply rest_one 3 rfl (by as_aux_lemma => kernel_rfl) rfl rfl; (exact stp_remN rfl rfl rfl hd0 hc)); (apply rest_one 5 rfl (by as_aux_lemma => kernel_rfl) rfl rfl; (exact stp_assign rfl rfl)); (refine rest_done (by as_aux_lemma => kernel_rfl) ?_; exact fin_join (Wk.of ⟨rfl, rfl, trivial⟩ trivial trivial))))))
      · (refine fin_block ?_)
        exact fin_round (d, c % d) ⟨hg', hd, by dsimp only; omega⟩ hlt (Wk.of ⟨rfl, rfl, trivial⟩ trivial trivial)
  · have hd0 : d = 0 := by
      have : (d : Int) = 0 := by simpa using h
      omega
    subst hd0
    rw [← hg, Nat.gcd_zero_right]
    (refine goes_exit ?_; refine fin_exit_then ?_; refine fin_exit_then ?_; refine fin_exit_eq ?_; refine fin_seq ?_; refine goes_seq ?_; refine goes_region ?_; apply run_step rfl; (exact stp_move rfl rfl); apply run_step rfl; (exact stp_assign rfl rfl); refine run_nil ?_; refine fin_seq ?_; refine goes_ret ?_)
    exact fin_ret1 (.inl rfl) rfl (.tmp rfl) trivial trivial
end Go.Proofs.Ytlpeghdbjfnenaa
