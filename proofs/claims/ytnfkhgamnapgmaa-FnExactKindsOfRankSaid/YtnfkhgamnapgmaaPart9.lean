/- KindsOfRank. guards: (gen_kr.py) -/
import Derived.Test.YtnfkhgamnapgmaaPart8
import Derived.Test.YtnfkhgamnapgmaaPart3
import Derived.Test.YtnfkhgamnapgmaaPart1
namespace Go.Proofs.Ytnfkhgamnapgmaa
open Go.RowKit

abbrev kdOw (ks : List (Int × Int)) : Ch := ⟨true, 91, 2, .vals (ivals (pflat ks))⟩
/-- of the first kinds those of a rank, each with the number of its faces -/
def kqT (zs : List Int) (r q : Nat) : Nat → List (Int × Int)
  | 0 => []
  | i + 1 => kqT zs r q i ++ (if pcN (kAt zs r i) = q then [((kAt zs r i : Int), ((cntN zs r (kAt zs r i) : Nat) : Int))] else [])
theorem kqT_len (zs : List Int) (r q : Nat) : ∀ i, (kqT zs r q i).length ≤ i
  | 0 => Nat.le_refl _
  | i + 1 => by
    have := kqT_len zs r q i
    rw [kqT, List.length_append]
    split <;> simp <;> omega
def kqL (zs : List Int) (r q : Nat) : List (Int × Int) := kqT zs r q ((setsL zs r).length - 1)
/-- the error -/
def krC (zs : List Int) (m s : Int) : Int := if isDiag zs = true then (if (inB m 0 (allN zs) && inB s 0 zs.length) = true then ringC zs m else 2) else 1
def krR (zs : List Int) (m s : Int) : List (Int × Int) := if krC zs m s = 0 then kqL zs m.toNat s.toNat else []
theorem krC_zero {zs : List Int} {m s : Int} (h : krC zs m s = 0) : ringC zs m = 0 ∧ isDiag zs = true ∧ inB m 0 (allN zs) = true ∧ inB s 0 zs.length = true := by
  unfold krC at h
  split at h
  · rename_i hd
    split at h
    · rename_i hb
      rw [Bool.and_eq_true] at hb
      exact ⟨h, hd, hb.1, hb.2⟩
    · cases h
  · cases h
abbrev noKd (c : Int) : AV := .tup [.one (.val (.slice none 0 0)), .one (.val (I6 c))]
set_option maxRecDepth 100000 in
set_option maxHeartbeats 4000000 in
theorem krI_yes (zs : List Int) (m s : Int) (hn : zs.length ≤ 4398046511104) (h0 : krC zs m s = 0) :
    FC Try.prog 27 [(1003, wRo zs)] [o1 (.sl 1003 0 zs.length), vv (I6 m), vv (I6 s)] [(2500, kdOw (kqL zs m.toNat s.toNat))] (.tup [.one (.sl 2500 0 (kqL zs m.toNat s.toNat).length), .one (.val (I6 0))]) [] := by
  have hI := diagI_fc zs zs.length rfl hn
  have hC := ringI_fc zs zs.length m rfl hn
  have hSz := sizeV_fc 1003 zs.length
  obtain ⟨hr, hdd, hb1, hb2⟩ := krC_zero h0
  rw [hdd] at hI
  rw [hr] at hC
  have hM := isMask_fc zs zs.length m rfl (isDiag_len hdd)
  have hW := within_fc s 0 zs.length
  rw [hb1] at hM
  rw [hb2] at hW
  obtain ⟨hd, hf, k, rfl, hk, ha⟩ := ringC_zero hr
  have h4 := isDiag_len hd
  have hlt := allN_lt h4
  have hk2 : k < 1000 := by omega
  rw [Int.toNat_natCast]
  have hsl := setsL_len h4 k
  obtain ⟨K, hK⟩ : ∃ K, (setsL zs k).length - 1 = K := ⟨_, rfl⟩
  have hK1 := sets_pos h4 ha
  have hil : K ≤ (ivals (setsL zs k)).length := by rw [ivals_len]; omega
  obtain ⟨q, rfl⟩ := Int.eq_ofNat_of_zero_le (inB_true.1 hb2).1
  rw [Int.toNat_natCast]
  have hS := (kindsI_fc zs zs.length k K rfl h4 hk2 hK (by omega)).nm [(1003, 1003), (8, 36)] (by kernel_rfl)
  have hS : FC Try.prog 86 [(1003, wRo zs)] [o1 (.sl 1003 0 zs.length), vv (I6 k)] [(36, leOw (setsL zs k))] (o1 (.sl 36 0 K)) [] := hS
  unfold kqL
  rw [hK]
  refine fc_enter (nt := 58) Try.func27 rfl rfl (by simp) fun w0 ω0 => ?_
  (refine goes_seq ?_; refine goes_region ?_; apply run_step rfl; (exact stp_assign rfl rfl); apply run_step rfl; (exact stp_assign rfl rfl); refine run_nil ?_; refine fin_seq ?_; refine goes_seq ?_; refine goes_block ?_; refine goes_seq ?_; refine goes_region ?_; apply run_step rfl; (exact stp_move rfl rfl); apply run_step rfl; ((apply call_gate 82; exact stp_callR hI (by as_aux_lemma => kernel_rfl) rfl rfl ⟨rfl, trivial⟩ ⟨⟨_, rfl, .inl rfl⟩, trivial⟩ rfl rfl)); apply run_step rfl; (exact stp_not rfl rfl); apply run_step rfl; (exact stp_assign rfl rfl); refine run_nil ?_; refine fin_seq ?_)
  refine goes_cond rfl (fun e => by cases e) (fun _ => ?_)
  (refine goes_seq ?_; refine goes_region ?_; apply run_step rfl; (exact stp_move rfl rfl); apply run_step rfl; (exact stp_move rfl rfl); apply run_step rfl; (first | (apply call_gate 83; exact stp_callR hM (by as_aux_lemma => kernel_rfl) rfl rfl ⟨rfl, rfl, trivial⟩ ⟨⟨_, rfl, .inl rfl⟩, trivial⟩ rfl rfl) | (apply call_gate 85; exact stp_callR hSz (by as_aux_lemma => kernel_rfl) rfl rfl ⟨rfl, trivial⟩ trivial rfl rfl) | (apply call_gate 84; exact stp_callR hW (by as_aux_lemma => kernel_rfl) rfl rfl ⟨rfl, rfl, rfl, trivial⟩ trivial rfl rfl)); apply run_step rfl; (exact stp_not rfl rfl); apply run_step rfl; (exact stp_move rfl rfl); apply run_gYes rfl rfl rfl; (exact stp_move rfl rfl); apply run_gYes rfl rfl rfl; (exact stp_move rfl rfl); apply run_gYes rfl rfl rfl; (first | (apply call_gate 83; exact stp_callR hM (by as_aux_lemma => kernel_rfl) rfl rfl ⟨rfl, rfl, trivial⟩ ⟨⟨_, rfl, .inl rfl⟩, trivial⟩ rfl rfl) | (apply call_gate 85; exact stp_callR hSz (by as_aux_lemma => kernel_rfl) rfl rfl ⟨rfl, trivial⟩ trivial rfl rfl) | (apply call_gate 84; exact stp_callR hW (by as_aux_lemma => kernel_rfl) rfl rfl ⟨rfl, rfl, rfl, trivial⟩ trivial rfl rfl)); apply run_gYes rfl rfl rfl; (first | (apply call_gate 83; exact stp_callR hM (by as_aux_lemma => kernel_rfl) rfl rfl ⟨rfl, rfl, trivial⟩ ⟨⟨_, rfl, .inl rfl⟩, trivial⟩ rfl rfl) | (apply call_gate 85; exact stp_callR hSz (by as_aux_lemma => kernel_rfl) rfl rfl ⟨rfl, trivial⟩ trivial rfl rfl) | (apply call_gate 84; exact stp_callR hW (by as_aux_lemma => kernel_rfl) rfl rfl ⟨rfl, rfl, rfl, trivial⟩ trivial rfl rfl)); apply run_gYes rfl rfl rfl; (exact stp_not rfl rfl); apply run_step rfl; (exact stp_pickF rfl rfl rfl); apply run_step rfl; (exact stp_assign rfl rfl); refine run_nil ?_; refine fin_seq ?_)
  refine goes_cond rfl (fun e => by cases e) (fun _ => ?_)
  (refine goes_skip ?_; refine fin_block ?_; refine fin_seq ?_; refine goes_seq ?_; refine goes_seq ?_; refine goes_region ?_; apply run_step rfl; (exact stp_move rfl rfl); apply run_step rfl; (exact stp_move rfl rfl); apply run_step rfl; ((apply call_gate 73; exact stp_callR hC (by as_aux_lemma => kernel_rfl) rfl rfl ⟨rfl, rfl, trivial⟩ ⟨⟨_, rfl, .inl rfl⟩, trivial⟩ rfl rfl)); apply run_step rfl; (exact stp_assign rfl rfl); refine run_nil ?_; refine fin_seq ?_; refine goes_seq ?_; refine goes_region ?_; apply run_step rfl; (exact stp_move rfl rfl); apply run_step rfl; (exact stp_bin rfl rfl rfl rfl); refine run_nil ?_; refine fin_seq ?_)
  refine goes_cond rfl (fun e => by cases e) (fun _ => ?_)
  (refine goes_skip ?_; refine fin_seq ?_; refine goes_seq ?_; refine goes_region ?_; apply run_step rfl; (exact stp_assign rfl rfl); refine run_nil ?_; refine fin_seq ?_; refine goes_seq ?_; refine goes_seq ?_; refine goes_region ?_; apply run_step rfl; (exact stp_move rfl rfl); apply run_step rfl; (exact stp_move rfl rfl); apply run_step rfl; ((apply call_gate 86; exact stp_callN hS (by as_aux_lemma => kernel_rfl) rfl rfl ⟨rfl, rfl, trivial⟩ ⟨⟨_, rfl, .inl rfl⟩, trivial⟩ rfl rfl rfl)); apply run_step rfl; (exact stp_len rfl rfl rfl (by as_aux_lemma => kernel_rfl)); apply run_step rfl; (exact stp_move rfl rfl); refine run_nil ?_; refine fin_seq ?_; refine goes_block ?_)
  refine goes_loop (fun j : Nat => St.of [(0, o1 (.sl 1003 0 zs.length)), (1, vv (I6 k)), (2, vv (I6 q)), (9, o1 (.sl 2500 0 (kqT zs k q j).length)), (36, o1 (.sl 36 0 K)), (37, vv (I6 K)), (38, vv (I6 j))] [(1003, wRo zs), (2500, kdOw (kqT zs k q j)), (36, leOw (setsL zs k))]) (fun j => j ≤ K) (fun j => K - j) 0 (Nat.zero_le _) (Wk.trans (wk_nil (t := 9) (n := 2500) (k := 2) (E := 91) (d := .vals (ivals (pflat []))) rfl rfl) (Wk.of ⟨rfl, rfl, rfl, rfl, rfl, rfl, rfl, trivial⟩ ⟨rfl, rfl, rfl, trivial⟩ trivial)) ?_
  rintro j hj
  (refine goes_seq ?_; refine goes_region ?_; apply run_step rfl; (exact stp_bin rfl rfl rfl rfl); refine run_nil ?_; refine fin_seq ?_; refine goes_seq ?_)
  refine goes_if rfl (fun hlj => ?_) (fun hlj => ?_)
  · have hjK : j < K := by omega
    have hat := kAt_eq h4 k j
    have h32 := kAt_lt h4 k j
    have hkl := kqT_len zs k q j
    obtain ⟨kk, hkk⟩ : ∃ kk, kAt zs k j = kk := ⟨_, rfl⟩
    have hst : kqT zs k q (j + 1) = kqT zs k q j ++ (if pcN kk = q then [((kk : Int), ((cntN zs k kk : Nat) : Int))] else []) := by rw [← hkk]; rfl
    rw [hkk] at hat h32
    have hgk : (ivals (setsL zs k))[j]? = some (I6 (kk : Int)) := by rw [ivals_get (by omega), hat]
    have hF := cntI_fc zs zs.length k kk rfl hd hf hk2 (by omega)
    have hln : (0 + (kqT zs k q j).length) * 2 = (ivals (pflat (kqT zs k q j))).length := by rw [ivals_len, pflat_len]; omega
    have hap : (ivals (pflat (kqT zs k q j))).drop (0 * 2) ++ ((ivals [(kk : Int), ((cntN zs k kk : Nat) : Int)]).drop (0 * 2)).take (1 * 2) = ivals (pflat (kqT zs k q j ++ [((kk : Int), ((cntN zs k kk : Nat) : Int))])) := by simp [ivals, pflat]
    have e8 : IntKind.i64.wrap ((j : Int) + 1) = ((j + 1 : Nat) : Int) := by rw [IntWalk.i64_in _ (by omega)]; omega
    have hO := onesI_fc kk h32
    have hcu : IntKind.u64.wrap (kk : Int) = (kk : Int) := by rw [IntKind.wrap_u64]; omega
    by_cases hpq : pcN kk = q
    · have hbe := binEq (pcN kk : Int) (q : Int) true (by rw [hpq]; simp)
      rw [if_pos hpq] at hst
      have hsl2 : (kqT zs k q (j + 1)).length = (kqT zs k q j).length + 1 := by rw [hst]; simp
      (refine goes_skip ?_; refine fin_seq ?_; refine goes_seq ?_; refine goes_block ?_; refine goes_seq ?_; refine goes_region ?_; apply run_step rfl; (first | exact stp_ix (j := j) rfl rfl rfl rfl rfl (by as_aux_lemma => kernel_rfl) rfl hjK hil | exact stp_loadV rfl (by as_aux_lemma => kernel_rfl) rfl rfl rfl hgk | exact stp_convN (k2 := .u64) rfl rfl (by as_aux_lemma => kernel_rfl) (by as_aux_lemma => kernel_rfl) hcu | (apply call_gate 87; exact stp_callR hO (by as_aux_lemma => kernel_rfl) rfl rfl ⟨rfl, trivial⟩ trivial rfl rfl) | exact stp_bin rfl rfl rfl hbe); apply run_step rfl; (first | exact stp_ix (j := j) rfl rfl rfl rfl rfl (by as_aux_lemma => kernel_rfl) rfl hjK hil | exact stp_loadV rfl (by as_aux_lemma => kernel_rfl) rfl rfl rfl hgk | exact stp_convN (k2 := .u64) rfl rfl (by as_aux_lemma => kernel_rfl) (by as_aux_lemma => kernel_rfl) hcu | (apply call_gate 87; exact stp_callR hO (by as_aux_lemma => kernel_rfl) rfl rfl ⟨rfl, trivial⟩ trivial rfl rfl) | exact stp_bin rfl rfl rfl hbe); apply run_step rfl; (exact stp_assign rfl rfl); refine run_nil ?_; refine fin_seq ?_; refine goes_seq ?_; refine goes_region ?_; apply run_step rfl; (exact stp_move rfl rfl); apply run_step rfl; (first | exact stp_ix (j := j) rfl rfl rfl rfl rfl (by as_aux_lemma => kernel_rfl) rfl hjK hil | exact stp_loadV rfl (by as_aux_lemma => kernel_rfl) rfl rfl rfl hgk | exact stp_convN (k2 := .u64) rfl rfl (by as_aux_lemma => kernel_rfl) (by as_aux_lemma => kernel_rfl) hcu | (apply call_gate 87; exact stp_callR hO (by as_aux_lemma => kernel_rfl) rfl rfl ⟨rfl, trivial⟩ trivial rfl rfl) | exact stp_bin rfl rfl rfl hbe); apply run_step rfl; (first | exact stp_ix (j := j) rfl rfl rfl rfl rfl (by as_aux_lemma => kernel_rfl) rfl hjK hil | exact stp_loadV rfl (by as_aux_lemma => kernel_rfl) rfl rfl rfl hgk | exact stp_convN (k2 := .u64) rfl rfl (by as_aux_lemma => kernel_rfl) (by as_aux_lemma => kernel_rfl) hcu | (apply call_gate 87; exact stp_callR hO (by as_aux_lemma => kernel_rfl) rfl rfl ⟨rfl, trivial⟩ trivial rfl rfl) | exact stp_bin rfl rfl rfl hbe); apply run_step rfl; (exact stp_move rfl rfl); apply run_step rfl; (first | exact stp_ix (j := j) rfl rfl rfl rfl rfl (by as_aux_lemma => kernel_rfl) rfl hjK hil | exact stp_loadV rfl (by as_aux_lemma => kernel_rfl) rfl rfl rfl hgk | exact stp_convN (k2 := .u64) rfl rfl (by as_aux_lemma => kernel_rfl) (by as_aux_lemma => kernel_rfl) hcu | (apply call_gate 87; exact stp_callR hO (by as_aux_lemma => kernel_rfl) rfl rfl ⟨rfl, trivial⟩ trivial rfl rfl) | exact stp_bin rfl rfl rfl hbe); refine run_nil ?_; refine fin_seq ?_)
      refine goes_cond rfl (fun _ => ?_) (fun e => by cases e)
      (refine goes_region ?_; apply run_step rfl; (exact stp_move rfl rfl); apply run_step rfl; (exact stp_move rfl rfl); apply run_step rfl; (exact stp_move rfl rfl); apply run_step rfl; (exact stp_move rfl rfl); apply run_step rfl; (exact stp_move rfl rfl); apply run_step rfl; (first | (apply call_gate 88; exact stp_callR hF (by as_aux_lemma => kernel_rfl) rfl rfl ⟨rfl, rfl, rfl, trivial⟩ ⟨⟨_, rfl, .inl rfl⟩, trivial⟩ rfl rfl) | exact stp_build2 rfl rfl rfl (by as_aux_lemma => kernel_rfl) | exact stp_litP (E := 91) rfl (by as_aux_lemma => kernel_rfl) rfl | exact stp_append (k := 2) (m := 1) (E := 91) rfl (by as_aux_lemma => kernel_rfl) rfl rfl rfl rfl rfl hln rfl (reads_vals (k := 2) rfl rfl rfl rfl (Nat.le_refl _)) (by omega) (by intro v hv; simp [ivals] at hv; rcases hv with rfl | rfl <;> rfl) (by omega) | exact stp_add rfl rfl rfl e8); apply run_step rfl; (first | (apply call_gate 88; exact stp_callR hF (by as_aux_lemma => kernel_rfl) rfl rfl ⟨rfl, rfl, rfl, trivial⟩ ⟨⟨_, rfl, .inl rfl⟩, trivial⟩ rfl rfl) | exact stp_build2 rfl rfl rfl (by as_aux_lemma => kernel_rfl) | exact stp_litP (E := 91) rfl (by as_aux_lemma => kernel_rfl) rfl | exact stp_append (k := 2) (m := 1) (E := 91) rfl (by as_aux_lemma => kernel_rfl) rfl rfl rfl rfl rfl hln rfl (reads_vals (k := 2) rfl rfl rfl rfl (Nat.le_refl _)) (by omega) (by intro v hv; simp [ivals] at hv; rcases hv with rfl | rfl <;> rfl) (by omega) | exact stp_add rfl rfl rfl e8); apply run_step rfl; (first | (apply call_gate 88; exact stp_callR hF (by as_aux_lemma => kernel_rfl) rfl rfl ⟨rfl, rfl, rfl, trivial⟩ ⟨⟨_, rfl, .inl rfl⟩, trivial⟩ rfl rfl) | exact stp_build2 rfl rfl rfl (by as_aux_lemma => kernel_rfl) | exact stp_litP (E := 91) rfl (by as_aux_lemma => kernel_rfl) rfl | exact stp_append (k := 2) (m := 1) (E := 91) rfl (by as_aux_lemma => kernel_rfl) rfl rfl rfl rfl rfl hln rfl (reads_vals (k := 2) rfl rfl rfl rfl (Nat.le_refl _)) (by omega) (by intro v hv; simp [ivals] at hv; rcases hv with rfl | rfl <;> rfl) (by omega) | exact stp_add rfl rfl rfl e8); apply run_step rfl; (first | (apply call_gate 88; exact stp_callR hF (by as_aux_lemma => kernel_rfl) rfl rfl ⟨rfl, rfl, rfl, trivial⟩ ⟨⟨_, rfl, .inl rfl⟩, trivial⟩ rfl rfl) | exact stp_build2 rfl rfl rfl (by as_aux_lemma => kernel_rfl) | exact stp_litP (E := 91) rfl (by as_aux_lemma => kernel_rfl) rfl | exact stp_append (k := 2) (m := 1) (E := 91) rfl (by as_aux_lemma => kernel_rfl) rfl rfl rfl rfl rfl hln rfl (reads_vals (k := 2) rfl rfl rfl rfl (Nat.le_refl _)) (by omega) (by intro v hv; simp [ivals] at hv; rcases hv with rfl | rfl <;> rfl) (by omega) | exact stp_add rfl rfl rfl e8); apply run_step rfl; (exact stp_assign rfl rfl); refine run_nil ?_; refine fin_block ?_; refine fin_seq ?_; refine goes_region ?_; apply run_step rfl; (first | (apply call_gate 88; exact stp_callR hF (by as_aux_lemma => kernel_rfl) rfl rfl ⟨rfl, rfl, rfl, trivial⟩ ⟨⟨_, rfl, .inl rfl⟩, trivial⟩ rfl rfl) | exact stp_build2 rfl rfl rfl (by as_aux_lemma => kernel_rfl) | exact stp_litP (E := 91) rfl (by as_aux_lemma => kernel_rfl) rfl | exact stp_append (k := 2) (m := 1) (E := 91) rfl (by as_aux_lemma => kernel_rfl) rfl rfl rfl rfl rfl hln rfl (reads_vals (k := 2) rfl rfl rfl rfl (Nat.le_refl _)) (by omega) (by intro v hv; simp [ivals] at hv; rcases hv with rfl | rfl <;> rfl) (by omega) | exact stp_add rfl rfl rfl e8); apply run_step rfl; (exact stp_move rfl rfl); refine run_nil ?_)
      exact fin_round (j + 1) (by omega) (by omega) (Wk.of ⟨rfl, rfl, rfl, congrArg (fun z => some (o1 (.sl 2500 0 z))) hsl2.symm, rfl, rfl, rfl, trivial⟩ ⟨rfl, congrArg (fun z => some (⟨true, 91, 2, .vals z⟩ : Ch)) (hap.trans (by rw [hst])), rfl, trivial⟩ trivial)
    · have hbe := binEq (pcN kk : Int) (q : Int) false (by rw [decide_eq_false_iff_not]; omega)
      rw [if_neg hpq, List.append_nil] at hst
      (refine goes_skip ?_; refine fin_seq ?_; refine goes_seq ?_; refine goes_block ?_; refine goes_seq ?_; refine goes_region ?_; apply run_step rfl; (first | exact stp_ix (j := j) rfl rfl rfl rfl rfl (by as_aux_lemma => kernel_rfl) rfl hjK hil | exact stp_loadV rfl (by as_aux_lemma => kernel_rfl) rfl rfl rfl hgk | exact stp_convN (k2 := .u64) rfl rfl (by as_aux_lemma => kernel_rfl) (by as_aux_lemma => kernel_rfl) hcu | (apply call_gate 87; exact stp_callR hO (by as_aux_lemma => kernel_rfl) rfl rfl ⟨rfl, trivial⟩ trivial rfl rfl) | exact stp_bin rfl rfl rfl hbe); apply run_step rfl; (first | exact stp_ix (j := j) rfl rfl rfl rfl rfl (by as_aux_lemma => kernel_rfl) rfl hjK hil | exact stp_loadV rfl (by as_aux_lemma => kernel_rfl) rfl rfl rfl hgk | exact stp_convN (k2 := .u64) rfl rfl (by as_aux_lemma => kernel_rfl) (by as_aux_lemma => kernel_rfl) hcu | (apply call_gate 87; exact stp_callR hO (by as_aux_lemma => kernel_rfl) rfl rfl ⟨rfl, trivial⟩ trivial rfl rfl) | exact stp_bin rfl rfl rfl hbe); apply run_step rfl; (exact stp_assign rfl rfl); refine run_nil ?_; refine fin_seq ?_; refine goes_seq ?_; refine goes_region ?_; apply run_step rfl; (exact stp_move rfl rfl); apply run_step rfl; (first | exact stp_ix (j := j) rfl rfl rfl rfl rfl (by as_aux_lemma => kernel_rfl) rfl hjK hil | exact stp_loadV rfl (by as_aux_lemma => kernel_rfl) rfl rfl rfl hgk | exact stp_convN (k2 := .u64) rfl rfl (by as_aux_lemma => kernel_rfl) (by as_aux_lemma => kernel_rfl) hcu | (apply call_gate 87; exact stp_callR hO (by as_aux_lemma => kernel_rfl) rfl rfl ⟨rfl, trivial⟩ trivial rfl rfl) | exact stp_bin rfl rfl rfl hbe); apply run_step rfl; (first | exact stp_ix (j := j) rfl rfl rfl rfl rfl (by as_aux_lemma => kernel_rfl) rfl hjK hil | exact stp_loadV rfl (by as_aux_lemma => kernel_rfl) rfl rfl rfl hgk | exact stp_convN (k2 := .u64) rfl rfl (by as_aux_lemma => kernel_rfl) (by as_aux_lemma => kernel_rfl) hcu | (apply call_gate 87; exact stp_callR hO (by as_aux_lemma => kernel_rfl) rfl rfl ⟨rfl, trivial⟩ trivial rfl rfl) | exact stp_bin rfl rfl rfl hbe); apply run_step rfl; (exact stp_move rfl rfl); apply run_step rfl; (first | exact stp_ix (j := j) rfl rfl rfl rfl rfl (by as_aux_lemma => kernel_rfl) rfl hjK hil | exact stp_loadV rfl (by as_aux_lemma => kernel_rfl) rfl rfl rfl hgk | exact stp_convN (k2 := .u64) rfl rfl (by as_aux_lemma => kernel_rfl) (by as_aux_lemma => kernel_rfl) hcu | (apply call_gate 87; exact stp_callR hO (by as_aux_lemma => kernel_rfl) rfl rfl ⟨rfl, trivial⟩ trivial rfl rfl) | exact stp_bin rfl rfl rfl hbe); refine run_nil ?_; refine fin_seq ?_)
      refine goes_cond rfl (fun e => by cases e) (fun _ => ?_)
      (refine goes_skip ?_; refine fin_block ?_; refine fin_seq ?_; refine goes_region ?_; apply run_step rfl; (exact stp_add rfl rfl rfl e8); apply run_step rfl; (exact stp_move rfl rfl); refine run_nil ?_)
      exact fin_round (j + 1) (by omega) (by omega) (Wk.of ⟨rfl, rfl, rfl, congrArg (fun z => some (o1 (.sl 2500 0 (List.length z)))) hst.symm, rfl, rfl, rfl, trivial⟩ ⟨rfl, congrArg (fun z => some (kdOw z)) hst.symm, rfl, trivial⟩ trivial)
  · obtain rfl : j = K := by omega
    (refine goes_exit ?_; refine fin_exit_then ?_; refine fin_exit_then ?_; refine fin_exit_eq ?_; refine fin_seq ?_; refine goes_seq ?_; refine goes_region ?_; apply run_step rfl; (exact stp_move rfl rfl); apply run_step rfl; (exact stp_assign rfl rfl); apply run_step rfl; (exact stp_assign rfl rfl); refine run_nil ?_; refine fin_seq ?_; refine goes_ret ?_)
    exact fin_ret2 (.inl rfl) rfl (.tmp rfl) (.tmp rfl) ⟨rfl, trivial⟩ trivial
set_option maxRecDepth 100000 in
set_option maxHeartbeats 2000000 in
theorem krI_no (zs : List Int) (m s : Int) (hn : zs.length ≤ 4398046511104) (h0 : krC zs m s ≠ 0) :
    FC Try.prog 27 [(1003, wRo zs)] [o1 (.sl 1003 0 zs.length), vv (I6 m), vv (I6 s)] [] (noKd (krC zs m s)) [] := by
  have hI := diagI_fc zs zs.length rfl hn
  have hC := ringI_fc zs zs.length m rfl hn
  have hSz := sizeV_fc 1003 zs.length
  unfold krC at h0 ⊢
  refine fc_enter (nt := 58) Try.func27 rfl rfl (by simp) fun w0 ω0 => ?_
  cases hd : isDiag zs with
  | false =>
    rw [hd] at hI
    rw [if_neg (by simp)]
    (refine goes_seq ?_; refine goes_region ?_; apply run_step rfl; (exact stp_assign rfl rfl); apply run_step rfl; (exact stp_assign rfl rfl); refine run_nil ?_; refine fin_seq ?_; refine goes_seq ?_; refine goes_block ?_; refine goes_seq ?_; refine goes_region ?_; apply run_step rfl; (exact stp_move rfl rfl); apply run_step rfl; ((apply call_gate 82; exact stp_callR hI (by as_aux_lemma => kernel_rfl) rfl rfl ⟨rfl, trivial⟩ ⟨⟨_, rfl, .inl rfl⟩, trivial⟩ rfl rfl)); apply run_step rfl; (exact stp_not rfl rfl); apply run_step rfl; (exact stp_assign rfl rfl); refine run_nil ?_; refine fin_seq ?_)
    refine goes_cond rfl (fun _ => ?_) (fun e => by cases e)
    (refine goes_seq ?_; refine goes_region ?_; apply run_step rfl; (exact stp_assign rfl rfl); apply run_step rfl; (exact stp_assign rfl rfl); refine run_nil ?_; refine fin_seq ?_; refine goes_ret ?_; refine fin_ret_block ?_; refine fin_ret_then ?_)
    exact fin_ret2 (.inl rfl) rfl (.tmp rfl) (.tmp rfl) trivial trivial
  | true =>
  rw [hd] at hI
  rw [hd, if_pos rfl] at h0
  rw [if_pos rfl]
  have hM := isMask_fc zs zs.length m rfl (isDiag_len hd)
  have hW := within_fc s 0 zs.length
  (refine goes_seq ?_; refine goes_region ?_; apply run_step rfl; (exact stp_assign rfl rfl); apply run_step rfl; (exact stp_assign rfl rfl); refine run_nil ?_; refine fin_seq ?_; refine goes_seq ?_; refine goes_block ?_; refine goes_seq ?_; refine goes_region ?_; apply run_step rfl; (exact stp_move rfl rfl); apply run_step rfl; ((apply call_gate 82; exact stp_callR hI (by as_aux_lemma => kernel_rfl) rfl rfl ⟨rfl, trivial⟩ ⟨⟨_, rfl, .inl rfl⟩, trivial⟩ rfl rfl)); apply run_step rfl; (exact stp_not rfl rfl); apply run_step rfl; (exact stp_assign rfl rfl); refine run_nil ?_; refine fin_seq ?_)
  refine goes_cond rfl (fun e => by cases e) (fun _ => ?_)
  cases hb1 : inB m 0 (allN zs) with
  | false =>
    rw [hb1] at hM
    rw [Bool.false_and, if_neg (by simp)]
    (refine goes_seq ?_; refine goes_region ?_; apply run_step rfl; (exact stp_move rfl rfl); apply run_step rfl; (exact stp_move rfl rfl); apply run_step rfl; (first | (apply call_gate 83; exact stp_callR hM (by as_aux_lemma => kernel_rfl) rfl rfl ⟨rfl, rfl, trivial⟩ ⟨⟨_, rfl, .inl rfl⟩, trivial⟩ rfl rfl) | (apply call_gate 85; exact stp_callR hSz (by as_aux_lemma => kernel_rfl) rfl rfl ⟨rfl, trivial⟩ trivial rfl rfl) | (apply call_gate 84; exact stp_callR hW (by as_aux_lemma => kernel_rfl) rfl rfl ⟨rfl, rfl, rfl, trivial⟩ trivial rfl rfl)); apply run_step rfl; (exact stp_not rfl rfl); apply run_step rfl; (exact stp_move rfl rfl); apply run_gNo rfl rfl rfl rfl rfl; apply run_gNo rfl rfl rfl rfl rfl; apply run_gNo rfl rfl rfl rfl rfl; apply run_gNo rfl rfl rfl rfl rfl; apply run_gNo rfl rfl rfl rfl rfl; apply run_step rfl; (exact stp_pickT rfl rfl rfl); apply run_step rfl; (exact stp_assign rfl rfl); refine run_nil ?_; refine fin_seq ?_)
    refine goes_cond rfl (fun _ => ?_) (fun e => by cases e)
    (refine goes_seq ?_; refine goes_region ?_; apply run_step rfl; (exact stp_assign rfl rfl); apply run_step rfl; (exact stp_assign rfl rfl); refine run_nil ?_; refine fin_seq ?_; refine goes_ret ?_; refine fin_ret_block ?_; refine fin_ret_then ?_)
    exact fin_ret2 (.inl rfl) rfl (.tmp rfl) (.tmp rfl) trivial trivial
  | true =>
  rw [hb1] at hM
  cases hb2 : inB s 0 zs.length with
  | false =>
    rw [hb2] at hW
    rw [Bool.and_false, if_neg (by simp)]
    (refine goes_seq ?_; refine goes_region ?_; apply run_step rfl; (exact stp_move rfl rfl); apply run_step rfl; (exact stp_move rfl rfl); apply run_step rfl; (first | (apply call_gate 83; exact stp_callR hM (by as_aux_lemma => kernel_rfl) rfl rfl ⟨rfl, rfl, trivial⟩ ⟨⟨_, rfl, .inl rfl⟩, trivial⟩ rfl rfl) | (apply call_gate 85; exact stp_callR hSz (by as_aux_lemma => kernel_rfl) rfl rfl ⟨rfl, trivial⟩ trivial rfl rfl) | (apply call_gate 84; exact stp_callR hW (by as_aux_lemma => kernel_rfl) rfl rfl ⟨rfl, rfl, rfl, trivial⟩ trivial rfl rfl)); apply run_step rfl; (exact stp_not rfl rfl); apply run_step rfl; (exact stp_move rfl rfl); apply run_gYes rfl rfl rfl; (exact stp_move rfl rfl); apply run_gYes rfl rfl rfl; (exact stp_move rfl rfl); apply run_gYes rfl rfl rfl; (first | (apply call_gate 83; exact stp_callR hM (by as_aux_lemma => kernel_rfl) rfl rfl ⟨rfl, rfl, trivial⟩ ⟨⟨_, rfl, .inl rfl⟩, trivial⟩ rfl rfl) | (apply call_gate 85; exact stp_callR hSz (by as_aux_lemma => kernel_rfl) rfl rfl ⟨rfl, trivial⟩ trivial rfl rfl) | (apply call_gate 84; exact stp_callR hW (by as_aux_lemma => kernel_rfl) rfl rfl ⟨rfl, rfl, rfl, trivial⟩ trivial rfl rfl)); apply run_gYes rfl rfl rfl; (first | (apply call_gate 83; exact stp_callR hM (by as_aux_lemma => kernel_rfl) rfl rfl ⟨rfl, rfl, trivial⟩ ⟨⟨_, rfl, .inl rfl⟩, trivial⟩ rfl rfl) | (apply call_gate 85; exact stp_callR hSz (by as_aux_lemma => kernel_rfl) rfl rfl ⟨rfl, trivial⟩ trivial rfl rfl) | (apply call_gate 84; exact stp_callR hW (by as_aux_lemma => kernel_rfl) rfl rfl ⟨rfl, rfl, rfl, trivial⟩ trivial rfl rfl)); apply run_gYes rfl rfl rfl; (exact stp_not rfl rfl); apply run_step rfl; (exact stp_pickF rfl rfl rfl); apply run_step rfl; (exact stp_assign rfl rfl); refine run_nil ?_; refine fin_seq ?_)
    refine goes_cond rfl (fun _ => ?_) (fun e => by cases e)
    (refine goes_seq ?_; refine goes_region ?_; apply run_step rfl; (exact stp_assign rfl rfl); apply run_step rfl; (exact stp_assign rfl rfl); refine run_nil ?_; refine fin_seq ?_; refine goes_ret ?_; refine fin_ret_block ?_; refine fin_ret_then ?_)
    exact fin_ret2 (.inl rfl) rfl (.tmp rfl) (.tmp rfl) trivial trivial
  | true =>
  rw [hb2] at hW
  rw [hb1, hb2, if_pos (by rfl)] at h0
  rw [if_pos (by rfl)]
  (refine goes_seq ?_; refine goes_region ?_; apply run_step rfl; (exact stp_move rfl rfl); apply run_step rfl; (exact stp_move rfl rfl); apply run_step rfl; (first | (apply call_gate 83; exact stp_callR hM (by as_aux_lemma => kernel_rfl) rfl rfl ⟨rfl, rfl, trivial⟩ ⟨⟨_, rfl, .inl rfl⟩, trivial⟩ rfl rfl) | (apply call_gate 85; exact stp_callR hSz (by as_aux_lemma => kernel_rfl) rfl rfl ⟨rfl, trivial⟩ trivial rfl rfl) | (apply call_gate 84; exact stp_callR hW (by as_aux_lemma => kernel_rfl) rfl rfl ⟨rfl, rfl, rfl, trivial⟩ trivial rfl rfl)); apply run_step rfl; (exact stp_not rfl rfl); apply run_step rfl; (exact stp_move rfl rfl); apply run_gYes rfl rfl rfl; (exact stp_move rfl rfl); apply run_gYes rfl rfl rfl; (exact stp_move rfl rfl); apply run_gYes rfl rfl rfl; (first | (apply call_gate 83; exact stp_callR hM (by as_aux_lemma => kernel_rfl) rfl rfl ⟨rfl, rfl, trivial⟩ ⟨⟨_, rfl, .inl rfl⟩, trivial⟩ rfl rfl) | (apply call_gate 85; exact stp_callR hSz (by as_aux_lemma => kernel_rfl) rfl rfl ⟨rfl, trivial⟩ trivial rfl rfl) | (apply call_gate 84; exact stp_callR hW (by as_aux_lemma => kernel_rfl) rfl rfl ⟨rfl, rfl, rfl, trivial⟩ trivial rfl rfl)); apply run_gYes rfl rfl rfl; (first | (apply call_gate 83; exact stp_callR hM (by as_aux_lemma => kernel_rfl) rfl rfl ⟨rfl, rfl, trivial⟩ ⟨⟨_, rfl, .inl rfl⟩, trivial⟩ rfl rfl) | (apply call_gate 85; exact stp_callR hSz (by as_aux_lemma => kernel_rfl) rfl rfl ⟨rfl, trivial⟩ trivial rfl rfl) | (apply call_gate 84; exact stp_callR hW (by as_aux_lemma => kernel_rfl) rfl rfl ⟨rfl, rfl, rfl, trivial⟩ trivial rfl rfl)); apply run_gYes rfl rfl rfl; (exact stp_not rfl rfl); apply run_step rfl; (exact stp_pickF rfl rfl rfl); apply run_step rfl; (exact stp_assign rfl rfl); refine run_nil ?_; refine fin_seq ?_)
  refine goes_cond rfl (fun e => by cases e) (fun _ => ?_)
  (refine goes_skip ?_; refine fin_block ?_; refine fin_seq ?_; refine goes_seq ?_; refine goes_seq ?_; refine goes_region ?_; apply run_step rfl; (exact stp_move rfl rfl); apply run_step rfl; (exact stp_move rfl rfl); apply run_step rfl; ((apply call_gate 73; exact stp_callR hC (by as_aux_lemma => kernel_rfl) rfl rfl ⟨rfl, rfl, trivial⟩ ⟨⟨_, rfl, .inl rfl⟩, trivial⟩ rfl rfl)); apply run_step rfl; (exact stp_assign rfl rfl); refine run_nil ?_; refine fin_seq ?_; refine goes_seq ?_; refine goes_region ?_; apply run_step rfl; (exact stp_move rfl rfl); apply run_step rfl; (exact stp_bin rfl rfl rfl rfl); refine run_nil ?_; refine fin_seq ?_)
  refine goes_cond rfl (fun _ => ?_) (fun e => absurd (by simpa using e) h0)
  (refine goes_seq ?_; refine goes_region ?_; apply run_step rfl; (exact stp_move rfl rfl); apply run_step rfl; (exact stp_assign rfl rfl); apply run_step rfl; (exact stp_assign rfl rfl); refine run_nil ?_; refine fin_seq ?_; refine goes_ret ?_; refine fin_ret_then ?_)
  exact fin_ret2 (.inl rfl) rfl (.tmp rfl) (.tmp rfl) trivial trivial
set_option maxRecDepth 100000 in
set_option maxHeartbeats 4000000 in
theorem krS_yes (zs : List Int) (m s : Int) (hn : zs.length ≤ 4398046511104) (h0 : krC zs m s = 0) :
    FC Try.prog 26 [(1003, wRo zs)] [o1 (.sl 1003 0 zs.length), vv (I6 m), vv (I6 s)] [(34, kdOw (kqL zs m.toNat s.toNat))] (.tup [.one (.sl 34 0 (kqL zs m.toNat s.toNat).length), .one (.val (I6 0))]) [] := by
  have hI := diagS_fc zs zs.length rfl hn
  have hC := codeS_fc zs zs.length m rfl hn
  obtain ⟨hr, hdd, hb1, hb2⟩ := krC_zero h0
  rw [hdd] at hI
  rw [hr] at hC
  have hA := wholeS_fc zs zs.length rfl (isDiag_len hdd)
  have hR := rankS_fc zs zs.length (isDiag_len hdd)
  have hIn := in_fc m 0 (allN zs)
  have hIs := in_fc s 0 zs.length
  rw [hb1] at hIn
  rw [hb2] at hIs
  have e0 : IntKind.i64.wrap (((zs.length + 1 : Nat) : Int) - 1) = (zs.length : Int) := by rw [IntWalk.i64_in _ (by omega)]; omega
  obtain ⟨hd, hf, k, rfl, hk, ha⟩ := ringC_zero hr
  have h4 := isDiag_len hd
  have hlt := allN_lt h4
  have hk2 : k < 1000 := by omega
  rw [Int.toNat_natCast]
  have hsl := setsL_len h4 k
  obtain ⟨K, hK⟩ : ∃ K, (setsL zs k).length - 1 = K := ⟨_, rfl⟩
  have hK1 := sets_pos h4 ha
  have hil : K ≤ (ivals (setsL zs k)).length := by rw [ivals_len]; omega
  obtain ⟨q, rfl⟩ := Int.eq_ofNat_of_zero_le (inB_true.1 hb2).1
  rw [Int.toNat_natCast]
  have hKs := (kindsS_fc zs zs.length k K rfl h4 hk2 hK (by omega)).nm [(1003, 1003), (8, 37)] (by kernel_rfl)
  have hKs : FC Try.prog 79 [(1003, wRo zs)] [o1 (.sl 1003 0 zs.length), vv (I6 k)] [(37, leOw (setsL zs k))] (o1 (.sl 37 0 K)) [] := hKs
  unfold kqL
  rw [hK]
  refine fc_enter (nt := 67) Try.func26 rfl rfl (by simp) fun w0 ω0 => ?_
  (refine goes_seq ?_; refine goes_region ?_; apply run_step rfl; (exact stp_assign rfl rfl); apply run_step rfl; (exact stp_assign rfl rfl); refine run_nil ?_; refine fin_seq ?_; refine goes_seq ?_; refine goes_seq ?_; refine goes_region ?_; apply run_step rfl; (exact stp_move rfl rfl); apply run_step rfl; (first | (apply call_gate 75; exact stp_callR hI (by as_aux_lemma => kernel_rfl) rfl rfl ⟨rfl, trivial⟩ ⟨⟨_, rfl, .inl rfl⟩, trivial⟩ rfl rfl) | (apply call_gate 77; exact stp_callR hA (by as_aux_lemma => kernel_rfl) rfl rfl ⟨rfl, trivial⟩ ⟨⟨_, rfl, .inl rfl⟩, trivial⟩ rfl rfl) | (apply call_gate 78; exact stp_callR hR (by as_aux_lemma => kernel_rfl) rfl rfl ⟨rfl, trivial⟩ ⟨⟨_, rfl, .inl rfl⟩, trivial⟩ rfl rfl) | (apply call_gate 76; exact stp_callR hIn (by as_aux_lemma => kernel_rfl) rfl rfl ⟨rfl, rfl, rfl, trivial⟩ trivial rfl rfl) | (apply call_gate 76; exact stp_callR hIs (by as_aux_lemma => kernel_rfl) rfl rfl ⟨rfl, rfl, rfl, trivial⟩ trivial rfl rfl) | exact stp_sub rfl rfl rfl e0); apply run_step rfl; (exact stp_move rfl rfl); apply run_gYes rfl rfl rfl; (exact stp_move rfl rfl); apply run_gYes rfl rfl rfl; (exact stp_move rfl rfl); apply run_gYes rfl rfl rfl; (first | (apply call_gate 75; exact stp_callR hI (by as_aux_lemma => kernel_rfl) rfl rfl ⟨rfl, trivial⟩ ⟨⟨_, rfl, .inl rfl⟩, trivial⟩ rfl rfl) | (apply call_gate 77; exact stp_callR hA (by as_aux_lemma => kernel_rfl) rfl rfl ⟨rfl, trivial⟩ ⟨⟨_, rfl, .inl rfl⟩, trivial⟩ rfl rfl) | (apply call_gate 78; exact stp_callR hR (by as_aux_lemma => kernel_rfl) rfl rfl ⟨rfl, trivial⟩ ⟨⟨_, rfl, .inl rfl⟩, trivial⟩ rfl rfl) | (apply call_gate 76; exact stp_callR hIn (by as_aux_lemma => kernel_rfl) rfl rfl ⟨rfl, rfl, rfl, trivial⟩ trivial rfl rfl) | (apply call_gate 76; exact stp_callR hIs (by as_aux_lemma => kernel_rfl) rfl rfl ⟨rfl, rfl, rfl, trivial⟩ trivial rfl rfl) | exact stp_sub rfl rfl rfl e0); apply run_gYes rfl rfl rfl; (first | (apply call_gate 75; exact stp_callR hI (by as_aux_lemma => kernel_rfl) rfl rfl ⟨rfl, trivial⟩ ⟨⟨_, rfl, .inl rfl⟩, trivial⟩ rfl rfl) | (apply call_gate 77; exact stp_callR hA (by as_aux_lemma => kernel_rfl) rfl rfl ⟨rfl, trivial⟩ ⟨⟨_, rfl, .inl rfl⟩, trivial⟩ rfl rfl) | (apply call_gate 78; exact stp_callR hR (by as_aux_lemma => kernel_rfl) rfl rfl ⟨rfl, trivial⟩ ⟨⟨_, rfl, .inl rfl⟩, trivial⟩ rfl rfl) | (apply call_gate 76; exact stp_callR hIn (by as_aux_lemma => kernel_rfl) rfl rfl ⟨rfl, rfl, rfl, trivial⟩ trivial rfl rfl) | (apply call_gate 76; exact stp_callR hIs (by as_aux_lemma => kernel_rfl) rfl rfl ⟨rfl, rfl, rfl, trivial⟩ trivial rfl rfl) | exact stp_sub rfl rfl rfl e0); apply run_step rfl; (exact stp_pickT rfl rfl rfl); apply run_step rfl; (exact stp_move rfl rfl); apply run_gYes rfl rfl rfl; (exact stp_move rfl rfl); apply run_gYes rfl rfl rfl; (exact stp_move rfl rfl); apply run_gYes rfl rfl rfl; (first | (apply call_gate 75; exact stp_callR hI (by as_aux_lemma => kernel_rfl) rfl rfl ⟨rfl, trivial⟩ ⟨⟨_, rfl, .inl rfl⟩, trivial⟩ rfl rfl) | (apply call_gate 77; exact stp_callR hA (by as_aux_lemma => kernel_rfl) rfl rfl ⟨rfl, trivial⟩ ⟨⟨_, rfl, .inl rfl⟩, trivial⟩ rfl rfl) | (apply call_gate 78; exact stp_callR hR (by as_aux_lemma => kernel_rfl) rfl rfl ⟨rfl, trivial⟩ ⟨⟨_, rfl, .inl rfl⟩, trivial⟩ rfl rfl) | (apply call_gate 76; exact stp_callR hIn (by as_aux_lemma => kernel_rfl) rfl rfl ⟨rfl, rfl, rfl, trivial⟩ trivial rfl rfl) | (apply call_gate 76; exact stp_callR hIs (by as_aux_lemma => kernel_rfl) rfl rfl ⟨rfl, rfl, rfl, trivial⟩ trivial rfl rfl) | exact stp_sub rfl rfl rfl e0); apply run_gYes rfl rfl rfl; (first | (apply call_gate 75; exact stp_callR hI (by as_aux_lemma => kernel_rfl) rfl rfl ⟨rfl, trivial⟩ ⟨⟨_, rfl, .inl rfl⟩, trivial⟩ rfl rfl) | (apply call_gate 77; exact stp_callR hA (by as_aux_lemma => kernel_rfl) rfl rfl ⟨rfl, trivial⟩ ⟨⟨_, rfl, .inl rfl⟩, trivial⟩ rfl rfl) | (apply call_gate 78; exact stp_callR hR (by as_aux_lemma => kernel_rfl) rfl rfl ⟨rfl, trivial⟩ ⟨⟨_, rfl, .inl rfl⟩, trivial⟩ rfl rfl) | (apply call_gate 76; exact stp_callR hIn (by as_aux_lemma => kernel_rfl) rfl rfl ⟨rfl, rfl, rfl, trivial⟩ trivial rfl rfl) | (apply call_gate 76; exact stp_callR hIs (by as_aux_lemma => kernel_rfl) rfl rfl ⟨rfl, rfl, rfl, trivial⟩ trivial rfl rfl) | exact stp_sub rfl rfl rfl e0); apply run_gYes rfl rfl rfl; (first | (apply call_gate 75; exact stp_callR hI (by as_aux_lemma => kernel_rfl) rfl rfl ⟨rfl, trivial⟩ ⟨⟨_, rfl, .inl rfl⟩, trivial⟩ rfl rfl) | (apply call_gate 77; exact stp_callR hA (by as_aux_lemma => kernel_rfl) rfl rfl ⟨rfl, trivial⟩ ⟨⟨_, rfl, .inl rfl⟩, trivial⟩ rfl rfl) | (apply call_gate 78; exact stp_callR hR (by as_aux_lemma => kernel_rfl) rfl rfl ⟨rfl, trivial⟩ ⟨⟨_, rfl, .inl rfl⟩, trivial⟩ rfl rfl) | (apply call_gate 76; exact stp_callR hIn (by as_aux_lemma => kernel_rfl) rfl rfl ⟨rfl, rfl, rfl, trivial⟩ trivial rfl rfl) | (apply call_gate 76; exact stp_callR hIs (by as_aux_lemma => kernel_rfl) rfl rfl ⟨rfl, rfl, rfl, trivial⟩ trivial rfl rfl) | exact stp_sub rfl rfl rfl e0); apply run_gYes rfl rfl rfl; (exact stp_not rfl rfl); apply run_step rfl; (exact stp_pickT rfl rfl rfl); refine run_nil ?_; refine fin_seq ?_)
  refine goes_cond rfl (fun e => by cases e) (fun _ => ?_)
  (refine goes_skip ?_; refine fin_seq ?_; refine goes_seq ?_; refine goes_seq ?_; refine goes_region ?_; apply run_step rfl; (exact stp_move rfl rfl); apply run_step rfl; (exact stp_move rfl rfl); apply run_step rfl; ((apply call_gate 71; exact stp_callR hC (by as_aux_lemma => kernel_rfl) rfl rfl ⟨rfl, rfl, trivial⟩ ⟨⟨_, rfl, .inl rfl⟩, trivial⟩ rfl rfl)); apply run_step rfl; (exact stp_assign rfl rfl); refine run_nil ?_; refine fin_seq ?_; refine goes_seq ?_; refine goes_region ?_; apply run_step rfl; (exact stp_move rfl rfl); apply run_step rfl; (exact stp_bin rfl rfl rfl rfl); refine run_nil ?_; refine fin_seq ?_)
  refine goes_cond rfl (fun e => by cases e) (fun _ => ?_)
  (refine goes_skip ?_; refine fin_seq ?_; refine goes_seq ?_; refine goes_region ?_; apply run_step rfl; (first | (apply call_gate 79; exact stp_callN hKs (by as_aux_lemma => kernel_rfl) rfl rfl ⟨rfl, rfl, trivial⟩ ⟨⟨_, rfl, .inl rfl⟩, trivial⟩ rfl rfl rfl) | exact stp_lit0 (E := 91) (k := 2) rfl (by as_aux_lemma => kernel_rfl)); apply run_step rfl; (exact stp_move rfl rfl); apply run_step rfl; (exact stp_move rfl rfl); apply run_step rfl; (first | (apply call_gate 79; exact stp_callN hKs (by as_aux_lemma => kernel_rfl) rfl rfl ⟨rfl, rfl, trivial⟩ ⟨⟨_, rfl, .inl rfl⟩, trivial⟩ rfl rfl rfl) | exact stp_lit0 (E := 91) (k := 2) rfl (by as_aux_lemma => kernel_rfl)); apply run_step rfl; (exact stp_assign rfl rfl); apply run_step rfl; (exact stp_assign rfl rfl); refine run_nil ?_; refine fin_seq ?_; refine goes_seq ?_; refine goes_seq ?_; refine goes_region ?_; apply run_step rfl; (exact stp_assign rfl rfl); refine run_nil ?_; refine fin_seq ?_; refine goes_block ?_)
  refine goes_loop (fun j : Nat => St.of [(0, o1 (.sl 1003 0 zs.length)), (1, vv (I6 k)), (2, vv (I6 q)), (9, o1 (.sl 34 0 (kqT zs k q j).length)), (10, o1 (.sl 37 0 K)), (11, vv (I6 j))] [(1003, wRo zs), (34, kdOw (kqT zs k q j)), (37, leOw (setsL zs k))]) (fun j => j ≤ K) (fun j => K - j) 0 (Nat.zero_le _) (Wk.of ⟨rfl, rfl, rfl, rfl, rfl, rfl, trivial⟩ ⟨rfl, rfl, rfl, trivial⟩ trivial) ?_
  rintro j hj
  (refine goes_seq ?_; refine goes_seq ?_; refine goes_region ?_; apply run_step rfl; (exact stp_move rfl rfl); apply run_step rfl; (exact stp_move rfl rfl); apply run_step rfl; (exact stp_len rfl rfl rfl (by as_aux_lemma => kernel_rfl)); apply run_step rfl; (exact stp_bin rfl rfl rfl rfl); refine run_nil ?_; refine fin_seq ?_)
  refine goes_if rfl (fun hlj => ?_) (fun hlj => ?_)
  · have hjK : j < K := by omega
    have hat := kAt_eq h4 k j
    have h32 := kAt_lt h4 k j
    have hkl := kqT_len zs k q j
    obtain ⟨kk, hkk⟩ : ∃ kk, kAt zs k j = kk := ⟨_, rfl⟩
    have hst : kqT zs k q (j + 1) = kqT zs k q j ++ (if pcN kk = q then [((kk : Int), ((cntN zs k kk : Nat) : Int))] else []) := by rw [← hkk]; rfl
    rw [hkk] at hat h32
    have hgk : (ivals (setsL zs k))[j]? = some (I6 (kk : Int)) := by rw [ivals_get (by omega), hat]
    have hF := cntS_fc zs zs.length k kk rfl hd hf hk2 (by omega)
    have hln : (0 + (kqT zs k q j).length) * 2 = (ivals (pflat (kqT zs k q j))).length := by rw [ivals_len, pflat_len]; omega
    have hap : (ivals (pflat (kqT zs k q j))).drop (0 * 2) ++ ((ivals [(kk : Int), ((cntN zs k kk : Nat) : Int)]).drop (0 * 2)).take (1 * 2) = ivals (pflat (kqT zs k q j ++ [((kk : Int), ((cntN zs k kk : Nat) : Int))])) := by simp [ivals, pflat]
    have e8 : IntKind.i64.wrap ((j : Int) + 1) = ((j + 1 : Nat) : Int) := by rw [IntWalk.i64_in _ (by omega)]; omega
    have hO := bitsS_fc kk h32
    by_cases hpq : pcN kk = q
    · have hbe := binEq (pcN kk : Int) (q : Int) true (by rw [hpq]; simp)
      rw [if_pos hpq] at hst
      have hsl2 : (kqT zs k q (j + 1)).length = (kqT zs k q j).length + 1 := by rw [hst]; simp
      (refine goes_skip ?_; refine fin_seq ?_; refine goes_seq ?_; refine goes_block ?_; refine goes_seq ?_; refine goes_region ?_; apply run_step rfl; (exact stp_move rfl rfl); apply run_step rfl; (exact stp_move rfl rfl); apply run_step rfl; (first | exact stp_ix (j := j) rfl rfl rfl rfl rfl (by as_aux_lemma => kernel_rfl) rfl hjK hil | exact stp_loadV rfl (by as_aux_lemma => kernel_rfl) rfl rfl rfl hgk | (apply call_gate 80; exact stp_callR hO (by as_aux_lemma => kernel_rfl) rfl rfl ⟨rfl, trivial⟩ trivial rfl rfl) | exact stp_bin rfl rfl rfl hbe); apply run_step rfl; (first | exact stp_ix (j := j) rfl rfl rfl rfl rfl (by as_aux_lemma => kernel_rfl) rfl hjK hil | exact stp_loadV rfl (by as_aux_lemma => kernel_rfl) rfl rfl rfl hgk | (apply call_gate 80; exact stp_callR hO (by as_aux_lemma => kernel_rfl) rfl rfl ⟨rfl, trivial⟩ trivial rfl rfl) | exact stp_bin rfl rfl rfl hbe); apply run_step rfl; (first | exact stp_ix (j := j) rfl rfl rfl rfl rfl (by as_aux_lemma => kernel_rfl) rfl hjK hil | exact stp_loadV rfl (by as_aux_lemma => kernel_rfl) rfl rfl rfl hgk | (apply call_gate 80; exact stp_callR hO (by as_aux_lemma => kernel_rfl) rfl rfl ⟨rfl, trivial⟩ trivial rfl rfl) | exact stp_bin rfl rfl rfl hbe); apply run_step rfl; (exact stp_move rfl rfl); apply run_step rfl; (first | exact stp_ix (j := j) rfl rfl rfl rfl rfl (by as_aux_lemma => kernel_rfl) rfl hjK hil | exact stp_loadV rfl (by as_aux_lemma => kernel_rfl) rfl rfl rfl hgk | (apply call_gate 80; exact stp_callR hO (by as_aux_lemma => kernel_rfl) rfl rfl ⟨rfl, trivial⟩ trivial rfl rfl) | exact stp_bin rfl rfl rfl hbe); refine run_nil ?_; refine fin_seq ?_)
      refine goes_cond rfl (fun _ => ?_) (fun e => by cases e)
      (skip)
      apply goes_draw 14 [] [[], [], [], [1, 2], [1, 2, 3], [], [], [], [], [7, 8], [7, 8, 9], [5, 6, 7, 8, 9, 10], [1, 2, 3, 4, 5, 6, 7, 8, 9, 10, 11], [1, 2, 3, 4, 5, 6, 7, 8, 9, 10, 11, 12], [0, 1, 2, 3, 4, 5, 6, 7, 8, 9, 10, 11, 12, 13], [0, 1, 2, 3, 4, 5, 6, 7, 8, 9, 10, 11, 12, 13, 14]] [51, 52, 53, 54, 55, 56, 57, 58, 59, 60, 61, 62, 63, 64] [64] (by kernel_rfl) (by kernel_rfl)
      · (apply draw_put rfl; (intro S1 hS; exact stp_move rfl (hS.op rfl)))
        (apply draw_put rfl; (intro S1 hS; exact stp_move rfl (hS.op rfl)))
        (apply draw_put rfl; (intro S1 hS; exact stp_move rfl (hS.op rfl)))
        (apply draw_put rfl; (intro S1 hS; exact stp_ix (j := j) rfl (hS.op rfl) (hS.op rfl) (hS.ch _ _ rfl) rfl (by as_aux_lemma => kernel_rfl) rfl hjK hil))
        (apply draw_put rfl; (intro S1 hS; exact stp_loadV rfl (by as_aux_lemma => kernel_rfl) (hS.op rfl) (hS.ch _ _ rfl) rfl hgk))
        (apply draw_put rfl; (intro S1 hS; exact stp_move rfl (hS.op rfl)))
        (apply draw_put rfl; (intro S1 hS; exact stp_move rfl (hS.op rfl)))
        (apply draw_put rfl; (intro S1 hS; exact stp_move rfl (hS.op rfl)))
        (apply draw_put rfl; (intro S1 hS; exact stp_move rfl (hS.op rfl)))
        (apply draw_put rfl; (intro S1 hS; exact stp_ix (j := j) rfl (hS.op rfl) (hS.op rfl) (hS.ch _ _ rfl) rfl (by as_aux_lemma => kernel_rfl) rfl hjK hil))
        (apply draw_put rfl; (intro S1 hS; exact stp_loadV rfl (by as_aux_lemma => kernel_rfl) (hS.op rfl) (hS.ch _ _ rfl) rfl hgk))
        (apply draw_put rfl; (intro S1 hS; apply call_gate 81; exact stp_callR hF (by as_aux_lemma => kernel_rfl) rfl (opL_le hS rfl) ⟨rfl, rfl, rfl, trivial⟩ (allIn_le hS ⟨⟨_, rfl, .inl rfl⟩, trivial⟩) rfl rfl))
        (apply draw_put rfl; (intro S1 hS; exact stp_build2 rfl (hS.op rfl) (hS.op rfl) (by as_aux_lemma => kernel_rfl)))
        (apply draw_new rfl; (intro S1 hS; exact stp_litP (E := 91) rfl (by as_aux_lemma => kernel_rfl) (hS.op rfl)))
        exact Draw.nil
      · rfl
      refine rest_join (St.of [(0, o1 (.sl 1003 0 zs.length)), (1, vv (I6 k)), (2, vv (I6 q)), (9, o1 (.sl 34 0 ((kqT zs k q j).length + 1))), (10, o1 (.sl 37 0 K)), (11, vv (I6 j))] [(1003, wRo zs), (34, kdOw ((kqT zs k q j) ++ [((kk : Int), ((cntN zs k kk : Nat) : Int))])), (37, leOw (setsL zs k))]) ?_ ?_
      · ((apply rest_one 14 rfl (by as_aux_lemma => kernel_rfl) rfl rfl; (exact stp_append (k := 2) (m := 1) (E := 91) rfl (by as_aux_lemma => kernel_rfl) rfl rfl rfl rfl rfl hln rfl (reads_vals (k := 2) rfl rfl rfl rfl (Nat.le_refl _)) (by omega) (by intro v hv; simp [ivals] at hv; rcases hv with rfl | rfl <;> rfl) (by omega))); (apply rest_one 15 rfl (by as_aux_lemma => kernel_rfl) rfl rfl; (exact stp_assign rfl rfl)); (refine rest_done (by as_aux_lemma => kernel_rfl) ?_; exact fin_join (Wk.of ⟨rfl, rfl, rfl, rfl, rfl, rfl, trivial⟩ ⟨rfl, congrArg (fun z => some (⟨true, 91, 2, .vals z⟩ : Ch)) hap, rfl, trivial⟩ trivial)))
      (refine fin_block ?_; refine fin_seq ?_; refine goes_region ?_; apply run_step rfl; (exact stp_move rfl rfl); apply run_step rfl; (exact stp_add rfl rfl rfl e8); apply run_step rfl; (exact stp_assign rfl rfl); refine run_nil ?_)
      exact fin_round (j + 1) (by omega) (by omega) (Wk.of ⟨rfl, rfl, rfl, congrArg (fun z => some (o1 (.sl 34 0 z))) hsl2.symm, rfl, rfl, trivial⟩ ⟨rfl, congrArg (fun z => some (kdOw z)) hst.symm, rfl, trivial⟩ trivial)
    · have hbe := binEq (pcN kk : Int) (q : Int) false (by rw [decide_eq_false_iff_not]; omega)
      rw [if_neg hpq, List.append_nil] at hst
      (refine goes_skip ?_; refine fin_seq ?_; refine goes_seq ?_; refine goes_block ?_; refine goes_seq ?_; refine goes_region ?_; apply run_step rfl; (exact stp_move rfl rfl); apply run_step rfl; (exact stp_move rfl rfl); apply run_step rfl; (first | exact stp_ix (j := j) rfl rfl rfl rfl rfl (by as_aux_lemma => kernel_rfl) rfl hjK hil | exact stp_loadV rfl (by as_aux_lemma => kernel_rfl) rfl rfl rfl hgk | (apply call_gate 80; exact stp_callR hO (by as_aux_lemma => kernel_rfl) rfl rfl ⟨rfl, trivial⟩ trivial rfl rfl) | exact stp_bin rfl rfl rfl hbe); apply run_step rfl; (first | exact stp_ix (j := j) rfl rfl rfl rfl rfl (by as_aux_lemma => kernel_rfl) rfl hjK hil | exact stp_loadV rfl (by as_aux_lemma => kernel_rfl) rfl rfl rfl hgk | (apply call_gate 80; exact stp_callR hO (by as_aux_lemma => kernel_rfl) rfl rfl ⟨rfl, trivial⟩ trivial rfl rfl) | exact stp_bin rfl rfl rfl hbe); apply run_step rfl; (first | exact stp_ix (j := j) rfl rfl rfl rfl rfl (by as_aux_lemma => kernel_rfl) rfl hjK hil | exact stp_loadV rfl (by as_aux_lemma => kernel_rfl) rfl rfl rfl hgk | (apply call_gate 80; exact stp_callR hO (by as_aux_lemma => kernel_rfl) rfl rfl ⟨rfl, trivial⟩ trivial rfl rfl) | exact stp_bin rfl rfl rfl hbe); apply run_step rfl; (exact stp_move rfl rfl); apply run_step rfl; (first | exact stp_ix (j := j) rfl rfl rfl rfl rfl (by as_aux_lemma => kernel_rfl) rfl hjK hil | exact stp_loadV rfl (by as_aux_lemma => kernel_rfl) rfl rfl rfl hgk | (apply call_gate 80; exact stp_callR hO (by as_aux_lemma => kernel_rfl) rfl rfl ⟨rfl, trivial⟩ trivial rfl rfl) | exact stp_bin rfl rfl rfl hbe); refine run_nil ?_; refine fin_seq ?_)
      refine goes_cond rfl (fun e => by cases e) (fun _ => ?_)
      (refine goes_skip ?_; refine fin_block ?_; refine fin_seq ?_; refine goes_region ?_; apply run_step rfl; (exact stp_move rfl rfl); apply run_step rfl; (exact stp_add rfl rfl rfl e8); apply run_step rfl; (exact stp_assign rfl rfl); refine run_nil ?_)
      exact fin_round (j + 1) (by omega) (by omega) (Wk.of ⟨rfl, rfl, rfl, congrArg (fun z => some (o1 (.sl 34 0 (List.length z)))) hst.symm, rfl, rfl, trivial⟩ ⟨rfl, congrArg (fun z => some (kdOw z)) hst.symm, rfl, trivial⟩ trivial)
  · obtain rfl : j = K := by omega
    (refine goes_exit ?_; refine fin_exit_then ?_; refine fin_exit_then ?_; refine fin_exit_eq ?_; refine fin_seq ?_; refine goes_seq ?_; refine goes_region ?_; apply run_step rfl; (exact stp_move rfl rfl); apply run_step rfl; (exact stp_assign rfl rfl); apply run_step rfl; (exact stp_assign rfl rfl); refine run_nil ?_; refine fin_seq ?_; refine goes_ret ?_)
    exact fin_ret2 (.inl rfl) rfl (.tmp rfl) (.tmp rfl) ⟨rfl, trivial⟩ trivial
set_option maxRecDepth 100000 in
set_option maxHeartbeats 2000000 in
theorem krS_no (zs : List Int) (m s : Int) (hn : zs.length ≤ 4398046511104) (h0 : krC zs m s ≠ 0) :
    FC Try.prog 26 [(1003, wRo zs)] [o1 (.sl 1003 0 zs.length), vv (I6 m), vv (I6 s)] [] (noKd (krC zs m s)) [] := by
  have hI := diagS_fc zs zs.length rfl hn
  have hC := codeS_fc zs zs.length m rfl hn
  unfold krC at h0 ⊢
  refine fc_enter (nt := 67) Try.func26 rfl rfl (by simp) fun w0 ω0 => ?_
  cases hd : isDiag zs with
  | false =>
    rw [hd] at hI
    rw [ringC_no hd] at hC
    rw [if_neg (by simp)]
    (refine goes_seq ?_; refine goes_region ?_; apply run_step rfl; (exact stp_assign rfl rfl); apply run_step rfl; (exact stp_assign rfl rfl); refine run_nil ?_; refine fin_seq ?_; refine goes_seq ?_; refine goes_seq ?_; refine goes_region ?_; apply run_step rfl; (exact stp_move rfl rfl); apply run_step rfl; (first | (apply call_gate 75; exact stp_callR hI (by as_aux_lemma => kernel_rfl) rfl rfl ⟨rfl, trivial⟩ ⟨⟨_, rfl, .inl rfl⟩, trivial⟩ rfl rfl) | (apply call_gate 77; exact stp_callR hA (by as_aux_lemma => kernel_rfl) rfl rfl ⟨rfl, trivial⟩ ⟨⟨_, rfl, .inl rfl⟩, trivial⟩ rfl rfl) | (apply call_gate 78; exact stp_callR hR (by as_aux_lemma => kernel_rfl) rfl rfl ⟨rfl, trivial⟩ ⟨⟨_, rfl, .inl rfl⟩, trivial⟩ rfl rfl) | (apply call_gate 76; exact stp_callR hIn (by as_aux_lemma => kernel_rfl) rfl rfl ⟨rfl, rfl, rfl, trivial⟩ trivial rfl rfl) | (apply call_gate 76; exact stp_callR hIs (by as_aux_lemma => kernel_rfl) rfl rfl ⟨rfl, rfl, rfl, trivial⟩ trivial rfl rfl)); apply run_step rfl; (exact stp_move rfl rfl); apply run_gNo rfl rfl rfl rfl rfl; apply run_gNo rfl rfl rfl rfl rfl; apply run_gNo rfl rfl rfl rfl rfl; apply run_gNo rfl rfl rfl rfl rfl; apply run_step rfl; (exact stp_pickF rfl rfl rfl); apply run_step rfl; (exact stp_move rfl rfl); apply run_gNo rfl rfl rfl rfl rfl; apply run_gNo rfl rfl rfl rfl rfl; apply run_gNo rfl rfl rfl rfl rfl; apply run_gNo rfl rfl rfl rfl rfl; apply run_gNo rfl rfl rfl rfl rfl; apply run_gNo rfl rfl rfl rfl rfl; apply run_step rfl; (exact stp_pickF rfl rfl rfl); refine run_nil ?_; refine fin_seq ?_)
    (repeat (apply run_gNoU rfl rfl rfl rfl rfl))
    (skip)
    refine goes_cond rfl (fun e => by cases e) (fun _ => ?_)
    (refine goes_skip ?_; refine fin_seq ?_; refine goes_seq ?_; refine goes_seq ?_; refine goes_region ?_; apply run_step rfl; (exact stp_move rfl rfl); apply run_step rfl; (exact stp_move rfl rfl); apply run_step rfl; ((apply call_gate 71; exact stp_callR hC (by as_aux_lemma => kernel_rfl) rfl rfl ⟨rfl, rfl, trivial⟩ ⟨⟨_, rfl, .inl rfl⟩, trivial⟩ rfl rfl)); apply run_step rfl; (exact stp_assign rfl rfl); refine run_nil ?_; refine fin_seq ?_; refine goes_seq ?_; refine goes_region ?_; apply run_step rfl; (exact stp_move rfl rfl); apply run_step rfl; (exact stp_bin rfl rfl rfl rfl); refine run_nil ?_; refine fin_seq ?_)
    refine goes_cond rfl (fun _ => ?_) (fun e => by cases e)
    (refine goes_seq ?_; refine goes_region ?_; apply run_step rfl; (exact stp_move rfl rfl); apply run_step rfl; (exact stp_assign rfl rfl); apply run_step rfl; (exact stp_assign rfl rfl); refine run_nil ?_; refine fin_seq ?_; refine goes_ret ?_; refine fin_ret_then ?_)
    exact fin_ret2 (.inl rfl) rfl (.tmp rfl) (.tmp rfl) trivial trivial
  | true =>
  rw [hd] at hI
  rw [hd, if_pos rfl] at h0
  rw [if_pos rfl]
  have hA := wholeS_fc zs zs.length rfl (isDiag_len hd)
  have hR := rankS_fc zs zs.length (isDiag_len hd)
  have hIn := in_fc m 0 (allN zs)
  have hIs := in_fc s 0 zs.length
  have h4 := isDiag_len hd
  have e0 : IntKind.i64.wrap (((zs.length + 1 : Nat) : Int) - 1) = (zs.length : Int) := by rw [IntWalk.i64_in _ (by omega)]; omega
  cases hb1 : inB m 0 (allN zs) with
  | false =>
    rw [hb1] at hIn
    rw [ringC_out hd hb1] at hC
    rw [Bool.false_and, if_neg (by simp)]
    (refine goes_seq ?_; refine goes_region ?_; apply run_step rfl; (exact stp_assign rfl rfl); apply run_step rfl; (exact stp_assign rfl rfl); refine run_nil ?_; refine fin_seq ?_; refine goes_seq ?_; refine goes_seq ?_; refine goes_region ?_; apply run_step rfl; (exact stp_move rfl rfl); apply run_step rfl; (first | (apply call_gate 75; exact stp_callR hI (by as_aux_lemma => kernel_rfl) rfl rfl ⟨rfl, trivial⟩ ⟨⟨_, rfl, .inl rfl⟩, trivial⟩ rfl rfl) | (apply call_gate 77; exact stp_callR hA (by as_aux_lemma => kernel_rfl) rfl rfl ⟨rfl, trivial⟩ ⟨⟨_, rfl, .inl rfl⟩, trivial⟩ rfl rfl) | (apply call_gate 78; exact stp_callR hR (by as_aux_lemma => kernel_rfl) rfl rfl ⟨rfl, trivial⟩ ⟨⟨_, rfl, .inl rfl⟩, trivial⟩ rfl rfl) | (apply call_gate 76; exact stp_callR hIn (by as_aux_lemma => kernel_rfl) rfl rfl ⟨rfl, rfl, rfl, trivial⟩ trivial rfl rfl) | (apply call_gate 76; exact stp_callR hIs (by as_aux_lemma => kernel_rfl) rfl rfl ⟨rfl, rfl, rfl, trivial⟩ trivial rfl rfl)); apply run_step rfl; (exact stp_move rfl rfl); apply run_gYes rfl rfl rfl; (exact stp_move rfl rfl); apply run_gYes rfl rfl rfl; (exact stp_move rfl rfl); apply run_gYes rfl rfl rfl; (first | (apply call_gate 75; exact stp_callR hI (by as_aux_lemma => kernel_rfl) rfl rfl ⟨rfl, trivial⟩ ⟨⟨_, rfl, .inl rfl⟩, trivial⟩ rfl rfl) | (apply call_gate 77; exact stp_callR hA (by as_aux_lemma => kernel_rfl) rfl rfl ⟨rfl, trivial⟩ ⟨⟨_, rfl, .inl rfl⟩, trivial⟩ rfl rfl) | (apply call_gate 78; exact stp_callR hR (by as_aux_lemma => kernel_rfl) rfl rfl ⟨rfl, trivial⟩ ⟨⟨_, rfl, .inl rfl⟩, trivial⟩ rfl rfl) | (apply call_gate 76; exact stp_callR hIn (by as_aux_lemma => kernel_rfl) rfl rfl ⟨rfl, rfl, rfl, trivial⟩ trivial rfl rfl) | (apply call_gate 76; exact stp_callR hIs (by as_aux_lemma => kernel_rfl) rfl rfl ⟨rfl, rfl, rfl, trivial⟩ trivial rfl rfl)); apply run_gYes rfl rfl rfl; (first | (apply call_gate 75; exact stp_callR hI (by as_aux_lemma => kernel_rfl) rfl rfl ⟨rfl, trivial⟩ ⟨⟨_, rfl, .inl rfl⟩, trivial⟩ rfl rfl) | (apply call_gate 77; exact stp_callR hA (by as_aux_lemma => kernel_rfl) rfl rfl ⟨rfl, trivial⟩ ⟨⟨_, rfl, .inl rfl⟩, trivial⟩ rfl rfl) | (apply call_gate 78; exact stp_callR hR (by as_aux_lemma => kernel_rfl) rfl rfl ⟨rfl, trivial⟩ ⟨⟨_, rfl, .inl rfl⟩, trivial⟩ rfl rfl) | (apply call_gate 76; exact stp_callR hIn (by as_aux_lemma => kernel_rfl) rfl rfl ⟨rfl, rfl, rfl, trivial⟩ trivial rfl rfl) | (apply call_gate 76; exact stp_callR hIs (by as_aux_lemma => kernel_rfl) rfl rfl ⟨rfl, rfl, rfl, trivial⟩ trivial rfl rfl)); apply run_step rfl; (exact stp_pickT rfl rfl rfl); apply run_step rfl; (exact stp_move rfl rfl); apply run_gNo rfl rfl rfl rfl rfl; apply run_gNo rfl rfl rfl rfl rfl; apply run_gNo rfl rfl rfl rfl rfl; apply run_gNo rfl rfl rfl rfl rfl; apply run_gNo rfl rfl rfl rfl rfl; apply run_gNo rfl rfl rfl rfl rfl; apply run_step rfl; (exact stp_pickF rfl rfl rfl); refine run_nil ?_; refine fin_seq ?_)
    (repeat (apply run_gNoU rfl rfl rfl rfl rfl))
    (skip)
    refine goes_cond rfl (fun e => by cases e) (fun _ => ?_)
    (refine goes_skip ?_; refine fin_seq ?_; refine goes_seq ?_; refine goes_seq ?_; refine goes_region ?_; apply run_step rfl; (exact stp_move rfl rfl); apply run_step rfl; (exact stp_move rfl rfl); apply run_step rfl; ((apply call_gate 71; exact stp_callR hC (by as_aux_lemma => kernel_rfl) rfl rfl ⟨rfl, rfl, trivial⟩ ⟨⟨_, rfl, .inl rfl⟩, trivial⟩ rfl rfl)); apply run_step rfl; (exact stp_assign rfl rfl); refine run_nil ?_; refine fin_seq ?_; refine goes_seq ?_; refine goes_region ?_; apply run_step rfl; (exact stp_move rfl rfl); apply run_step rfl; (exact stp_bin rfl rfl rfl rfl); refine run_nil ?_; refine fin_seq ?_)
    refine goes_cond rfl (fun _ => ?_) (fun e => by cases e)
    (refine goes_seq ?_; refine goes_region ?_; apply run_step rfl; (exact stp_move rfl rfl); apply run_step rfl; (exact stp_assign rfl rfl); apply run_step rfl; (exact stp_assign rfl rfl); refine run_nil ?_; refine fin_seq ?_; refine goes_ret ?_; refine fin_ret_then ?_)
    exact fin_ret2 (.inl rfl) rfl (.tmp rfl) (.tmp rfl) trivial trivial
  | true =>
  rw [hb1] at hIn
  cases hb2 : inB s 0 zs.length with
  | false =>
    rw [hb2] at hIs
    rw [Bool.and_false, if_neg (by simp)]
    (refine goes_seq ?_; refine goes_region ?_; apply run_step rfl; (exact stp_assign rfl rfl); apply run_step rfl; (exact stp_assign rfl rfl); refine run_nil ?_; refine fin_seq ?_; refine goes_seq ?_; refine goes_seq ?_; refine goes_region ?_; apply run_step rfl; (exact stp_move rfl rfl); apply run_step rfl; (first | (apply call_gate 75; exact stp_callR hI (by as_aux_lemma => kernel_rfl) rfl rfl ⟨rfl, trivial⟩ ⟨⟨_, rfl, .inl rfl⟩, trivial⟩ rfl rfl) | (apply call_gate 77; exact stp_callR hA (by as_aux_lemma => kernel_rfl) rfl rfl ⟨rfl, trivial⟩ ⟨⟨_, rfl, .inl rfl⟩, trivial⟩ rfl rfl) | (apply call_gate 78; exact stp_callR hR (by as_aux_lemma => kernel_rfl) rfl rfl ⟨rfl, trivial⟩ ⟨⟨_, rfl, .inl rfl⟩, trivial⟩ rfl rfl) | (apply call_gate 76; exact stp_callR hIn (by as_aux_lemma => kernel_rfl) rfl rfl ⟨rfl, rfl, rfl, trivial⟩ trivial rfl rfl) | (apply call_gate 76; exact stp_callR hIs (by as_aux_lemma => kernel_rfl) rfl rfl ⟨rfl, rfl, rfl, trivial⟩ trivial rfl rfl) | exact stp_sub rfl rfl rfl e0); apply run_step rfl; (exact stp_move rfl rfl); apply run_gYes rfl rfl rfl; (exact stp_move rfl rfl); apply run_gYes rfl rfl rfl; (exact stp_move rfl rfl); apply run_gYes rfl rfl rfl; (first | (apply call_gate 75; exact stp_callR hI (by as_aux_lemma => kernel_rfl) rfl rfl ⟨rfl, trivial⟩ ⟨⟨_, rfl, .inl rfl⟩, trivial⟩ rfl rfl) | (apply call_gate 77; exact stp_callR hA (by as_aux_lemma => kernel_rfl) rfl rfl ⟨rfl, trivial⟩ ⟨⟨_, rfl, .inl rfl⟩, trivial⟩ rfl rfl) | (apply call_gate 78; exact stp_callR hR (by as_aux_lemma => kernel_rfl) rfl rfl ⟨rfl, trivial⟩ ⟨⟨_, rfl, .inl rfl⟩, trivial⟩ rfl rfl) | (apply call_gate 76; exact stp_callR hIn (by as_aux_lemma => kernel_rfl) rfl rfl ⟨rfl, rfl, rfl, trivial⟩ trivial rfl rfl) | (apply call_gate 76; exact stp_callR hIs (by as_aux_lemma => kernel_rfl) rfl rfl ⟨rfl, rfl, rfl, trivial⟩ trivial rfl rfl) | exact stp_sub rfl rfl rfl e0); apply run_gYes rfl rfl rfl; (first | (apply call_gate 75; exact stp_callR hI (by as_aux_lemma => kernel_rfl) rfl rfl ⟨rfl, trivial⟩ ⟨⟨_, rfl, .inl rfl⟩, trivial⟩ rfl rfl) | (apply call_gate 77; exact stp_callR hA (by as_aux_lemma => kernel_rfl) rfl rfl ⟨rfl, trivial⟩ ⟨⟨_, rfl, .inl rfl⟩, trivial⟩ rfl rfl) | (apply call_gate 78; exact stp_callR hR (by as_aux_lemma => kernel_rfl) rfl rfl ⟨rfl, trivial⟩ ⟨⟨_, rfl, .inl rfl⟩, trivial⟩ rfl rfl) | (apply call_gate 76; exact stp_callR hIn (by as_aux_lemma => kernel_rfl) rfl rfl ⟨rfl, rfl, rfl, trivial⟩ trivial rfl rfl) | (apply call_gate 76; exact stp_callR hIs (by as_aux_lemma => kernel_rfl) rfl rfl ⟨rfl, rfl, rfl, trivial⟩ trivial rfl rfl) | exact stp_sub rfl rfl rfl e0); apply run_step rfl; (exact stp_pickT rfl rfl rfl); apply run_step rfl; (exact stp_move rfl rfl); apply run_gYes rfl rfl rfl; (exact stp_move rfl rfl); apply run_gYes rfl rfl rfl; (exact stp_move rfl rfl); apply run_gYes rfl rfl rfl; (first | (apply call_gate 75; exact stp_callR hI (by as_aux_lemma => kernel_rfl) rfl rfl ⟨rfl, trivial⟩ ⟨⟨_, rfl, .inl rfl⟩, trivial⟩ rfl rfl) | (apply call_gate 77; exact stp_callR hA (by as_aux_lemma => kernel_rfl) rfl rfl ⟨rfl, trivial⟩ ⟨⟨_, rfl, .inl rfl⟩, trivial⟩ rfl rfl) | (apply call_gate 78; exact stp_callR hR (by as_aux_lemma => kernel_rfl) rfl rfl ⟨rfl, trivial⟩ ⟨⟨_, rfl, .inl rfl⟩, trivial⟩ rfl rfl) | (apply call_gate 76; exact stp_callR hIn (by as_aux_lemma => kernel_rfl) rfl rfl ⟨rfl, rfl, rfl, trivial⟩ trivial rfl rfl) | (apply call_gate 76; exact stp_callR hIs (by as_aux_lemma => kernel_rfl) rfl rfl ⟨rfl, rfl, rfl, trivial⟩ trivial rfl rfl) | exact stp_sub rfl rfl rfl e0); apply run_gYes rfl rfl rfl; (first | (apply call_gate 75; exact stp_callR hI (by as_aux_lemma => kernel_rfl) rfl rfl ⟨rfl, trivial⟩ ⟨⟨_, rfl, .inl rfl⟩, trivial⟩ rfl rfl) | (apply call_gate 77; exact stp_callR hA (by as_aux_lemma => kernel_rfl) rfl rfl ⟨rfl, trivial⟩ ⟨⟨_, rfl, .inl rfl⟩, trivial⟩ rfl rfl) | (apply call_gate 78; exact stp_callR hR (by as_aux_lemma => kernel_rfl) rfl rfl ⟨rfl, trivial⟩ ⟨⟨_, rfl, .inl rfl⟩, trivial⟩ rfl rfl) | (apply call_gate 76; exact stp_callR hIn (by as_aux_lemma => kernel_rfl) rfl rfl ⟨rfl, rfl, rfl, trivial⟩ trivial rfl rfl) | (apply call_gate 76; exact stp_callR hIs (by as_aux_lemma => kernel_rfl) rfl rfl ⟨rfl, rfl, rfl, trivial⟩ trivial rfl rfl) | exact stp_sub rfl rfl rfl e0); apply run_gYes rfl rfl rfl; (first | (apply call_gate 75; exact stp_callR hI (by as_aux_lemma => kernel_rfl) rfl rfl ⟨rfl, trivial⟩ ⟨⟨_, rfl, .inl rfl⟩, trivial⟩ rfl rfl) | (apply call_gate 77; exact stp_callR hA (by as_aux_lemma => kernel_rfl) rfl rfl ⟨rfl, trivial⟩ ⟨⟨_, rfl, .inl rfl⟩, trivial⟩ rfl rfl) | (apply call_gate 78; exact stp_callR hR (by as_aux_lemma => kernel_rfl) rfl rfl ⟨rfl, trivial⟩ ⟨⟨_, rfl, .inl rfl⟩, trivial⟩ rfl rfl) | (apply call_gate 76; exact stp_callR hIn (by as_aux_lemma => kernel_rfl) rfl rfl ⟨rfl, rfl, rfl, trivial⟩ trivial rfl rfl) | (apply call_gate 76; exact stp_callR hIs (by as_aux_lemma => kernel_rfl) rfl rfl ⟨rfl, rfl, rfl, trivial⟩ trivial rfl rfl) | exact stp_sub rfl rfl rfl e0); apply run_gYes rfl rfl rfl; (exact stp_not rfl rfl); apply run_step rfl; (exact stp_pickT rfl rfl rfl); refine run_nil ?_; refine fin_seq ?_)
    refine goes_cond rfl (fun _ => ?_) (fun e => by cases e)
    (refine goes_seq ?_; refine goes_region ?_; apply run_step rfl; (exact stp_assign rfl rfl); apply run_step rfl; (exact stp_assign rfl rfl); refine run_nil ?_; refine fin_seq ?_; refine goes_ret ?_; refine fin_ret_then ?_)
    exact fin_ret2 (.inl rfl) rfl (.tmp rfl) (.tmp rfl) trivial trivial
  | true =>
  rw [hb2] at hIs
  rw [hb1, hb2, if_pos (by rfl)] at h0
  rw [if_pos (by rfl)]
  (refine goes_seq ?_; refine goes_region ?_; apply run_step rfl; (exact stp_assign rfl rfl); apply run_step rfl; (exact stp_assign rfl rfl); refine run_nil ?_; refine fin_seq ?_; refine goes_seq ?_; refine goes_seq ?_; refine goes_region ?_; apply run_step rfl; (exact stp_move rfl rfl); apply run_step rfl; (first | (apply call_gate 75; exact stp_callR hI (by as_aux_lemma => kernel_rfl) rfl rfl ⟨rfl, trivial⟩ ⟨⟨_, rfl, .inl rfl⟩, trivial⟩ rfl rfl) | (apply call_gate 77; exact stp_callR hA (by as_aux_lemma => kernel_rfl) rfl rfl ⟨rfl, trivial⟩ ⟨⟨_, rfl, .inl rfl⟩, trivial⟩ rfl rfl) | (apply call_gate 78; exact stp_callR hR (by as_aux_lemma => kernel_rfl) rfl rfl ⟨rfl, trivial⟩ ⟨⟨_, rfl, .inl rfl⟩, trivial⟩ rfl rfl) | (apply call_gate 76; exact stp_callR hIn (by as_aux_lemma => kernel_rfl) rfl rfl ⟨rfl, rfl, rfl, trivial⟩ trivial rfl rfl) | (apply call_gate 76; exact stp_callR hIs (by as_aux_lemma => kernel_rfl) rfl rfl ⟨rfl, rfl, rfl, trivial⟩ trivial rfl rfl) | exact stp_sub rfl rfl rfl e0); apply run_step rfl; (exact stp_move rfl rfl); apply run_gYes rfl rfl rfl; (exact stp_move rfl rfl); apply run_gYes rfl rfl rfl; (exact stp_move rfl rfl); apply run_gYes rfl rfl rfl; (first | (apply call_gate 75; exact stp_callR hI (by as_aux_lemma => kernel_rfl) rfl rfl ⟨rfl, trivial⟩ ⟨⟨_, rfl, .inl rfl⟩, trivial⟩ rfl rfl) | (apply call_gate 77; exact stp_callR hA (by as_aux_lemma => kernel_rfl) rfl rfl ⟨rfl, trivial⟩ ⟨⟨_, rfl, .inl rfl⟩, trivial⟩ rfl rfl) | (apply call_gate 78; exact stp_callR hR (by as_aux_lemma => kernel_rfl) rfl rfl ⟨rfl, trivial⟩ ⟨⟨_, rfl, .inl rfl⟩, trivial⟩ rfl rfl) | (apply call_gate 76; exact stp_callR hIn (by as_aux_lemma => kernel_rfl) rfl rfl ⟨rfl, rfl, rfl, trivial⟩ trivial rfl rfl) | (apply call_gate 76; exact stp_callR hIs (by as_aux_lemma => kernel_rfl) rfl rfl ⟨rfl, rfl, rfl, trivial⟩ trivial rfl rfl) | exact stp_sub rfl rfl rfl e0); apply run_gYes rfl rfl rfl; (first | (apply call_gate 75; exact stp_callR hI (by as_aux_lemma => kernel_rfl) rfl rfl ⟨rfl, trivial⟩ ⟨⟨_, rfl, .inl rfl⟩, trivial⟩ rfl rfl) | (apply call_gate 77; exact stp_callR hA (by as_aux_lemma => kernel_rfl) rfl rfl ⟨rfl, trivial⟩ ⟨⟨_, rfl, .inl rfl⟩, trivial⟩ rfl rfl) | (apply call_gate 78; exact stp_callR hR (by as_aux_lemma => kernel_rfl) rfl rfl ⟨rfl, trivial⟩ ⟨⟨_, rfl, .inl rfl⟩, trivial⟩ rfl rfl) | (apply call_gate 76; exact stp_callR hIn (by as_aux_lemma => kernel_rfl) rfl rfl ⟨rfl, rfl, rfl, trivial⟩ trivial rfl rfl) | (apply call_gate 76; exact stp_callR hIs (by as_aux_lemma => kernel_rfl) rfl rfl ⟨rfl, rfl, rfl, trivial⟩ trivial rfl rfl) | exact stp_sub rfl rfl rfl e0); apply run_step rfl; (exact stp_pickT rfl rfl rfl); apply run_step rfl; (exact stp_move rfl rfl); apply run_gYes rfl rfl rfl; (exact stp_move rfl rfl); apply run_gYes rfl rfl rfl; (exact stp_move rfl rfl); apply run_gYes rfl rfl rfl; (first | (apply call_gate 75; exact stp_callR hI (by as_aux_lemma => kernel_rfl) rfl rfl ⟨rfl, trivial⟩ ⟨⟨_, rfl, .inl rfl⟩, trivial⟩ rfl rfl) | (apply call_gate 77; exact stp_callR hA (by as_aux_lemma => kernel_rfl) rfl rfl ⟨rfl, trivial⟩ ⟨⟨_, rfl, .inl rfl⟩, trivial⟩ rfl rfl) | (apply call_gate 78; exact stp_callR hR (by as_aux_lemma => kernel_rfl) rfl rfl ⟨rfl, trivial⟩ ⟨⟨_, rfl, .inl rfl⟩, trivial⟩ rfl rfl) | (apply call_gate 76; exact stp_callR hIn (by as_aux_lemma => kernel_rfl) rfl rfl ⟨rfl, rfl, rfl, trivial⟩ trivial rfl rfl) | (apply call_gate 76; exact stp_callR hIs (by as_aux_lemma => kernel_rfl) rfl rfl ⟨rfl, rfl, rfl, trivial⟩ trivial rfl rfl) | exact stp_sub rfl rfl rfl e0); apply run_gYes rfl rfl rfl; (first | (apply call_gate 75; exact stp_callR hI (by as_aux_lemma => kernel_rfl) rfl rfl ⟨rfl, trivial⟩ ⟨⟨_, rfl, .inl rfl⟩, trivial⟩ rfl rfl) | (apply call_gate 77; exact stp_callR hA (by as_aux_lemma => kernel_rfl) rfl rfl ⟨rfl, trivial⟩ ⟨⟨_, rfl, .inl rfl⟩, trivial⟩ rfl rfl) | (apply call_gate 78; exact stp_callR hR (by as_aux_lemma => kernel_rfl) rfl rfl ⟨rfl, trivial⟩ ⟨⟨_, rfl, .inl rfl⟩, trivial⟩ rfl rfl) | (apply call_gate 76; exact stp_callR hIn (by as_aux_lemma => kernel_rfl) rfl rfl ⟨rfl, rfl, rfl, trivial⟩ trivial rfl rfl) | (apply call_gate 76; exact stp_callR hIs (by as_aux_lemma => kernel_rfl) rfl rfl ⟨rfl, rfl, rfl, trivial⟩ trivial rfl rfl) | exact stp_sub rfl rfl rfl e0); apply run_gYes rfl rfl rfl; (first | (apply call_gate 75; exact stp_callR hI (by as_aux_lemma => kernel_rfl) rfl rfl ⟨rfl, trivial⟩ ⟨⟨_, rfl, .inl rfl⟩, trivial⟩ rfl rfl) | (apply call_gate 77; exact stp_callR hA (by as_aux_lemma => kernel_rfl) rfl rfl ⟨rfl, trivial⟩ ⟨⟨_, rfl, .inl rfl⟩, trivial⟩ rfl rfl) | (apply call_gate 78; exact stp_callR hR (by as_aux_lemma => kernel_rfl) rfl rfl ⟨rfl, trivial⟩ ⟨⟨_, rfl, .inl rfl⟩, trivial⟩ rfl rfl) | (apply call_gate 76; exact stp_callR hIn (by as_aux_lemma => kernel_rfl) rfl rfl ⟨rfl, rfl, rfl, trivial⟩ trivial rfl rfl) | (apply call_gate 76; exact stp_callR hIs (by as_aux_lemma => kernel_rfl) rfl rfl ⟨rfl, rfl, rfl, trivial⟩ trivial rfl rfl) | exact stp_sub rfl rfl rfl e0); apply run_gYes rfl rfl rfl; (exact stp_not rfl rfl); apply run_step rfl; (exact stp_pickT rfl rfl rfl); refine run_nil ?_; refine fin_seq ?_)
  refine goes_cond rfl (fun e => by cases e) (fun _ => ?_)
  (refine goes_skip ?_; refine fin_seq ?_; refine goes_seq ?_; refine goes_seq ?_; refine goes_region ?_; apply run_step rfl; (exact stp_move rfl rfl); apply run_step rfl; (exact stp_move rfl rfl); apply run_step rfl; ((apply call_gate 71; exact stp_callR hC (by as_aux_lemma => kernel_rfl) rfl rfl ⟨rfl, rfl, trivial⟩ ⟨⟨_, rfl, .inl rfl⟩, trivial⟩ rfl rfl)); apply run_step rfl; (exact stp_assign rfl rfl); refine run_nil ?_; refine fin_seq ?_; refine goes_seq ?_; refine goes_region ?_; apply run_step rfl; (exact stp_move rfl rfl); apply run_step rfl; (exact stp_bin rfl rfl rfl rfl); refine run_nil ?_; refine fin_seq ?_)
  refine goes_cond rfl (fun _ => ?_) (fun e => absurd (by simpa using e) h0)
  (refine goes_seq ?_; refine goes_region ?_; apply run_step rfl; (exact stp_move rfl rfl); apply run_step rfl; (exact stp_assign rfl rfl); apply run_step rfl; (exact stp_assign rfl rfl); refine run_nil ?_; refine fin_seq ?_; refine goes_ret ?_; refine fin_ret_then ?_)
  exact fin_ret2 (.inl rfl) rfl (.tmp rfl) (.tmp rfl) trivial trivial
theorem kinds_or_nil {f : FuncId} {x : Nm} {zs : List Int} {m s : Int} (hy : zs.length ≤ 4398046511104 → krC zs m s = 0 → FC Try.prog f [(1003, wRo zs)] [o1 (.sl 1003 0 zs.length), vv (I6 m), vv (I6 s)] [(x, kdOw (kqL zs m.toNat s.toNat))] (.tup [.one (.sl x 0 (kqL zs m.toNat s.toNat).length), .one (.val (I6 0))]) [])
    (hno : zs.length ≤ 4398046511104 → krC zs m s ≠ 0 → FC Try.prog f [(1003, wRo zs)] [o1 (.sl 1003 0 zs.length), vv (I6 m), vv (I6 s)] [] (noKd (krC zs m s)) [])
    {E : Nat} {lo hi : Nat} {v : Value} (w : World) (h : OwnS E w lo hi v zs) :
    Calls Try.prog f #[v, .int .i64 m, .int .i64 s] w fun e w' => ∃ r, e = .returned (.tuple #[r, .int .i64 (krC zs m s)]) ∧ OwnK 91 w' w.heap.size w'.heap.size r (krR zs m s) ∧ Below w.heap.size w w' := by
  unfold krR
  by_cases h0 : krC zs m s = 0
  · have h4 := isDiag_len (krC_zero h0).2.1
    have hB := setsL_len h4 m.toNat
    have hB2 := kqT_len zs m.toNat s.toNat ((setsL zs m.toNat).length - 1)
    have hB3 : (kqL zs m.toNat s.toNat).length ≤ 32 := by unfold kqL; omega
    rw [if_pos h0, h0]
    refine (callSII m s (fun k1 => hy k1 h0) h).mono ?_
    rintro e w' ⟨v, η, ω, rfl, hd, hm, hb, hn⟩
    obtain ⟨u, u', rfl, h1, h2⟩ := den_tup2 hd
    have h2 : u' = I6 0 := h2
    subst h2
    exact ⟨u, rfl, toK (y := x) (E := 91) hm hn (by simp [lk]) h1 (by omega), hb⟩
  · rw [if_neg h0]
    refine (two_vals (callSII m s (fun k1 => hno k1 h0) h)).mono ?_
    rintro e w' ⟨rfl, hb⟩
    exact ⟨_, rfl, ownK_nil, hb⟩
theorem krR_small (zs : List Int) (m s : Int) : (krR zs m s).length ≤ 32 := by
  unfold krR
  split
  · rename_i h
    have hB := setsL_len (isDiag_len (krC_zero h).2.1) m.toNat
    have hB2 := kqT_len zs m.toNat s.toNat ((setsL zs m.toNat).length - 1)
    unfold kqL; omega
  · simp
theorem api_specKr {E : Nat} {lo hi : Nat} {v : Value} {zs : List Int} (m s : Int) (w : World) (h : OwnS E w lo hi v zs) :
    Calls Try.prog 26 #[v, .int .i64 m, .int .i64 s] w fun e w' => ∃ r, e = .returned (.tuple #[r, .int .i64 (krC zs m s)]) ∧ OwnK 91 w' w.heap.size w'.heap.size r (krR zs m s) ∧ Below w.heap.size w w' :=
  kinds_or_nil (x := 34) (krS_yes zs m s) (krS_no zs m s) w h
theorem api_implKr {E : Nat} {lo hi : Nat} {v : Value} {zs : List Int} (m s : Int) (w : World) (h : OwnS E w lo hi v zs) :
    Calls Try.prog 27 #[v, .int .i64 m, .int .i64 s] w fun e w' => ∃ r, e = .returned (.tuple #[r, .int .i64 (krC zs m s)]) ∧ OwnK 91 w' w.heap.size w'.heap.size r (krR zs m s) ∧ Below w.heap.size w w' :=
  kinds_or_nil (x := 2500) (krI_yes zs m s) (krI_no zs m s) w h
end Go.Proofs.Ytnfkhgamnapgmaa

/- The walk of FnExactKindsOfRank: true, whatever the arguments. Written by genwalk.py. -/
namespace Go.Proofs.Ytnfkhgamnapgmaa
open Go.RowKit

set_option maxHeartbeats 3200000 in
theorem walkKindsOfRank {a0 : Option Addr} {n0 c0 : Nat} {zs : List Int} (m : Int) (s : Int) (w : World) (h0 : Ints w a0 n0 zs) (_hw : (Lit.int .i64 m).wf = true) (_hw2 : (Lit.int .i64 s).wf = true) :
    Calls Try.prog 5 #[.slice a0 n0 c0, .int .i64 m, .int .i64 s] w fun e w' => e = .returned (.bool true) ∧ Below w.heap.size w w' := by
  have hsz := krR_small zs m s
  have B0 : Below w.heap.size w w := Below.refl _ _
  have hb0 := h0.2.1
  by_cases hs0 : n0 ≤ 1048576
  · have g0 : decide ((1048576 : Int) < n0) = false := by simp; omega
    have hl0 : zs.length = n0 := h0.1
    have HL0 := Lib.hid hl0
    clear hl0
    go_enter Try.func5, Try.ntmps5
    go_wp2_with fail
    refine (law_toS _ (show RdS _ _ _ from ⟨_, _, _, rfl, (h0.below B0)⟩) (by rw [HL0.out]; omega)).mono ?_
    rintro e w1 ⟨u1, rfl, o1, b1⟩
    have s1 := b1.size
    have B1 : Below w.heap.size w w1 := B0.trans (b1.mono B0.size)
    go_wp2_with fail
    refine (api_specKr m s _ o1 ).mono ?_
    rintro e w2 ⟨u2_0, rfl, o2_0, b2⟩
    have s2 := b2.size
    have B2 : Below w.heap.size w w2 := B1.trans (b2.mono B1.size)
    go_wp2_with fail
    refine (law_toS _ (show RdS _ _ _ from ⟨_, _, _, rfl, (h0.below B2)⟩) (by rw [HL0.out]; omega)).mono ?_
    rintro e w3 ⟨u3, rfl, o3, b3⟩
    have s3 := b3.size
    have B3 : Below w.heap.size w w3 := B2.trans (b3.mono B2.size)
    go_wp2_with fail
    refine (api_implKr m s _ o3 ).mono ?_
    rintro e w4 ⟨u4_0, rfl, o4_0, b4⟩
    have s4 := b4.size
    have B4 : Below w.heap.size w w4 := B3.trans (b4.mono B3.size)
    go_wp2_with fail
    refine (law_eqK _ o4_0.rd ((o2_0.below b3).below b4).rd).mono ?_
    rintro e w5 ⟨rfl, b5⟩
    have s5 := b5.size
    have B5 : Below w.heap.size w w5 := B4.trans (b5.mono B4.size)
    go_wp2_with fail
    refine (law_toS _ (show RdS _ _ _ from ⟨_, _, _, rfl, (h0.below B5)⟩) (by rw [HL0.out]; omega)).mono ?_
    rintro e w6 ⟨u6, rfl, o6, b6⟩
    have s6 := b6.size
    have B6 : Below w.heap.size w w6 := B5.trans (b6.mono B5.size)
    go_wp2_with fail
    refine (law_eqS _ (((o3.below b4).below b5).below b6).rd o6.rd).mono ?_
    rintro e w7 ⟨rfl, b7⟩
    have s7 := b7.size
    have B7 : Below w.heap.size w w7 := B6.trans (b7.mono B6.size)
    go_wp2_with fail
    refine (law_markS (1) _ ((((o3.below b4).below b5).below b6).below b7) (by omega) (by omega)).mono ?_
    rintro e w8 ⟨rfl, o8, q8⟩
    have s8 := q8.size
    have B8 : Below w.heap.size w w8 := B7.trans (q8.below (by omega) B7.size)
    go_wp2_with fail
    refine (law_eqK _ ((((o4_0.below b5).below b6).below b7).only q8 (by omega)).rd ((((((o2_0.below b3).below b4).below b5).below b6).below b7).only q8 (by omega)).rd).mono ?_
    rintro e w9 ⟨rfl, b9⟩
    have s9 := b9.size
    have B9 : Below w.heap.size w w9 := B8.trans (b9.mono B8.size)
    go_wp2_with fail
    refine (law_markK (1) _ (((((o4_0.below b5).below b6).below b7).only q8 (by omega)).below b9) (by omega) (by omega)).mono ?_
    rintro e w10 ⟨rfl, o10, q10⟩
    have s10 := q10.size
    have B10 : Below w.heap.size w w10 := B9.trans (q10.below (by omega) B9.size)
    go_wp2_with fail
    refine (law_heldK (1) _ o10.rd (by omega) (by omega)).mono ?_
    rintro e w11 ⟨rfl, b11⟩
    have s11 := b11.size
    have B11 : Below w.heap.size w w11 := B10.trans (b11.mono B10.size)
    go_wp2_with fail
    refine (law_toS _ (show RdS _ _ _ from ⟨_, _, _, rfl, (h0.below B11)⟩) (by rw [HL0.out]; omega)).mono ?_
    rintro e w12 ⟨u12, rfl, o12, b12⟩
    have s12 := b12.size
    have B12 : Below w.heap.size w w12 := B11.trans (b12.mono B11.size)
    go_wp2_with fail
    refine (api_implKr m s _ o12 ).mono ?_
    rintro e w13 ⟨u13_0, rfl, o13_0, b13⟩
    have s13 := b13.size
    have B13 : Below w.heap.size w w13 := B12.trans (b13.mono B12.size)
    go_wp2_with fail
    refine (law_eqK _ o13_0.rd (((((((((((o2_0.below b3).below b4).below b5).below b6).below b7).only q8 (by omega)).below b9).only q10 (by omega)).below b11).below b12).below b13).rd).mono ?_
    rintro e w14 ⟨rfl, b14⟩
    have s14 := b14.size
    have B14 : Below w.heap.size w w14 := B13.trans (b14.mono B13.size)
    go_wp2_with fail
    refine (law_heldK (1) _ ((((o10.below b11).below b12).below b13).below b14).rd (by omega) (by omega)).mono ?_
    rintro e w15 ⟨rfl, b15⟩
    have s15 := b15.size
    have B15 : Below w.heap.size w w15 := B14.trans (b15.mono B14.size)
    go_wp2
    go_ret
    exact ⟨rfl, B15⟩
  · have g0 : decide ((1048576 : Int) < n0) = true := by simp; omega
    go_enter Try.func5, Try.ntmps5
    go_wp2
    go_ret
    exact ⟨rfl, B0⟩
end Go.Proofs.Ytnfkhgamnapgmaa
