/- FacesAtVertex. guards: (gen_fv.py) -/
import Derived.Test.YtnfkhgamnapgmaaPart8
import Derived.Test.YtnfkhgamnapgmaaPart2
import Derived.Test.YtnfkhgamnapgmaaPart1
namespace Go.Proofs.Ytnfkhgamnapgmaa
open Go.RowKit

section
variable {P : Program} {nt : Nat} {S : St} {t : Nat} {ty : TypeId} {ps : String} {af : Array Edge} {gd : Option (Nat × Bool)} {x y : Operand}
theorem stp_quoL {xt yt : TypeId} {a b : Nat} (ht : Nat.blt t nt = true) (hx : S.op x = some (vv (I6 (a : Int)))) (hy : S.op y = some (vv (I6 (b : Int)))) (hb : 0 < b) (ha : a < 9000000000000000000) :
    Stp P nt ⟨some t, .binOp .quo xt x y yt, ty, ps, af, gd⟩ S (S.put t (vv (I6 ((a / b : Nat) : Int)))) :=
  Stp.pure rfl ht fun _ _ η _ s w hs => by
    refine ⟨I6 ((a / b : Nat) : Int), ?_, rfl⟩
    have hle := Nat.div_le_self a b
    have e : Op.intDiv .quo .i64 (a : Int) (b : Int) = pure (I6 ((a / b : Nat) : Int)) := by
      have h1 : (a : Int).tdiv (b : Int) = ((a / b : Nat) : Int) := rfl
      have h2 : ∀ q : Nat, q ≤ a → IntKind.i64.wrap (q : Int) = (q : Int) := fun q hq => IntWalk.i64_in _ (by omega)
      have h3 : ¬ (b : Int) = 0 := by omega
      unfold Op.intDiv
      rw [if_neg h3]
      show pure (Value.int .i64 (IntKind.i64.wrap ((a : Int).tdiv (b : Int)))) = _
      rw [h1, h2 _ hle]
    simp [execOp, hs.opV hx, hs.opV hy, eqGuard, binOp, e]
end
theorem rank_head (zs : List Int) (r : Nat) : ∃ tl, rankN zs r 0 (allN zs + 1) = 0 :: tl := by
  unfold rankN
  rw [List.range_succ_eq_map, List.filter_cons_of_pos (by rw [adm_zero]; rfl)]
  exact ⟨_, rfl⟩
theorem sets_head (zs : List Int) (r k : Nat) : ∃ tl, setsN zs r (k + 1) = 0 :: tl := by
  obtain ⟨tl, h⟩ := rank_head zs r
  unfold setsN
  rw [List.range_succ_eq_map, List.flatMap_cons, h]
  exact ⟨_, rfl⟩
theorem kAt_zero (zs : List Int) (r : Nat) : kAt zs r 0 = 0 := by
  obtain ⟨tl, h⟩ := sets_head zs r (zs.length + 1)
  unfold kAt setsL
  rw [h]; rfl
theorem sets_two {zs : List Int} (h4 : zs.length ≤ 4) {r : Nat} (ha : admB zs (allN zs) r = true) : 1 ≤ (setsL zs r).length - 1 := by
  obtain ⟨tl, h⟩ := sets_head zs r zs.length
  unfold setsL
  rw [sets_split h4 ha, h]; simp
theorem kAt_pos {zs : List Int} (h4 : zs.length ≤ 4) {r i : Nat} (hi : i + 1 < (setsL zs r).length) : 0 < kAt zs r (i + 1) := by
  obtain ⟨tl, h⟩ := sets_head zs r (zs.length + 1)
  have hn : (setsN zs r (zs.length + 2)).Nodup := by
    rw [(sets_perm h4 r).nodup_iff]
    exact List.Pairwise.filter _ List.nodup_range
  unfold kAt setsL
  unfold setsL at hi
  rw [h] at hn hi ⊢
  have hlt : i < tl.length := by simpa using hi
  rw [iget_lt (by simpa using hlt), List.getElem_map, List.getElem_cons_succ, Int.toNat_natCast]
  have hm := List.getElem_mem hlt
  rcases Nat.eq_zero_or_pos (tl[i]) with h0 | h0
  · rw [h0] at hm
    exact absurd hm (List.nodup_cons.1 hn).1
  · exact h0
theorem pc_pos {s : Nat} (h0 : 0 < s) (h : s < 32) : 0 < pcN s := by
  have : ∀ s, s < 32 → 0 < s → 0 < pcN s := by decide
  exact this s h h0
theorem verN_le {zs : List Int} (hd : isDiag zs = true) (k l : Nat) : verN zs k l ≤ 33554432 := by
  have h1 := (ordN_eq hd l).2.2
  unfold verN
  exact Nat.le_trans (Nat.div_le_self _ _) h1
/-- the number of all vertices -/
theorem cnt0_pos {zs : List Int} (hd : isDiag zs = true) (hf : finB zs (allN zs) = true) (k : Nat) : 0 < cntN zs k 0 := by
  have h1 := ordN_mono hd hf (fixN zs k 0)
  have h2 := (ordN_eq hd (fixN zs k 0)).2.1
  unfold cntN
  rw [ordN_zero hd, Nat.div_one]
  exact Nat.div_pos h1 h2
/-- incidences of the first kinds, by rank -/
def fvT (zs : List Int) (r : Nat) : Nat → List Int
  | 0 => List.replicate (zs.length + 1) 0
  | i + 1 => (fvT zs r i).set (pcN (kAt zs r i)) (iget (fvT zs r i) (pcN (kAt zs r i)) + (cntN zs r (kAt zs r i) * verN zs r (kAt zs r i) : Nat))
theorem fvT_len (zs : List Int) (r : Nat) : ∀ i, (fvT zs r i).length = zs.length + 1
  | 0 => by simp [fvT]
  | i + 1 => by rw [fvT, List.length_set]; exact fvT_len zs r i
theorem prod_le {zs : List Int} (hd : isDiag zs = true) (r k : Nat) : cntN zs r k * verN zs r k ≤ 1125899906842624 := by
  have := Nat.mul_le_mul (cntN_le hd r k) (verN_le hd r k)
  omega
theorem fvT_in {zs : List Int} (hd : isDiag zs = true) (r : Nat) : ∀ i j, 0 ≤ iget (fvT zs r i) j ∧ iget (fvT zs r i) j ≤ (i : Int) * 1125899906842624
  | 0, j => by rw [fvT, iget_rep0]; omega
  | i + 1, j => by
    have ih := fvT_in hd r i
    have hc := prod_le hd r (kAt zs r i)
    rw [fvT]
    by_cases e : j = pcN (kAt zs r i)
    · subst e
      by_cases hl : pcN (kAt zs r i) < (fvT zs r i).length
      · rw [iget_set_eq hl]; have := ih (pcN (kAt zs r i)); omega
      · rw [List.set_eq_of_length_le (by omega)]; have := ih (pcN (kAt zs r i)); omega
    · rw [iget_set_ne (fun h => e h.symm)]; have := ih j; omega
/-- the first j of them divided -/
def fvQ (A : List Int) (q : Nat) : Nat → List Int
  | 0 => A
  | j + 1 => (fvQ A q j).set j (((iget A j).toNat / q : Nat) : Int)
theorem fvQ_len (A : List Int) (q : Nat) : ∀ j, (fvQ A q j).length = A.length
  | 0 => rfl
  | j + 1 => by rw [fvQ, List.length_set]; exact fvQ_len A q j
theorem fvQ_get (A : List Int) (q : Nat) : ∀ j k, j ≤ k → iget (fvQ A q j) k = iget A k
  | 0, _, _ => rfl
  | j + 1, k, h => by rw [fvQ, iget_set_ne (by omega)]; exact fvQ_get A q j k (by omega)
theorem fvQ_tail (x : Int) (A : List Int) (q : Nat) : ∀ j, ∃ y, fvQ (x :: A) q (j + 1) = y :: fvQ A q j
  | 0 => ⟨_, rfl⟩
  | j + 1 => by
    obtain ⟨y, h⟩ := fvQ_tail x A q j
    exact ⟨y, by rw [fvQ, h]; rfl⟩
def fvL (zs : List Int) (r : Nat) : List Int := fvT zs r ((setsL zs r).length - 1)
/-- the answer -/
def fvA (zs : List Int) (r : Nat) : List Int := fvQ (fvL zs r).tail (cntN zs r 0) zs.length
theorem fvA_len (zs : List Int) (r : Nat) : (fvA zs r).length = zs.length := by unfold fvA fvL; rw [fvQ_len, List.length_tail, fvT_len]; omega
theorem fv_cons (zs : List Int) (r i : Nat) : fvT zs r i = iget (fvT zs r i) 0 :: (fvT zs r i).tail := by
  have := fvT_len zs r i
  cases h : fvT zs r i with
  | nil => rw [h] at this; simp at this
  | cons x l => rfl
theorem fv_end (zs : List Int) (r : Nat) : ∃ y, fvQ (fvL zs r) (cntN zs r 0) (zs.length + 1) = y :: fvA zs r := by
  have h := fv_cons zs r ((setsL zs r).length - 1)
  obtain ⟨y, hy⟩ := fvQ_tail (iget (fvL zs r) 0) (fvL zs r).tail (cntN zs r 0) zs.length
  exact ⟨y, by unfold fvA; rw [← hy]; exact congrArg (fun z => fvQ z _ _) h⟩
theorem tail_set {A : List Int} {p : Nat} {v : Int} (hp : 0 < p) : (A.set p v).tail = A.tail.set (p - 1) v := by
  cases A with
  | nil => rfl
  | cons x A =>
    obtain ⟨q, rfl⟩ : ∃ q, p = q + 1 := ⟨p - 1, by omega⟩
    rfl
theorem tail_get (A : List Int) (j : Nat) : iget A.tail j = iget A (j + 1) := by
  cases A with
  | nil => simp [iget]
  | cons x A => simp [iget]
theorem fv_one (zs : List Int) (r : Nat) : (fvT zs r 1).tail = List.replicate zs.length 0 := by
  have h0 : pcN 0 = 0 := rfl
  rw [fvT, kAt_zero, h0, fvT]
  rw [List.replicate_succ]; rfl
set_option maxRecDepth 100000 in
set_option maxHeartbeats 4000000 in
theorem fvI_yes (zs : List Int) (m : Int) (hn : zs.length ≤ 4398046511104) (h0 : ringC zs m = 0) :
    ∃ y, FC Try.prog 34 [(1003, wRo zs)] [o1 (.sl 1003 0 zs.length), vv (I6 m)] [(20, leOw (y :: fvA zs m.toNat))] (.tup [.one (.sl 20 1 zs.length), .one (.val (I6 0))]) [] := by
  have hC := ringI_fc zs zs.length m rfl hn
  rw [h0] at hC
  obtain ⟨hd, hf, k, rfl, hk, ha⟩ := ringC_zero h0
  have h4 := isDiag_len hd
  have hlt := allN_lt h4
  have hk2 : k < 1000 := by omega
  rw [Int.toNat_natCast]
  have hsl := setsL_len h4 k
  obtain ⟨K, hK⟩ : ∃ K, (setsL zs k).length - 1 = K := ⟨_, rfl⟩
  have hK1 := sets_pos h4 ha
  have hil : K ≤ (ivals (setsL zs k)).length := by rw [ivals_len]; omega
  have hS := (kindsI_fc zs zs.length k K rfl h4 hk2 hK (by omega)).nm [(1003, 1003), (8, 23)] (by kernel_rfl)
  have hS : FC Try.prog 86 [(1003, wRo zs)] [o1 (.sl 1003 0 zs.length), vv (I6 k)] [(23, leOw (setsL zs k))] (o1 (.sl 23 0 K)) [] := hS
  have e1 : IntKind.i64.wrap ((zs.length : Int) + 1) = ((zs.length + 1 : Nat) : Int) := by rw [IntWalk.i64_in _ (by omega)]; omega
  have hQ := cntI_fc zs zs.length k 0 rfl hd hf hk2 (by omega)
  have hq0 := cnt0_pos hd hf k
  obtain ⟨y, hy⟩ := fv_end zs k
  refine ⟨y, ?_⟩
  rw [← hy]
  refine fc_enter (nt := 64) Try.func34 rfl rfl (by simp) fun w0 ω0 => ?_
  (refine goes_seq ?_; refine goes_region ?_; apply run_step rfl; (exact stp_assign rfl rfl); apply run_step rfl; (exact stp_assign rfl rfl); refine run_nil ?_; refine fin_seq ?_; refine goes_seq ?_; refine goes_seq ?_; refine goes_region ?_; apply run_step rfl; (exact stp_move rfl rfl); apply run_step rfl; (exact stp_move rfl rfl); apply run_step rfl; ((apply call_gate 73; exact stp_callR hC (by as_aux_lemma => kernel_rfl) rfl rfl ⟨rfl, rfl, trivial⟩ ⟨⟨_, rfl, .inl rfl⟩, trivial⟩ rfl rfl)); apply run_step rfl; (exact stp_assign rfl rfl); refine run_nil ?_; refine fin_seq ?_; refine goes_seq ?_; refine goes_region ?_; apply run_step rfl; (exact stp_move rfl rfl); apply run_step rfl; (exact stp_bin rfl rfl rfl rfl); refine run_nil ?_; refine fin_seq ?_)
  refine goes_cond rfl (fun e => by cases e) (fun _ => ?_)
  (refine goes_skip ?_; refine fin_seq ?_; refine goes_seq ?_; refine goes_region ?_; apply run_step rfl; (exact stp_move rfl rfl); apply run_step rfl; (exact stp_len rfl rfl rfl (by as_aux_lemma => kernel_rfl)); apply run_step rfl; (first | exact stp_add rfl rfl rfl e1 | (apply call_gate 86; exact stp_callN hS (by as_aux_lemma => kernel_rfl) rfl rfl ⟨rfl, rfl, trivial⟩ ⟨⟨_, rfl, .inl rfl⟩, trivial⟩ rfl rfl rfl)); apply run_step rfl; (exact stp_makeI (E := 2) rfl (by as_aux_lemma => kernel_rfl) (by as_aux_lemma => kernel_rfl) rfl rfl rfl rfl (by omega)); apply run_step rfl; (exact stp_assign rfl rfl); refine run_nil ?_; refine fin_seq ?_; refine goes_seq ?_; refine goes_seq ?_; refine goes_region ?_; apply run_step rfl; (exact stp_move rfl rfl); apply run_step rfl; (exact stp_move rfl rfl); apply run_step rfl; (first | exact stp_add rfl rfl rfl e1 | (apply call_gate 86; exact stp_callN hS (by as_aux_lemma => kernel_rfl) rfl rfl ⟨rfl, rfl, trivial⟩ ⟨⟨_, rfl, .inl rfl⟩, trivial⟩ rfl rfl rfl)); apply run_step rfl; (exact stp_len rfl rfl rfl (by as_aux_lemma => kernel_rfl)); apply run_step rfl; (exact stp_move rfl rfl); refine run_nil ?_; refine fin_seq ?_; refine goes_block ?_)
  refine goes_loop (fun j : Nat => St.of [(0, o1 (.sl 1003 0 zs.length)), (1, vv (I6 k)), (7, o1 (.sl 20 0 (zs.length + 1))), (23, o1 (.sl 23 0 K)), (24, vv (I6 K)), (25, vv (I6 j))] [(1003, wRo zs), (20, leOw (fvT zs k j)), (23, leOw (setsL zs k))]) (fun j => j ≤ K) (fun j => K - j) 0 (Nat.zero_le _) (Wk.of ⟨rfl, rfl, rfl, rfl, rfl, rfl, trivial⟩ ⟨rfl, rfl, rfl, trivial⟩ trivial) ?_
  rintro j hj
  (refine goes_seq ?_; refine goes_region ?_; apply run_step rfl; (exact stp_bin rfl rfl rfl rfl); refine run_nil ?_; refine fin_seq ?_; refine goes_seq ?_)
  refine goes_if rfl (fun hlj => ?_) (fun hlj => ?_)
  · have hjK : j < K := by omega
    have hat := kAt_eq h4 k j
    have h32 := kAt_lt h4 k j
    have hpc := kAt_pc h4 ha (i := j) (by omega)
    have hcl := fvT_len zs k j
    have hcb := fvT_in hd k j
    obtain ⟨kk, hkk⟩ : ∃ kk, kAt zs k j = kk := ⟨_, rfl⟩
    have hst : fvT zs k (j + 1) = (fvT zs k j).set (pcN kk) (iget (fvT zs k j) (pcN kk) + (cntN zs k kk * verN zs k kk : Nat)) := by rw [← hkk]; rfl
    rw [hkk] at hat h32 hpc
    have hgk : (ivals (setsL zs k))[j]? = some (I6 (kk : Int)) := by rw [ivals_get (by omega), hat]
    have hcn := cntN_le hd k kk
    have hvn := verN_le hd k kk
    have hpr := prod_le hd k kk
    have hb1 := (hcb (pcN kk)).1
    have hb2 := (hcb (pcN kk)).2
    have e4 : IntKind.i64.wrap (((cntN zs k kk : Nat) : Int) * ((verN zs k kk : Nat) : Int)) = ((cntN zs k kk * verN zs k kk : Nat) : Int) := by rw [IntWalk.i64_in _ (by rw [← Int.natCast_mul]; omega), Int.natCast_mul]
    have e5 : IntKind.i64.wrap (iget (fvT zs k j) (pcN kk) + ((cntN zs k kk * verN zs k kk : Nat) : Int)) = iget (fvT zs k j) (pcN kk) + ((cntN zs k kk * verN zs k kk : Nat) : Int) := IntWalk.i64_in _ (by omega)
    have e8 : IntKind.i64.wrap ((j : Int) + 1) = ((j + 1 : Nat) : Int) := by rw [IntWalk.i64_in _ (by omega)]; omega
    have hF := cntI_fc zs zs.length k kk rfl hd hf hk2 (by omega)
    have hV := verI_fc zs zs.length k kk rfl hd hf hk2 (by omega)
    have hcur : (ivals (fvT zs k j))[pcN kk]? = some (I6 (iget (fvT zs k j) (pcN kk))) := ivals_get (by omega)
    have hpl : pcN kk < zs.length + 1 := by omega
    have hpil : zs.length + 1 ≤ (ivals (fvT zs k j)).length := by rw [ivals_len]; omega
    have hO := onesI_fc kk h32
    have hcu : IntKind.u64.wrap (kk : Int) = (kk : Int) := by rw [IntKind.wrap_u64]; omega
    (refine goes_skip ?_; refine fin_seq ?_; refine goes_seq ?_; refine goes_block ?_; refine goes_seq ?_; refine goes_region ?_; apply run_step rfl; (first | exact stp_ix (j := j) rfl rfl rfl rfl rfl (by as_aux_lemma => kernel_rfl) rfl hjK hil | exact stp_loadV rfl (by as_aux_lemma => kernel_rfl) rfl rfl rfl hgk); apply run_step rfl; (first | exact stp_ix (j := j) rfl rfl rfl rfl rfl (by as_aux_lemma => kernel_rfl) rfl hjK hil | exact stp_loadV rfl (by as_aux_lemma => kernel_rfl) rfl rfl rfl hgk); apply run_step rfl; (exact stp_assign rfl rfl); refine run_nil ?_; refine fin_seq ?_)
    apply goes_draw 16 [] [[], [], [1], [1, 2], [0, 1, 2, 3], [0, 1, 2, 3, 4], [], [], [], [1, 2, 3, 6, 7, 8], [], [], [], [1, 2, 3, 6, 7, 8, 9, 10, 11, 12], [1, 2, 3, 6, 7, 8, 9, 10, 11, 12, 13], [0, 1, 2, 3, 4, 5, 6, 7, 8, 9, 10, 11, 12, 13, 14], [0, 1, 2, 3, 4, 5, 6, 7, 8, 9, 10, 11, 12, 13, 14, 15], [0, 1, 2, 3, 4, 5, 6, 7, 8, 9, 10, 11, 12, 13, 14, 15, 16]] [29, 30, 31, 32, 33, 34, 35, 36, 37, 38, 39, 40, 41, 42, 43, 44] [] (by kernel_rfl) (by kernel_rfl)
    · (apply draw_put rfl; (intro S1 hS; exact stp_move rfl (hS.op rfl)))
      (apply draw_put rfl; (intro S1 hS; exact stp_move rfl (hS.op rfl)))
      (apply draw_put rfl; (intro S1 hS; exact stp_convN (k2 := .u64) rfl (hS.op rfl) (by as_aux_lemma => kernel_rfl) (by as_aux_lemma => kernel_rfl) hcu))
      (apply draw_put rfl; (intro S1 hS; apply call_gate 87; exact stp_callR hO (by as_aux_lemma => kernel_rfl) rfl (opL_le hS rfl) ⟨rfl, trivial⟩ trivial rfl rfl))
      (apply draw_put rfl; (intro S1 hS; exact stp_ix (j := pcN kk) rfl (hS.op rfl) (hS.op rfl) (hS.ch _ _ rfl) rfl (by as_aux_lemma => kernel_rfl) rfl hpl hpil))
      (apply draw_put rfl; (intro S1 hS; exact stp_loadV rfl (by as_aux_lemma => kernel_rfl) (hS.op rfl) (hS.ch _ _ rfl) rfl hcur))
      (apply draw_put rfl; (intro S1 hS; exact stp_move rfl (hS.op rfl)))
      (apply draw_put rfl; (intro S1 hS; exact stp_move rfl (hS.op rfl)))
      (apply draw_put rfl; (intro S1 hS; exact stp_move rfl (hS.op rfl)))
      (apply draw_put rfl; (intro S1 hS; apply call_gate 88; exact stp_callR hF (by as_aux_lemma => kernel_rfl) rfl (opL_le hS rfl) ⟨rfl, rfl, rfl, trivial⟩ (allIn_le hS ⟨⟨_, rfl, .inl rfl⟩, trivial⟩) rfl rfl))
      (apply draw_put rfl; (intro S1 hS; exact stp_move rfl (hS.op rfl)))
      (apply draw_put rfl; (intro S1 hS; exact stp_move rfl (hS.op rfl)))
      (apply draw_put rfl; (intro S1 hS; exact stp_move rfl (hS.op rfl)))
      (apply draw_put rfl; (intro S1 hS; apply call_gate 91; exact stp_callR hV (by as_aux_lemma => kernel_rfl) rfl (opL_le hS rfl) ⟨rfl, rfl, rfl, trivial⟩ (allIn_le hS ⟨⟨_, rfl, .inl rfl⟩, trivial⟩) rfl rfl))
      (apply draw_put rfl; (intro S1 hS; exact stp_mul rfl (hS.op rfl) (hS.op rfl) e4))
      (apply draw_put rfl; (intro S1 hS; exact stp_add rfl (hS.op rfl) (hS.op rfl) e5))
      exact Draw.nil
    · rfl
    refine rest_join (St.of [(0, o1 (.sl 1003 0 zs.length)), (1, vv (I6 k)), (7, o1 (.sl 20 0 (zs.length + 1))), (23, o1 (.sl 23 0 K)), (24, vv (I6 K)), (25, vv (I6 j))] [(1003, wRo zs), (20, leOw ((fvT zs k j).set (pcN kk) (iget (fvT zs k j) (pcN kk) + ((cntN zs k kk * verN zs k kk : Nat) : Int)))), (23, leOw (setsL zs k))]) ?_ ?_
    · ((apply rest_one 16 rfl (by as_aux_lemma => kernel_rfl) rfl rfl; (first | exact stp_ix (j := pcN kk) rfl rfl rfl rfl rfl (by as_aux_lemma => kernel_rfl) rfl hpl hpil | exact stp_stI rfl rfl rfl rfl rfl (by omega) (by as_aux_lemma => kernel_rfl))); (apply rest_one 17 rfl (by as_aux_lemma => kernel_rfl) rfl rfl; (first | exact stp_ix (j := pcN kk) rfl rfl rfl rfl rfl (by as_aux_lemma => kernel_rfl) rfl hpl hpil | exact stp_stI rfl rfl rfl rfl rfl (by omega) (by as_aux_lemma => kernel_rfl))); (refine rest_done (by as_aux_lemma => kernel_rfl) ?_; exact fin_join (Wk.of ⟨rfl, rfl, rfl, rfl, rfl, rfl, trivial⟩ ⟨rfl, rfl, rfl, trivial⟩ trivial)))
    (refine fin_block ?_; refine fin_seq ?_; refine goes_region ?_; apply run_step rfl; (exact stp_add rfl rfl rfl e8); apply run_step rfl; (exact stp_move rfl rfl); refine run_nil ?_)
    exact fin_round (j + 1) (by omega) (by omega) (Wk.of ⟨rfl, rfl, rfl, rfl, rfl, rfl, trivial⟩ ⟨rfl, congrArg (fun z => some (leOw z)) hst.symm, rfl, trivial⟩ trivial)
  · obtain rfl : j = K := by omega
    have hfl : fvT zs k j = fvL zs k := by unfold fvL; rw [hK]
    rw [hfl]
    (refine goes_exit ?_; refine fin_exit_then ?_; refine fin_exit_then ?_; refine fin_exit_eq ?_; refine fin_seq ?_; refine goes_seq ?_; refine goes_seq ?_; refine goes_region ?_; apply run_step rfl; (exact stp_move rfl rfl); apply run_step rfl; (exact stp_len rfl rfl rfl (by as_aux_lemma => kernel_rfl)); apply run_step rfl; (exact stp_move rfl rfl); refine run_nil ?_; refine fin_seq ?_; refine goes_block ?_)
    refine goes_loop (fun j : Nat => St.of [(0, o1 (.sl 1003 0 zs.length)), (1, vv (I6 k)), (7, o1 (.sl 20 0 (zs.length + 1))), (48, vv (I6 (zs.length + 1 : Nat))), (49, vv (I6 j))] [(1003, wRo zs), (20, leOw (fvQ (fvL zs k) (cntN zs k 0) j))]) (fun j => j ≤ zs.length + 1) (fun j => zs.length + 1 - j) 0 (Nat.zero_le _) (Wk.of ⟨rfl, rfl, rfl, rfl, rfl, trivial⟩ ⟨rfl, rfl, trivial⟩ trivial) ?_
    clear hlj hj hil hfl
    rintro j hj
    (refine goes_seq ?_; refine goes_region ?_; apply run_step rfl; (exact stp_bin rfl rfl rfl rfl); refine run_nil ?_; refine fin_seq ?_; refine goes_seq ?_)
    refine goes_if rfl (fun hlj => ?_) (fun hlj => ?_)
    · have hjl : j < zs.length + 1 := by omega
      have hlen : (fvL zs k).length = zs.length + 1 := fvT_len zs k _
      have hbd := fvT_in hd k ((setsL zs k).length - 1) j
      obtain ⟨a, ha'⟩ := Int.eq_ofNat_of_zero_le hbd.1
      have hgx : iget (fvL zs k) j = (a : Int) := ha'
      have hbig : a < 9000000000000000000 := by have := hbd.2; omega
      have hjil : zs.length + 1 ≤ (ivals (fvQ (fvL zs k) (cntN zs k 0) j)).length := by rw [ivals_len, fvQ_len]; omega
      have hgj : (ivals (fvQ (fvL zs k) (cntN zs k 0) j))[j]? = some (I6 (a : Int)) := by rw [ivals_get (by rw [fvQ_len]; omega), fvQ_get _ _ _ _ (Nat.le_refl _), hgx]
      have hst : fvQ (fvL zs k) (cntN zs k 0) (j + 1) = (fvQ (fvL zs k) (cntN zs k 0) j).set j ((a / cntN zs k 0 : Nat) : Int) := by rw [fvQ, hgx, Int.toNat_natCast]
      have hsl2 : j < (fvQ (fvL zs k) (cntN zs k 0) j).length := by rw [fvQ_len]; omega
      have e8 : IntKind.i64.wrap ((j : Int) + 1) = ((j + 1 : Nat) : Int) := by rw [IntWalk.i64_in _ (by omega)]; omega
      (refine goes_skip ?_; refine fin_seq ?_; refine goes_seq ?_; refine goes_block ?_; refine goes_seq ?_; refine goes_region ?_; apply run_step rfl; (exact stp_move rfl rfl); apply run_step rfl; (exact stp_assign rfl rfl); refine run_nil ?_; refine fin_seq ?_)
      apply goes_draw 8 [] [[], [], [0, 1], [0, 1, 2], [], [], [4, 5], [0, 1, 2, 3, 4, 5, 6], [0, 1, 2, 3, 4, 5, 6, 7], [0, 1, 2, 3, 4, 5, 6, 7, 8]] [52, 53, 54, 55, 56, 57, 58, 59] [] (by kernel_rfl) (by kernel_rfl)
      · (apply draw_put rfl; (intro S1 hS; exact stp_move rfl (hS.op rfl)))
        (apply draw_put rfl; (intro S1 hS; exact stp_move rfl (hS.op rfl)))
        (apply draw_put rfl; (intro S1 hS; exact stp_ix (j := j) rfl (hS.op rfl) (hS.op rfl) (hS.ch _ _ rfl) rfl (by as_aux_lemma => kernel_rfl) rfl hjl hjil))
        (apply draw_put rfl; (intro S1 hS; exact stp_loadV rfl (by as_aux_lemma => kernel_rfl) (hS.op rfl) (hS.ch _ _ rfl) rfl hgj))
        (apply draw_put rfl; (intro S1 hS; exact stp_move rfl (hS.op rfl)))
        (apply draw_put rfl; (intro S1 hS; exact stp_move rfl (hS.op rfl)))
        (apply draw_put rfl; (intro S1 hS; apply call_gate 88; exact stp_callR hQ (by as_aux_lemma => kernel_rfl) rfl (opL_le hS rfl) ⟨rfl, rfl, rfl, trivial⟩ (allIn_le hS ⟨⟨_, rfl, .inl rfl⟩, trivial⟩) rfl rfl))
        (apply draw_put rfl; (intro S1 hS; exact stp_quoL rfl (hS.op rfl) (hS.op rfl) hq0 hbig))
        exact Draw.nil
      · rfl
      refine rest_join (St.of [(0, o1 (.sl 1003 0 zs.length)), (1, vv (I6 k)), (7, o1 (.sl 20 0 (zs.length + 1))), (48, vv (I6 (zs.length + 1 : Nat))), (49, vv (I6 j))] [(1003, wRo zs), (20, leOw ((fvQ (fvL zs k) (cntN zs k 0) j).set j ((a / cntN zs k 0 : Nat) : Int)))]) ?_ ?_
      · ((apply rest_one 8 rfl (by as_aux_lemma => kernel_rfl) rfl rfl; (first | exact stp_ix (j := j) rfl rfl rfl rfl rfl (by as_aux_lemma => kernel_rfl) rfl hjl hjil | exact stp_stI rfl rfl rfl rfl rfl hsl2 (by as_aux_lemma => kernel_rfl))); (apply rest_one 9 rfl (by as_aux_lemma => kernel_rfl) rfl rfl; (first | exact stp_ix (j := j) rfl rfl rfl rfl rfl (by as_aux_lemma => kernel_rfl) rfl hjl hjil | exact stp_stI rfl rfl rfl rfl rfl hsl2 (by as_aux_lemma => kernel_rfl))); (refine rest_done (by as_aux_lemma => kernel_rfl) ?_; exact fin_join (Wk.of ⟨rfl, rfl, rfl, rfl, rfl, trivial⟩ ⟨rfl, rfl, trivial⟩ trivial)))
      (refine fin_block ?_; refine fin_seq ?_; refine goes_region ?_; apply run_step rfl; (exact stp_add rfl rfl rfl e8); apply run_step rfl; (exact stp_move rfl rfl); refine run_nil ?_)
      exact fin_round (j + 1) (by omega) (by omega) (Wk.of ⟨rfl, rfl, rfl, rfl, rfl, trivial⟩ ⟨rfl, congrArg (fun z => some (leOw z)) hst.symm, trivial⟩ trivial)
    · obtain rfl : j = zs.length + 1 := by omega
      have hll : zs.length + 1 ≤ (leOw (fvQ (fvL zs k) (cntN zs k 0) (zs.length + 1))).d.len := by
        show _ ≤ (ivals _).length
        rw [ivals_len, fvQ_len]
        exact Nat.le_of_eq (fvT_len zs k _).symm
      (refine goes_exit ?_; refine fin_exit_then ?_; refine fin_exit_then ?_; refine fin_exit_eq ?_; refine fin_seq ?_; refine goes_seq ?_; refine goes_region ?_; apply run_step rfl; (exact stp_move rfl rfl); apply run_step rfl; (exact stp_sliceM (l := 1) (m := zs.length) (h := zs.length + 1) (Nat.add_comm _ _) rfl rfl rfl rfl (by as_aux_lemma => kernel_rfl) (bnd_some rfl rfl) bnd_none (Nat.le_refl _) hll); apply run_step rfl; (exact stp_assign rfl rfl); apply run_step rfl; (exact stp_assign rfl rfl); refine run_nil ?_; refine fin_seq ?_; refine goes_ret ?_)
      exact fin_ret2 (.inl rfl) rfl (.tmp rfl) (.tmp rfl) ⟨rfl, trivial⟩ trivial
set_option maxRecDepth 100000 in
set_option maxHeartbeats 4000000 in
theorem fvS_yes (zs : List Int) (m : Int) (hn : zs.length ≤ 4398046511104) (h0 : ringC zs m = 0) :
    FC Try.prog 33 [(1003, wRo zs)] [o1 (.sl 1003 0 zs.length), vv (I6 m)] [(22, leOw (fvA zs m.toNat))] (.tup [.one (.sl 22 0 (fvA zs m.toNat).length), .one (.val (I6 0))]) [] := by
  have hC := codeS_fc zs zs.length m rfl hn
  rw [h0] at hC
  obtain ⟨hd, hf, k, rfl, hk, ha⟩ := ringC_zero h0
  have h4 := isDiag_len hd
  have hlt := allN_lt h4
  have hk2 : k < 1000 := by omega
  rw [Int.toNat_natCast]
  have hsl := setsL_len h4 k
  obtain ⟨K, hK⟩ : ∃ K, (setsL zs k).length - 1 = K := ⟨_, rfl⟩
  have hK1 := sets_pos h4 ha
  have hil : K ≤ (ivals (setsL zs k)).length := by rw [ivals_len]; omega
  have hKs := (kindsS_fc zs zs.length k K rfl h4 hk2 hK (by omega)).nm [(1003, 1003), (8, 25)] (by kernel_rfl)
  have hKs : FC Try.prog 79 [(1003, wRo zs)] [o1 (.sl 1003 0 zs.length), vv (I6 k)] [(25, leOw (setsL zs k))] (o1 (.sl 25 0 K)) [] := hKs
  have hRk := rankS_fc zs zs.length h4
  have e0 : IntKind.i64.wrap (((zs.length + 1 : Nat) : Int) - 1) = (zs.length : Int) := by rw [IntWalk.i64_in _ (by omega)]; omega
  have hQ := cntS_fc zs zs.length k 0 rfl hd hf hk2 (by omega)
  have hq0 := cnt0_pos hd hf k
  have hK2 := sets_two h4 ha
  rw [hK] at hK2
  rw [fvA_len]
  refine fc_enter (nt := 89) Try.func33 rfl rfl (by simp) fun w0 ω0 => ?_
  (refine goes_seq ?_; refine goes_region ?_; apply run_step rfl; (exact stp_assign rfl rfl); apply run_step rfl; (exact stp_assign rfl rfl); refine run_nil ?_; refine fin_seq ?_; refine goes_seq ?_; refine goes_seq ?_; refine goes_region ?_; apply run_step rfl; (exact stp_move rfl rfl); apply run_step rfl; (exact stp_move rfl rfl); apply run_step rfl; ((apply call_gate 71; exact stp_callR hC (by as_aux_lemma => kernel_rfl) rfl rfl ⟨rfl, rfl, trivial⟩ ⟨⟨_, rfl, .inl rfl⟩, trivial⟩ rfl rfl)); apply run_step rfl; (exact stp_assign rfl rfl); refine run_nil ?_; refine fin_seq ?_; refine goes_seq ?_; refine goes_region ?_; apply run_step rfl; (exact stp_move rfl rfl); apply run_step rfl; (exact stp_bin rfl rfl rfl rfl); refine run_nil ?_; refine fin_seq ?_)
  refine goes_cond rfl (fun e => by cases e) (fun _ => ?_)
  (refine goes_skip ?_; refine fin_seq ?_; refine goes_seq ?_)
  apply goes_draw 9 [] [[], [0], [0, 1], [0, 1, 2], [], [], [0, 1, 4, 5], [0, 1, 2, 3, 4, 5, 6], [0, 1, 2, 3, 4, 5, 6, 7]] [19, 20, 21, 22, 23, 24, 25, 7, 8] [22, 25] (by kernel_rfl) (by kernel_rfl)
  · (apply draw_put rfl; (intro S1 hS; exact stp_move rfl (hS.op rfl)))
    (apply draw_put rfl; (intro S1 hS; apply call_gate 78; exact stp_callR hRk (by as_aux_lemma => kernel_rfl) rfl (opL_le hS rfl) ⟨rfl, trivial⟩ (allIn_le hS ⟨⟨_, rfl, .inl rfl⟩, trivial⟩) rfl rfl))
    (apply draw_put rfl; (intro S1 hS; exact stp_sub rfl (hS.op rfl) (hS.op rfl) e0))
    (apply draw_new rfl; (intro S1 hS; exact stp_makeI (E := 2) rfl (by as_aux_lemma => kernel_rfl) (by as_aux_lemma => kernel_rfl) (hS.op rfl) (hS.op rfl) rfl rfl (by omega)))
    (apply draw_put rfl; (intro S1 hS; exact stp_move rfl (hS.op rfl)))
    (apply draw_put rfl; (intro S1 hS; exact stp_move rfl (hS.op rfl)))
    (apply draw_new rfl; (intro S1 hS; apply call_gate 79; exact stp_callN hKs (by as_aux_lemma => kernel_rfl) rfl (opL_le hS rfl) ⟨rfl, rfl, trivial⟩ (allIn_le hS ⟨⟨_, rfl, .inl rfl⟩, trivial⟩) rfl rfl rfl))
    (apply draw_put rfl; (intro S1 hS; exact stp_assign rfl (hS.op rfl)))
    (apply draw_put rfl; (intro S1 hS; exact stp_assign rfl (hS.op rfl)))
    exact Draw.nil
  · rfl
  ((refine rest_done (by as_aux_lemma => kernel_rfl) ?_; skip))
  (refine fin_seq ?_; refine goes_seq ?_; refine goes_seq ?_; refine goes_region ?_; apply run_step rfl; (exact stp_assign rfl rfl); refine run_nil ?_; refine fin_seq ?_; refine goes_block ?_)
  refine goes_loop (fun j : Nat => St.of [(0, o1 (.sl 1003 0 zs.length)), (1, vv (I6 k)), (7, o1 (.sl 22 0 zs.length)), (8, o1 (.sl 25 0 K)), (9, vv (I6 j))] [(1003, wRo zs), (22, leOw (fvT zs k j).tail), (25, leOw (setsL zs k))]) (fun j => 1 ≤ j ∧ j ≤ K) (fun j => K - j) 1 ⟨Nat.le_refl _, hK2⟩ (Wk.of ⟨rfl, rfl, rfl, rfl, rfl, trivial⟩ ⟨rfl, congrArg (fun z => some (leOw z)) (fv_one zs k).symm, rfl, trivial⟩ trivial) ?_
  rintro j ⟨hj1, hj⟩
  (refine goes_seq ?_; refine goes_seq ?_; refine goes_region ?_; apply run_step rfl; (exact stp_move rfl rfl); apply run_step rfl; (exact stp_move rfl rfl); apply run_step rfl; (exact stp_len rfl rfl rfl (by as_aux_lemma => kernel_rfl)); apply run_step rfl; (exact stp_bin rfl rfl rfl rfl); refine run_nil ?_; refine fin_seq ?_)
  refine goes_if rfl (fun hlj => ?_) (fun hlj => ?_)
  · have hjK : j < K := by omega
    have hat := kAt_eq h4 k j
    have h32 := kAt_lt h4 k j
    have hpc := kAt_pc h4 ha (i := j) (by omega)
    have hcl := fvT_len zs k j
    have hcb := fvT_in hd k j
    obtain ⟨kk, hkk⟩ : ∃ kk, kAt zs k j = kk := ⟨_, rfl⟩
    have hst : fvT zs k (j + 1) = (fvT zs k j).set (pcN kk) (iget (fvT zs k j) (pcN kk) + (cntN zs k kk * verN zs k kk : Nat)) := by rw [← hkk]; rfl
    have hkp : 0 < kAt zs k j := by obtain ⟨i, rfl⟩ : ∃ i, j = i + 1 := ⟨j - 1, by omega⟩; exact kAt_pos h4 (by omega)
    rw [hkk] at hat h32 hpc hkp
    have hgk : (ivals (setsL zs k))[j]? = some (I6 (kk : Int)) := by rw [ivals_get (by omega), hat]
    have hcn := cntN_le hd k kk
    have hvn := verN_le hd k kk
    have hpr := prod_le hd k kk
    have hb1 := (hcb (pcN kk)).1
    have hb2 := (hcb (pcN kk)).2
    have e4 : IntKind.i64.wrap (((cntN zs k kk : Nat) : Int) * ((verN zs k kk : Nat) : Int)) = ((cntN zs k kk * verN zs k kk : Nat) : Int) := by rw [IntWalk.i64_in _ (by rw [← Int.natCast_mul]; omega), Int.natCast_mul]
    have e5 : IntKind.i64.wrap (iget (fvT zs k j) (pcN kk) + ((cntN zs k kk * verN zs k kk : Nat) : Int)) = iget (fvT zs k j) (pcN kk) + ((cntN zs k kk * verN zs k kk : Nat) : Int) := IntWalk.i64_in _ (by omega)
    have e8 : IntKind.i64.wrap ((j : Int) + 1) = ((j + 1 : Nat) : Int) := by rw [IntWalk.i64_in _ (by omega)]; omega
    have hF := cntS_fc zs zs.length k kk rfl hd hf hk2 (by omega)
    have hnl := notN_le kk k
    have hOl := ordS_fc zs zs.length kk rfl hd (by omega) (fin_sub hd hf kk)
    have hOn := ordS_fc zs zs.length (notN kk k) rfl hd (by omega) (fin_sub hd hf _)
    obtain ⟨ea, p1, q1⟩ := ordN_eq hd kk
    obtain ⟨eb, p2, q2⟩ := ordN_eq hd (notN kk k)
    rw [ea] at hOl
    rw [eb] at hOn
    have hk6 : k < 1000000 := by omega
    have hl6 : kk < 1000000 := by omega
    have hq : ordN zs kk < 1000000000000 := by omega
    have hver : ordN zs kk / ordN zs (notN kk k) = verN zs k kk := rfl
    have hpp := pc_pos hkp h32
    have hpl : pcN kk - 1 < zs.length := by omega
    have hlt2 : (fvT zs k j).tail.length = zs.length := by rw [List.length_tail]; omega
    have hpil : zs.length ≤ (ivals (fvT zs k j).tail).length := by rw [ivals_len]; omega
    have hcur : (ivals (fvT zs k j).tail)[pcN kk - 1]? = some (I6 (iget (fvT zs k j) (pcN kk))) := by rw [ivals_get (by omega), tail_get, show pcN kk - 1 + 1 = pcN kk by omega]
    have ep : IntKind.i64.wrap (((pcN kk : Nat) : Int) - 1) = ((pcN kk - 1 : Nat) : Int) := by rw [IntWalk.i64_in _ (by omega)]; omega
    have hst2 : (fvT zs k (j + 1)).tail = ((fvT zs k j).tail.set (pcN kk - 1) (iget (fvT zs k j) (pcN kk) + ((cntN zs k kk * verN zs k kk : Nat) : Int))) := by rw [hst, tail_set hpp]
    have hsl3 : pcN kk - 1 < (fvT zs k j).tail.length := by omega
    have hO := bitsS_fc kk h32
    (refine goes_skip ?_; refine fin_seq ?_; refine goes_seq ?_; refine goes_block ?_; refine goes_seq ?_; refine goes_region ?_; apply run_step rfl; (exact stp_move rfl rfl); apply run_step rfl; (exact stp_move rfl rfl); apply run_step rfl; (first | exact stp_ix (j := j) rfl rfl rfl rfl rfl (by as_aux_lemma => kernel_rfl) rfl hjK hil | exact stp_loadV rfl (by as_aux_lemma => kernel_rfl) rfl rfl rfl hgk | (apply call_gate 80; exact stp_callR hO (by as_aux_lemma => kernel_rfl) rfl rfl ⟨rfl, trivial⟩ trivial rfl rfl)); apply run_step rfl; (first | exact stp_ix (j := j) rfl rfl rfl rfl rfl (by as_aux_lemma => kernel_rfl) rfl hjK hil | exact stp_loadV rfl (by as_aux_lemma => kernel_rfl) rfl rfl rfl hgk | (apply call_gate 80; exact stp_callR hO (by as_aux_lemma => kernel_rfl) rfl rfl ⟨rfl, trivial⟩ trivial rfl rfl)); apply run_step rfl; (first | exact stp_ix (j := j) rfl rfl rfl rfl rfl (by as_aux_lemma => kernel_rfl) rfl hjK hil | exact stp_loadV rfl (by as_aux_lemma => kernel_rfl) rfl rfl rfl hgk | (apply call_gate 80; exact stp_callR hO (by as_aux_lemma => kernel_rfl) rfl rfl ⟨rfl, trivial⟩ trivial rfl rfl)); apply run_step rfl; (exact stp_assign rfl rfl); refine run_nil ?_; refine fin_seq ?_; refine goes_seq ?_)
    apply goes_draw 16 [] [[], [], [], [1, 2], [1, 2, 3], [0, 1, 2, 3, 4], [], [], [], [7, 8], [7, 8, 9], [], [7, 8, 9, 10, 11], [0, 1, 2, 3, 4, 5, 6, 7, 8, 9, 10, 11, 12], [0, 1, 2, 3, 4, 5, 6, 7, 8, 9, 10, 11, 12, 13], [0, 1, 2, 3, 4, 5, 6, 7, 8, 9, 10, 11, 12, 13, 14]] [37, 38, 39, 40, 41, 42, 43, 44, 45, 46, 47, 48, 49, 50, 51, 11] [] (by kernel_rfl) (by kernel_rfl)
    · (apply draw_put rfl; (intro S1 hS; exact stp_move rfl (hS.op rfl)))
      (apply draw_put rfl; (intro S1 hS; exact stp_move rfl (hS.op rfl)))
      (apply draw_put rfl; (intro S1 hS; exact stp_move rfl (hS.op rfl)))
      (apply draw_put rfl; (intro S1 hS; exact stp_ix (j := j) rfl (hS.op rfl) (hS.op rfl) (hS.ch _ _ rfl) rfl (by as_aux_lemma => kernel_rfl) rfl hjK hil))
      (apply draw_put rfl; (intro S1 hS; exact stp_loadV rfl (by as_aux_lemma => kernel_rfl) (hS.op rfl) (hS.ch _ _ rfl) rfl hgk))
      (apply draw_put rfl; (intro S1 hS; apply call_gate 90; exact stp_callR hOl (by as_aux_lemma => kernel_rfl) rfl (opL_le hS rfl) ⟨rfl, rfl, trivial⟩ (allIn_le hS ⟨⟨_, rfl, .inl rfl⟩, trivial⟩) rfl rfl))
      (apply draw_put rfl; (intro S1 hS; exact stp_move rfl (hS.op rfl)))
      (apply draw_put rfl; (intro S1 hS; exact stp_move rfl (hS.op rfl)))
      (apply draw_put rfl; (intro S1 hS; exact stp_move rfl (hS.op rfl)))
      (apply draw_put rfl; (intro S1 hS; exact stp_ix (j := j) rfl (hS.op rfl) (hS.op rfl) (hS.ch _ _ rfl) rfl (by as_aux_lemma => kernel_rfl) rfl hjK hil))
      (apply draw_put rfl; (intro S1 hS; exact stp_loadV rfl (by as_aux_lemma => kernel_rfl) (hS.op rfl) (hS.ch _ _ rfl) rfl hgk))
      (apply draw_put rfl; (intro S1 hS; exact stp_move rfl (hS.op rfl)))
      (apply draw_put rfl; (intro S1 hS; exact stp_notN rfl (hS.op rfl) (hS.op rfl) hl6 hk6))
      (apply draw_put rfl; (intro S1 hS; apply call_gate 90; exact stp_callR hOn (by as_aux_lemma => kernel_rfl) rfl (opL_le hS rfl) ⟨rfl, rfl, trivial⟩ (allIn_le hS ⟨⟨_, rfl, .inl rfl⟩, trivial⟩) rfl rfl))
      (apply draw_put rfl; (intro S1 hS; exact stp_quoN rfl (hS.op rfl) (hS.op rfl) p2 hq))
      (apply draw_put rfl; (intro S1 hS; exact stp_assign rfl (hS.op rfl)))
      exact Draw.nil
    · rfl
    ((refine rest_done (by as_aux_lemma => kernel_rfl) ?_; skip))
    rw [hver]
    (refine fin_seq ?_)
    apply goes_draw 18 [] [[], [], [1], [], [], [4], [3, 4, 5], [3, 4, 5, 6], [], [], [], [], [10, 11], [10, 11, 12], [8, 9, 10, 11, 12, 13], [], [8, 9, 10, 11, 12, 13, 14, 15], [3, 4, 5, 6, 7, 8, 9, 10, 11, 12, 13, 14, 15, 16], [0, 1, 2, 3, 4, 5, 6, 7, 8, 9, 10, 11, 12, 13, 14, 15, 16, 17], [0, 1, 2, 3, 4, 5, 6, 7, 8, 9, 10, 11, 12, 13, 14, 15, 16, 17, 18]] [52, 53, 54, 55, 56, 57, 58, 59, 60, 61, 62, 63, 64, 65, 66, 67, 68, 69] [] (by kernel_rfl) (by kernel_rfl)
    · (apply draw_put rfl; (intro S1 hS; exact stp_move rfl (hS.op rfl)))
      (apply draw_put rfl; (intro S1 hS; exact stp_move rfl (hS.op rfl)))
      (apply draw_put rfl; (intro S1 hS; exact stp_sub rfl (hS.op rfl) (hS.op rfl) ep))
      (apply draw_put rfl; (intro S1 hS; exact stp_move rfl (hS.op rfl)))
      (apply draw_put rfl; (intro S1 hS; exact stp_move rfl (hS.op rfl)))
      (apply draw_put rfl; (intro S1 hS; exact stp_sub rfl (hS.op rfl) (hS.op rfl) ep))
      (apply draw_put rfl; (intro S1 hS; exact stp_ix (j := pcN kk - 1) rfl (hS.op rfl) (hS.op rfl) (hS.ch _ _ rfl) rfl (by as_aux_lemma => kernel_rfl) rfl hpl hpil))
      (apply draw_put rfl; (intro S1 hS; exact stp_loadV rfl (by as_aux_lemma => kernel_rfl) (hS.op rfl) (hS.ch _ _ rfl) rfl hcur))
      (apply draw_put rfl; (intro S1 hS; exact stp_move rfl (hS.op rfl)))
      (apply draw_put rfl; (intro S1 hS; exact stp_move rfl (hS.op rfl)))
      (apply draw_put rfl; (intro S1 hS; exact stp_move rfl (hS.op rfl)))
      (apply draw_put rfl; (intro S1 hS; exact stp_move rfl (hS.op rfl)))
      (apply draw_put rfl; (intro S1 hS; exact stp_ix (j := j) rfl (hS.op rfl) (hS.op rfl) (hS.ch _ _ rfl) rfl (by as_aux_lemma => kernel_rfl) rfl hjK hil))
      (apply draw_put rfl; (intro S1 hS; exact stp_loadV rfl (by as_aux_lemma => kernel_rfl) (hS.op rfl) (hS.ch _ _ rfl) rfl hgk))
      (apply draw_put rfl; (intro S1 hS; apply call_gate 81; exact stp_callR hF (by as_aux_lemma => kernel_rfl) rfl (opL_le hS rfl) ⟨rfl, rfl, rfl, trivial⟩ (allIn_le hS ⟨⟨_, rfl, .inl rfl⟩, trivial⟩) rfl rfl))
      (apply draw_put rfl; (intro S1 hS; exact stp_move rfl (hS.op rfl)))
      (apply draw_put rfl; (intro S1 hS; exact stp_mul rfl (hS.op rfl) (hS.op rfl) e4))
      (apply draw_put rfl; (intro S1 hS; exact stp_add rfl (hS.op rfl) (hS.op rfl) e5))
      exact Draw.nil
    · rfl
    refine rest_join (St.of [(0, o1 (.sl 1003 0 zs.length)), (1, vv (I6 k)), (7, o1 (.sl 22 0 zs.length)), (8, o1 (.sl 25 0 K)), (9, vv (I6 j))] [(1003, wRo zs), (22, leOw ((fvT zs k j).tail.set (pcN kk - 1) (iget (fvT zs k j) (pcN kk) + ((cntN zs k kk * verN zs k kk : Nat) : Int)))), (25, leOw (setsL zs k))]) ?_ ?_
    · ((apply rest_one 18 rfl (by as_aux_lemma => kernel_rfl) rfl rfl; (first | exact stp_ix (j := pcN kk - 1) rfl rfl rfl rfl rfl (by as_aux_lemma => kernel_rfl) rfl hpl hpil | exact stp_stI rfl rfl rfl rfl rfl hsl3 (by as_aux_lemma => kernel_rfl))); (apply rest_one 19 rfl (by as_aux_lemma => kernel_rfl) rfl rfl; (first | exact stp_ix (j := pcN kk - 1) rfl rfl rfl rfl rfl (by as_aux_lemma => kernel_rfl) rfl hpl hpil | exact stp_stI rfl rfl rfl rfl rfl hsl3 (by as_aux_lemma => kernel_rfl))); (refine rest_done (by as_aux_lemma => kernel_rfl) ?_; exact fin_join (Wk.of ⟨rfl, rfl, rfl, rfl, rfl, trivial⟩ ⟨rfl, rfl, rfl, trivial⟩ trivial)))
    (refine fin_block ?_; refine fin_seq ?_; refine goes_region ?_; apply run_step rfl; (exact stp_move rfl rfl); apply run_step rfl; (exact stp_add rfl rfl rfl e8); apply run_step rfl; (exact stp_assign rfl rfl); refine run_nil ?_)
    exact fin_round (j + 1) ⟨by omega, by omega⟩ (by omega) (Wk.of ⟨rfl, rfl, rfl, rfl, rfl, trivial⟩ ⟨rfl, congrArg (fun z => some (leOw z)) hst2.symm, rfl, trivial⟩ trivial)
  · obtain rfl : j = K := by omega
    have hfl : (fvT zs k j).tail = (fvL zs k).tail := by unfold fvL; rw [hK]
    rw [hfl]
    (refine goes_exit ?_; refine fin_exit_then ?_; refine fin_exit_then ?_; refine fin_exit_eq ?_; refine fin_seq ?_; refine goes_seq ?_; refine goes_seq ?_; refine goes_region ?_; apply run_step rfl; (exact stp_assign rfl rfl); refine run_nil ?_; refine fin_seq ?_; refine goes_block ?_)
    refine goes_loop (fun j : Nat => St.of [(0, o1 (.sl 1003 0 zs.length)), (1, vv (I6 k)), (7, o1 (.sl 22 0 zs.length)), (12, vv (I6 j))] [(1003, wRo zs), (22, leOw (fvQ (fvL zs k).tail (cntN zs k 0) j))]) (fun j => j ≤ zs.length) (fun j => zs.length - j) 0 (Nat.zero_le _) (Wk.of ⟨rfl, rfl, rfl, rfl, trivial⟩ ⟨rfl, rfl, trivial⟩ trivial) ?_
    clear hlj hj hil hfl
    rintro j hj
    (refine goes_seq ?_; refine goes_seq ?_; refine goes_region ?_; apply run_step rfl; (exact stp_move rfl rfl); apply run_step rfl; (exact stp_move rfl rfl); apply run_step rfl; (exact stp_len rfl rfl rfl (by as_aux_lemma => kernel_rfl)); apply run_step rfl; (exact stp_bin rfl rfl rfl rfl); refine run_nil ?_; refine fin_seq ?_)
    refine goes_if rfl (fun hlj => ?_) (fun hlj => ?_)
    · have hjl : j < zs.length := by omega
      have hlen : (fvL zs k).length = zs.length + 1 := fvT_len zs k _
      have hbd := fvT_in hd k ((setsL zs k).length - 1) (j + 1)
      obtain ⟨a, ha'⟩ := Int.eq_ofNat_of_zero_le hbd.1
      have hgx : iget (fvL zs k) (j + 1) = (a : Int) := ha'
      have hbig : a < 9000000000000000000 := by have := hbd.2; omega
      have hlt : (fvL zs k).tail.length = zs.length := by rw [List.length_tail]; omega
      have hgx2 : iget (fvL zs k).tail j = (a : Int) := by rw [tail_get, hgx]
      have hjil : zs.length ≤ (ivals (fvQ (fvL zs k).tail (cntN zs k 0) j)).length := by rw [ivals_len, fvQ_len]; omega
      have hgj : (ivals (fvQ (fvL zs k).tail (cntN zs k 0) j))[j]? = some (I6 (a : Int)) := by rw [ivals_get (by rw [fvQ_len]; omega), fvQ_get _ _ _ _ (Nat.le_refl _), hgx2]
      have hst : fvQ (fvL zs k).tail (cntN zs k 0) (j + 1) = (fvQ (fvL zs k).tail (cntN zs k 0) j).set j ((a / cntN zs k 0 : Nat) : Int) := by rw [fvQ, hgx2, Int.toNat_natCast]
      have hsl2 : j < (fvQ (fvL zs k).tail (cntN zs k 0) j).length := by rw [fvQ_len]; omega
      have e8 : IntKind.i64.wrap ((j : Int) + 1) = ((j + 1 : Nat) : Int) := by rw [IntWalk.i64_in _ (by omega)]; omega
      (refine goes_skip ?_; refine fin_seq ?_; refine goes_seq ?_; refine goes_block ?_)
      apply goes_draw 10 [] [[], [], [], [], [2, 3], [2, 3, 4], [], [], [6, 7], [2, 3, 4, 5, 6, 7, 8], [0, 1, 2, 3, 4, 5, 6, 7, 8, 9], [0, 1, 2, 3, 4, 5, 6, 7, 8, 9, 10]] [77, 78, 79, 80, 81, 82, 83, 84, 85, 86] [] (by kernel_rfl) (by kernel_rfl)
      · (apply draw_put rfl; (intro S1 hS; exact stp_move rfl (hS.op rfl)))
        (apply draw_put rfl; (intro S1 hS; exact stp_move rfl (hS.op rfl)))
        (apply draw_put rfl; (intro S1 hS; exact stp_move rfl (hS.op rfl)))
        (apply draw_put rfl; (intro S1 hS; exact stp_move rfl (hS.op rfl)))
        (apply draw_put rfl; (intro S1 hS; exact stp_ix (j := j) rfl (hS.op rfl) (hS.op rfl) (hS.ch _ _ rfl) rfl (by as_aux_lemma => kernel_rfl) rfl hjl hjil))
        (apply draw_put rfl; (intro S1 hS; exact stp_loadV rfl (by as_aux_lemma => kernel_rfl) (hS.op rfl) (hS.ch _ _ rfl) rfl hgj))
        (apply draw_put rfl; (intro S1 hS; exact stp_move rfl (hS.op rfl)))
        (apply draw_put rfl; (intro S1 hS; exact stp_move rfl (hS.op rfl)))
        (apply draw_put rfl; (intro S1 hS; apply call_gate 81; exact stp_callR hQ (by as_aux_lemma => kernel_rfl) rfl (opL_le hS rfl) ⟨rfl, rfl, rfl, trivial⟩ (allIn_le hS ⟨⟨_, rfl, .inl rfl⟩, trivial⟩) rfl rfl))
        (apply draw_put rfl; (intro S1 hS; exact stp_quoL rfl (hS.op rfl) (hS.op rfl) hq0 hbig))
        exact Draw.nil
      · rfl
      refine rest_join (St.of [(0, o1 (.sl 1003 0 zs.length)), (1, vv (I6 k)), (7, o1 (.sl 22 0 zs.length)), (12, vv (I6 j))] [(1003, wRo zs), (22, leOw ((fvQ (fvL zs k).tail (cntN zs k 0) j).set j ((a / cntN zs k 0 : Nat) : Int)))]) ?_ ?_
      · ((apply rest_one 10 rfl (by as_aux_lemma => kernel_rfl) rfl rfl; (first | exact stp_ix (j := j) rfl rfl rfl rfl rfl (by as_aux_lemma => kernel_rfl) rfl hjl hjil | exact stp_stI rfl rfl rfl rfl rfl hsl2 (by as_aux_lemma => kernel_rfl))); (apply rest_one 11 rfl (by as_aux_lemma => kernel_rfl) rfl rfl; (first | exact stp_ix (j := j) rfl rfl rfl rfl rfl (by as_aux_lemma => kernel_rfl) rfl hjl hjil | exact stp_stI rfl rfl rfl rfl rfl hsl2 (by as_aux_lemma => kernel_rfl))); (refine rest_done (by as_aux_lemma => kernel_rfl) ?_; exact fin_join (Wk.of ⟨rfl, rfl, rfl, rfl, trivial⟩ ⟨rfl, rfl, trivial⟩ trivial)))
      (refine fin_block ?_; refine fin_seq ?_; refine goes_region ?_; apply run_step rfl; (exact stp_move rfl rfl); apply run_step rfl; (exact stp_add rfl rfl rfl e8); apply run_step rfl; (exact stp_assign rfl rfl); refine run_nil ?_)
      exact fin_round (j + 1) (by omega) (by omega) (Wk.of ⟨rfl, rfl, rfl, rfl, trivial⟩ ⟨rfl, congrArg (fun z => some (leOw z)) hst.symm, trivial⟩ trivial)
    · obtain rfl : j = zs.length := by omega
      (refine goes_exit ?_; refine fin_exit_then ?_; refine fin_exit_then ?_; refine fin_exit_eq ?_; refine fin_seq ?_; refine goes_seq ?_; refine goes_region ?_; apply run_step rfl; (exact stp_move rfl rfl); apply run_step rfl; (exact stp_assign rfl rfl); apply run_step rfl; (exact stp_assign rfl rfl); refine run_nil ?_; refine fin_seq ?_; refine goes_ret ?_)
      exact fin_ret2 (.inl rfl) rfl (.tmp rfl) (.tmp rfl) ⟨rfl, trivial⟩ trivial
set_option maxRecDepth 100000 in
theorem fvI_no (zs : List Int) (m : Int) (hn : zs.length ≤ 4398046511104) (h0 : ringC zs m ≠ 0) :
    FC Try.prog 34 [(1003, wRo zs)] [o1 (.sl 1003 0 zs.length), vv (I6 m)] [] (.tup [.one (.val (.slice none 0 0)), .one (.val (I6 (ringC zs m)))]) [] := by
  have hC := ringI_fc zs zs.length m rfl hn
  refine fc_enter (nt := 64) Try.func34 rfl rfl (by simp) fun w0 ω0 => ?_
  (refine goes_seq ?_; refine goes_region ?_; apply run_step rfl; (exact stp_assign rfl rfl); apply run_step rfl; (exact stp_assign rfl rfl); refine run_nil ?_; refine fin_seq ?_; refine goes_seq ?_; refine goes_seq ?_; refine goes_region ?_; apply run_step rfl; (exact stp_move rfl rfl); apply run_step rfl; (exact stp_move rfl rfl); apply run_step rfl; ((apply call_gate 73; exact stp_callR hC (by as_aux_lemma => kernel_rfl) rfl rfl ⟨rfl, rfl, trivial⟩ ⟨⟨_, rfl, .inl rfl⟩, trivial⟩ rfl rfl)); apply run_step rfl; (exact stp_assign rfl rfl); refine run_nil ?_; refine fin_seq ?_; refine goes_seq ?_; refine goes_region ?_; apply run_step rfl; (exact stp_move rfl rfl); apply run_step rfl; (exact stp_bin rfl rfl rfl rfl); refine run_nil ?_; refine fin_seq ?_)
  refine goes_cond rfl (fun _ => ?_) (fun e => absurd (by simpa using e) h0)
  (refine goes_seq ?_; refine goes_region ?_; apply run_step rfl; (exact stp_move rfl rfl); apply run_step rfl; (exact stp_assign rfl rfl); apply run_step rfl; (exact stp_assign rfl rfl); refine run_nil ?_; refine fin_seq ?_; refine goes_ret ?_; refine fin_ret_then ?_)
  exact fin_ret2 (.inl rfl) rfl (.tmp rfl) (.tmp rfl) trivial trivial
set_option maxRecDepth 100000 in
theorem fvS_no (zs : List Int) (m : Int) (hn : zs.length ≤ 4398046511104) (h0 : ringC zs m ≠ 0) :
    FC Try.prog 33 [(1003, wRo zs)] [o1 (.sl 1003 0 zs.length), vv (I6 m)] [] (.tup [.one (.val (.slice none 0 0)), .one (.val (I6 (ringC zs m)))]) [] := by
  have hC := codeS_fc zs zs.length m rfl hn
  refine fc_enter (nt := 89) Try.func33 rfl rfl (by simp) fun w0 ω0 => ?_
  (refine goes_seq ?_; refine goes_region ?_; apply run_step rfl; (exact stp_assign rfl rfl); apply run_step rfl; (exact stp_assign rfl rfl); refine run_nil ?_; refine fin_seq ?_; refine goes_seq ?_; refine goes_seq ?_; refine goes_region ?_; apply run_step rfl; (exact stp_move rfl rfl); apply run_step rfl; (exact stp_move rfl rfl); apply run_step rfl; ((apply call_gate 71; exact stp_callR hC (by as_aux_lemma => kernel_rfl) rfl rfl ⟨rfl, rfl, trivial⟩ ⟨⟨_, rfl, .inl rfl⟩, trivial⟩ rfl rfl)); apply run_step rfl; (exact stp_assign rfl rfl); refine run_nil ?_; refine fin_seq ?_; refine goes_seq ?_; refine goes_region ?_; apply run_step rfl; (exact stp_move rfl rfl); apply run_step rfl; (exact stp_bin rfl rfl rfl rfl); refine run_nil ?_; refine fin_seq ?_)
  refine goes_cond rfl (fun _ => ?_) (fun e => absurd (by simpa using e) h0)
  (refine goes_seq ?_; refine goes_region ?_; apply run_step rfl; (exact stp_move rfl rfl); apply run_step rfl; (exact stp_assign rfl rfl); apply run_step rfl; (exact stp_assign rfl rfl); refine run_nil ?_; refine fin_seq ?_; refine goes_ret ?_; refine fin_ret_then ?_)
  exact fin_ret2 (.inl rfl) rfl (.tmp rfl) (.tmp rfl) trivial trivial
def fvR (zs : List Int) (m : Int) : List Int := if ringC zs m = 0 then fvA zs m.toNat else []
theorem fvR_small (zs : List Int) (m : Int) : (fvR zs m).length ≤ 32 := by
  unfold fvR
  split
  · rename_i h; have := isDiag_len (ringC_zero h).1; rw [fvA_len]; omega
  · simp
theorem fv_small {zs : List Int} {m : Int} (h : ringC zs m = 0) : (fvA zs m.toNat).length ≤ 1000 := by
  have := isDiag_len (ringC_zero h).1; rw [fvA_len]; omega
theorem api_specFv {E : Nat} {lo hi : Nat} {v : Value} {zs : List Int} (m : Int) (w : World) (h : OwnS E w lo hi v zs) :
    Calls Try.prog 33 #[v, .int .i64 m] w fun e w' => ∃ r, e = .returned (.tuple #[r, .int .i64 (ringC zs m)]) ∧ OwnS 2 w' w.heap.size w'.heap.size r (fvR zs m) ∧ Below w.heap.size w w' :=
  list_or_nilI (B := fvA zs m.toNat) rfl fv_small (fvS_yes zs m) (fvS_no zs m) w h
theorem api_implFv {E : Nat} {lo hi : Nat} {v : Value} {zs : List Int} (m : Int) (w : World) (h : OwnS E w lo hi v zs) :
    Calls Try.prog 34 #[v, .int .i64 m] w fun e w' => ∃ r, e = .returned (.tuple #[r, .int .i64 (ringC zs m)]) ∧ OwnT 2 w' w.heap.size w'.heap.size r (fvR zs m) ∧ Below w.heap.size w w' := by
  unfold fvR
  by_cases h0 : ringC zs m = 0
  · have hB := fv_small h0
    rw [if_pos h0, h0]
    have hn : zs.length ≤ 4398046511104 := fitS h.1
    obtain ⟨y, hy⟩ := fvI_yes zs m hn h0
    refine (callSI m (fun _ => hy) h).mono ?_
    rintro e w' ⟨v, η, ω, rfl, hd, hm, hb, hnn⟩
    obtain ⟨u, u', rfl, h1, h2⟩ := den_tup2 hd
    have h2 : u' = I6 0 := h2
    subst h2
    exact ⟨u, rfl, toT (y := 20) (x := y) (E := 2) hm hnn (by simp [lk]) (by rw [fvA_len]; exact h1) (by omega), hb⟩
  · rw [if_neg h0]
    refine (two_vals (callSI m (fun k1 => fvI_no zs m k1 h0) h)).mono ?_
    rintro e w' ⟨rfl, hb⟩
    exact ⟨_, rfl, .inl ⟨rfl, none, 0, rfl⟩, hb⟩
end Go.Proofs.Ytnfkhgamnapgmaa

/- The walk of FnExactFacesAtVertex: true, whatever the arguments. Written by genwalk.py. -/
namespace Go.Proofs.Ytnfkhgamnapgmaa
open Go.RowKit

set_option maxHeartbeats 3200000 in
theorem walkFacesAtVertex {a0 : Option Addr} {n0 c0 : Nat} {zs : List Int} (m : Int) (w : World) (h0 : Ints w a0 n0 zs) (_hw : (Lit.int .i64 m).wf = true) :
    Calls Try.prog 7 #[.slice a0 n0 c0, .int .i64 m] w fun e w' => e = .returned (.bool true) ∧ Below w.heap.size w w' := by
  have hsz := fvR_small zs m
  have B0 : Below w.heap.size w w := Below.refl _ _
  have hb0 := h0.2.1
  by_cases hs0 : n0 ≤ 1048576
  · have g0 : decide ((1048576 : Int) < n0) = false := by simp; omega
    have hl0 : zs.length = n0 := h0.1
    have HL0 := Lib.hid hl0
    clear hl0
    go_enter Try.func7, Try.ntmps7
    go_wp2_with fail
    refine (law_toS _ (show RdS _ _ _ from ⟨_, _, _, rfl, (h0.below B0)⟩) (by rw [HL0.out]; omega)).mono ?_
    rintro e w1 ⟨u1, rfl, o1, b1⟩
    have s1 := b1.size
    have B1 : Below w.heap.size w w1 := B0.trans (b1.mono B0.size)
    go_wp2_with fail
    refine (api_specFv m _ o1 ).mono ?_
    rintro e w2 ⟨u2_0, rfl, o2_0, b2⟩
    have s2 := b2.size
    have B2 : Below w.heap.size w w2 := B1.trans (b2.mono B1.size)
    go_wp2_with fail
    refine (law_toS _ (show RdS _ _ _ from ⟨_, _, _, rfl, (h0.below B2)⟩) (by rw [HL0.out]; omega)).mono ?_
    rintro e w3 ⟨u3, rfl, o3, b3⟩
    have s3 := b3.size
    have B3 : Below w.heap.size w w3 := B2.trans (b3.mono B2.size)
    go_wp2_with fail
    refine (api_implFv m _ o3 ).mono ?_
    rintro e w4 ⟨u4_0, rfl, o4_0, b4⟩
    have s4 := b4.size
    have B4 : Below w.heap.size w w4 := B3.trans (b4.mono B3.size)
    go_wp2_with fail
    refine (law_eqS _ o4_0.rd ((o2_0.below b3).below b4).rd).mono ?_
    rintro e w5 ⟨rfl, b5⟩
    have s5 := b5.size
    have B5 : Below w.heap.size w w5 := B4.trans (b5.mono B4.size)
    go_wp2_with fail
    refine (law_toS _ (show RdS _ _ _ from ⟨_, _, _, rfl, (h0.below B5)⟩) (by rw [HL0.out]; omega)).mono ?_
    rintro e w6 ⟨u6, rfl, o6, b6⟩
    have s6 := b6.size
    have B6 : Below w.heap.size w w6 := B5.trans (b6.mono B5.size)
    go_wp2_with fail
    refine (law_eqS _ (((o3.below b4).below b5).below b6).rd o6.rd).mono ?_
    rintro e w7 ⟨rfl, b7⟩
    have s7 := b7.size
    have B7 : Below w.heap.size w w7 := B6.trans (b7.mono B6.size)
    go_wp2_with fail
    refine (law_markS (1) _ ((((o3.below b4).below b5).below b6).below b7) (by omega) (by omega)).mono ?_
    rintro e w8 ⟨rfl, o8, q8⟩
    have s8 := q8.size
    have B8 : Below w.heap.size w w8 := B7.trans (q8.below (by omega) B7.size)
    go_wp2_with fail
    refine (law_eqS _ ((((o4_0.below b5).below b6).below b7).only q8 (by omega)).rd ((((((o2_0.below b3).below b4).below b5).below b6).below b7).only q8 (by omega)).rd).mono ?_
    rintro e w9 ⟨rfl, b9⟩
    have s9 := b9.size
    have B9 : Below w.heap.size w w9 := B8.trans (b9.mono B8.size)
    go_wp2_with fail
    refine (law_markT (1) _ (((((o4_0.below b5).below b6).below b7).only q8 (by omega)).below b9) (by omega) (by omega)).mono ?_
    rintro e w10 ⟨rfl, o10, q10⟩
    have s10 := q10.size
    have B10 : Below w.heap.size w w10 := B9.trans (q10.below (by omega) B9.size)
    go_wp2_with fail
    refine (law_heldS (1) _ o10.rd (by omega) (by omega)).mono ?_
    rintro e w11 ⟨rfl, b11⟩
    have s11 := b11.size
    have B11 : Below w.heap.size w w11 := B10.trans (b11.mono B10.size)
    go_wp2_with fail
    refine (law_toS _ (show RdS _ _ _ from ⟨_, _, _, rfl, (h0.below B11)⟩) (by rw [HL0.out]; omega)).mono ?_
    rintro e w12 ⟨u12, rfl, o12, b12⟩
    have s12 := b12.size
    have B12 : Below w.heap.size w w12 := B11.trans (b12.mono B11.size)
    go_wp2_with fail
    refine (api_implFv m _ o12 ).mono ?_
    rintro e w13 ⟨u13_0, rfl, o13_0, b13⟩
    have s13 := b13.size
    have B13 : Below w.heap.size w w13 := B12.trans (b13.mono B12.size)
    go_wp2_with fail
    refine (law_eqS _ o13_0.rd (((((((((((o2_0.below b3).below b4).below b5).below b6).below b7).only q8 (by omega)).below b9).only q10 (by omega)).below b11).below b12).below b13).rd).mono ?_
    rintro e w14 ⟨rfl, b14⟩
    have s14 := b14.size
    have B14 : Below w.heap.size w w14 := B13.trans (b14.mono B13.size)
    go_wp2_with fail
    refine (law_heldS (1) _ ((((o10.below b11).below b12).below b13).below b14).rd (by omega) (by omega)).mono ?_
    rintro e w15 ⟨rfl, b15⟩
    have s15 := b15.size
    have B15 : Below w.heap.size w w15 := B14.trans (b15.mono B14.size)
    go_wp2
    go_ret
    exact ⟨rfl, B15⟩
  · have g0 : decide ((1048576 : Int) < n0) = true := by simp; omega
    go_enter Try.func7, Try.ntmps7
    go_wp2
    go_ret
    exact ⟨rfl, B0⟩
end Go.Proofs.Ytnfkhgamnapgmaa
