/- WythoffCounts. guards: (gen_wy.py) -/
import Derived.Test.YtnfkhgamnapgmaaPart8
import Derived.Test.YtnfkhgamnapgmaaPart1
namespace Go.Proofs.Ytnfkhgamnapgmaa
open Go.RowKit

theorem onesI_fc (x : Nat) (hx : x < 32) : FC Try.prog 87 [] [vv (.int .u64 x)] [] (vv (I6 (pcN x : Nat))) [] :=
  fc_of_calls fun w η ω us hm ⟨hl, ha⟩ => by
    obtain ⟨u0, g0, d0⟩ := ha 0 _ rfl
    have d0 : u0 = .int .u64 x := d0
    subst d0
    rw [us_one hl g0]
    exact (ones_any x hx w).mono fun e w' ⟨h1, h2⟩ => ⟨h1, by rw [h2]; exact Below.refl _ _⟩
/-- the mask at a place of the list of all admissible ones -/
def kAt (zs : List Int) (r i : Nat) : Nat := (iget (setsL zs r) i).toNat
theorem sets_rng {zs : List Int} (h4 : zs.length ≤ 4) (r : Nat) : Rng (setsL zs r) := (raw_rng h4 r).perm (setsL_perm h4 r)
theorem kAt_eq {zs : List Int} (h4 : zs.length ≤ 4) (r i : Nat) : iget (setsL zs r) i = (kAt zs r i : Int) := by
  obtain ⟨k, hk, _⟩ := (sets_rng h4 r).at_ i
  unfold kAt; omega
theorem kAt_lt {zs : List Int} (h4 : zs.length ≤ 4) (r i : Nat) : kAt zs r i < 32 := by
  obtain ⟨k, hk, _⟩ := (sets_rng h4 r).at_ i
  unfold kAt; omega
theorem pc_top {L : Nat} (h4 : L ≤ 4) {s : Nat} (hs : s < 2 ^ (L + 1) - 1) : pcN s ≤ L := by
  have h0 : ∀ s, s < 1 → pcN s ≤ 0 := by decide
  have h1 : ∀ s, s < 3 → pcN s ≤ 1 := by decide
  have h2 : ∀ s, s < 7 → pcN s ≤ 2 := by decide
  have h3 : ∀ s, s < 15 → pcN s ≤ 3 := by decide
  have h4' : ∀ s, s < 31 → pcN s ≤ 4 := by decide
  rcases (by omega : L = 0 ∨ L = 1 ∨ L = 2 ∨ L = 3 ∨ L = 4) with rfl | rfl | rfl | rfl | rfl
  · exact h0 s hs
  · exact h1 s hs
  · exact h2 s hs
  · exact h3 s hs
  · exact h4' s hs
theorem pc_all {L : Nat} (h4 : L ≤ 4) : pcN (2 ^ (L + 1) - 1) = L + 1 := by
  rcases (by omega : L = 0 ∨ L = 1 ∨ L = 2 ∨ L = 3 ∨ L = 4) with rfl | rfl | rfl | rfl | rfl <;> rfl
theorem rank_top {zs : List Int} (h4 : zs.length ≤ 4) {r : Nat} (ha : admB zs (allN zs) r = true) : rankN zs r (zs.length + 1) (allN zs + 1) = [allN zs] := by
  have h1 : pcN (allN zs) = zs.length + 1 := pc_all h4
  rw [rankN_succ, if_pos (by rw [h1, ha]; simp)]
  have : rankN zs r (zs.length + 1) (allN zs) = [] := by
    unfold rankN
    rw [List.filter_eq_nil_iff]
    intro s hs
    have h2 := pc_top h4 (s := s) (by have := List.mem_range.1 hs; unfold allN at this; exact this)
    simp
    intro h3
    omega
  rw [this]; rfl
theorem sets_split {zs : List Int} (h4 : zs.length ≤ 4) {r : Nat} (ha : admB zs (allN zs) r = true) : setsN zs r (zs.length + 2) = setsN zs r (zs.length + 1) ++ [allN zs] := by
  rw [setsN_succ, rank_top h4 ha]
theorem sets_pos {zs : List Int} (h4 : zs.length ≤ 4) {r : Nat} (ha : admB zs (allN zs) r = true) : 0 < (setsL zs r).length := by
  unfold setsL; rw [sets_split h4 ha]; simp
theorem kAt_pc {zs : List Int} (h4 : zs.length ≤ 4) {r i : Nat} (ha : admB zs (allN zs) r = true) (hi : i + 1 < (setsL zs r).length) : pcN (kAt zs r i) ≤ zs.length := by
  unfold kAt setsL
  unfold setsL at hi
  rw [sets_split h4 ha] at hi ⊢
  have hlt : i < (setsN zs r (zs.length + 1)).length := by simpa using hi
  rw [iget_lt (by simp; omega), List.getElem_map, List.getElem_append_left hlt]
  have hm := List.getElem_mem hlt
  generalize (setsN zs r (zs.length + 1))[i] = s at hm
  unfold setsN at hm
  obtain ⟨k, hk, hs⟩ := List.mem_flatMap.1 hm
  rw [rank_eq] at hs
  have h1 := (List.mem_filter.1 hs).2
  have h2 := List.mem_range.1 hk
  have h3 : pcN s = k := by simpa using h1
  rw [Int.toNat_natCast]; omega
theorem cntN_le {zs : List Int} (hd : isDiag zs = true) (k l : Nat) : cntN zs k l ≤ 33554432 := by
  have h1 := (ordN_eq hd (allN zs)).2.2
  unfold cntN
  exact Nat.le_trans (Nat.div_le_self _ _) (Nat.le_trans (Nat.div_le_self _ _) h1)
/-- the numbers of faces of the first kinds, by rank -/
def wcT (zs : List Int) (r : Nat) : Nat → List Int
  | 0 => List.replicate (zs.length + 1) 0
  | i + 1 => (wcT zs r i).set (pcN (kAt zs r i)) (iget (wcT zs r i) (pcN (kAt zs r i)) + (cntN zs r (kAt zs r i) : Nat))
def wcL (zs : List Int) (r : Nat) : List Int := wcT zs r ((setsL zs r).length - 1)
theorem wcT_len (zs : List Int) (r : Nat) : ∀ i, (wcT zs r i).length = zs.length + 1
  | 0 => by simp [wcT]
  | i + 1 => by rw [wcT, List.length_set]; exact wcT_len zs r i
theorem iget_rep0 (n j : Nat) : iget (List.replicate n (0 : Int)) j = 0 := by
  by_cases h : j < n
  · rw [iget_lt (by simpa using h)]; simp
  · simp [iget, h]
theorem wcT_in {zs : List Int} (hd : isDiag zs = true) (r : Nat) : ∀ i j, 0 ≤ iget (wcT zs r i) j ∧ iget (wcT zs r i) j ≤ (i : Int) * 33554432
  | 0, j => by rw [wcT, iget_rep0]; omega
  | i + 1, j => by
    have ih := wcT_in hd r i
    have hc := cntN_le hd r (kAt zs r i)
    rw [wcT]
    by_cases e : j = pcN (kAt zs r i)
    · subst e
      by_cases hl : pcN (kAt zs r i) < (wcT zs r i).length
      · rw [iget_set_eq hl]; have := ih (pcN (kAt zs r i)); omega
      · rw [List.set_eq_of_length_le (by omega)]; have := ih (pcN (kAt zs r i)); omega
    · rw [iget_set_ne (fun h => e h.symm)]; have := ih j; omega
set_option maxRecDepth 100000 in
theorem kindsI_fc (zs : List Int) (L r K : Nat) (hL : zs.length = L) (h4 : L ≤ 4) (hr : r < 1000) (hK : (setsL zs r).length - 1 = K) (hp : 0 < (setsL zs r).length) :
    FC Try.prog 86 [(1003, wRo zs)] [o1 (.sl 1003 0 L), vv (I6 r)] [(8, leOw (setsL zs r))] (o1 (.sl 8 0 K)) [] := by
  have hS := (setsI_fc zs L r hL h4 hr).nm [(1003, 1003), (2400, 8)] (by kernel_rfl)
  have hS : FC Try.prog 74 [(1003, wRo zs)] [o1 (.sl 1003 0 L), vv (I6 r)] [(8, leOw (setsL zs r))] (o1 (.sl 8 0 (setsL zs r).length)) [] := hS
  have hl := setsL_len (zs := zs) (by omega) r
  have e1 : IntKind.i64.wrap (((setsL zs r).length : Int) - 1) = (K : Int) := by rw [IntWalk.i64_in _ (by omega)]; omega
  refine fc_enter (nt := 14) Try.func86 rfl rfl (by simp) fun w0 ω0 => ?_
  (refine goes_seq ?_; refine goes_region ?_; apply run_step rfl; (exact stp_assign rfl rfl); refine run_nil ?_; refine fin_seq ?_; refine goes_seq ?_; refine goes_region ?_; apply run_step rfl; (exact stp_move rfl rfl); apply run_step rfl; (exact stp_move rfl rfl); apply run_step rfl; (first | (apply call_gate 74; exact stp_callN hS (by as_aux_lemma => kernel_rfl) rfl rfl ⟨rfl, rfl, trivial⟩ ⟨⟨_, rfl, .inl rfl⟩, trivial⟩ rfl rfl rfl) | exact stp_sub rfl rfl rfl e1 | exact stp_sliceM (l := 0) (m := K) (h := K) (Nat.zero_add _) rfl rfl rfl rfl (by as_aux_lemma => kernel_rfl) bnd_none (bnd_some rfl rfl) (by omega) (by rw [show (leOw (setsL zs r)).d.len = (ivals (setsL zs r)).length from rfl, ivals_len]; exact Nat.le_refl _)); apply run_step rfl; (exact stp_assign rfl rfl); refine run_nil ?_; refine fin_seq ?_; refine goes_seq ?_; refine goes_region ?_; apply run_step rfl; (exact stp_move rfl rfl); apply run_step rfl; (exact stp_move rfl rfl); apply run_step rfl; (exact stp_len rfl rfl rfl (by as_aux_lemma => kernel_rfl)); apply run_step rfl; (first | (apply call_gate 74; exact stp_callN hS (by as_aux_lemma => kernel_rfl) rfl rfl ⟨rfl, rfl, trivial⟩ ⟨⟨_, rfl, .inl rfl⟩, trivial⟩ rfl rfl rfl) | exact stp_sub rfl rfl rfl e1 | exact stp_sliceM (l := 0) (m := K) (h := K) (Nat.zero_add _) rfl rfl rfl rfl (by as_aux_lemma => kernel_rfl) bnd_none (bnd_some rfl rfl) (by omega) (by rw [show (leOw (setsL zs r)).d.len = (ivals (setsL zs r)).length from rfl, ivals_len]; exact Nat.le_refl _)); apply run_step rfl; (first | (apply call_gate 74; exact stp_callN hS (by as_aux_lemma => kernel_rfl) rfl rfl ⟨rfl, rfl, trivial⟩ ⟨⟨_, rfl, .inl rfl⟩, trivial⟩ rfl rfl rfl) | exact stp_sub rfl rfl rfl e1 | exact stp_sliceM (l := 0) (m := K) (h := K) (Nat.zero_add _) rfl rfl rfl rfl (by as_aux_lemma => kernel_rfl) bnd_none (bnd_some rfl rfl) (by omega) (by rw [show (leOw (setsL zs r)).d.len = (ivals (setsL zs r)).length from rfl, ivals_len]; exact Nat.le_refl _)); apply run_step rfl; (exact stp_assign rfl rfl); refine run_nil ?_; refine fin_seq ?_; refine goes_ret ?_)
  exact fin_ret1 (.inl rfl) rfl (.tmp rfl) ⟨rfl, trivial⟩ trivial
set_option maxRecDepth 100000 in
theorem kindsS_fc (zs : List Int) (L r K : Nat) (hL : zs.length = L) (h4 : L ≤ 4) (hr : r < 1000) (hK : (setsL zs r).length - 1 = K) (hp : 0 < (setsL zs r).length) :
    FC Try.prog 79 [(1003, wRo zs)] [o1 (.sl 1003 0 L), vv (I6 r)] [(8, leOw (setsL zs r))] (o1 (.sl 8 0 K)) [] := by
  have hS := setsS_fc zs L r hL h4 hr
  have hl := setsL_len (zs := zs) (by omega) r
  have e1 : IntKind.i64.wrap (((setsL zs r).length : Int) - 1) = (K : Int) := by rw [IntWalk.i64_in _ (by omega)]; omega
  refine fc_enter (nt := 14) Try.func79 rfl rfl (by simp) fun w0 ω0 => ?_
  (refine goes_seq ?_; refine goes_region ?_; apply run_step rfl; (exact stp_assign rfl rfl); refine run_nil ?_; refine fin_seq ?_; refine goes_seq ?_; refine goes_region ?_; apply run_step rfl; (exact stp_move rfl rfl); apply run_step rfl; (exact stp_move rfl rfl); apply run_step rfl; (first | (apply call_gate 72; exact stp_callN hS (by as_aux_lemma => kernel_rfl) rfl rfl ⟨rfl, rfl, trivial⟩ ⟨⟨_, rfl, .inl rfl⟩, trivial⟩ rfl rfl rfl) | exact stp_sub rfl rfl rfl e1 | exact stp_sliceM (l := 0) (m := K) (h := K) (Nat.zero_add _) rfl rfl rfl rfl (by as_aux_lemma => kernel_rfl) bnd_none (bnd_some rfl rfl) (by omega) (by rw [show (leOw (setsL zs r)).d.len = (ivals (setsL zs r)).length from rfl, ivals_len]; exact Nat.le_refl _)); apply run_step rfl; (exact stp_assign rfl rfl); refine run_nil ?_; refine fin_seq ?_; refine goes_seq ?_; refine goes_region ?_; apply run_step rfl; (exact stp_move rfl rfl); apply run_step rfl; (exact stp_move rfl rfl); apply run_step rfl; (exact stp_len rfl rfl rfl (by as_aux_lemma => kernel_rfl)); apply run_step rfl; (first | (apply call_gate 72; exact stp_callN hS (by as_aux_lemma => kernel_rfl) rfl rfl ⟨rfl, rfl, trivial⟩ ⟨⟨_, rfl, .inl rfl⟩, trivial⟩ rfl rfl rfl) | exact stp_sub rfl rfl rfl e1 | exact stp_sliceM (l := 0) (m := K) (h := K) (Nat.zero_add _) rfl rfl rfl rfl (by as_aux_lemma => kernel_rfl) bnd_none (bnd_some rfl rfl) (by omega) (by rw [show (leOw (setsL zs r)).d.len = (ivals (setsL zs r)).length from rfl, ivals_len]; exact Nat.le_refl _)); apply run_step rfl; (first | (apply call_gate 72; exact stp_callN hS (by as_aux_lemma => kernel_rfl) rfl rfl ⟨rfl, rfl, trivial⟩ ⟨⟨_, rfl, .inl rfl⟩, trivial⟩ rfl rfl rfl) | exact stp_sub rfl rfl rfl e1 | exact stp_sliceM (l := 0) (m := K) (h := K) (Nat.zero_add _) rfl rfl rfl rfl (by as_aux_lemma => kernel_rfl) bnd_none (bnd_some rfl rfl) (by omega) (by rw [show (leOw (setsL zs r)).d.len = (ivals (setsL zs r)).length from rfl, ivals_len]; exact Nat.le_refl _)); apply run_step rfl; (exact stp_assign rfl rfl); refine run_nil ?_; refine fin_seq ?_; refine goes_ret ?_)
  exact fin_ret1 (.inl rfl) rfl (.tmp rfl) ⟨rfl, trivial⟩ trivial
set_option maxRecDepth 100000 in
set_option maxHeartbeats 2000000 in
theorem wyI_yes (zs : List Int) (m : Int) (hn : zs.length ≤ 4398046511104) (h0 : ringC zs m = 0) :
    FC Try.prog 32 [(1003, wRo zs)] [o1 (.sl 1003 0 zs.length), vv (I6 m)] [(19, leOw (wcL zs m.toNat))] (.tup [.one (.sl 19 0 (wcL zs m.toNat).length), .one (.val (I6 0))]) [] := by
  have hC := ringI_fc zs zs.length m rfl hn
  rw [h0] at hC
  obtain ⟨hd, hf, k, rfl, hk, ha⟩ := ringC_zero h0
  have h4 := isDiag_len hd
  have hlt := allN_lt h4
  have hk2 : k < 1000 := by omega
  rw [Int.toNat_natCast]
  have hsl := setsL_len h4 k
  obtain ⟨K, hK⟩ : ∃ K, (setsL zs k).length - 1 = K := ⟨_, rfl⟩
  have hK1 := sets_pos h4 ha
  have hil : K ≤ (ivals (setsL zs k)).length := by rw [ivals_len]; omega
  have hS := (kindsI_fc zs zs.length k K rfl h4 hk2 hK (by omega)).nm [(1003, 1003), (8, 22)] (by kernel_rfl)
  have hS : FC Try.prog 86 [(1003, wRo zs)] [o1 (.sl 1003 0 zs.length), vv (I6 k)] [(22, leOw (setsL zs k))] (o1 (.sl 22 0 K)) [] := hS
  have e1 : IntKind.i64.wrap ((zs.length : Int) + 1) = ((zs.length + 1 : Nat) : Int) := by rw [IntWalk.i64_in _ (by omega)]; omega
  unfold wcL
  rw [hK, wcT_len]
  refine fc_enter (nt := 42) Try.func32 rfl rfl (by simp) fun w0 ω0 => ?_
  (refine goes_seq ?_; refine goes_region ?_; apply run_step rfl; (exact stp_assign rfl rfl); apply run_step rfl; (exact stp_assign rfl rfl); refine run_nil ?_; refine fin_seq ?_; refine goes_seq ?_; refine goes_seq ?_; refine goes_region ?_; apply run_step rfl; (exact stp_move rfl rfl); apply run_step rfl; (exact stp_move rfl rfl); apply run_step rfl; ((apply call_gate 73; exact stp_callR hC (by as_aux_lemma => kernel_rfl) rfl rfl ⟨rfl, rfl, trivial⟩ ⟨⟨_, rfl, .inl rfl⟩, trivial⟩ rfl rfl)); apply run_step rfl; (exact stp_assign rfl rfl); refine run_nil ?_; refine fin_seq ?_; refine goes_seq ?_; refine goes_region ?_; apply run_step rfl; (exact stp_move rfl rfl); apply run_step rfl; (exact stp_bin rfl rfl rfl rfl); refine run_nil ?_; refine fin_seq ?_)
  refine goes_cond rfl (fun e => by cases e) (fun _ => ?_)
  (refine goes_skip ?_; refine fin_seq ?_; refine goes_seq ?_; refine goes_region ?_; apply run_step rfl; (exact stp_move rfl rfl); apply run_step rfl; (exact stp_len rfl rfl rfl (by as_aux_lemma => kernel_rfl)); apply run_step rfl; (first | exact stp_add rfl rfl rfl e1 | (apply call_gate 86; exact stp_callN hS (by as_aux_lemma => kernel_rfl) rfl rfl ⟨rfl, rfl, trivial⟩ ⟨⟨_, rfl, .inl rfl⟩, trivial⟩ rfl rfl rfl)); apply run_step rfl; (exact stp_makeI (E := 2) rfl (by as_aux_lemma => kernel_rfl) (by as_aux_lemma => kernel_rfl) rfl rfl rfl rfl (by omega)); apply run_step rfl; (exact stp_assign rfl rfl); refine run_nil ?_; refine fin_seq ?_; refine goes_seq ?_; refine goes_seq ?_; refine goes_region ?_; apply run_step rfl; (exact stp_move rfl rfl); apply run_step rfl; (exact stp_move rfl rfl); apply run_step rfl; (first | exact stp_add rfl rfl rfl e1 | (apply call_gate 86; exact stp_callN hS (by as_aux_lemma => kernel_rfl) rfl rfl ⟨rfl, rfl, trivial⟩ ⟨⟨_, rfl, .inl rfl⟩, trivial⟩ rfl rfl rfl)); apply run_step rfl; (exact stp_len rfl rfl rfl (by as_aux_lemma => kernel_rfl)); apply run_step rfl; (exact stp_move rfl rfl); refine run_nil ?_; refine fin_seq ?_; refine goes_block ?_)
  refine goes_loop (fun j : Nat => St.of [(0, o1 (.sl 1003 0 zs.length)), (1, vv (I6 k)), (7, o1 (.sl 19 0 (zs.length + 1))), (22, o1 (.sl 22 0 K)), (23, vv (I6 K)), (24, vv (I6 j))] [(1003, wRo zs), (19, leOw (wcT zs k j)), (22, leOw (setsL zs k))]) (fun j => j ≤ K) (fun j => K - j) 0 (Nat.zero_le _) (Wk.of ⟨rfl, rfl, rfl, rfl, rfl, rfl, trivial⟩ ⟨rfl, rfl, rfl, trivial⟩ trivial) ?_
  rintro j hj
  (refine goes_seq ?_; refine goes_region ?_; apply run_step rfl; (exact stp_bin rfl rfl rfl rfl); refine run_nil ?_; refine fin_seq ?_; refine goes_seq ?_)
  refine goes_if rfl (fun hlj => ?_) (fun hlj => ?_)
  · have hjK : j < K := by omega
    have hat := kAt_eq h4 k j
    have h32 := kAt_lt h4 k j
    have hpc := kAt_pc h4 ha (i := j) (by omega)
    have hcl := wcT_len zs k j
    have hcb := wcT_in hd k j
    obtain ⟨kk, hkk⟩ : ∃ kk, kAt zs k j = kk := ⟨_, rfl⟩
    have hst : wcT zs k (j + 1) = (wcT zs k j).set (pcN kk) (iget (wcT zs k j) (pcN kk) + (cntN zs k kk : Nat)) := by rw [← hkk]; rfl
    rw [hkk] at hat h32 hpc
    have hgk : (ivals (setsL zs k))[j]? = some (I6 (kk : Int)) := by rw [ivals_get (by omega), hat]
    have hF := cntI_fc zs zs.length k kk rfl hd hf hk2 (by omega)
    have hcn := cntN_le hd k kk
    have hb1 := (hcb (pcN kk)).1
    have hb2 := (hcb (pcN kk)).2
    have hcur : (ivals (wcT zs k j))[pcN kk]? = some (I6 (iget (wcT zs k j) (pcN kk))) := ivals_get (by omega)
    have hpl : pcN kk < zs.length + 1 := by omega
    have hpil : zs.length + 1 ≤ (ivals (wcT zs k j)).length := by rw [ivals_len]; omega
    have e5 : IntKind.i64.wrap (iget (wcT zs k j) (pcN kk) + ((cntN zs k kk : Nat) : Int)) = iget (wcT zs k j) (pcN kk) + ((cntN zs k kk : Nat) : Int) := IntWalk.i64_in _ (by omega)
    have e8 : IntKind.i64.wrap ((j : Int) + 1) = ((j + 1 : Nat) : Int) := by rw [IntWalk.i64_in _ (by omega)]; omega
    have hO := onesI_fc kk h32
    have hcu : IntKind.u64.wrap (kk : Int) = (kk : Int) := by rw [IntKind.wrap_u64]; omega
    (refine goes_skip ?_; refine fin_seq ?_; refine goes_seq ?_; refine goes_block ?_; refine goes_seq ?_; refine goes_region ?_; apply run_step rfl; (first | exact stp_ix (j := j) rfl rfl rfl rfl rfl (by as_aux_lemma => kernel_rfl) rfl hjK hil | exact stp_loadV rfl (by as_aux_lemma => kernel_rfl) rfl rfl rfl hgk); apply run_step rfl; (first | exact stp_ix (j := j) rfl rfl rfl rfl rfl (by as_aux_lemma => kernel_rfl) rfl hjK hil | exact stp_loadV rfl (by as_aux_lemma => kernel_rfl) rfl rfl rfl hgk); apply run_step rfl; (exact stp_assign rfl rfl); refine run_nil ?_; refine fin_seq ?_)
    apply goes_draw 11 [] [[], [], [1], [1, 2], [0, 1, 2, 3], [0, 1, 2, 3, 4], [], [], [], [1, 2, 3, 6, 7, 8], [0, 1, 2, 3, 4, 5, 6, 7, 8, 9], [0, 1, 2, 3, 4, 5, 6, 7, 8, 9, 10], [0, 1, 2, 3, 4, 5, 6, 7, 8, 9, 10, 11]] [28, 29, 30, 31, 32, 33, 34, 35, 36, 37, 38] [] (by kernel_rfl) (by kernel_rfl)
    · (apply draw_put rfl; (intro S1 hS; exact stp_move rfl (hS.op rfl)))
      (apply draw_put rfl; (intro S1 hS; exact stp_move rfl (hS.op rfl)))
      (apply draw_put rfl; (intro S1 hS; exact stp_convN (k2 := .u64) rfl (hS.op rfl) (by as_aux_lemma => kernel_rfl) (by as_aux_lemma => kernel_rfl) hcu))
      (apply draw_put rfl; (intro S1 hS; apply call_gate 87; exact stp_callR hO (by as_aux_lemma => kernel_rfl) rfl (opL_le hS rfl) ⟨rfl, trivial⟩ trivial rfl rfl))
      (apply draw_put rfl; (intro S1 hS; exact stp_ix (j := pcN kk) rfl (hS.op rfl) (hS.op rfl) (hS.ch _ _ rfl) rfl (by as_aux_lemma => kernel_rfl) rfl hpl hpil))
      (apply draw_put rfl; (intro S1 hS; exact stp_loadV rfl (by as_aux_lemma => kernel_rfl) (hS.op rfl) (hS.ch _ _ rfl) rfl hcur))
      (apply draw_put rfl; (intro S1 hS; exact stp_move rfl (hS.op rfl)))
      (apply draw_put rfl; (intro S1 hS; exact stp_move rfl (hS.op rfl)))
      (apply draw_put rfl; (intro S1 hS; exact stp_move rfl (hS.op rfl)))
      (apply draw_put rfl; (intro S1 hS; apply call_gate 88; exact stp_callR hF (by as_aux_lemma => kernel_rfl) rfl (opL_le hS rfl) ⟨rfl, rfl, rfl, trivial⟩ (allIn_le hS ⟨⟨_, rfl, .inl rfl⟩, trivial⟩) rfl rfl))
      (apply draw_put rfl; (intro S1 hS; exact stp_add rfl (hS.op rfl) (hS.op rfl) e5))
      exact Draw.nil
    · rfl
    refine rest_join (St.of [(0, o1 (.sl 1003 0 zs.length)), (1, vv (I6 k)), (7, o1 (.sl 19 0 (zs.length + 1))), (22, o1 (.sl 22 0 K)), (23, vv (I6 K)), (24, vv (I6 j))] [(1003, wRo zs), (19, leOw ((wcT zs k j).set (pcN kk) (iget (wcT zs k j) (pcN kk) + ((cntN zs k kk : Nat) : Int)))), (22, leOw (setsL zs k))]) ?_ ?_
    · ((apply rest_one 11 rfl (by as_aux_lemma => kernel_rfl) rfl rfl; (first | exact stp_ix (j := pcN kk) rfl rfl rfl rfl rfl (by as_aux_lemma => kernel_rfl) rfl hpl hpil | exact stp_stI rfl rfl rfl rfl rfl (by omega) (by as_aux_lemma => kernel_rfl))); (apply rest_one 12 rfl (by as_aux_lemma => kernel_rfl) rfl rfl; (first | exact stp_ix (j := pcN kk) rfl rfl rfl rfl rfl (by as_aux_lemma => kernel_rfl) rfl hpl hpil | exact stp_stI rfl rfl rfl rfl rfl (by omega) (by as_aux_lemma => kernel_rfl))); (refine rest_done (by as_aux_lemma => kernel_rfl) ?_; exact fin_join (Wk.of ⟨rfl, rfl, rfl, rfl, rfl, rfl, trivial⟩ ⟨rfl, rfl, rfl, trivial⟩ trivial)))
    (refine fin_block ?_; refine fin_seq ?_; refine goes_region ?_; apply run_step rfl; (exact stp_add rfl rfl rfl e8); apply run_step rfl; (exact stp_move rfl rfl); refine run_nil ?_)
    exact fin_round (j + 1) (by omega) (by omega) (Wk.of ⟨rfl, rfl, rfl, rfl, rfl, rfl, trivial⟩ ⟨rfl, congrArg (fun z => some (leOw z)) hst.symm, rfl, trivial⟩ trivial)
  · obtain rfl : j = K := by omega
    (refine goes_exit ?_; refine fin_exit_then ?_; refine fin_exit_then ?_; refine fin_exit_eq ?_; refine fin_seq ?_; refine goes_seq ?_; refine goes_region ?_; apply run_step rfl; (exact stp_move rfl rfl); apply run_step rfl; (exact stp_assign rfl rfl); apply run_step rfl; (exact stp_assign rfl rfl); refine run_nil ?_; refine fin_seq ?_; refine goes_ret ?_)
    exact fin_ret2 (.inl rfl) rfl (.tmp rfl) (.tmp rfl) ⟨rfl, trivial⟩ trivial
set_option maxRecDepth 100000 in
set_option maxHeartbeats 2000000 in
theorem wyS_yes (zs : List Int) (m : Int) (hn : zs.length ≤ 4398046511104) (h0 : ringC zs m = 0) :
    FC Try.prog 31 [(1003, wRo zs)] [o1 (.sl 1003 0 zs.length), vv (I6 m)] [(19, leOw (wcL zs m.toNat))] (.tup [.one (.sl 19 0 (wcL zs m.toNat).length), .one (.val (I6 0))]) [] := by
  have hC := codeS_fc zs zs.length m rfl hn
  rw [h0] at hC
  obtain ⟨hd, hf, k, rfl, hk, ha⟩ := ringC_zero h0
  have h4 := isDiag_len hd
  have hlt := allN_lt h4
  have hk2 : k < 1000 := by omega
  rw [Int.toNat_natCast]
  have hsl := setsL_len h4 k
  obtain ⟨K, hK⟩ : ∃ K, (setsL zs k).length - 1 = K := ⟨_, rfl⟩
  have hK1 := sets_pos h4 ha
  have hil : K ≤ (ivals (setsL zs k)).length := by rw [ivals_len]; omega
  have hKs := (kindsS_fc zs zs.length k K rfl h4 hk2 hK (by omega)).nm [(1003, 1003), (8, 22)] (by kernel_rfl)
  have hKs : FC Try.prog 79 [(1003, wRo zs)] [o1 (.sl 1003 0 zs.length), vv (I6 k)] [(22, leOw (setsL zs k))] (o1 (.sl 22 0 K)) [] := hKs
  have hRk := rankS_fc zs zs.length h4
  unfold wcL
  rw [hK, wcT_len]
  refine fc_enter (nt := 50) Try.func31 rfl rfl (by simp) fun w0 ω0 => ?_
  (refine goes_seq ?_; refine goes_region ?_; apply run_step rfl; (exact stp_assign rfl rfl); apply run_step rfl; (exact stp_assign rfl rfl); refine run_nil ?_; refine fin_seq ?_; refine goes_seq ?_; refine goes_seq ?_; refine goes_region ?_; apply run_step rfl; (exact stp_move rfl rfl); apply run_step rfl; (exact stp_move rfl rfl); apply run_step rfl; ((apply call_gate 71; exact stp_callR hC (by as_aux_lemma => kernel_rfl) rfl rfl ⟨rfl, rfl, trivial⟩ ⟨⟨_, rfl, .inl rfl⟩, trivial⟩ rfl rfl)); apply run_step rfl; (exact stp_assign rfl rfl); refine run_nil ?_; refine fin_seq ?_; refine goes_seq ?_; refine goes_region ?_; apply run_step rfl; (exact stp_move rfl rfl); apply run_step rfl; (exact stp_bin rfl rfl rfl rfl); refine run_nil ?_; refine fin_seq ?_)
  refine goes_cond rfl (fun e => by cases e) (fun _ => ?_)
  (refine goes_skip ?_; refine fin_seq ?_; refine goes_seq ?_)
  apply goes_draw 8 [] [[], [0], [0, 1], [], [], [0, 1, 3, 4], [0, 1, 2, 3, 4, 5], [0, 1, 2, 3, 4, 5, 6]] [17, 18, 19, 20, 21, 22, 7, 8] [19, 22] (by kernel_rfl) (by kernel_rfl)
  · (apply draw_put rfl; (intro S1 hS; exact stp_move rfl (hS.op rfl)))
    (apply draw_put rfl; (intro S1 hS; apply call_gate 78; exact stp_callR hRk (by as_aux_lemma => kernel_rfl) rfl (opL_le hS rfl) ⟨rfl, trivial⟩ (allIn_le hS ⟨⟨_, rfl, .inl rfl⟩, trivial⟩) rfl rfl))
    (apply draw_new rfl; (intro S1 hS; exact stp_makeI (E := 2) rfl (by as_aux_lemma => kernel_rfl) (by as_aux_lemma => kernel_rfl) (hS.op rfl) (hS.op rfl) rfl rfl (by omega)))
    (apply draw_put rfl; (intro S1 hS; exact stp_move rfl (hS.op rfl)))
    (apply draw_put rfl; (intro S1 hS; exact stp_move rfl (hS.op rfl)))
    (apply draw_new rfl; (intro S1 hS; apply call_gate 79; exact stp_callN hKs (by as_aux_lemma => kernel_rfl) rfl (opL_le hS rfl) ⟨rfl, rfl, trivial⟩ (allIn_le hS ⟨⟨_, rfl, .inl rfl⟩, trivial⟩) rfl rfl rfl))
    (apply draw_put rfl; (intro S1 hS; exact stp_assign rfl (hS.op rfl)))
    (apply draw_put rfl; (intro S1 hS; exact stp_assign rfl (hS.op rfl)))
    exact Draw.nil
  · rfl
  ((refine rest_done (by as_aux_lemma => kernel_rfl) ?_; skip))
  (refine fin_seq ?_; refine goes_seq ?_; refine goes_seq ?_; refine goes_region ?_; apply run_step rfl; (exact stp_assign rfl rfl); refine run_nil ?_; refine fin_seq ?_; refine goes_block ?_)
  refine goes_loop (fun j : Nat => St.of [(0, o1 (.sl 1003 0 zs.length)), (1, vv (I6 k)), (7, o1 (.sl 19 0 (zs.length + 1))), (8, o1 (.sl 22 0 K)), (9, vv (I6 j))] [(1003, wRo zs), (19, leOw (wcT zs k j)), (22, leOw (setsL zs k))]) (fun j => j ≤ K) (fun j => K - j) 0 (Nat.zero_le _) (Wk.of ⟨rfl, rfl, rfl, rfl, rfl, trivial⟩ ⟨rfl, rfl, rfl, trivial⟩ trivial) ?_
  rintro j hj
  (refine goes_seq ?_; refine goes_seq ?_; refine goes_region ?_; apply run_step rfl; (exact stp_move rfl rfl); apply run_step rfl; (exact stp_move rfl rfl); apply run_step rfl; (exact stp_len rfl rfl rfl (by as_aux_lemma => kernel_rfl)); apply run_step rfl; (exact stp_bin rfl rfl rfl rfl); refine run_nil ?_; refine fin_seq ?_)
  refine goes_if rfl (fun hlj => ?_) (fun hlj => ?_)
  · have hjK : j < K := by omega
    have hat := kAt_eq h4 k j
    have h32 := kAt_lt h4 k j
    have hpc := kAt_pc h4 ha (i := j) (by omega)
    have hcl := wcT_len zs k j
    have hcb := wcT_in hd k j
    obtain ⟨kk, hkk⟩ : ∃ kk, kAt zs k j = kk := ⟨_, rfl⟩
    have hst : wcT zs k (j + 1) = (wcT zs k j).set (pcN kk) (iget (wcT zs k j) (pcN kk) + (cntN zs k kk : Nat)) := by rw [← hkk]; rfl
    rw [hkk] at hat h32 hpc
    have hgk : (ivals (setsL zs k))[j]? = some (I6 (kk : Int)) := by rw [ivals_get (by omega), hat]
    have hF := cntS_fc zs zs.length k kk rfl hd hf hk2 (by omega)
    have hcn := cntN_le hd k kk
    have hb1 := (hcb (pcN kk)).1
    have hb2 := (hcb (pcN kk)).2
    have hcur : (ivals (wcT zs k j))[pcN kk]? = some (I6 (iget (wcT zs k j) (pcN kk))) := ivals_get (by omega)
    have hpl : pcN kk < zs.length + 1 := by omega
    have hpil : zs.length + 1 ≤ (ivals (wcT zs k j)).length := by rw [ivals_len]; omega
    have e5 : IntKind.i64.wrap (iget (wcT zs k j) (pcN kk) + ((cntN zs k kk : Nat) : Int)) = iget (wcT zs k j) (pcN kk) + ((cntN zs k kk : Nat) : Int) := IntWalk.i64_in _ (by omega)
    have e8 : IntKind.i64.wrap ((j : Int) + 1) = ((j + 1 : Nat) : Int) := by rw [IntWalk.i64_in _ (by omega)]; omega
    have hO := bitsS_fc kk h32
    (refine goes_skip ?_; refine fin_seq ?_; refine goes_seq ?_; refine goes_block ?_; refine goes_seq ?_; refine goes_region ?_; apply run_step rfl; (exact stp_move rfl rfl); apply run_step rfl; (exact stp_move rfl rfl); apply run_step rfl; (first | exact stp_ix (j := j) rfl rfl rfl rfl rfl (by as_aux_lemma => kernel_rfl) rfl hjK hil | exact stp_loadV rfl (by as_aux_lemma => kernel_rfl) rfl rfl rfl hgk | (apply call_gate 80; exact stp_callR hO (by as_aux_lemma => kernel_rfl) rfl rfl ⟨rfl, trivial⟩ trivial rfl rfl)); apply run_step rfl; (first | exact stp_ix (j := j) rfl rfl rfl rfl rfl (by as_aux_lemma => kernel_rfl) rfl hjK hil | exact stp_loadV rfl (by as_aux_lemma => kernel_rfl) rfl rfl rfl hgk | (apply call_gate 80; exact stp_callR hO (by as_aux_lemma => kernel_rfl) rfl rfl ⟨rfl, trivial⟩ trivial rfl rfl)); apply run_step rfl; (first | exact stp_ix (j := j) rfl rfl rfl rfl rfl (by as_aux_lemma => kernel_rfl) rfl hjK hil | exact stp_loadV rfl (by as_aux_lemma => kernel_rfl) rfl rfl rfl hgk | (apply call_gate 80; exact stp_callR hO (by as_aux_lemma => kernel_rfl) rfl rfl ⟨rfl, trivial⟩ trivial rfl rfl)); apply run_step rfl; (exact stp_assign rfl rfl); refine run_nil ?_; refine fin_seq ?_)
    apply goes_draw 14 [] [[], [], [], [], [2, 3], [2, 3, 4], [], [], [], [], [8, 9], [8, 9, 10], [6, 7, 8, 9, 10, 11], [2, 3, 4, 5, 6, 7, 8, 9, 10, 11, 12], [0, 1, 2, 3, 4, 5, 6, 7, 8, 9, 10, 11, 12, 13], [0, 1, 2, 3, 4, 5, 6, 7, 8, 9, 10, 11, 12, 13, 14]] [34, 35, 36, 37, 38, 39, 40, 41, 42, 43, 44, 45, 46, 47] [] (by kernel_rfl) (by kernel_rfl)
    · (apply draw_put rfl; (intro S1 hS; exact stp_move rfl (hS.op rfl)))
      (apply draw_put rfl; (intro S1 hS; exact stp_move rfl (hS.op rfl)))
      (apply draw_put rfl; (intro S1 hS; exact stp_move rfl (hS.op rfl)))
      (apply draw_put rfl; (intro S1 hS; exact stp_move rfl (hS.op rfl)))
      (apply draw_put rfl; (intro S1 hS; exact stp_ix (j := pcN kk) rfl (hS.op rfl) (hS.op rfl) (hS.ch _ _ rfl) rfl (by as_aux_lemma => kernel_rfl) rfl hpl hpil))
      (apply draw_put rfl; (intro S1 hS; exact stp_loadV rfl (by as_aux_lemma => kernel_rfl) (hS.op rfl) (hS.ch _ _ rfl) rfl hcur))
      (apply draw_put rfl; (intro S1 hS; exact stp_move rfl (hS.op rfl)))
      (apply draw_put rfl; (intro S1 hS; exact stp_move rfl (hS.op rfl)))
      (apply draw_put rfl; (intro S1 hS; exact stp_move rfl (hS.op rfl)))
      (apply draw_put rfl; (intro S1 hS; exact stp_move rfl (hS.op rfl)))
      (apply draw_put rfl; (intro S1 hS; exact stp_ix (j := j) rfl (hS.op rfl) (hS.op rfl) (hS.ch _ _ rfl) rfl (by as_aux_lemma => kernel_rfl) rfl hjK hil))
      (apply draw_put rfl; (intro S1 hS; exact stp_loadV rfl (by as_aux_lemma => kernel_rfl) (hS.op rfl) (hS.ch _ _ rfl) rfl hgk))
      (apply draw_put rfl; (intro S1 hS; apply call_gate 81; exact stp_callR hF (by as_aux_lemma => kernel_rfl) rfl (opL_le hS rfl) ⟨rfl, rfl, rfl, trivial⟩ (allIn_le hS ⟨⟨_, rfl, .inl rfl⟩, trivial⟩) rfl rfl))
      (apply draw_put rfl; (intro S1 hS; exact stp_add rfl (hS.op rfl) (hS.op rfl) e5))
      exact Draw.nil
    · rfl
    refine rest_join (St.of [(0, o1 (.sl 1003 0 zs.length)), (1, vv (I6 k)), (7, o1 (.sl 19 0 (zs.length + 1))), (8, o1 (.sl 22 0 K)), (9, vv (I6 j))] [(1003, wRo zs), (19, leOw ((wcT zs k j).set (pcN kk) (iget (wcT zs k j) (pcN kk) + ((cntN zs k kk : Nat) : Int)))), (22, leOw (setsL zs k))]) ?_ ?_
    · ((apply rest_one 14 rfl (by as_aux_lemma => kernel_rfl) rfl rfl; (first | exact stp_ix (j := pcN kk) rfl rfl rfl rfl rfl (by as_aux_lemma => kernel_rfl) rfl hpl hpil | exact stp_stI rfl rfl rfl rfl rfl (by omega) (by as_aux_lemma => kernel_rfl))); (apply rest_one 15 rfl (by as_aux_lemma => kernel_rfl) rfl rfl; (first | exact stp_ix (j := pcN kk) rfl rfl rfl rfl rfl (by as_aux_lemma => kernel_rfl) rfl hpl hpil | exact stp_stI rfl rfl rfl rfl rfl (by omega) (by as_aux_lemma => kernel_rfl))); (refine rest_done (by as_aux_lemma => kernel_rfl) ?_; exact fin_join (Wk.of ⟨rfl, rfl, rfl, rfl, rfl, trivial⟩ ⟨rfl, rfl, rfl, trivial⟩ trivial)))
    (refine fin_block ?_; refine fin_seq ?_; refine goes_region ?_; apply run_step rfl; (exact stp_move rfl rfl); apply run_step rfl; (exact stp_add rfl rfl rfl e8); apply run_step rfl; (exact stp_assign rfl rfl); refine run_nil ?_)
    exact fin_round (j + 1) (by omega) (by omega) (Wk.of ⟨rfl, rfl, rfl, rfl, rfl, trivial⟩ ⟨rfl, congrArg (fun z => some (leOw z)) hst.symm, rfl, trivial⟩ trivial)
  · obtain rfl : j = K := by omega
    (refine goes_exit ?_; refine fin_exit_then ?_; refine fin_exit_then ?_; refine fin_exit_eq ?_; refine fin_seq ?_; refine goes_seq ?_; refine goes_region ?_; apply run_step rfl; (exact stp_move rfl rfl); apply run_step rfl; (exact stp_assign rfl rfl); apply run_step rfl; (exact stp_assign rfl rfl); refine run_nil ?_; refine fin_seq ?_; refine goes_ret ?_)
    exact fin_ret2 (.inl rfl) rfl (.tmp rfl) (.tmp rfl) ⟨rfl, trivial⟩ trivial
set_option maxRecDepth 100000 in
theorem wyI_no (zs : List Int) (m : Int) (hn : zs.length ≤ 4398046511104) (h0 : ringC zs m ≠ 0) :
    FC Try.prog 32 [(1003, wRo zs)] [o1 (.sl 1003 0 zs.length), vv (I6 m)] [] (.tup [.one (.val (.slice none 0 0)), .one (.val (I6 (ringC zs m)))]) [] := by
  have hC := ringI_fc zs zs.length m rfl hn
  refine fc_enter (nt := 42) Try.func32 rfl rfl (by simp) fun w0 ω0 => ?_
  (refine goes_seq ?_; refine goes_region ?_; apply run_step rfl; (exact stp_assign rfl rfl); apply run_step rfl; (exact stp_assign rfl rfl); refine run_nil ?_; refine fin_seq ?_; refine goes_seq ?_; refine goes_seq ?_; refine goes_region ?_; apply run_step rfl; (exact stp_move rfl rfl); apply run_step rfl; (exact stp_move rfl rfl); apply run_step rfl; ((apply call_gate 73; exact stp_callR hC (by as_aux_lemma => kernel_rfl) rfl rfl ⟨rfl, rfl, trivial⟩ ⟨⟨_, rfl, .inl rfl⟩, trivial⟩ rfl rfl)); apply run_step rfl; (exact stp_assign rfl rfl); refine run_nil ?_; refine fin_seq ?_; refine goes_seq ?_; refine goes_region ?_; apply run_step rfl; (exact stp_move rfl rfl); apply run_step rfl; (exact stp_bin rfl rfl rfl rfl); refine run_nil ?_; refine fin_seq ?_)
  refine goes_cond rfl (fun _ => ?_) (fun e => absurd (by simpa using e) h0)
  (refine goes_seq ?_; refine goes_region ?_; apply run_step rfl; (exact stp_move rfl rfl); apply run_step rfl; (exact stp_assign rfl rfl); apply run_step rfl; (exact stp_assign rfl rfl); refine run_nil ?_; refine fin_seq ?_; refine goes_ret ?_; refine fin_ret_then ?_)
  exact fin_ret2 (.inl rfl) rfl (.tmp rfl) (.tmp rfl) trivial trivial
set_option maxRecDepth 100000 in
theorem wyS_no (zs : List Int) (m : Int) (hn : zs.length ≤ 4398046511104) (h0 : ringC zs m ≠ 0) :
    FC Try.prog 31 [(1003, wRo zs)] [o1 (.sl 1003 0 zs.length), vv (I6 m)] [] (.tup [.one (.val (.slice none 0 0)), .one (.val (I6 (ringC zs m)))]) [] := by
  have hC := codeS_fc zs zs.length m rfl hn
  refine fc_enter (nt := 50) Try.func31 rfl rfl (by simp) fun w0 ω0 => ?_
  (refine goes_seq ?_; refine goes_region ?_; apply run_step rfl; (exact stp_assign rfl rfl); apply run_step rfl; (exact stp_assign rfl rfl); refine run_nil ?_; refine fin_seq ?_; refine goes_seq ?_; refine goes_seq ?_; refine goes_region ?_; apply run_step rfl; (exact stp_move rfl rfl); apply run_step rfl; (exact stp_move rfl rfl); apply run_step rfl; ((apply call_gate 71; exact stp_callR hC (by as_aux_lemma => kernel_rfl) rfl rfl ⟨rfl, rfl, trivial⟩ ⟨⟨_, rfl, .inl rfl⟩, trivial⟩ rfl rfl)); apply run_step rfl; (exact stp_assign rfl rfl); refine run_nil ?_; refine fin_seq ?_; refine goes_seq ?_; refine goes_region ?_; apply run_step rfl; (exact stp_move rfl rfl); apply run_step rfl; (exact stp_bin rfl rfl rfl rfl); refine run_nil ?_; refine fin_seq ?_)
  refine goes_cond rfl (fun _ => ?_) (fun e => absurd (by simpa using e) h0)
  (refine goes_seq ?_; refine goes_region ?_; apply run_step rfl; (exact stp_move rfl rfl); apply run_step rfl; (exact stp_assign rfl rfl); apply run_step rfl; (exact stp_assign rfl rfl); refine run_nil ?_; refine fin_seq ?_; refine goes_ret ?_; refine fin_ret_then ?_)
  exact fin_ret2 (.inl rfl) rfl (.tmp rfl) (.tmp rfl) trivial trivial
def wyR (zs : List Int) (m : Int) : List Int := if ringC zs m = 0 then wcL zs m.toNat else []
theorem wyR_small (zs : List Int) (m : Int) : (wyR zs m).length ≤ 32 := by
  unfold wyR
  split
  · rename_i h; have := isDiag_len (ringC_zero h).1; unfold wcL; rw [wcT_len]; omega
  · simp
theorem wy_small {zs : List Int} {m : Int} (h : ringC zs m = 0) : (wcL zs m.toNat).length ≤ 1000 := by
  have := isDiag_len (ringC_zero h).1; unfold wcL; rw [wcT_len]; omega
theorem api_specWy {E : Nat} {lo hi : Nat} {v : Value} {zs : List Int} (m : Int) (w : World) (h : OwnS E w lo hi v zs) :
    Calls Try.prog 31 #[v, .int .i64 m] w fun e w' => ∃ r, e = .returned (.tuple #[r, .int .i64 (ringC zs m)]) ∧ OwnS 2 w' w.heap.size w'.heap.size r (wyR zs m) ∧ Below w.heap.size w w' :=
  list_or_nilI (B := wcL zs m.toNat) rfl wy_small (wyS_yes zs m) (wyS_no zs m) w h
theorem api_implWy {E : Nat} {lo hi : Nat} {v : Value} {zs : List Int} (m : Int) (w : World) (h : OwnS E w lo hi v zs) :
    Calls Try.prog 32 #[v, .int .i64 m] w fun e w' => ∃ r, e = .returned (.tuple #[r, .int .i64 (ringC zs m)]) ∧ OwnS 2 w' w.heap.size w'.heap.size r (wyR zs m) ∧ Below w.heap.size w w' :=
  list_or_nilI (B := wcL zs m.toNat) rfl wy_small (wyI_yes zs m) (wyI_no zs m) w h
end Go.Proofs.Ytnfkhgamnapgmaa

/- The walk of FnExactWythoffCounts: true, whatever the arguments. Written by genwalk.py. -/
namespace Go.Proofs.Ytnfkhgamnapgmaa
open Go.RowKit

set_option maxHeartbeats 3200000 in
theorem walkWythoffCounts {a0 : Option Addr} {n0 c0 : Nat} {zs : List Int} (m : Int) (w : World) (h0 : Ints w a0 n0 zs) (_hw : (Lit.int .i64 m).wf = true) :
    Calls Try.prog 6 #[.slice a0 n0 c0, .int .i64 m] w fun e w' => e = .returned (.bool true) ∧ Below w.heap.size w w' := by
  have hsz := wyR_small zs m
  have B0 : Below w.heap.size w w := Below.refl _ _
  have hb0 := h0.2.1
  by_cases hs0 : n0 ≤ 1048576
  · have g0 : decide ((1048576 : Int) < n0) = false := by simp; omega
    have hl0 : zs.length = n0 := h0.1
    have HL0 := Lib.hid hl0
    clear hl0
    go_enter Try.func6, Try.ntmps6
    go_wp2_with fail
    refine (law_toS _ (show RdS _ _ _ from ⟨_, _, _, rfl, (h0.below B0)⟩) (by rw [HL0.out]; omega)).mono ?_
    rintro e w1 ⟨u1, rfl, o1, b1⟩
    have s1 := b1.size
    have B1 : Below w.heap.size w w1 := B0.trans (b1.mono B0.size)
    go_wp2_with fail
    refine (api_specWy m _ o1 ).mono ?_
    rintro e w2 ⟨u2_0, rfl, o2_0, b2⟩
    have s2 := b2.size
    have B2 : Below w.heap.size w w2 := B1.trans (b2.mono B1.size)
    go_wp2_with fail
    refine (law_toS _ (show RdS _ _ _ from ⟨_, _, _, rfl, (h0.below B2)⟩) (by rw [HL0.out]; omega)).mono ?_
    rintro e w3 ⟨u3, rfl, o3, b3⟩
    have s3 := b3.size
    have B3 : Below w.heap.size w w3 := B2.trans (b3.mono B2.size)
    go_wp2_with fail
    refine (api_implWy m _ o3 ).mono ?_
    rintro e w4 ⟨u4_0, rfl, o4_0, b4⟩
    have s4 := b4.size
    have B4 : Below w.heap.size w w4 := B3.trans (b4.mono B3.size)
    go_wp2_with fail
    refine (law_eqS _ o4_0.rd ((o2_0.below b3).below b4).rd).mono ?_
    rintro e w5 ⟨rfl, b5⟩
    have s5 := b5.size
    have B5 : Below w.heap.size w w5 := B4.trans (b5.mono B4.size)
    go_wp2_with fail
    refine (law_toS _ (show RdS _ _ _ from ⟨_, _, _, rfl, (h0.below B5)⟩) (by rw [HL0.out]; omega)).mono ?_
    rintro e w6 ⟨u6, rfl, o6, b6⟩
    have s6 := b6.size
    have B6 : Below w.heap.size w w6 := B5.trans (b6.mono B5.size)
    go_wp2_with fail
    refine (law_eqS _ (((o3.below b4).below b5).below b6).rd o6.rd).mono ?_
    rintro e w7 ⟨rfl, b7⟩
    have s7 := b7.size
    have B7 : Below w.heap.size w w7 := B6.trans (b7.mono B6.size)
    go_wp2_with fail
    refine (law_markS (1) _ ((((o3.below b4).below b5).below b6).below b7) (by omega) (by omega)).mono ?_
    rintro e w8 ⟨rfl, o8, q8⟩
    have s8 := q8.size
    have B8 : Below w.heap.size w w8 := B7.trans (q8.below (by omega) B7.size)
    go_wp2_with fail
    refine (law_eqS _ ((((o4_0.below b5).below b6).below b7).only q8 (by omega)).rd ((((((o2_0.below b3).below b4).below b5).below b6).below b7).only q8 (by omega)).rd).mono ?_
    rintro e w9 ⟨rfl, b9⟩
    have s9 := b9.size
    have B9 : Below w.heap.size w w9 := B8.trans (b9.mono B8.size)
    go_wp2_with fail
    refine (law_markS (1) _ (((((o4_0.below b5).below b6).below b7).only q8 (by omega)).below b9) (by omega) (by omega)).mono ?_
    rintro e w10 ⟨rfl, o10, q10⟩
    have s10 := q10.size
    have B10 : Below w.heap.size w w10 := B9.trans (q10.below (by omega) B9.size)
    go_wp2_with fail
    refine (law_heldS (1) _ o10.rd (by omega) (by omega)).mono ?_
    rintro e w11 ⟨rfl, b11⟩
    have s11 := b11.size
    have B11 : Below w.heap.size w w11 := B10.trans (b11.mono B10.size)
    go_wp2_with fail
    refine (law_toS _ (show RdS _ _ _ from ⟨_, _, _, rfl, (h0.below B11)⟩) (by rw [HL0.out]; omega)).mono ?_
    rintro e w12 ⟨u12, rfl, o12, b12⟩
    have s12 := b12.size
    have B12 : Below w.heap.size w w12 := B11.trans (b12.mono B11.size)
    go_wp2_with fail
    refine (api_implWy m _ o12 ).mono ?_
    rintro e w13 ⟨u13_0, rfl, o13_0, b13⟩
    have s13 := b13.size
    have B13 : Below w.heap.size w w13 := B12.trans (b13.mono B12.size)
    go_wp2_with fail
    refine (law_eqS _ o13_0.rd (((((((((((o2_0.below b3).below b4).below b5).below b6).below b7).only q8 (by omega)).below b9).only q10 (by omega)).below b11).below b12).below b13).rd).mono ?_
    rintro e w14 ⟨rfl, b14⟩
    have s14 := b14.size
    have B14 : Below w.heap.size w w14 := B13.trans (b14.mono B13.size)
    go_wp2_with fail
    refine (law_heldS (1) _ ((((o10.below b11).below b12).below b13).below b14).rd (by omega) (by omega)).mono ?_
    rintro e w15 ⟨rfl, b15⟩
    have s15 := b15.size
    have B15 : Below w.heap.size w w15 := B14.trans (b15.mono B14.size)
    go_wp2
    go_ret
    exact ⟨rfl, B15⟩
  · have g0 : decide ((1048576 : Int) < n0) = true := by simp; omega
    go_enter Try.func6, Try.ntmps6
    go_wp2
    go_ret
    exact ⟨rfl, B0⟩
end Go.Proofs.Ytnfkhgamnapgmaa
