/- Coset enumeration: each generator leads back; words lead back after some times. No program in sight. -/
import Derived.Test.YtpognnifgcacnaaPart3
namespace Go.Proofs.Ytpognnifgcacnaa

/-- equal, as far as the identifications and the queue say -/
inductive Eqv (less : List Int) (q : List (Int × Int)) : Nat → Nat → Prop where
  | refl (a : Nat) : Eqv less q a a
  | symm {a b : Nat} (h : Eqv less q a b) : Eqv less q b a
  | trans {a b c : Nat} (h : Eqv less q a b) (k : Eqv less q b c) : Eqv less q a c
  | root (a : Nat) (h : a < less.length) : Eqv less q a (root less a)
  | pair (p : Int × Int) (h : p ∈ q) : Eqv less q p.1.toNat p.2.toNat
theorem Eqv.mono {less less' : List Int} {q q' : List (Int × Int)} (h1 : ∀ a, a < less.length → Eqv less' q' a (Proofs.Ytpognnifgcacnaa.root less a)) (h2 : ∀ p ∈ q, Eqv less' q' p.1.toNat p.2.toNat) {a b : Nat} (h : Eqv less q a b) : Eqv less' q' a b := by
  induction h with
  | refl a => exact .refl a
  | symm _ ih => exact .symm ih
  | trans _ _ ih1 ih2 => exact .trans ih1 ih2
  | root a h => exact h1 a h
  | pair p h => exact h2 p h
/-- where a live coset leads, there its generator leads back -/
def Back (ng : Nat) (im : List (List Int)) (less : List Int) (q : List (Int × Int)) : Prop :=
  ∀ c g, c < less.length → iget less c = (c : Int) → g < ng → 0 ≤ ent im c g → 0 ≤ ent im (root less (ent im c g).toNat) g ∧ Eqv less q (ent im (root less (ent im c g).toNat) g).toNat c
section
variable {ng : Nat} {im : List (List Int)} {less : List Int}
theorem Back.of (h : ∀ c g, c < less.length → iget less c = (c : Int) → g < ng → 0 ≤ ent im c g → 0 ≤ ent im (root less (ent im c g).toNat) g ∧ root less (ent im (root less (ent im c g).toNat) g).toNat = c) (hw : WF ng im less) : Back ng im less [] := fun c g hc hl hg h0 => by
  obtain ⟨k1, k2⟩ := h c g hc hl hg h0
  refine ⟨k1, ?_⟩
  have he := hw.ent c g (by rw [hw.len]; exact hc) hg
  have hrl := root_lt hw.down (c := (ent im c g).toNat) (by omega)
  have he2 := hw.ent (root less (ent im c g).toNat) g (by rw [hw.len]; exact hrl) hg
  have := Eqv.root (less := less) (q := []) (ent im (root less (ent im c g).toNat) g).toNat (by omega)
  rwa [k2] at this
end
end Go.Proofs.Ytpognnifgcacnaa

/- The numbers of orbits, the reference's: l01Orbits; sizes of orbits, the program's: orbitSizes; the greatest number. -/
namespace Go.Proofs.Ytpognnifgcacnaa
open Go.RowKit

section
variable {T : List (List Int)} {n : Nat}
theorem orb_mem (hT : Leads T n) {c : Nat} (hc : c < n) {d : Nat} (hd : d < n) : rch T n c d = true ↔ ∃ k, k < (orb T n c).2.length ∧ iget (orb T n c).2 k = (d : Int) := by
  have h := orb_ok hT hc
  refine ⟨fun hr => h.cov d hd hr, fun ⟨k, hk, e⟩ => ?_⟩
  obtain ⟨d', e', _, hb⟩ := h.q k hk
  have : d' = d := by omega
  subst this; exact hb
theorem ints_ext {a b : List Int} (hl : a.length = b.length) (h : ∀ k, k < a.length → iget a k = iget b k) : a = b := by
  refine List.ext_getElem hl fun k h1 h2 => ?_
  have := h k h1
  simpa [iget, h1, h2] using this
end
set_option maxRecDepth 100000 in
set_option maxHeartbeats 2000000 in
theorem orbsS_fc (zss : List (List Int)) (n ng : Nat) (hng : zss.length = ng) (hT : Leads zss n) (hpos : 0 < ng) (hn : n ≤ 1000000) (hg : ng ≤ 1000000) :
    FC Try.prog 208 [(1003, rowsRo zss)] [vv (I6 n), o1 (.sl 1003 0 ng)] [(11, leOw (labs zss n).1)] (o1 (.sl 11 0 n)) [] := by
  subst hng
  refine fc_enter (nt := 49) Try.func208 rfl rfl (by simp) fun w0 ω0 => ?_
  (refine goes_seq ?_; refine goes_region ?_; apply run_step rfl; (exact stp_assign rfl rfl); refine run_nil ?_; refine fin_seq ?_; refine goes_seq ?_; refine goes_region ?_; apply run_step rfl; (exact stp_lit0 (E := 2) (k := 1) rfl (by as_aux_lemma => kernel_rfl)); apply run_step rfl; (exact stp_assign rfl rfl); refine run_nil ?_; refine fin_seq ?_; refine goes_seq ?_; refine goes_seq ?_; refine goes_region ?_; apply run_step rfl; (exact stp_assign rfl rfl); refine run_nil ?_; refine fin_seq ?_; refine goes_block ?_)
  refine goes_loop (fun k : Nat => St.of [(0, vv (I6 n)), (1, o1 (.sl 1003 0 zss.length)), (5, o1 (.sl 11 0 k)), (6, vv (I6 k))] [(1003, rowsRo zss), (11, leOw (List.replicate k (-1)))]) (fun k => k ≤ n) (fun k => n - k) 0 (Nat.zero_le _) (Wk.of ⟨rfl, rfl, rfl, rfl, trivial⟩ ⟨rfl, rfl, trivial⟩ trivial) ?_
  intro k hk
  have hkl : (ivals (List.replicate k (-1))).length = k := by rw [ivals_len, List.length_replicate]
  (refine goes_seq ?_; refine goes_seq ?_; refine goes_region ?_; apply run_step rfl; (exact stp_move rfl rfl); apply run_step rfl; (exact stp_move rfl rfl); apply run_step rfl; (exact stp_bin rfl rfl rfl rfl); refine run_nil ?_; refine fin_seq ?_)
  refine goes_if rfl (fun h => ?_) (fun h => ?_)
  · have hkn : k < n := by omega
    (refine goes_skip ?_; refine fin_seq ?_; refine goes_seq ?_; refine goes_block ?_; refine goes_region ?_; apply run_step rfl; (exact stp_move rfl rfl); apply run_step rfl; (exact stp_lit1I (E := 2) rfl (by as_aux_lemma => kernel_rfl) rfl); apply run_step rfl; (exact stp_appI rfl (by as_aux_lemma => kernel_rfl) rfl rfl rfl (by first | rfl | assumption | (simp; done)) rfl rfl (by omega)); apply run_step rfl; (exact stp_assign rfl rfl); refine run_nil ?_; refine fin_block ?_; refine fin_seq ?_; refine goes_region ?_; apply run_step rfl; (exact stp_move rfl rfl); apply run_step rfl; (exact stp_add rfl rfl rfl (by first | exact IntWalk.i64_in _ (by omega) | rfl)); apply run_step rfl; (exact stp_assign rfl rfl); refine run_nil ?_)
    exact fin_round (k + 1) hkn (by show n - (k + 1) < n - k; omega) (Wk.of ⟨rfl, rfl, rfl, rfl, trivial⟩ ⟨rfl, congrArg (fun l => some (leOw l)) (List.replicate_succ' (n := k) (a := (-1 : Int))).symm, trivial⟩ trivial)
  · obtain rfl : k = n := by omega
    (refine goes_exit ?_; refine fin_exit_then ?_; refine fin_exit_then ?_; refine fin_exit_eq ?_; refine fin_seq ?_; refine goes_seq ?_; refine goes_region ?_; apply run_step rfl; (exact stp_assign rfl rfl); refine run_nil ?_; refine fin_seq ?_; refine goes_seq ?_; refine goes_seq ?_; refine goes_region ?_; apply run_step rfl; (exact stp_assign rfl rfl); refine run_nil ?_; refine fin_seq ?_; refine goes_block ?_)
    refine goes_loop (fun q : Nat × LSt => St.of [(0, vv (I6 k)), (1, o1 (.sl 1003 0 zss.length)), (5, o1 (.sl 11 0 k)), (7, vv (I6 q.2.2)), (8, vv (I6 q.1))] [(1003, rowsRo zss), (11, leOw q.2.1)]) (fun q => q.1 ≤ k ∧ labTo zss k q.1 = q.2) (fun q => k - q.1) (0, labStart k) ⟨Nat.zero_le _, rfl⟩ (Wk.of ⟨rfl, rfl, rfl, rfl, rfl, trivial⟩ ⟨rfl, rfl, trivial⟩ trivial) ?_
    rintro ⟨i, L, m⟩ ⟨hi, hl⟩
    dsimp only at hi hl ⊢
    have hLl : L.length = k := by
      have hlen : ∀ j, (labTo zss k j).1.length = k := fun j => by
        induction j with
        | zero => simp [labTo, labStart]
        | succ j ih => rw [labTo_succ]; unfold labStep; split; exact ih; exact labSet_len
      have := hlen i
      rw [hl] at this; exact this
    have hil : k ≤ (ivals L).length := by rw [ivals_len, hLl]; exact Nat.le_refl _
    have hnext := labTo_succ (T := zss) (n := k) i
    rw [hl] at hnext
    unfold labStep at hnext
    have hmi : m ≤ i := by
      have hk : ∀ j, (labTo zss k j).2 ≤ j := fun j => by
        induction j with
        | zero => exact Nat.le_refl _
        | succ j ih => rw [labTo_succ]; unfold labStep; split; omega; show (labTo zss k j).2 + 1 ≤ j + 1; omega
      have := hk i
      rw [hl] at this; exact this
    (refine goes_seq ?_; refine goes_seq ?_; refine goes_region ?_; apply run_step rfl; (exact stp_move rfl rfl); apply run_step rfl; (exact stp_move rfl rfl); apply run_step rfl; (exact stp_bin rfl rfl rfl rfl); refine run_nil ?_; refine fin_seq ?_)
    refine goes_if rfl (fun h1 => ?_) (fun h1 => ?_)
    · have hik : i < k := by omega
      have gi : (ivals L)[i]? = some (I6 (iget L i)) := ivals_get (by omega)
      (refine goes_skip ?_; refine fin_seq ?_; refine goes_seq ?_; refine goes_block ?_; refine goes_seq ?_; refine goes_seq ?_; refine goes_region ?_; apply run_step rfl; (exact stp_move rfl rfl); apply run_step rfl; (exact stp_move rfl rfl); apply run_step rfl; (exact stp_ix (j := i) rfl rfl rfl rfl rfl (by as_aux_lemma => kernel_rfl) rfl hik hil); apply run_step rfl; (exact stp_loadV rfl (by as_aux_lemma => kernel_rfl) rfl rfl rfl (by first | assumption | exact ivals_get (by assumption) | exact irows_get (by assumption) | exact ivals_get (by omega) | exact irows_get (by omega) | rfl)); apply run_step rfl; (exact stp_bin rfl rfl rfl rfl); refine run_nil ?_; refine fin_seq ?_)
      refine goes_if rfl (fun h2 => ?_) (fun h2 => ?_)
      · have h2' : 0 ≤ iget L i := h2
        rw [if_pos h2'] at hnext
        (refine goes_exit ?_; refine fin_exit_then ?_; refine fin_exit_eq ?_; refine fin_seq ?_; refine goes_region ?_; apply run_step rfl; (exact stp_move rfl rfl); apply run_step rfl; (exact stp_add rfl rfl rfl (by first | exact IntWalk.i64_in _ (by omega) | rfl)); apply run_step rfl; (exact stp_assign rfl rfl); refine run_nil ?_)
        exact fin_round (i + 1, L, m) ⟨hik, hnext⟩ (by show k - (i + 1) < k - i; omega) (Wk.of ⟨rfl, rfl, rfl, rfl, rfl, trivial⟩ ⟨rfl, rfl, trivial⟩ trivial)
      · have h2' : ¬ 0 ≤ iget L i := h2
        rw [if_neg h2'] at hnext
        have hO := (orbS_fc zss k i hT hpos hn hg hik).nm [(1003, 1003), (12, 32)] (by kernel_rfl)
        have hO : FC Try.prog 177 [(1003, rowsRo zss)] [o1 (.sl 1003 0 zss.length), vv (I6 i)] [(32, leOw (orb zss k i).2)] (o1 (.sl 32 0 (orb zss k i).2.length)) [] := hO
        have hok := orb_ok hT hik
        have hol := hok.le
        have hmem : ∀ d, d < k → (rch zss k i d = true ↔ ∃ p, p < (orb zss k i).2.length ∧ iget (orb zss k i).2 p = (d : Int)) := fun d hd => orb_mem hT hik hd
        have hq := hok.q
        generalize (orb zss k i).2 = O at *
        (refine goes_skip ?_; refine fin_seq ?_; refine goes_seq ?_; refine goes_region ?_; apply run_step rfl; (exact stp_move rfl rfl); apply run_step rfl; (exact stp_move rfl rfl); apply run_step rfl; (apply call_gate 177; exact stp_callN hO (by as_aux_lemma => kernel_rfl) rfl rfl ⟨rfl, rfl, trivial⟩ ⟨⟨_, rfl, .inl rfl⟩, trivial⟩ rfl rfl rfl); apply run_step rfl; (exact stp_assign rfl rfl); refine run_nil ?_; refine fin_seq ?_; refine goes_seq ?_; refine goes_seq ?_; refine goes_region ?_; apply run_step rfl; (exact stp_assign rfl rfl); refine run_nil ?_; refine fin_seq ?_; refine goes_block ?_)
        refine goes_loop (fun q : Nat × List Int => St.of [(0, vv (I6 k)), (1, o1 (.sl 1003 0 zss.length)), (5, o1 (.sl 11 0 k)), (7, vv (I6 m)), (8, vv (I6 i)), (9, o1 (.sl 32 0 O.length)), (10, vv (I6 q.1))] [(1003, rowsRo zss), (11, leOw q.2), (32, leOw O)])
          (fun q => q.1 ≤ O.length ∧ q.2.length = k ∧ ∀ d, d < k → iget q.2 d = if (∃ p, p < q.1 ∧ iget O p = (d : Int)) then (m : Int) else iget L d) (fun q => O.length - q.1) (0, L) ⟨Nat.zero_le _, hLl, fun d _ => by rw [if_neg (by rintro ⟨p, hp, _⟩; omega)]⟩ (Wk.of ⟨rfl, rfl, rfl, rfl, rfl, rfl, rfl, trivial⟩ ⟨rfl, rfl, rfl, trivial⟩ trivial) ?_
        rintro ⟨p, M⟩ ⟨hp, hMl, hM⟩
        dsimp only at hp hMl hM ⊢
        have hMi : k ≤ (ivals M).length := by rw [ivals_len, hMl]; exact Nat.le_refl _
        (refine goes_seq ?_; refine goes_seq ?_; refine goes_region ?_; apply run_step rfl; (exact stp_move rfl rfl); apply run_step rfl; (exact stp_move rfl rfl); apply run_step rfl; (exact stp_len rfl rfl rfl (by as_aux_lemma => kernel_rfl)); apply run_step rfl; (exact stp_bin rfl rfl rfl rfl); refine run_nil ?_; refine fin_seq ?_)
        refine goes_if rfl (fun h3 => ?_) (fun h3 => ?_)
        · have hpl : p < O.length := by omega
          obtain ⟨d, hd1, hd2, _⟩ := hq p hpl
          have gp : (ivals O)[p]? = some (I6 (d : Int)) := by rw [ivals_get hpl, hd1]
          have hOi : O.length ≤ (ivals O).length := by rw [ivals_len]; exact Nat.le_refl _
          (refine goes_skip ?_; refine fin_seq ?_; refine goes_seq ?_; refine goes_block ?_; refine goes_region ?_; apply run_step rfl; (exact stp_move rfl rfl); apply run_step rfl; (exact stp_move rfl rfl); apply run_step rfl; (exact stp_move rfl rfl); apply run_step rfl; (first | exact stp_ix (j := p) rfl rfl rfl rfl rfl (by as_aux_lemma => kernel_rfl) rfl hpl hOi | exact stp_ix (j := d) rfl rfl rfl rfl rfl (by as_aux_lemma => kernel_rfl) rfl hd2 hMi | exact stp_stI rfl rfl rfl rfl rfl (by omega) (by as_aux_lemma => kernel_rfl)); apply run_step rfl; (exact stp_loadV rfl (by as_aux_lemma => kernel_rfl) rfl rfl rfl (by first | assumption | exact ivals_get (by assumption) | exact irows_get (by assumption) | exact ivals_get (by omega) | exact irows_get (by omega) | rfl)); apply run_step rfl; (exact stp_move rfl rfl); apply run_step rfl; (first | exact stp_ix (j := p) rfl rfl rfl rfl rfl (by as_aux_lemma => kernel_rfl) rfl hpl hOi | exact stp_ix (j := d) rfl rfl rfl rfl rfl (by as_aux_lemma => kernel_rfl) rfl hd2 hMi | exact stp_stI rfl rfl rfl rfl rfl (by omega) (by as_aux_lemma => kernel_rfl)); apply run_step rfl; (first | exact stp_ix (j := p) rfl rfl rfl rfl rfl (by as_aux_lemma => kernel_rfl) rfl hpl hOi | exact stp_ix (j := d) rfl rfl rfl rfl rfl (by as_aux_lemma => kernel_rfl) rfl hd2 hMi | exact stp_stI rfl rfl rfl rfl rfl (by omega) (by as_aux_lemma => kernel_rfl)); refine run_nil ?_; refine fin_block ?_; refine fin_seq ?_; refine goes_region ?_; apply run_step rfl; (exact stp_move rfl rfl); apply run_step rfl; (exact stp_add rfl rfl rfl (by first | exact IntWalk.i64_in _ (by omega) | rfl)); apply run_step rfl; (exact stp_assign rfl rfl); refine run_nil ?_)
          exact fin_round (p + 1, M.set d (m : Int)) ⟨hpl, by rw [List.length_set]; exact hMl, fun e he => by
            rw [iget_setD]
            by_cases e1 : d = e
            · subst e1
              rw [if_pos ⟨rfl, by omega⟩, if_pos ⟨p, by omega, hd1⟩]
            · rw [if_neg (fun h => e1 h.1), hM e he]
              by_cases e2 : ∃ p', p' < p ∧ iget O p' = (e : Int)
              · rw [if_pos e2, if_pos (by obtain ⟨p', a, b⟩ := e2; exact ⟨p', by omega, b⟩)]
              · rw [if_neg e2, if_neg (by
                  rintro ⟨p', a, b⟩
                  by_cases e3 : p' = p
                  · subst e3; omega
                  · exact e2 ⟨p', by omega, b⟩)]⟩ (by show O.length - (p + 1) < O.length - p; omega) (Wk.of ⟨rfl, rfl, rfl, rfl, rfl, rfl, rfl, trivial⟩ ⟨rfl, rfl, rfl, trivial⟩ trivial)
        · obtain rfl : p = O.length := by omega
          have hfin : M = (labSet zss k i (L, m)).1 := by
            refine ints_ext (by rw [labSet_len, hMl]) fun d hd => ?_
            rw [hMl] at hd
            rw [hM d hd, labSet_get hd]
            by_cases e : rch zss k i d = true
            · rw [if_pos ((hmem d hd).1 e), if_pos e]
            · rw [if_neg (fun h => e ((hmem d hd).2 h)), if_neg e]
          have hm1 : (((labSet zss k i (L, m)).2 : Nat) : Int) = (m : Int) + 1 := by show ((m + 1 : Nat) : Int) = _; omega
          (refine goes_exit ?_; refine fin_exit_then ?_; refine fin_exit_then ?_; refine fin_exit_eq ?_; refine fin_seq ?_; refine goes_region ?_; apply run_step rfl; (exact stp_move rfl rfl); apply run_step rfl; (exact stp_add rfl rfl rfl (by first | exact IntWalk.i64_in _ (by omega) | rfl)); apply run_step rfl; (exact stp_assign rfl rfl); refine run_nil ?_; refine fin_block ?_; refine fin_seq ?_; refine goes_region ?_; apply run_step rfl; (exact stp_move rfl rfl); apply run_step rfl; (exact stp_add rfl rfl rfl (by first | exact IntWalk.i64_in _ (by omega) | rfl)); apply run_step rfl; (exact stp_assign rfl rfl); refine run_nil ?_)
          exact fin_round (i + 1, labSet zss k i (L, m)) ⟨hik, hnext⟩ (by show k - (i + 1) < k - i; omega) (Wk.of ⟨rfl, rfl, rfl, congrArg (fun z => some (vv (I6 z))) hm1.symm, rfl, trivial⟩ ⟨rfl, congrArg (fun l => some (leOw l)) hfin, trivial⟩ trivial)
    · obtain rfl : i = k := by omega
      have hfin : labs zss i = (L, m) := hl
      rw [hfin]
      (refine goes_exit ?_; refine fin_exit_then ?_; refine fin_exit_then ?_; refine fin_exit_eq ?_; refine fin_seq ?_; refine goes_seq ?_; refine goes_region ?_; apply run_step rfl; (exact stp_move rfl rfl); apply run_step rfl; (exact stp_assign rfl rfl); refine run_nil ?_; refine fin_seq ?_; refine goes_ret ?_)
      exact fin_ret1 (.inl rfl) rfl (.tmp rfl) ⟨rfl, trivial⟩ trivial
end Go.Proofs.Ytpognnifgcacnaa

/- Sizes of orbits, the program's: orbitSizes; the greatest number, the reference's: l02Greatest. -/
namespace Go.Proofs.Ytpognnifgcacnaa
open Go.RowKit

/-- how often each number below c stands among the first p -/
def szL (L : List Int) (c p : Nat) : List Int := (List.range c).map fun j : Nat => ((L.take p).count (j : Int) : Int)
theorem szL_len (L : List Int) (c p : Nat) : (szL L c p).length = c := by simp [szL]
theorem szL_get {L : List Int} {c p j : Nat} (h : j < c) : iget (szL L c p) j = ((L.take p).count (j : Int) : Int) := by simp [szL, iget, h]
theorem szL_zero (L : List Int) (c : Nat) : szL L c 0 = List.replicate c 0 := ints_ext (by simp [szL]) fun k hk => by
  rw [szL_len] at hk
  rw [szL_get hk]; simp [iget, hk]
theorem szL_succ {L : List Int} {c p d : Nat} (hp : p < L.length) (hd : iget L p = (d : Int)) (hdc : d < c) : szL L c (p + 1) = (szL L c p).set d (iget (szL L c p) d + 1) := ints_ext (by simp [szL]) fun k hk => by
  rw [szL_len] at hk
  rw [iget_setD, szL_len, szL_get hk, take_iget hp, List.count_append, hd]
  by_cases e : d = k
  · subst e
    rw [if_pos ⟨rfl, hdc⟩, szL_get hdc]
    simp
  · rw [if_neg (fun h => e h.1), szL_get hk]
    simp only [List.count_cons, List.count_nil]
    rw [if_neg (by simp; omega)]; simp
theorem szL_le {L : List Int} {c p d : Nat} (hd : d < c) : 0 ≤ iget (szL L c p) d ∧ iget (szL L c p) d ≤ p := by
  rw [szL_get hd]
  have h1 := List.count_le_length (a := (d : Int)) (l := L.take p)
  rw [List.length_take] at h1
  omega
set_option maxRecDepth 100000 in
set_option maxHeartbeats 2000000 in
theorem orbitSizes_fc (zss : List (List Int)) (n ng : Nat) (hng : zss.length = ng) (hT : Leads zss n) (hB : Back2 zss n) (hpos : 0 < n) (hn : n ≤ 1000000) (hg : ng ≤ 1000000) (hLn : (labs zss n).1.length = n) (hLc : (labs zss n).2 ≤ n) (hLl : ∀ p, p < n → ∃ d : Nat, iget (labs zss n).1 p = (d : Int) ∧ d < (labs zss n).2) :
    FC Try.prog 171 [(1003, rowsRo zss)] [vv (I6 n), o1 (.sl 1003 0 ng)] [(17, leOw (szL (labs zss n).1 (labs zss n).2 n))] (o1 (.sl 17 0 (labs zss n).2)) [] := by
  have hO := (orbI_fc zss n ng hng hT hB hpos hn hg).nm [(1003, 1003), (16, 13)] (by kernel_rfl)
  have hO : FC Try.prog 187 [(1003, rowsRo zss)] [vv (I6 n), o1 (.sl 1003 0 ng)] [(13, leOw (labs zss n).1)] (.tup [.one (.sl 13 0 n), .one (.val (I6 (labs zss n).2))]) [] := hO
  refine fc_enter (nt := 32) Try.func171 rfl rfl (by simp) fun w0 ω0 => ?_
  generalize (labs zss n).1 = L at *
  generalize (labs zss n).2 = c at *
  (refine goes_seq ?_; refine goes_region ?_; apply run_step rfl; (exact stp_assign rfl rfl); refine run_nil ?_; refine fin_seq ?_; refine goes_seq ?_; refine goes_region ?_; apply run_step rfl; (exact stp_move rfl rfl); apply run_step rfl; (exact stp_move rfl rfl); apply run_step rfl; (apply call_gate 187; exact stp_callN hO (by as_aux_lemma => kernel_rfl) rfl rfl ⟨rfl, rfl, trivial⟩ ⟨⟨_, rfl, .inl rfl⟩, trivial⟩ rfl rfl rfl); apply run_step rfl; (exact stp_move rfl rfl); apply run_step rfl; (exact stp_extract rfl rfl rfl); apply run_step rfl; (exact stp_extract rfl rfl rfl); apply run_step rfl; (exact stp_assign rfl rfl); apply run_step rfl; (exact stp_assign rfl rfl); refine run_nil ?_; refine fin_seq ?_; refine goes_seq ?_; refine goes_region ?_; apply run_step rfl; (exact stp_move rfl rfl); apply run_step rfl; (exact stp_makeI (E := 2) rfl (by as_aux_lemma => kernel_rfl) (by as_aux_lemma => kernel_rfl) rfl rfl rfl rfl (by omega)); apply run_step rfl; (exact stp_assign rfl rfl); refine run_nil ?_; refine fin_seq ?_; refine goes_seq ?_; refine goes_seq ?_; refine goes_region ?_; apply run_step rfl; (exact stp_move rfl rfl); apply run_step rfl; (exact stp_len rfl rfl rfl (by as_aux_lemma => kernel_rfl)); apply run_step rfl; (exact stp_move rfl rfl); refine run_nil ?_; refine fin_seq ?_; refine goes_block ?_)
  refine goes_loop (fun p : Nat => St.of [(7, o1 (.sl 17 0 c)), (18, o1 (.sl 13 0 n)), (19, vv (I6 n)), (20, vv (I6 p))] [(1003, rowsRo zss), (13, leOw L), (17, leOw (szL L c p))]) (fun p => p ≤ n) (fun p => n - p) 0 (Nat.zero_le _) (Wk.of ⟨rfl, rfl, rfl, rfl, trivial⟩ ⟨rfl, rfl, congrArg (fun l => some (leOw l)) (szL_zero L c).symm, trivial⟩ trivial) ?_
  intro p hp
  have hLi : n ≤ (ivals L).length := by rw [ivals_len, hLn]; exact Nat.le_refl _
  have hSi : c ≤ (ivals (szL L c p)).length := by rw [ivals_len, szL_len]; exact Nat.le_refl _
  (refine goes_seq ?_; refine goes_region ?_; apply run_step rfl; (exact stp_bin rfl rfl rfl rfl); refine run_nil ?_; refine fin_seq ?_; refine goes_seq ?_)
  refine goes_if rfl (fun h => ?_) (fun h => ?_)
  · have hpn : p < n := by omega
    obtain ⟨d, hd1, hd2⟩ := hLl p hpn
    have gp : (ivals L)[p]? = some (I6 (d : Int)) := by rw [ivals_get (by omega), hd1]
    have hz := szL_le (L := L) (p := p) hd2
    have hnx := szL_succ (p := p) (by omega) hd1 hd2
    have hsl := szL_len L c p
    have gd : (ivals (szL L c p))[d]? = some (I6 (iget (szL L c p) d)) := ivals_get (by omega)
    have HN : Hid ((some (leOw ((szL L c p).set d (iget (szL L c p) d + 1))) : Option Ch) = some (leOw (szL L c (p + 1)))) := Lib.hid (by rw [hnx])
    clear hnx
    generalize szL L c p = S at *
    generalize iget S d = z at *
    (refine goes_skip ?_; refine fin_seq ?_; refine goes_seq ?_; refine goes_block ?_; refine goes_seq ?_; refine goes_region ?_; apply run_step rfl; (first | exact stp_ix (j := p) rfl rfl rfl rfl rfl (by as_aux_lemma => kernel_rfl) rfl hpn hLi | exact stp_ix (j := d) rfl rfl rfl rfl rfl (by as_aux_lemma => kernel_rfl) rfl hd2 hSi | exact stp_stI rfl rfl rfl rfl rfl (by omega) (by as_aux_lemma => kernel_rfl)); apply run_step rfl; (exact stp_loadV rfl (by as_aux_lemma => kernel_rfl) rfl rfl rfl (by first | assumption | exact ivals_get (by assumption) | exact irows_get (by assumption) | exact ivals_get (by omega) | exact irows_get (by omega) | rfl)); apply run_step rfl; (exact stp_assign rfl rfl); refine run_nil ?_; refine fin_seq ?_; refine goes_region ?_; apply run_step rfl; (exact stp_move rfl rfl); apply run_step rfl; (exact stp_move rfl rfl); apply run_step rfl; (first | exact stp_ix (j := p) rfl rfl rfl rfl rfl (by as_aux_lemma => kernel_rfl) rfl hpn hLi | exact stp_ix (j := d) rfl rfl rfl rfl rfl (by as_aux_lemma => kernel_rfl) rfl hd2 hSi | exact stp_stI rfl rfl rfl rfl rfl (by omega) (by as_aux_lemma => kernel_rfl)); apply run_step rfl; (exact stp_loadV rfl (by as_aux_lemma => kernel_rfl) rfl rfl rfl (by first | assumption | exact ivals_get (by assumption) | exact irows_get (by assumption) | exact ivals_get (by omega) | exact irows_get (by omega) | rfl)); apply run_step rfl; (exact stp_add rfl rfl rfl (by first | exact IntWalk.i64_in _ (by omega) | rfl)); apply run_step rfl; (first | exact stp_ix (j := p) rfl rfl rfl rfl rfl (by as_aux_lemma => kernel_rfl) rfl hpn hLi | exact stp_ix (j := d) rfl rfl rfl rfl rfl (by as_aux_lemma => kernel_rfl) rfl hd2 hSi | exact stp_stI rfl rfl rfl rfl rfl (by omega) (by as_aux_lemma => kernel_rfl)); apply run_step rfl; (first | exact stp_ix (j := p) rfl rfl rfl rfl rfl (by as_aux_lemma => kernel_rfl) rfl hpn hLi | exact stp_ix (j := d) rfl rfl rfl rfl rfl (by as_aux_lemma => kernel_rfl) rfl hd2 hSi | exact stp_stI rfl rfl rfl rfl rfl (by omega) (by as_aux_lemma => kernel_rfl)); refine run_nil ?_; refine fin_block ?_; refine fin_seq ?_; refine goes_region ?_; apply run_step rfl; (exact stp_add rfl rfl rfl (by first | exact IntWalk.i64_in _ (by omega) | rfl)); apply run_step rfl; (exact stp_move rfl rfl); refine run_nil ?_)
    exact fin_round (p + 1) hpn (by show n - (p + 1) < n - p; omega) (Wk.of ⟨rfl, rfl, rfl, rfl, trivial⟩ ⟨rfl, rfl, HN.out, trivial⟩ trivial)
  · obtain rfl : p = n := by omega
    (refine goes_exit ?_; refine fin_exit_then ?_; refine fin_exit_then ?_; refine fin_exit_eq ?_; refine fin_seq ?_; refine goes_seq ?_; refine goes_region ?_; apply run_step rfl; (exact stp_move rfl rfl); apply run_step rfl; (exact stp_assign rfl rfl); refine run_nil ?_; refine fin_seq ?_; refine goes_ret ?_)
    exact fin_ret1 (.inl rfl) rfl (.tmp rfl) ⟨rfl, trivial⟩ trivial
def grStep (o z : Int) : Int := if o ≤ z then z + 1 else o
/-- one more than the greatest number -/
def grt (zs : List Int) : Int := zs.foldl grStep 0
theorem grt_take {zs : List Int} {k : Nat} (h : k < zs.length) : grt (zs.take (k + 1)) = grStep (grt (zs.take k)) (iget zs k) := by
  unfold grt; rw [take_iget h, List.foldl_append]; rfl
theorem grt_bound {zs : List Int} (hz : ∀ z ∈ zs, -1 ≤ z ∧ z ≤ 1000000) : ∀ k, k ≤ zs.length → 0 ≤ grt (zs.take k) ∧ grt (zs.take k) ≤ 1000001 ∧ (∀ j, j < k → iget zs j < grt (zs.take k)) ∧ (grt (zs.take k) = 0 ∨ ∃ j, j < k ∧ iget zs j + 1 = grt (zs.take k))
  | 0, _ => ⟨by simp [grt], by simp [grt], fun j hj => by omega, .inl (by simp [grt])⟩
  | k + 1, hk => by
    obtain ⟨h1, h2, h3, h4⟩ := grt_bound hz k (by omega)
    have hzk := hz (iget zs k) (iget_mem (by omega))
    rw [grt_take (by omega)]
    generalize grt (zs.take k) = o at *
    unfold grStep
    split
    · rename_i h5
      refine ⟨by omega, by omega, fun j hj => ?_, .inr ⟨k, by omega, rfl⟩⟩
      by_cases e : j = k
      · subst e; omega
      · have := h3 j (by omega); omega
    · rename_i h5
      refine ⟨h1, h2, fun j hj => ?_, ?_⟩
      · by_cases e : j = k
        · subst e; omega
        · exact h3 j (by omega)
      · rcases h4 with h4 | ⟨j, a, b⟩
        · exact .inl h4
        · exact .inr ⟨j, by omega, b⟩
set_option maxRecDepth 100000 in
theorem greatest_fc (zs : List Int) (hl : zs.length ≤ 1000000) (hz : ∀ z ∈ zs, -1 ≤ z ∧ z ≤ 1000000) :
    FC Try.prog 170 [(1003, wRo zs)] [o1 (.sl 1003 0 zs.length)] [] (vv (I6 (grt zs))) [] := by
  refine fc_enter (nt := 23) Try.func170 rfl rfl (by simp) fun w0 ω0 => ?_
  (refine goes_seq ?_; refine goes_region ?_; apply run_step rfl; (exact stp_assign rfl rfl); refine run_nil ?_; refine fin_seq ?_; refine goes_seq ?_; refine goes_region ?_; apply run_step rfl; (exact stp_assign rfl rfl); refine run_nil ?_; refine fin_seq ?_; refine goes_seq ?_; refine goes_seq ?_; refine goes_region ?_; apply run_step rfl; (exact stp_assign rfl rfl); refine run_nil ?_; refine fin_seq ?_; refine goes_block ?_)
  refine goes_loop (fun q : Nat × Int => St.of [(0, o1 (.sl 1003 0 zs.length)), (3, vv (I6 q.2)), (4, vv (I6 q.1))] [(1003, wRo zs)]) (fun q => q.1 ≤ zs.length ∧ grt (zs.take q.1) = q.2) (fun q => zs.length - q.1) (0, 0) ⟨Nat.zero_le _, by simp [grt]⟩ (Wk.of ⟨rfl, rfl, rfl, trivial⟩ ⟨rfl, trivial⟩ trivial) ?_
  rintro ⟨k, o⟩ ⟨hk, ho⟩
  dsimp only at hk ho ⊢
  have hb := grt_bound hz k hk
  rw [ho] at hb
  have hzi : zs.length ≤ (ivals zs).length := by rw [ivals_len]; exact Nat.le_refl _
  (refine goes_seq ?_; refine goes_seq ?_; refine goes_region ?_; apply run_step rfl; (exact stp_move rfl rfl); apply run_step rfl; (exact stp_move rfl rfl); apply run_step rfl; (exact stp_len rfl rfl rfl (by as_aux_lemma => kernel_rfl)); apply run_step rfl; (exact stp_bin rfl rfl rfl rfl); refine run_nil ?_; refine fin_seq ?_)
  refine goes_if rfl (fun h => ?_) (fun h => ?_)
  · have hkz : k < zs.length := by omega
    have hn := grt_take hkz
    rw [ho] at hn
    have hzk := hz (iget zs k) (iget_mem hkz)
    have gk : (ivals zs)[k]? = some (I6 (iget zs k)) := ivals_get hkz
    generalize iget zs k = z at *
    unfold grStep at hn
    (refine goes_skip ?_; refine fin_seq ?_; refine goes_seq ?_; refine goes_block ?_; refine goes_seq ?_; refine goes_region ?_; apply run_step rfl; (exact stp_move rfl rfl); apply run_step rfl; (exact stp_move rfl rfl); apply run_step rfl; (exact stp_ix (j := k) rfl rfl rfl rfl rfl (by as_aux_lemma => kernel_rfl) rfl hkz hzi); apply run_step rfl; (exact stp_loadV rfl (by as_aux_lemma => kernel_rfl) rfl rfl rfl (by first | assumption | exact ivals_get (by assumption) | exact irows_get (by assumption) | exact ivals_get (by omega) | exact irows_get (by omega) | rfl)); apply run_step rfl; (exact stp_move rfl rfl); apply run_step rfl; (exact stp_bin rfl rfl rfl rfl); refine run_nil ?_; refine fin_seq ?_)
    refine goes_if rfl (fun h1 => ?_) (fun h1 => ?_)
    · have h1' : o ≤ z := h1
      rw [if_pos h1'] at hn
      (refine goes_region ?_; apply run_step rfl; (exact stp_move rfl rfl); apply run_step rfl; (exact stp_move rfl rfl); apply run_step rfl; (exact stp_ix (j := k) rfl rfl rfl rfl rfl (by as_aux_lemma => kernel_rfl) rfl hkz hzi); apply run_step rfl; (exact stp_loadV rfl (by as_aux_lemma => kernel_rfl) rfl rfl rfl (by first | assumption | exact ivals_get (by assumption) | exact irows_get (by assumption) | exact ivals_get (by omega) | exact irows_get (by omega) | rfl)); apply run_step rfl; (exact stp_add rfl rfl rfl (by first | exact IntWalk.i64_in _ (by omega) | rfl)); apply run_step rfl; (exact stp_assign rfl rfl); refine run_nil ?_; refine fin_block ?_; refine fin_seq ?_; refine goes_region ?_; apply run_step rfl; (exact stp_move rfl rfl); apply run_step rfl; (exact stp_add rfl rfl rfl (by first | exact IntWalk.i64_in _ (by omega) | rfl)); apply run_step rfl; (exact stp_assign rfl rfl); refine run_nil ?_)
      exact fin_round (k + 1, z + 1) ⟨hkz, hn⟩ (by show zs.length - (k + 1) < zs.length - k; omega) (Wk.of ⟨rfl, rfl, rfl, trivial⟩ ⟨rfl, trivial⟩ trivial)
    · have h1' : ¬ o ≤ z := h1
      rw [if_neg h1'] at hn
      (refine goes_skip ?_; refine fin_block ?_; refine fin_seq ?_; refine goes_region ?_; apply run_step rfl; (exact stp_move rfl rfl); apply run_step rfl; (exact stp_add rfl rfl rfl (by first | exact IntWalk.i64_in _ (by omega) | rfl)); apply run_step rfl; (exact stp_assign rfl rfl); refine run_nil ?_)
      exact fin_round (k + 1, o) ⟨hkz, hn⟩ (by show zs.length - (k + 1) < zs.length - k; omega) (Wk.of ⟨rfl, rfl, rfl, trivial⟩ ⟨rfl, trivial⟩ trivial)
  · obtain rfl : k = zs.length := by omega
    rw [List.take_length] at ho
    rw [ho]
    (refine goes_exit ?_; refine fin_exit_then ?_; refine fin_exit_then ?_; refine fin_exit_eq ?_; refine fin_seq ?_; refine goes_seq ?_; refine goes_region ?_; apply run_step rfl; (exact stp_move rfl rfl); apply run_step rfl; (exact stp_assign rfl rfl); refine run_nil ?_; refine fin_seq ?_; refine goes_ret ?_)
    exact fin_ret1 (.inl rfl) rfl (.tmp rfl) trivial trivial
end Go.Proofs.Ytpognnifgcacnaa

/- What a maniplex is, the reference's: l02Is. guards: -/
namespace Go.Proofs.Ytpognnifgcacnaa
open Go.RowKit

abbrev mxB (R : Nat) : Ch := ⟨true, 41, 1, .flat [.sl 1003 0 R]⟩
theorem binNeq {a b : Int} (h : a ≠ b) : binI .i64 .neq a b = some (.bool true) := by simp [binI, h]
theorem binNeq' {a b : Int} (h : a = b) : binI .i64 .neq a b = some (.bool false) := by simp [binI, h]
theorem binEql {a b : Int} (h : a = b) : binI .i64 .eql a b = some (.bool true) := by simp [binI, h]
theorem binEql' {a b : Int} (h : a ≠ b) : binI .i64 .eql a b = some (.bool false) := by simp [binI, h]
/-- what of a maniplex is asked before it is asked whether it hangs together -/
structure Man0 (zss : List (List Int)) : Prop where
  n1 : 1 ≤ zss.length
  n5 : zss.length ≤ 5
  f2 : 2 ≤ (lget zss 0).length
  f4 : (lget zss 0).length ≤ 400
  rows : Rows zss (lget zss 0).length zss.length
  comm : ∀ i k, i + 2 ≤ k → k < zss.length → ∀ f, f < (lget zss 0).length → commAt zss i k f
theorem Man0.man {zss : List (List Int)} (h : Man0 zss) : manB zss = ((((orb zss (lget zss 0).length 0).2.length : Nat) : Int) == (((lget zss 0).length : Nat) : Int)) := by
  by_cases hc : (orb zss (lget zss 0).length 0).2.length = (lget zss 0).length
  · rw [manB_yes ⟨h.n1, h.n5, h.f2, h.f4, fun i hi => (h.rows i hi).1, fun i hi => (h.rows i hi).2.1, fun i hi => (h.rows i hi).2.2, h.comm, hc⟩, hc]; simp
  · rw [manB_no (fun hm => hc hm.conn)]
    have hc' : ((orb zss (lget zss 0).length 0).2.length : Int) ≠ ((lget zss 0).length : Int) := by omega
    symm; simpa using hc'

set_option maxRecDepth 100000 in
set_option maxHeartbeats 4000000 in
theorem manS_fc (zss : List (List Int)) (hR : zss.length ≤ 1048576) (hl : ∀ i, i < zss.length → (lget zss i).length ≤ 1048576) :
    FC Try.prog 108 [(1003, rowsRo zss)] [mA zss.length] [] (vv (.bool (manB zss))) [] := by
  refine fc_enter (nt := 149) Try.func108 rfl rfl (by simp) fun w0 ω0 => ?_
  have hlen : (irows zss).length = zss.length := irows_len _
  by_cases c1 : zss.length < 1
  · rw [manB_no (fun h => by have := h.n1; omega)]
    have b1 : decide ((zss.length : Int) < 1) = true := by simp; omega
    (refine goes_seq ?_; refine goes_region ?_; apply run_step rfl; (exact stp_box rfl rfl rfl rfl); apply run_step rfl; (exact stp_assign rfl rfl); refine run_nil ?_; refine fin_seq ?_; refine goes_seq ?_; refine goes_region ?_; apply run_step rfl; (exact stp_fieldAddr (d := 0) rfl rfl rfl (by as_aux_lemma => kernel_rfl)); apply run_step rfl; (exact stp_loadF rfl (by as_aux_lemma => kernel_rfl) rfl rfl rfl rfl); apply run_step rfl; (exact stp_len rfl rfl rfl (by as_aux_lemma => kernel_rfl)); apply run_step rfl; (exact stp_assign rfl rfl); refine run_nil ?_; refine fin_seq ?_; refine goes_seq ?_; refine goes_seq ?_; refine goes_region ?_; apply run_step rfl; (exact stp_move rfl rfl); apply run_step rfl; (exact stp_bin rfl rfl rfl rfl); apply run_step rfl; (exact stp_move rfl rfl))
    refine run_bool 13 rfl (fun h1 => ?_) (fun h1 => by rw [b1] at h1; cases h1)
    (apply run_gNo rfl rfl rfl rfl rfl; apply run_gNo rfl rfl rfl rfl rfl; apply run_step rfl; (exact stp_pickT rfl rfl rfl); apply run_step rfl; (exact stp_move rfl rfl); apply run_gNo rfl rfl rfl rfl rfl; apply run_gNo rfl rfl rfl rfl rfl; apply run_gNo rfl rfl rfl rfl rfl; apply run_gNo rfl rfl rfl rfl rfl; apply run_gNo rfl rfl rfl rfl rfl; apply run_gNo rfl rfl rfl rfl rfl; apply run_step rfl; (exact stp_pickT rfl rfl rfl); apply run_step rfl; (exact stp_move rfl rfl); apply run_gNo rfl rfl rfl rfl rfl; apply run_gNo rfl rfl rfl rfl rfl; apply run_gNo rfl rfl rfl rfl rfl; apply run_gNo rfl rfl rfl rfl rfl; apply run_gNo rfl rfl rfl rfl rfl; apply run_gNo rfl rfl rfl rfl rfl; apply run_step rfl; (exact stp_pickT rfl rfl rfl); refine run_nil ?_; refine fin_seq ?_)
    refine goes_cond rfl (fun _ => ?_) (fun e => by cases e)
    (refine goes_seq ?_; refine goes_region ?_; apply run_step rfl; (exact stp_assign rfl rfl); refine run_nil ?_; refine fin_seq ?_; refine goes_ret ?_; refine fin_ret_then ?_)
    exact fin_ret1 (.inl rfl) rfl (.tmp rfl) trivial trivial
  have b1 : decide ((zss.length : Int) < 1) = false := by simp; omega
  have hpos : 0 < zss.length := by omega
  have hl0 := hl 0 hpos
  have hrow0 : (irows zss)[0]? = some (ivals (lget zss 0)) := irows_get hpos
  obtain ⟨n, hn⟩ : ∃ n, (lget zss 0).length = n := ⟨_, rfl⟩
  have hil : (ivals (lget zss 0)).length = n := by rw [ivals_len]; exact hn
  have hl0' : (lget zss 0).length ≤ 1048576 := hl0
  rw [hn] at hl0'
  by_cases c2 : 5 < zss.length
  · rw [manB_no (fun h => by have := h.n5; omega)]
    have b2 : decide ((zss.length : Int) > 5) = true := by simp; omega
    (refine goes_seq ?_; refine goes_region ?_; apply run_step rfl; (exact stp_box rfl rfl rfl rfl); apply run_step rfl; (exact stp_assign rfl rfl); refine run_nil ?_; refine fin_seq ?_; refine goes_seq ?_; refine goes_region ?_; apply run_step rfl; (exact stp_fieldAddr (d := 0) rfl rfl rfl (by as_aux_lemma => kernel_rfl)); apply run_step rfl; (exact stp_loadF rfl (by as_aux_lemma => kernel_rfl) rfl rfl rfl rfl); apply run_step rfl; (exact stp_len rfl rfl rfl (by as_aux_lemma => kernel_rfl)); apply run_step rfl; (exact stp_assign rfl rfl); refine run_nil ?_; refine fin_seq ?_; refine goes_seq ?_; refine goes_seq ?_; refine goes_region ?_; apply run_step rfl; (exact stp_move rfl rfl); apply run_step rfl; (exact stp_bin rfl rfl rfl rfl); apply run_step rfl; (exact stp_move rfl rfl))
    refine run_bool 13 rfl (fun h1 => by rw [b1] at h1; cases h1) (fun h1 => ?_)
    (apply run_gYes rfl rfl rfl; (exact stp_move rfl rfl); apply run_gYes rfl rfl rfl; (exact stp_bin rfl rfl rfl rfl); apply run_step rfl; (exact stp_pickF rfl rfl rfl); apply run_step rfl; (exact stp_move rfl rfl))
    refine run_bool 17 rfl (fun h1 => ?_) (fun h1 => by rw [b2] at h1; cases h1)
    (apply run_gNo rfl rfl rfl rfl rfl; apply run_gNo rfl rfl rfl rfl rfl; apply run_gNo rfl rfl rfl rfl rfl; apply run_gNo rfl rfl rfl rfl rfl; apply run_gNo rfl rfl rfl rfl rfl; apply run_gNo rfl rfl rfl rfl rfl; apply run_step rfl; (exact stp_pickT rfl rfl rfl); apply run_step rfl; (exact stp_move rfl rfl); apply run_gNo rfl rfl rfl rfl rfl; apply run_gNo rfl rfl rfl rfl rfl; apply run_gNo rfl rfl rfl rfl rfl; apply run_gNo rfl rfl rfl rfl rfl; apply run_gNo rfl rfl rfl rfl rfl; apply run_gNo rfl rfl rfl rfl rfl; apply run_step rfl; (exact stp_pickT rfl rfl rfl); refine run_nil ?_; refine fin_seq ?_)
    refine goes_cond rfl (fun _ => ?_) (fun e => by cases e)
    (refine goes_seq ?_; refine goes_region ?_; apply run_step rfl; (exact stp_assign rfl rfl); refine run_nil ?_; refine fin_seq ?_; refine goes_ret ?_; refine fin_ret_then ?_)
    exact fin_ret1 (.inl rfl) rfl (.tmp rfl) trivial trivial
  have b2 : decide ((zss.length : Int) > 5) = false := by simp; omega
  by_cases c3 : n < 2
  · rw [manB_no (fun h => by have := h.f2; omega)]
    have b3 : decide ((n : Int) < 2) = true := by simp; omega
    (refine goes_seq ?_; refine goes_region ?_; apply run_step rfl; (exact stp_box rfl rfl rfl rfl); apply run_step rfl; (exact stp_assign rfl rfl); refine run_nil ?_; refine fin_seq ?_; refine goes_seq ?_; refine goes_region ?_; apply run_step rfl; (exact stp_fieldAddr (d := 0) rfl rfl rfl (by as_aux_lemma => kernel_rfl)); apply run_step rfl; (exact stp_loadF rfl (by as_aux_lemma => kernel_rfl) rfl rfl rfl rfl); apply run_step rfl; (exact stp_len rfl rfl rfl (by as_aux_lemma => kernel_rfl)); apply run_step rfl; (exact stp_assign rfl rfl); refine run_nil ?_; refine fin_seq ?_; refine goes_seq ?_; refine goes_seq ?_; refine goes_region ?_; apply run_step rfl; (exact stp_move rfl rfl); apply run_step rfl; (exact stp_bin rfl rfl rfl rfl); apply run_step rfl; (exact stp_move rfl rfl))
    refine run_bool 13 rfl (fun h1 => by rw [b1] at h1; cases h1) (fun h1 => ?_)
    (apply run_gYes rfl rfl rfl; (exact stp_move rfl rfl); apply run_gYes rfl rfl rfl; (exact stp_bin rfl rfl rfl rfl); apply run_step rfl; (exact stp_pickF rfl rfl rfl); apply run_step rfl; (exact stp_move rfl rfl))
    refine run_bool 17 rfl (fun h1 => by rw [b2] at h1; cases h1) (fun h1 => ?_)
    (apply run_gYes rfl rfl rfl; (exact stp_fieldAddr (d := 0) rfl rfl rfl (by as_aux_lemma => kernel_rfl)); apply run_gYes rfl rfl rfl; (exact stp_loadF rfl (by as_aux_lemma => kernel_rfl) rfl rfl rfl rfl); apply run_gYes rfl rfl rfl; (first | exact stp_ix (j := 0) rfl rfl rfl rfl rfl (by as_aux_lemma => kernel_rfl) rfl hpos (Nat.le_of_eq hlen.symm) | exact stp_loadR rfl (by as_aux_lemma => kernel_rfl) rfl rfl rfl hrow0 hil); apply run_gYes rfl rfl rfl; (first | exact stp_ix (j := 0) rfl rfl rfl rfl rfl (by as_aux_lemma => kernel_rfl) rfl hpos (Nat.le_of_eq hlen.symm) | exact stp_loadR rfl (by as_aux_lemma => kernel_rfl) rfl rfl rfl hrow0 hil); apply run_gYes rfl rfl rfl; (exact stp_len rfl rfl rfl (by as_aux_lemma => kernel_rfl)); apply run_gYes rfl rfl rfl; (exact stp_bin rfl rfl rfl rfl); apply run_step rfl; (exact stp_pickF rfl rfl rfl); apply run_step rfl; (exact stp_move rfl rfl))
    refine run_bool 25 rfl (fun h1 => ?_) (fun h1 => by rw [b3] at h1; cases h1)
    (apply run_gNo rfl rfl rfl rfl rfl; apply run_gNo rfl rfl rfl rfl rfl; apply run_gNo rfl rfl rfl rfl rfl; apply run_gNo rfl rfl rfl rfl rfl; apply run_gNo rfl rfl rfl rfl rfl; apply run_gNo rfl rfl rfl rfl rfl; apply run_step rfl; (exact stp_pickT rfl rfl rfl); refine run_nil ?_; refine fin_seq ?_)
    refine goes_cond rfl (fun _ => ?_) (fun e => by cases e)
    (refine goes_seq ?_; refine goes_region ?_; apply run_step rfl; (exact stp_assign rfl rfl); refine run_nil ?_; refine fin_seq ?_; refine goes_ret ?_; refine fin_ret_then ?_)
    exact fin_ret1 (.inl rfl) rfl (.tmp rfl) trivial trivial
  have b3 : decide ((n : Int) < 2) = false := by simp; omega
  (refine goes_seq ?_; refine goes_region ?_; apply run_step rfl; (exact stp_box rfl rfl rfl rfl); apply run_step rfl; (exact stp_assign rfl rfl); refine run_nil ?_; refine fin_seq ?_; refine goes_seq ?_; refine goes_region ?_; apply run_step rfl; (exact stp_fieldAddr (d := 0) rfl rfl rfl (by as_aux_lemma => kernel_rfl)); apply run_step rfl; (exact stp_loadF rfl (by as_aux_lemma => kernel_rfl) rfl rfl rfl rfl); apply run_step rfl; (exact stp_len rfl rfl rfl (by as_aux_lemma => kernel_rfl)); apply run_step rfl; (exact stp_assign rfl rfl); refine run_nil ?_; refine fin_seq ?_; refine goes_seq ?_; refine goes_seq ?_; refine goes_region ?_; apply run_step rfl; (exact stp_move rfl rfl); apply run_step rfl; (exact stp_bin rfl rfl rfl rfl); apply run_step rfl; (exact stp_move rfl rfl))
  refine run_bool 13 rfl (fun h1 => by rw [b1] at h1; cases h1) (fun h1 => ?_)
  (apply run_gYes rfl rfl rfl; (exact stp_move rfl rfl); apply run_gYes rfl rfl rfl; (exact stp_bin rfl rfl rfl rfl); apply run_step rfl; (exact stp_pickF rfl rfl rfl); apply run_step rfl; (exact stp_move rfl rfl))
  refine run_bool 17 rfl (fun h1 => by rw [b2] at h1; cases h1) (fun h1 => ?_)
  (apply run_gYes rfl rfl rfl; (exact stp_fieldAddr (d := 0) rfl rfl rfl (by as_aux_lemma => kernel_rfl)); apply run_gYes rfl rfl rfl; (exact stp_loadF rfl (by as_aux_lemma => kernel_rfl) rfl rfl rfl rfl); apply run_gYes rfl rfl rfl; (first | exact stp_ix (j := 0) rfl rfl rfl rfl rfl (by as_aux_lemma => kernel_rfl) rfl hpos (Nat.le_of_eq hlen.symm) | exact stp_loadR rfl (by as_aux_lemma => kernel_rfl) rfl rfl rfl hrow0 hil); apply run_gYes rfl rfl rfl; (first | exact stp_ix (j := 0) rfl rfl rfl rfl rfl (by as_aux_lemma => kernel_rfl) rfl hpos (Nat.le_of_eq hlen.symm) | exact stp_loadR rfl (by as_aux_lemma => kernel_rfl) rfl rfl rfl hrow0 hil); apply run_gYes rfl rfl rfl; (exact stp_len rfl rfl rfl (by as_aux_lemma => kernel_rfl)); apply run_gYes rfl rfl rfl; (exact stp_bin rfl rfl rfl rfl); apply run_step rfl; (exact stp_pickF rfl rfl rfl); apply run_step rfl; (exact stp_move rfl rfl))
  refine run_bool 25 rfl (fun h1 => by rw [b3] at h1; cases h1) (fun h1 => ?_)
  (apply run_gYes rfl rfl rfl; (exact stp_fieldAddr (d := 0) rfl rfl rfl (by as_aux_lemma => kernel_rfl)); apply run_gYes rfl rfl rfl; (exact stp_loadF rfl (by as_aux_lemma => kernel_rfl) rfl rfl rfl rfl); apply run_gYes rfl rfl rfl; (first | exact stp_ix (j := 0) rfl rfl rfl rfl rfl (by as_aux_lemma => kernel_rfl) rfl hpos (Nat.le_of_eq hlen.symm) | exact stp_loadR rfl (by as_aux_lemma => kernel_rfl) rfl rfl rfl hrow0 hil); apply run_gYes rfl rfl rfl; (first | exact stp_ix (j := 0) rfl rfl rfl rfl rfl (by as_aux_lemma => kernel_rfl) rfl hpos (Nat.le_of_eq hlen.symm) | exact stp_loadR rfl (by as_aux_lemma => kernel_rfl) rfl rfl rfl hrow0 hil); apply run_gYes rfl rfl rfl; (exact stp_len rfl rfl rfl (by as_aux_lemma => kernel_rfl)); apply run_gYes rfl rfl rfl; (exact stp_bin rfl rfl rfl rfl); apply run_step rfl; (exact stp_pickF rfl rfl rfl); refine run_nil ?_; refine fin_seq ?_)
  refine goes_if rfl (fun c4 => ?_) (fun c4 => ?_)
  · rw [manB_no (fun h => by have := h.f4; omega)]
    (refine goes_seq ?_; refine goes_region ?_; apply run_step rfl; (exact stp_assign rfl rfl); refine run_nil ?_; refine fin_seq ?_; refine goes_ret ?_; refine fin_ret_then ?_)
    exact fin_ret1 (.inl rfl) rfl (.tmp rfl) trivial trivial
  (refine goes_skip ?_; refine fin_seq ?_; refine goes_seq ?_; refine goes_seq ?_; refine goes_region ?_; apply run_step rfl; (exact stp_assign rfl rfl); refine run_nil ?_; refine fin_seq ?_; refine goes_block ?_)
  refine goes_loop (fun i : Nat => St.of [(1, o1 (.ptr 1 0)), (3, vv (I6 zss.length)), (4, vv (I6 i))] [(1003, rowsRo zss), (1, mxB zss.length)]) (fun i => i ≤ zss.length ∧ Rows zss n i) (fun i => zss.length - i) 0 ⟨Nat.zero_le _, fun j hj => absurd hj (by omega)⟩ (Wk.of ⟨rfl, rfl, rfl, trivial⟩ ⟨rfl, rfl, trivial⟩ trivial) ?_
  rintro i ⟨hi, hrows⟩
  (refine goes_seq ?_; refine goes_seq ?_; refine goes_region ?_; apply run_step rfl; (exact stp_move rfl rfl); apply run_step rfl; (exact stp_move rfl rfl); apply run_step rfl; (exact stp_bin rfl rfl rfl rfl); refine run_nil ?_; refine fin_seq ?_)
  refine goes_if rfl (fun hlt => ?_) (fun hlt => ?_)
  · have hiz : i < zss.length := by omega
    have hrowi : (irows zss)[i]? = some (ivals (lget zss i)) := irows_get hiz
    have hli := hl i hiz
    have hP := permS_fc zss i hiz hli
    obtain ⟨m, hm⟩ : ∃ m, (lget zss i).length = m := ⟨_, rfl⟩
    have hilm : (ivals (lget zss i)).length = m := by rw [ivals_len]; exact hm
    rw [hm] at hP
    (refine goes_skip ?_; refine fin_seq ?_; refine goes_seq ?_; refine goes_block ?_; refine goes_seq ?_)
    by_cases e1 : (m : Int) = n
    · have e1' : m = n := by omega
      cases hp : isPerm (lget zss i) with
      | false =>
        rw [hp] at hP
        apply goes_drawG 30 [] [[], [0], [], [0, 1, 2], [0, 1, 2, 3], [0, 1, 2, 3, 4], [], [6], [6, 7], [6, 7, 8], [6, 7, 8, 9], [0, 1, 2, 3, 4, 5, 6, 7, 8, 9, 10], [0, 1, 2, 3, 4, 5, 6, 7, 8, 9, 10, 11], [0, 1, 2, 3, 4, 5, 6, 7, 8, 9, 10, 11, 12], [0, 1, 2, 3, 4, 5, 6, 7, 8, 9, 10, 11, 12, 13], [0, 1, 2, 3, 4, 5, 6, 7, 8, 9, 10, 11, 12], [0, 1, 2, 3, 4, 5, 6, 7, 8, 9, 10, 11, 12, 13, 14, 15], [0, 1, 2, 3, 4, 5, 6, 7, 8, 9, 10, 11, 12, 13, 14, 15, 16], [0, 1, 2, 3, 4, 5, 6, 7, 8, 9, 10, 11, 12, 13, 14, 15, 16, 17], [0, 1, 2, 3, 4, 5, 6, 7, 8, 9, 10, 11, 12, 13, 14, 15, 16, 17, 18], [0, 1, 2, 3, 4, 5, 6, 7, 8, 9, 10, 11, 12, 13, 14, 15, 16, 17, 18, 19], [0, 1, 2, 3, 4, 5, 6, 7, 8, 9, 10, 11, 12, 13, 14, 15, 16, 17, 18, 19, 20], [0, 1, 2, 3, 4, 5, 6, 7, 8, 9, 10, 11, 12, 13, 14, 15, 16, 17, 18, 19, 20, 21], [0, 1, 2, 3, 4, 5, 6, 7, 8, 9, 10, 11, 12, 13, 14, 15, 16, 17, 18, 19, 20, 21, 22], [0, 1, 2, 3, 4, 5, 6, 7, 8, 9, 10, 11, 12, 13, 14, 15, 16, 17, 18, 19, 20, 21], [0, 1, 2, 3, 4, 5, 6, 7, 8, 9, 10, 11, 12, 13, 14, 15, 16, 17, 18, 19, 20, 21, 22, 23, 24], [0, 1, 2, 3, 4, 5, 6, 7, 8, 9, 10, 11, 12, 13, 14, 15, 16, 17, 18, 19, 20, 21, 22, 23, 24, 25], [0, 1, 2, 3, 4, 5, 6, 7, 8, 9, 10, 11, 12, 13, 14, 15, 16, 17, 18, 19, 20, 21, 22, 23, 24, 25, 26], [0, 1, 2, 3, 4, 5, 6, 7, 8, 9, 10, 11, 12, 13, 14, 15, 16, 17, 18, 19, 20, 21, 22, 23, 24, 25, 26, 27], [0, 1, 2, 3, 4, 5, 6, 7, 8, 9, 10, 11, 12, 13, 14, 15, 16, 17, 18, 19, 20, 21, 22, 23, 24, 25, 26, 27, 28]] [38, 39, 40, 41, 42, 43, 44, 45, 46, 47, 48, 49, 50, 51, 52, 53, 54, 55, 56, 57, 58, 59, 60, 61, 62, 63, 64, 65, 66, 67] [] (by kernel_rfl) (by kernel_rfl)
        · (apply drawG_put rfl; (intro S1 hS; exact stp_fieldAddr (d := 0) rfl (hS.op rfl) (hS.ch _ _ rfl) (by as_aux_lemma => kernel_rfl)))
          (apply drawG_put rfl; (intro S1 hS; exact stp_loadF rfl (by as_aux_lemma => kernel_rfl) (hS.op rfl) (hS.ch _ _ rfl) rfl rfl))
          (apply drawG_put rfl; (intro S1 hS; exact stp_move rfl (hS.op rfl)))
          (apply drawG_put rfl; (intro S1 hS; exact stp_ix (j := i) rfl (hS.op rfl) (hS.op rfl) (hS.ch _ _ rfl) rfl (by as_aux_lemma => kernel_rfl) rfl hiz (Nat.le_of_eq hlen.symm)))
          (apply drawG_put rfl; (intro S1 hS; exact stp_loadR rfl (by as_aux_lemma => kernel_rfl) (hS.op rfl) (hS.ch _ _ rfl) rfl hrowi hilm))
          (apply drawG_put rfl; (intro S1 hS; exact stp_len rfl (hS.op rfl) rfl (by as_aux_lemma => kernel_rfl)))
          (apply drawG_put rfl; (intro S1 hS; exact stp_fieldAddr (d := 0) rfl (hS.op rfl) (hS.ch _ _ rfl) (by as_aux_lemma => kernel_rfl)))
          (apply drawG_put rfl; (intro S1 hS; exact stp_loadF rfl (by as_aux_lemma => kernel_rfl) (hS.op rfl) (hS.ch _ _ rfl) rfl rfl))
          (apply drawG_put rfl; (intro S1 hS; exact stp_ix (j := 0) rfl (hS.op rfl) (hS.op rfl) (hS.ch _ _ rfl) rfl (by as_aux_lemma => kernel_rfl) rfl hpos (Nat.le_of_eq hlen.symm)))
          (apply drawG_put rfl; (intro S1 hS; exact stp_loadR rfl (by as_aux_lemma => kernel_rfl) (hS.op rfl) (hS.ch _ _ rfl) rfl hrow0 hil))
          (apply drawG_put rfl; (intro S1 hS; exact stp_len rfl (hS.op rfl) rfl (by as_aux_lemma => kernel_rfl)))
          (apply drawG_put rfl; (intro S1 hS; exact stp_bin rfl (hS.op rfl) (hS.op rfl) (binNeq' e1)))
          (apply drawG_put rfl; (intro S1 hS; exact stp_move rfl (hS.op rfl)))
          (apply drawG_yes rfl rfl rfl; (intro S1 hS; exact stp_fieldAddr (d := 0) rfl (hS.op rfl) (hS.ch _ _ rfl) (by as_aux_lemma => kernel_rfl)))
          (apply drawG_yes rfl rfl rfl; (intro S1 hS; exact stp_loadF rfl (by as_aux_lemma => kernel_rfl) (hS.op rfl) (hS.ch _ _ rfl) rfl rfl))
          (apply drawG_yes rfl rfl rfl; (intro S1 hS; exact stp_move rfl (hS.op rfl)))
          (apply drawG_yes rfl rfl rfl; (intro S1 hS; exact stp_ix (j := i) rfl (hS.op rfl) (hS.op rfl) (hS.ch _ _ rfl) rfl (by as_aux_lemma => kernel_rfl) rfl hiz (Nat.le_of_eq hlen.symm)))
          (apply drawG_yes rfl rfl rfl; (intro S1 hS; exact stp_loadR rfl (by as_aux_lemma => kernel_rfl) (hS.op rfl) (hS.ch _ _ rfl) rfl hrowi hilm))
          (apply drawG_yes rfl rfl rfl; (intro S1 hS; apply call_gate 175; exact stp_callR hP (by as_aux_lemma => kernel_rfl) rfl (opL_le hS rfl) ⟨rfl, trivial⟩ (allIn_le hS ⟨⟨_, rfl, .inl rfl⟩, trivial⟩) rfl rfl))
          (apply drawG_yes rfl rfl rfl; (intro S1 hS; exact stp_not rfl (hS.op rfl)))
          (apply drawG_put rfl; (intro S1 hS; exact stp_pickF rfl (hS.op rfl) (hS.op rfl)))
          (apply drawG_put rfl; (intro S1 hS; exact stp_move rfl (hS.op rfl)))
          apply drawG_no rfl rfl rfl rfl rfl
          apply drawG_no rfl rfl rfl rfl rfl
          apply drawG_no rfl rfl rfl rfl rfl
          apply drawG_no rfl rfl rfl rfl rfl
          apply drawG_no rfl rfl rfl rfl rfl
          apply drawG_no rfl rfl rfl rfl rfl
          apply drawG_no rfl rfl rfl rfl rfl
          (apply drawG_put rfl; (intro S1 hS; exact stp_pickT rfl (hS.op rfl) (hS.op rfl)))
          exact DrawG.nil
        · rfl
        ((refine rest_done (by as_aux_lemma => kernel_rfl) ?_; skip))
        (refine fin_seq ?_)
        refine goes_cond rfl (fun _ => ?_) (fun e => by cases e)
        rw [manB_no (fun h => by have := h.perm i hiz; rw [hp] at this; cases this)]
        (refine goes_seq ?_; refine goes_region ?_; apply run_step rfl; (exact stp_assign rfl rfl); refine run_nil ?_; refine fin_seq ?_; refine goes_ret ?_; refine fin_ret_block ?_; refine fin_ret_then ?_; refine fin_ret_then ?_; refine fin_ret_block ?_; refine fin_ret_then ?_)
        exact fin_ret1 (.inl rfl) rfl (.tmp rfl) trivial trivial
      | true =>
        rw [hp] at hP
        have hF := freeS_fc zss i hiz hli hp
        rw [hm] at hF
        apply goes_drawG 30 [] [[], [0], [], [0, 1, 2], [0, 1, 2, 3], [0, 1, 2, 3, 4], [], [6], [6, 7], [6, 7, 8], [6, 7, 8, 9], [0, 1, 2, 3, 4, 5, 6, 7, 8, 9, 10], [0, 1, 2, 3, 4, 5, 6, 7, 8, 9, 10, 11], [0, 1, 2, 3, 4, 5, 6, 7, 8, 9, 10, 11, 12], [0, 1, 2, 3, 4, 5, 6, 7, 8, 9, 10, 11, 12, 13], [0, 1, 2, 3, 4, 5, 6, 7, 8, 9, 10, 11, 12], [0, 1, 2, 3, 4, 5, 6, 7, 8, 9, 10, 11, 12, 13, 14, 15], [0, 1, 2, 3, 4, 5, 6, 7, 8, 9, 10, 11, 12, 13, 14, 15, 16], [0, 1, 2, 3, 4, 5, 6, 7, 8, 9, 10, 11, 12, 13, 14, 15, 16, 17], [0, 1, 2, 3, 4, 5, 6, 7, 8, 9, 10, 11, 12, 13, 14, 15, 16, 17, 18], [0, 1, 2, 3, 4, 5, 6, 7, 8, 9, 10, 11, 12, 13, 14, 15, 16, 17, 18, 19], [0, 1, 2, 3, 4, 5, 6, 7, 8, 9, 10, 11, 12, 13, 14, 15, 16, 17, 18, 19, 20], [0, 1, 2, 3, 4, 5, 6, 7, 8, 9, 10, 11, 12, 13, 14, 15, 16, 17, 18, 19, 20, 21], [0, 1, 2, 3, 4, 5, 6, 7, 8, 9, 10, 11, 12, 13, 14, 15, 16, 17, 18, 19, 20, 21, 22], [0, 1, 2, 3, 4, 5, 6, 7, 8, 9, 10, 11, 12, 13, 14, 15, 16, 17, 18, 19, 20, 21], [0, 1, 2, 3, 4, 5, 6, 7, 8, 9, 10, 11, 12, 13, 14, 15, 16, 17, 18, 19, 20, 21, 22, 23, 24], [0, 1, 2, 3, 4, 5, 6, 7, 8, 9, 10, 11, 12, 13, 14, 15, 16, 17, 18, 19, 20, 21, 22, 23, 24, 25], [0, 1, 2, 3, 4, 5, 6, 7, 8, 9, 10, 11, 12, 13, 14, 15, 16, 17, 18, 19, 20, 21, 22, 23, 24, 25, 26], [0, 1, 2, 3, 4, 5, 6, 7, 8, 9, 10, 11, 12, 13, 14, 15, 16, 17, 18, 19, 20, 21, 22, 23, 24, 25, 26, 27], [0, 1, 2, 3, 4, 5, 6, 7, 8, 9, 10, 11, 12, 13, 14, 15, 16, 17, 18, 19, 20, 21, 22, 23, 24, 25, 26, 27, 28]] [38, 39, 40, 41, 42, 43, 44, 45, 46, 47, 48, 49, 50, 51, 52, 53, 54, 55, 56, 57, 58, 59, 60, 61, 62, 63, 64, 65, 66, 67] [] (by kernel_rfl) (by kernel_rfl)
        · (apply drawG_put rfl; (intro S1 hS; exact stp_fieldAddr (d := 0) rfl (hS.op rfl) (hS.ch _ _ rfl) (by as_aux_lemma => kernel_rfl)))
          (apply drawG_put rfl; (intro S1 hS; exact stp_loadF rfl (by as_aux_lemma => kernel_rfl) (hS.op rfl) (hS.ch _ _ rfl) rfl rfl))
          (apply drawG_put rfl; (intro S1 hS; exact stp_move rfl (hS.op rfl)))
          (apply drawG_put rfl; (intro S1 hS; exact stp_ix (j := i) rfl (hS.op rfl) (hS.op rfl) (hS.ch _ _ rfl) rfl (by as_aux_lemma => kernel_rfl) rfl hiz (Nat.le_of_eq hlen.symm)))
          (apply drawG_put rfl; (intro S1 hS; exact stp_loadR rfl (by as_aux_lemma => kernel_rfl) (hS.op rfl) (hS.ch _ _ rfl) rfl hrowi hilm))
          (apply drawG_put rfl; (intro S1 hS; exact stp_len rfl (hS.op rfl) rfl (by as_aux_lemma => kernel_rfl)))
          (apply drawG_put rfl; (intro S1 hS; exact stp_fieldAddr (d := 0) rfl (hS.op rfl) (hS.ch _ _ rfl) (by as_aux_lemma => kernel_rfl)))
          (apply drawG_put rfl; (intro S1 hS; exact stp_loadF rfl (by as_aux_lemma => kernel_rfl) (hS.op rfl) (hS.ch _ _ rfl) rfl rfl))
          (apply drawG_put rfl; (intro S1 hS; exact stp_ix (j := 0) rfl (hS.op rfl) (hS.op rfl) (hS.ch _ _ rfl) rfl (by as_aux_lemma => kernel_rfl) rfl hpos (Nat.le_of_eq hlen.symm)))
          (apply drawG_put rfl; (intro S1 hS; exact stp_loadR rfl (by as_aux_lemma => kernel_rfl) (hS.op rfl) (hS.ch _ _ rfl) rfl hrow0 hil))
          (apply drawG_put rfl; (intro S1 hS; exact stp_len rfl (hS.op rfl) rfl (by as_aux_lemma => kernel_rfl)))
          (apply drawG_put rfl; (intro S1 hS; exact stp_bin rfl (hS.op rfl) (hS.op rfl) (binNeq' e1)))
          (apply drawG_put rfl; (intro S1 hS; exact stp_move rfl (hS.op rfl)))
          (apply drawG_yes rfl rfl rfl; (intro S1 hS; exact stp_fieldAddr (d := 0) rfl (hS.op rfl) (hS.ch _ _ rfl) (by as_aux_lemma => kernel_rfl)))
          (apply drawG_yes rfl rfl rfl; (intro S1 hS; exact stp_loadF rfl (by as_aux_lemma => kernel_rfl) (hS.op rfl) (hS.ch _ _ rfl) rfl rfl))
          (apply drawG_yes rfl rfl rfl; (intro S1 hS; exact stp_move rfl (hS.op rfl)))
          (apply drawG_yes rfl rfl rfl; (intro S1 hS; exact stp_ix (j := i) rfl (hS.op rfl) (hS.op rfl) (hS.ch _ _ rfl) rfl (by as_aux_lemma => kernel_rfl) rfl hiz (Nat.le_of_eq hlen.symm)))
          (apply drawG_yes rfl rfl rfl; (intro S1 hS; exact stp_loadR rfl (by as_aux_lemma => kernel_rfl) (hS.op rfl) (hS.ch _ _ rfl) rfl hrowi hilm))
          (apply drawG_yes rfl rfl rfl; (intro S1 hS; apply call_gate 175; exact stp_callR hP (by as_aux_lemma => kernel_rfl) rfl (opL_le hS rfl) ⟨rfl, trivial⟩ (allIn_le hS ⟨⟨_, rfl, .inl rfl⟩, trivial⟩) rfl rfl))
          (apply drawG_yes rfl rfl rfl; (intro S1 hS; exact stp_not rfl (hS.op rfl)))
          (apply drawG_put rfl; (intro S1 hS; exact stp_pickF rfl (hS.op rfl) (hS.op rfl)))
          (apply drawG_put rfl; (intro S1 hS; exact stp_move rfl (hS.op rfl)))
          (apply drawG_yes rfl rfl rfl; (intro S1 hS; exact stp_fieldAddr (d := 0) rfl (hS.op rfl) (hS.ch _ _ rfl) (by as_aux_lemma => kernel_rfl)))
          (apply drawG_yes rfl rfl rfl; (intro S1 hS; exact stp_loadF rfl (by as_aux_lemma => kernel_rfl) (hS.op rfl) (hS.ch _ _ rfl) rfl rfl))
          (apply drawG_yes rfl rfl rfl; (intro S1 hS; exact stp_move rfl (hS.op rfl)))
          (apply drawG_yes rfl rfl rfl; (intro S1 hS; exact stp_ix (j := i) rfl (hS.op rfl) (hS.op rfl) (hS.ch _ _ rfl) rfl (by as_aux_lemma => kernel_rfl) rfl hiz (Nat.le_of_eq hlen.symm)))
          (apply drawG_yes rfl rfl rfl; (intro S1 hS; exact stp_loadR rfl (by as_aux_lemma => kernel_rfl) (hS.op rfl) (hS.ch _ _ rfl) rfl hrowi hilm))
          (apply drawG_yes rfl rfl rfl; (intro S1 hS; apply call_gate 176; exact stp_callR hF (by as_aux_lemma => kernel_rfl) rfl (opL_le hS rfl) ⟨rfl, trivial⟩ (allIn_le hS ⟨⟨_, rfl, .inl rfl⟩, trivial⟩) rfl rfl))
          (apply drawG_yes rfl rfl rfl; (intro S1 hS; exact stp_not rfl (hS.op rfl)))
          (apply drawG_put rfl; (intro S1 hS; exact stp_pickF rfl (hS.op rfl) (hS.op rfl)))
          exact DrawG.nil
        · rfl
        ((refine rest_done (by as_aux_lemma => kernel_rfl) ?_; skip))
        (refine fin_seq ?_)
        refine goes_cond rfl (fun hf => ?_) (fun hf => ?_)
        · have hf : isFreeL (lget zss i) = false := by simpa using hf
          rw [manB_no (fun h => by have := h.free i hiz; rw [hf] at this; cases this)]
          (refine goes_seq ?_; refine goes_region ?_; apply run_step rfl; (exact stp_assign rfl rfl); refine run_nil ?_; refine fin_seq ?_; refine goes_ret ?_; refine fin_ret_block ?_; refine fin_ret_then ?_; refine fin_ret_then ?_; refine fin_ret_block ?_; refine fin_ret_then ?_)
          exact fin_ret1 (.inl rfl) rfl (.tmp rfl) trivial trivial
        · have hf : isFreeL (lget zss i) = true := by simpa using hf
          (refine goes_skip ?_; refine fin_block ?_; refine fin_seq ?_; refine goes_region ?_; apply run_step rfl; (exact stp_move rfl rfl); apply run_step rfl; (exact stp_add rfl rfl rfl (by first | exact IntWalk.i64_in _ (by omega) | rfl)); apply run_step rfl; (exact stp_assign rfl rfl); refine run_nil ?_)
          exact fin_round (i + 1) ⟨hiz, fun j hj => by
            by_cases e : j = i
            · subst e; exact ⟨hm.trans e1', hp, hf⟩
            · exact hrows j (by omega)⟩ (by omega) (Wk.of ⟨rfl, rfl, rfl, trivial⟩ ⟨rfl, rfl, trivial⟩ trivial)
    · apply goes_drawG 30 [] [[], [0], [], [0, 1, 2], [0, 1, 2, 3], [0, 1, 2, 3, 4], [], [6], [6, 7], [6, 7, 8], [6, 7, 8, 9], [0, 1, 2, 3, 4, 5, 6, 7, 8, 9, 10], [0, 1, 2, 3, 4, 5, 6, 7, 8, 9, 10, 11], [0, 1, 2, 3, 4, 5, 6, 7, 8, 9, 10, 11, 12], [0, 1, 2, 3, 4, 5, 6, 7, 8, 9, 10, 11, 12, 13], [0, 1, 2, 3, 4, 5, 6, 7, 8, 9, 10, 11, 12], [0, 1, 2, 3, 4, 5, 6, 7, 8, 9, 10, 11, 12, 13, 14, 15], [0, 1, 2, 3, 4, 5, 6, 7, 8, 9, 10, 11, 12, 13, 14, 15, 16], [0, 1, 2, 3, 4, 5, 6, 7, 8, 9, 10, 11, 12, 13, 14, 15, 16, 17], [0, 1, 2, 3, 4, 5, 6, 7, 8, 9, 10, 11, 12, 13, 14, 15, 16, 17, 18], [0, 1, 2, 3, 4, 5, 6, 7, 8, 9, 10, 11, 12, 13, 14, 15, 16, 17, 18, 19], [0, 1, 2, 3, 4, 5, 6, 7, 8, 9, 10, 11, 12, 13, 14, 15, 16, 17, 18, 19, 20], [0, 1, 2, 3, 4, 5, 6, 7, 8, 9, 10, 11, 12, 13, 14, 15, 16, 17, 18, 19, 20, 21], [0, 1, 2, 3, 4, 5, 6, 7, 8, 9, 10, 11, 12, 13, 14, 15, 16, 17, 18, 19, 20, 21, 22], [0, 1, 2, 3, 4, 5, 6, 7, 8, 9, 10, 11, 12, 13, 14, 15, 16, 17, 18, 19, 20, 21], [0, 1, 2, 3, 4, 5, 6, 7, 8, 9, 10, 11, 12, 13, 14, 15, 16, 17, 18, 19, 20, 21, 22, 23, 24], [0, 1, 2, 3, 4, 5, 6, 7, 8, 9, 10, 11, 12, 13, 14, 15, 16, 17, 18, 19, 20, 21, 22, 23, 24, 25], [0, 1, 2, 3, 4, 5, 6, 7, 8, 9, 10, 11, 12, 13, 14, 15, 16, 17, 18, 19, 20, 21, 22, 23, 24, 25, 26], [0, 1, 2, 3, 4, 5, 6, 7, 8, 9, 10, 11, 12, 13, 14, 15, 16, 17, 18, 19, 20, 21, 22, 23, 24, 25, 26, 27], [0, 1, 2, 3, 4, 5, 6, 7, 8, 9, 10, 11, 12, 13, 14, 15, 16, 17, 18, 19, 20, 21, 22, 23, 24, 25, 26, 27, 28]] [38, 39, 40, 41, 42, 43, 44, 45, 46, 47, 48, 49, 50, 51, 52, 53, 54, 55, 56, 57, 58, 59, 60, 61, 62, 63, 64, 65, 66, 67] [] (by kernel_rfl) (by kernel_rfl)
      · (apply drawG_put rfl; (intro S1 hS; exact stp_fieldAddr (d := 0) rfl (hS.op rfl) (hS.ch _ _ rfl) (by as_aux_lemma => kernel_rfl)))
        (apply drawG_put rfl; (intro S1 hS; exact stp_loadF rfl (by as_aux_lemma => kernel_rfl) (hS.op rfl) (hS.ch _ _ rfl) rfl rfl))
        (apply drawG_put rfl; (intro S1 hS; exact stp_move rfl (hS.op rfl)))
        (apply drawG_put rfl; (intro S1 hS; exact stp_ix (j := i) rfl (hS.op rfl) (hS.op rfl) (hS.ch _ _ rfl) rfl (by as_aux_lemma => kernel_rfl) rfl hiz (Nat.le_of_eq hlen.symm)))
        (apply drawG_put rfl; (intro S1 hS; exact stp_loadR rfl (by as_aux_lemma => kernel_rfl) (hS.op rfl) (hS.ch _ _ rfl) rfl hrowi hilm))
        (apply drawG_put rfl; (intro S1 hS; exact stp_len rfl (hS.op rfl) rfl (by as_aux_lemma => kernel_rfl)))
        (apply drawG_put rfl; (intro S1 hS; exact stp_fieldAddr (d := 0) rfl (hS.op rfl) (hS.ch _ _ rfl) (by as_aux_lemma => kernel_rfl)))
        (apply drawG_put rfl; (intro S1 hS; exact stp_loadF rfl (by as_aux_lemma => kernel_rfl) (hS.op rfl) (hS.ch _ _ rfl) rfl rfl))
        (apply drawG_put rfl; (intro S1 hS; exact stp_ix (j := 0) rfl (hS.op rfl) (hS.op rfl) (hS.ch _ _ rfl) rfl (by as_aux_lemma => kernel_rfl) rfl hpos (Nat.le_of_eq hlen.symm)))
        (apply drawG_put rfl; (intro S1 hS; exact stp_loadR rfl (by as_aux_lemma => kernel_rfl) (hS.op rfl) (hS.ch _ _ rfl) rfl hrow0 hil))
        (apply drawG_put rfl; (intro S1 hS; exact stp_len rfl (hS.op rfl) rfl (by as_aux_lemma => kernel_rfl)))
        (apply drawG_put rfl; (intro S1 hS; exact stp_bin rfl (hS.op rfl) (hS.op rfl) (binNeq e1)))
        (apply drawG_put rfl; (intro S1 hS; exact stp_move rfl (hS.op rfl)))
        apply drawG_no rfl rfl rfl rfl rfl
        apply drawG_no rfl rfl rfl rfl rfl
        apply drawG_no rfl rfl rfl rfl rfl
        apply drawG_no rfl rfl rfl rfl rfl
        apply drawG_no rfl rfl rfl rfl rfl
        apply drawG_no rfl rfl rfl rfl rfl
        apply drawG_no rfl rfl rfl rfl rfl
        (apply drawG_put rfl; (intro S1 hS; exact stp_pickT rfl (hS.op rfl) (hS.op rfl)))
        (apply drawG_put rfl; (intro S1 hS; exact stp_move rfl (hS.op rfl)))
        apply drawG_no rfl rfl rfl rfl rfl
        apply drawG_no rfl rfl rfl rfl rfl
        apply drawG_no rfl rfl rfl rfl rfl
        apply drawG_no rfl rfl rfl rfl rfl
        apply drawG_no rfl rfl rfl rfl rfl
        apply drawG_no rfl rfl rfl rfl rfl
        apply drawG_no rfl rfl rfl rfl rfl
        (apply drawG_put rfl; (intro S1 hS; exact stp_pickT rfl (hS.op rfl) (hS.op rfl)))
        exact DrawG.nil
      · rfl
      ((refine rest_done (by as_aux_lemma => kernel_rfl) ?_; skip))
      (refine fin_seq ?_)
      refine goes_cond rfl (fun _ => ?_) (fun e => by cases e)
      rw [manB_no (fun h => by have := h.len i hiz; omega)]
      (refine goes_seq ?_; refine goes_region ?_; apply run_step rfl; (exact stp_assign rfl rfl); refine run_nil ?_; refine fin_seq ?_; refine goes_ret ?_; refine fin_ret_block ?_; refine fin_ret_then ?_; refine fin_ret_then ?_; refine fin_ret_block ?_; refine fin_ret_then ?_)
      exact fin_ret1 (.inl rfl) rfl (.tmp rfl) trivial trivial
  obtain rfl : i = zss.length := by omega
  have hrn : Rows zss n zss.length := hrows
  have hT := rows_leads hrn
  have hB := rows_back hrn
  (refine goes_exit ?_; refine fin_exit_then ?_; refine fin_exit_then ?_; refine fin_exit_eq ?_; refine fin_seq ?_; refine goes_seq ?_; refine goes_seq ?_; refine goes_region ?_; apply run_step rfl; (exact stp_assign rfl rfl); refine run_nil ?_; refine fin_seq ?_; refine goes_block ?_)
  refine goes_loop (fun i : Nat => St.of [(1, o1 (.ptr 1 0)), (3, vv (I6 zss.length)), (5, vv (I6 i))] [(1003, rowsRo zss), (1, mxB zss.length)]) (fun i => i ≤ zss.length ∧ ∀ i' k, i' < i → i' + 2 ≤ k → k < zss.length → ∀ f, f < n → commAt zss i' k f) (fun i => zss.length - i) 0 ⟨Nat.zero_le _, fun j k hj => absurd hj (by omega)⟩ (Wk.of ⟨rfl, rfl, rfl, trivial⟩ ⟨rfl, rfl, trivial⟩ trivial) ?_
  clear hi hrows hlt
  rintro i ⟨hi, hci⟩
  (refine goes_seq ?_; refine goes_seq ?_; refine goes_region ?_; apply run_step rfl; (exact stp_move rfl rfl); apply run_step rfl; (exact stp_move rfl rfl); apply run_step rfl; (exact stp_bin rfl rfl rfl rfl); refine run_nil ?_; refine fin_seq ?_)
  refine goes_if rfl (fun hlt => ?_) (fun hlt => ?_)
  · have hiz : i < zss.length := by omega
    have hrowi : (irows zss)[i]? = some (ivals (lget zss i)) := irows_get hiz
    have hilm : (ivals (lget zss i)).length = n := by rw [ivals_len]; exact (hrn i hiz).1
    have hi2 : ((i : Int) + 2) = ((i + 2 : Nat) : Int) := by omega
    (refine goes_skip ?_; refine fin_seq ?_; refine goes_seq ?_; refine goes_block ?_; refine goes_seq ?_; refine goes_region ?_; apply run_step rfl; (exact stp_move rfl rfl); apply run_step rfl; (exact stp_add rfl rfl rfl (by first | exact IntWalk.i64_in _ (by omega) | rfl)); apply run_step rfl; (exact stp_assign rfl rfl); refine run_nil ?_; refine fin_seq ?_; refine goes_block ?_)
    refine goes_loop (fun k : Nat => St.of [(1, o1 (.ptr 1 0)), (3, vv (I6 zss.length)), (5, vv (I6 i)), (6, vv (I6 k))] [(1003, rowsRo zss), (1, mxB zss.length)]) (fun k => i + 2 ≤ k ∧ ∀ k', i + 2 ≤ k' → k' < k → k' < zss.length → ∀ f, f < n → commAt zss i k' f) (fun k => zss.length + 2 - k) (i + 2) ⟨Nat.le_refl _, fun k' h1 h2 => absurd h1 (by omega)⟩ (Wk.of ⟨rfl, rfl, rfl, congrArg (fun z => some (vv (I6 z))) hi2, trivial⟩ ⟨rfl, rfl, trivial⟩ trivial) ?_
    rintro k ⟨hk, hck⟩
    (refine goes_seq ?_; refine goes_seq ?_; refine goes_region ?_; apply run_step rfl; (exact stp_move rfl rfl); apply run_step rfl; (exact stp_move rfl rfl); apply run_step rfl; (exact stp_bin rfl rfl rfl rfl); refine run_nil ?_; refine fin_seq ?_)
    refine goes_if rfl (fun hlk => ?_) (fun hlk => ?_)
    · have hkz : k < zss.length := by omega
      have hrowk : (irows zss)[k]? = some (ivals (lget zss k)) := irows_get hkz
      have hilk : (ivals (lget zss k)).length = n := by rw [ivals_len]; exact (hrn k hkz).1
      (refine goes_skip ?_; refine fin_seq ?_; refine goes_seq ?_; refine goes_block ?_; refine goes_seq ?_; refine goes_region ?_; apply run_step rfl; (exact stp_assign rfl rfl); refine run_nil ?_; refine fin_seq ?_; refine goes_block ?_)
      refine goes_loop (fun f : Nat => St.of [(1, o1 (.ptr 1 0)), (3, vv (I6 zss.length)), (5, vv (I6 i)), (6, vv (I6 k)), (7, vv (I6 f))] [(1003, rowsRo zss), (1, mxB zss.length)]) (fun f => f ≤ n ∧ ∀ f', f' < f → commAt zss i k f') (fun f => n - f) 0 ⟨Nat.zero_le _, fun f' h1 => absurd h1 (by omega)⟩ (Wk.of ⟨rfl, rfl, rfl, rfl, rfl, trivial⟩ ⟨rfl, rfl, trivial⟩ trivial) ?_
      rintro f ⟨hf, hcf⟩
      (refine goes_seq ?_; refine goes_seq ?_; refine goes_region ?_; apply run_step rfl; (exact stp_move rfl rfl); apply run_step rfl; (exact stp_fieldAddr (d := 0) rfl rfl rfl (by as_aux_lemma => kernel_rfl)); apply run_step rfl; (exact stp_loadF rfl (by as_aux_lemma => kernel_rfl) rfl rfl rfl rfl); apply run_step rfl; (first | exact stp_ix (j := 0) rfl rfl rfl rfl rfl (by as_aux_lemma => kernel_rfl) rfl hpos (Nat.le_of_eq hlen.symm) | exact stp_loadR rfl (by as_aux_lemma => kernel_rfl) rfl rfl rfl hrow0 hil); apply run_step rfl; (first | exact stp_ix (j := 0) rfl rfl rfl rfl rfl (by as_aux_lemma => kernel_rfl) rfl hpos (Nat.le_of_eq hlen.symm) | exact stp_loadR rfl (by as_aux_lemma => kernel_rfl) rfl rfl rfl hrow0 hil); apply run_step rfl; (exact stp_len rfl rfl rfl (by as_aux_lemma => kernel_rfl)); apply run_step rfl; (exact stp_bin rfl rfl rfl rfl); refine run_nil ?_; refine fin_seq ?_)
      refine goes_if rfl (fun hlf => ?_) (fun hlf => ?_)
      · have hfn : f < n := by omega
        have hd1 := bTo_lt hT hfn (g := i) hiz
        have hd2 := bTo_lt hT hfn (g := k) hkz
        have hx1 := bTo_lt hT hd1.1 (g := k) hkz
        have hx2 := bTo_lt hT hd2.1 (g := i) hiz
        have hcm : commAt zss i k f ↔ bTo zss (bTo zss f i) k = bTo zss (bTo zss f k) i ∧ bTo zss f i ≠ bTo zss f k := Iff.rfl
        generalize bTo zss (bTo zss f i) k = x1 at *
        generalize bTo zss (bTo zss f k) i = x2 at *
        generalize bTo zss f i = d1 at *
        generalize bTo zss f k = d2 at *
        have g1 : (ivals (lget zss i))[f]? = some (I6 (d1 : Int)) := by rw [ivals_get (by rw [(hrn i hiz).1]; exact hfn), hd1.2]
        have g2 : (ivals (lget zss k))[f]? = some (I6 (d2 : Int)) := by rw [ivals_get (by rw [(hrn k hkz).1]; exact hfn), hd2.2]
        have g3 : (ivals (lget zss k))[d1]? = some (I6 (x1 : Int)) := by rw [ivals_get (by rw [(hrn k hkz).1]; exact hd1.1), hx1.2]
        have g4 : (ivals (lget zss i))[d2]? = some (I6 (x2 : Int)) := by rw [ivals_get (by rw [(hrn i hiz).1]; exact hd2.1), hx2.2]
        have hni : n ≤ (ivals (lget zss i)).length := Nat.le_of_eq hilm.symm
        have hnk : n ≤ (ivals (lget zss k)).length := Nat.le_of_eq hilk.symm
        (refine goes_skip ?_; refine fin_seq ?_; refine goes_seq ?_; refine goes_block ?_; refine goes_seq ?_)
        by_cases e1 : (x1 : Int) = x2
        · apply goes_drawG 50 [] [[], [0], [], [0, 1, 2], [0, 1, 2, 3], [], [5], [], [5, 6, 7], [5, 6, 7, 8], [], [5, 6, 7, 8, 9, 10], [5, 6, 7, 8, 9, 10, 11], [0, 1, 2, 3, 4, 5, 6, 7, 8, 9, 10, 11, 12], [0, 1, 2, 3, 4, 5, 6, 7, 8, 9, 10, 11, 12, 13], [], [15], [], [15, 16, 17], [15, 16, 17, 18], [], [20], [], [20, 21, 22], [20, 21, 22, 23], [], [20, 21, 22, 23, 24, 25], [20, 21, 22, 23, 24, 25, 26], [15, 16, 17, 18, 19, 20, 21, 22, 23, 24, 25, 26, 27], [15, 16, 17, 18, 19, 20, 21, 22, 23, 24, 25, 26, 27, 28], [0, 1, 2, 3, 4, 5, 6, 7, 8, 9, 10, 11, 12, 13, 14, 15, 16, 17, 18, 19, 20, 21, 22, 23, 24, 25, 26, 27, 28, 29], [0, 1, 2, 3, 4, 5, 6, 7, 8, 9, 10, 11, 12, 13, 14, 15, 16, 17, 18, 19, 20, 21, 22, 23, 24, 25, 26, 27, 28, 29, 30], [0, 1, 2, 3, 4, 5, 6, 7, 8, 9, 10, 11, 12, 13, 14, 15, 16, 17, 18, 19, 20, 21, 22, 23, 24, 25, 26, 27, 28, 29, 30, 31], [0, 1, 2, 3, 4, 5, 6, 7, 8, 9, 10, 11, 12, 13, 14, 15, 16, 17, 18, 19, 20, 21, 22, 23, 24, 25, 26, 27, 28, 29, 30, 31, 32], [0, 1, 2, 3, 4, 5, 6, 7, 8, 9, 10, 11, 12, 13, 14, 15, 16, 17, 18, 19, 20, 21, 22, 23, 24, 25, 26, 27, 28, 29, 30, 31], [0, 1, 2, 3, 4, 5, 6, 7, 8, 9, 10, 11, 12, 13, 14, 15, 16, 17, 18, 19, 20, 21, 22, 23, 24, 25, 26, 27, 28, 29, 30, 31, 32, 33, 34], [0, 1, 2, 3, 4, 5, 6, 7, 8, 9, 10, 11, 12, 13, 14, 15, 16, 17, 18, 19, 20, 21, 22, 23, 24, 25, 26, 27, 28, 29, 30, 31, 32, 33, 34, 35], [0, 1, 2, 3, 4, 5, 6, 7, 8, 9, 10, 11, 12, 13, 14, 15, 16, 17, 18, 19, 20, 21, 22, 23, 24, 25, 26, 27, 28, 29, 30, 31], [0, 1, 2, 3, 4, 5, 6, 7, 8, 9, 10, 11, 12, 13, 14, 15, 16, 17, 18, 19, 20, 21, 22, 23, 24, 25, 26, 27, 28, 29, 30, 31, 32, 33, 34, 35, 36, 37], [0, 1, 2, 3, 4, 5, 6, 7, 8, 9, 10, 11, 12, 13, 14, 15, 16, 17, 18, 19, 20, 21, 22, 23, 24, 25, 26, 27, 28, 29, 30, 31, 32, 33, 34, 35, 36, 37, 38], [0, 1, 2, 3, 4, 5, 6, 7, 8, 9, 10, 11, 12, 13, 14, 15, 16, 17, 18, 19, 20, 21, 22, 23, 24, 25, 26, 27, 28, 29, 30, 31], [0, 1, 2, 3, 4, 5, 6, 7, 8, 9, 10, 11, 12, 13, 14, 15, 16, 17, 18, 19, 20, 21, 22, 23, 24, 25, 26, 27, 28, 29, 30, 31, 40], [0, 1, 2, 3, 4, 5, 6, 7, 8, 9, 10, 11, 12, 13, 14, 15, 16, 17, 18, 19, 20, 21, 22, 23, 24, 25, 26, 27, 28, 29, 30, 31], [0, 1, 2, 3, 4, 5, 6, 7, 8, 9, 10, 11, 12, 13, 14, 15, 16, 17, 18, 19, 20, 21, 22, 23, 24, 25, 26, 27, 28, 29, 30, 31, 40, 41, 42], [0, 1, 2, 3, 4, 5, 6, 7, 8, 9, 10, 11, 12, 13, 14, 15, 16, 17, 18, 19, 20, 21, 22, 23, 24, 25, 26, 27, 28, 29, 30, 31, 40, 41, 42, 43], [0, 1, 2, 3, 4, 5, 6, 7, 8, 9, 10, 11, 12, 13, 14, 15, 16, 17, 18, 19, 20, 21, 22, 23, 24, 25, 26, 27, 28, 29, 30, 31], [0, 1, 2, 3, 4, 5, 6, 7, 8, 9, 10, 11, 12, 13, 14, 15, 16, 17, 18, 19, 20, 21, 22, 23, 24, 25, 26, 27, 28, 29, 30, 31, 40, 41, 42, 43, 44, 45], [0, 1, 2, 3, 4, 5, 6, 7, 8, 9, 10, 11, 12, 13, 14, 15, 16, 17, 18, 19, 20, 21, 22, 23, 24, 25, 26, 27, 28, 29, 30, 31, 40, 41, 42, 43, 44, 45, 46], [0, 1, 2, 3, 4, 5, 6, 7, 8, 9, 10, 11, 12, 13, 14, 15, 16, 17, 18, 19, 20, 21, 22, 23, 24, 25, 26, 27, 28, 29, 30, 31, 32, 33, 34, 35, 36, 37, 38, 39, 40, 41, 42, 43, 44, 45, 46, 47], [0, 1, 2, 3, 4, 5, 6, 7, 8, 9, 10, 11, 12, 13, 14, 15, 16, 17, 18, 19, 20, 21, 22, 23, 24, 25, 26, 27, 28, 29, 30, 31, 32, 33, 34, 35, 36, 37, 38, 39, 40, 41, 42, 43, 44, 45, 46, 47, 48]] [89, 90, 91, 92, 93, 94, 95, 96, 97, 98, 99, 100, 101, 102, 103, 104, 105, 106, 107, 108, 109, 110, 111, 112, 113, 114, 115, 116, 117, 118, 119, 120, 121, 122, 123, 124, 125, 126, 127, 128, 129, 130, 131, 132, 133, 134, 135, 136, 137, 138] [] (by kernel_rfl) (by kernel_rfl)
          · (apply drawG_put rfl; (intro S1 hS; exact stp_fieldAddr (d := 0) rfl (hS.op rfl) (hS.ch _ _ rfl) (by as_aux_lemma => kernel_rfl)))
            (apply drawG_put rfl; (intro S1 hS; exact stp_loadF rfl (by as_aux_lemma => kernel_rfl) (hS.op rfl) (hS.ch _ _ rfl) rfl rfl))
            (apply drawG_put rfl; (intro S1 hS; exact stp_move rfl (hS.op rfl)))
            (apply drawG_put rfl; (intro S1 hS; exact stp_ix (j := k) rfl (hS.op rfl) (hS.op rfl) (hS.ch _ _ rfl) rfl (by as_aux_lemma => kernel_rfl) rfl hkz (Nat.le_of_eq hlen.symm)))
            (apply drawG_put rfl; (intro S1 hS; exact stp_loadR rfl (by as_aux_lemma => kernel_rfl) (hS.op rfl) (hS.ch _ _ rfl) rfl hrowk hilk))
            (apply drawG_put rfl; (intro S1 hS; exact stp_fieldAddr (d := 0) rfl (hS.op rfl) (hS.ch _ _ rfl) (by as_aux_lemma => kernel_rfl)))
            (apply drawG_put rfl; (intro S1 hS; exact stp_loadF rfl (by as_aux_lemma => kernel_rfl) (hS.op rfl) (hS.ch _ _ rfl) rfl rfl))
            (apply drawG_put rfl; (intro S1 hS; exact stp_move rfl (hS.op rfl)))
            (apply drawG_put rfl; (intro S1 hS; exact stp_ix (j := i) rfl (hS.op rfl) (hS.op rfl) (hS.ch _ _ rfl) rfl (by as_aux_lemma => kernel_rfl) rfl hiz (Nat.le_of_eq hlen.symm)))
            (apply drawG_put rfl; (intro S1 hS; exact stp_loadR rfl (by as_aux_lemma => kernel_rfl) (hS.op rfl) (hS.ch _ _ rfl) rfl hrowi hilm))
            (apply drawG_put rfl; (intro S1 hS; exact stp_move rfl (hS.op rfl)))
            (apply drawG_put rfl; (intro S1 hS; exact stp_ixE (j := f) rfl (hS.op rfl) (hS.op rfl) (hS.ch _ _ rfl) rfl (by as_aux_lemma => kernel_rfl) hrowi rfl hfn hni))
            (apply drawG_put rfl; (intro S1 hS; exact stp_loadE' rfl (by as_aux_lemma => kernel_rfl) (hS.op rfl) (hS.ch _ _ rfl) rfl hrowi g1))
            (apply drawG_put rfl; (intro S1 hS; exact stp_ixE (j := d1) rfl (hS.op rfl) (hS.op rfl) (hS.ch _ _ rfl) rfl (by as_aux_lemma => kernel_rfl) hrowk rfl hd1.1 hnk))
            (apply drawG_put rfl; (intro S1 hS; exact stp_loadE' rfl (by as_aux_lemma => kernel_rfl) (hS.op rfl) (hS.ch _ _ rfl) rfl hrowk g3))
            (apply drawG_put rfl; (intro S1 hS; exact stp_fieldAddr (d := 0) rfl (hS.op rfl) (hS.ch _ _ rfl) (by as_aux_lemma => kernel_rfl)))
            (apply drawG_put rfl; (intro S1 hS; exact stp_loadF rfl (by as_aux_lemma => kernel_rfl) (hS.op rfl) (hS.ch _ _ rfl) rfl rfl))
            (apply drawG_put rfl; (intro S1 hS; exact stp_move rfl (hS.op rfl)))
            (apply drawG_put rfl; (intro S1 hS; exact stp_ix (j := i) rfl (hS.op rfl) (hS.op rfl) (hS.ch _ _ rfl) rfl (by as_aux_lemma => kernel_rfl) rfl hiz (Nat.le_of_eq hlen.symm)))
            (apply drawG_put rfl; (intro S1 hS; exact stp_loadR rfl (by as_aux_lemma => kernel_rfl) (hS.op rfl) (hS.ch _ _ rfl) rfl hrowi hilm))
            (apply drawG_put rfl; (intro S1 hS; exact stp_fieldAddr (d := 0) rfl (hS.op rfl) (hS.ch _ _ rfl) (by as_aux_lemma => kernel_rfl)))
            (apply drawG_put rfl; (intro S1 hS; exact stp_loadF rfl (by as_aux_lemma => kernel_rfl) (hS.op rfl) (hS.ch _ _ rfl) rfl rfl))
            (apply drawG_put rfl; (intro S1 hS; exact stp_move rfl (hS.op rfl)))
            (apply drawG_put rfl; (intro S1 hS; exact stp_ix (j := k) rfl (hS.op rfl) (hS.op rfl) (hS.ch _ _ rfl) rfl (by as_aux_lemma => kernel_rfl) rfl hkz (Nat.le_of_eq hlen.symm)))
            (apply drawG_put rfl; (intro S1 hS; exact stp_loadR rfl (by as_aux_lemma => kernel_rfl) (hS.op rfl) (hS.ch _ _ rfl) rfl hrowk hilk))
            (apply drawG_put rfl; (intro S1 hS; exact stp_move rfl (hS.op rfl)))
            (apply drawG_put rfl; (intro S1 hS; exact stp_ixE (j := f) rfl (hS.op rfl) (hS.op rfl) (hS.ch _ _ rfl) rfl (by as_aux_lemma => kernel_rfl) hrowk rfl hfn hnk))
            (apply drawG_put rfl; (intro S1 hS; exact stp_loadE' rfl (by as_aux_lemma => kernel_rfl) (hS.op rfl) (hS.ch _ _ rfl) rfl hrowk g2))
            (apply drawG_put rfl; (intro S1 hS; exact stp_ixE (j := d2) rfl (hS.op rfl) (hS.op rfl) (hS.ch _ _ rfl) rfl (by as_aux_lemma => kernel_rfl) hrowi rfl hd2.1 hni))
            (apply drawG_put rfl; (intro S1 hS; exact stp_loadE' rfl (by as_aux_lemma => kernel_rfl) (hS.op rfl) (hS.ch _ _ rfl) rfl hrowi g4))
            (apply drawG_put rfl; (intro S1 hS; exact stp_bin rfl (hS.op rfl) (hS.op rfl) (binNeq' e1)))
            (apply drawG_put rfl; (intro S1 hS; exact stp_move rfl (hS.op rfl)))
            (apply drawG_yes rfl rfl rfl; (intro S1 hS; exact stp_fieldAddr (d := 0) rfl (hS.op rfl) (hS.ch _ _ rfl) (by as_aux_lemma => kernel_rfl)))
            (apply drawG_yes rfl rfl rfl; (intro S1 hS; exact stp_loadF rfl (by as_aux_lemma => kernel_rfl) (hS.op rfl) (hS.ch _ _ rfl) rfl rfl))
            (apply drawG_yes rfl rfl rfl; (intro S1 hS; exact stp_move rfl (hS.op rfl)))
            (apply drawG_yes rfl rfl rfl; (intro S1 hS; exact stp_ix (j := i) rfl (hS.op rfl) (hS.op rfl) (hS.ch _ _ rfl) rfl (by as_aux_lemma => kernel_rfl) rfl hiz (Nat.le_of_eq hlen.symm)))
            (apply drawG_yes rfl rfl rfl; (intro S1 hS; exact stp_loadR rfl (by as_aux_lemma => kernel_rfl) (hS.op rfl) (hS.ch _ _ rfl) rfl hrowi hilm))
            (apply drawG_yes rfl rfl rfl; (intro S1 hS; exact stp_move rfl (hS.op rfl)))
            (apply drawG_yes rfl rfl rfl; (intro S1 hS; exact stp_ixE (j := f) rfl (hS.op rfl) (hS.op rfl) (hS.ch _ _ rfl) rfl (by as_aux_lemma => kernel_rfl) hrowi rfl hfn hni))
            (apply drawG_yes rfl rfl rfl; (intro S1 hS; exact stp_loadE' rfl (by as_aux_lemma => kernel_rfl) (hS.op rfl) (hS.ch _ _ rfl) rfl hrowi g1))
            (apply drawG_yes rfl rfl rfl; (intro S1 hS; exact stp_fieldAddr (d := 0) rfl (hS.op rfl) (hS.ch _ _ rfl) (by as_aux_lemma => kernel_rfl)))
            (apply drawG_yes rfl rfl rfl; (intro S1 hS; exact stp_loadF rfl (by as_aux_lemma => kernel_rfl) (hS.op rfl) (hS.ch _ _ rfl) rfl rfl))
            (apply drawG_yes rfl rfl rfl; (intro S1 hS; exact stp_move rfl (hS.op rfl)))
            (apply drawG_yes rfl rfl rfl; (intro S1 hS; exact stp_ix (j := k) rfl (hS.op rfl) (hS.op rfl) (hS.ch _ _ rfl) rfl (by as_aux_lemma => kernel_rfl) rfl hkz (Nat.le_of_eq hlen.symm)))
            (apply drawG_yes rfl rfl rfl; (intro S1 hS; exact stp_loadR rfl (by as_aux_lemma => kernel_rfl) (hS.op rfl) (hS.ch _ _ rfl) rfl hrowk hilk))
            (apply drawG_yes rfl rfl rfl; (intro S1 hS; exact stp_move rfl (hS.op rfl)))
            (apply drawG_yes rfl rfl rfl; (intro S1 hS; exact stp_ixE (j := f) rfl (hS.op rfl) (hS.op rfl) (hS.ch _ _ rfl) rfl (by as_aux_lemma => kernel_rfl) hrowk rfl hfn hnk))
            (apply drawG_yes rfl rfl rfl; (intro S1 hS; exact stp_loadE' rfl (by as_aux_lemma => kernel_rfl) (hS.op rfl) (hS.ch _ _ rfl) rfl hrowk g2))
            (apply drawG_yes rfl rfl rfl; (intro S1 hS; exact stp_bin rfl (hS.op rfl) (hS.op rfl) rfl))
            (apply drawG_put rfl; (intro S1 hS; exact stp_pickF rfl (hS.op rfl) (hS.op rfl)))
            exact DrawG.nil
          · rfl
          ((refine rest_done (by as_aux_lemma => kernel_rfl) ?_; skip))
          (refine fin_seq ?_)
          refine goes_cond rfl (fun e2 => ?_) (fun e2 => ?_)
          · have e2 : (d1 : Int) = d2 := by simpa using e2
            rw [manB_no (fun h => by have := (hcm.1 (h.comm i k hk hkz f (by omega))).2; omega)]
            (refine goes_seq ?_; refine goes_region ?_; apply run_step rfl; (exact stp_assign rfl rfl); refine run_nil ?_; refine fin_seq ?_; refine goes_ret ?_; refine fin_ret_block ?_; refine fin_ret_then ?_; refine fin_ret_then ?_; refine fin_ret_block ?_; refine fin_ret_block ?_; refine fin_ret_then ?_; refine fin_ret_then ?_; refine fin_ret_block ?_; refine fin_ret_block ?_; refine fin_ret_then ?_; refine fin_ret_then ?_; refine fin_ret_block ?_; refine fin_ret_then ?_)
            exact fin_ret1 (.inl rfl) rfl (.tmp rfl) trivial trivial
          · have e2 : (d1 : Int) ≠ d2 := by simpa using e2
            (refine goes_skip ?_; refine fin_block ?_; refine fin_seq ?_; refine goes_region ?_; apply run_step rfl; (exact stp_move rfl rfl); apply run_step rfl; (exact stp_add rfl rfl rfl (by first | exact IntWalk.i64_in _ (by omega) | rfl)); apply run_step rfl; (exact stp_assign rfl rfl); refine run_nil ?_)
            exact fin_round (f + 1) ⟨hfn, fun f' hf' => by
              by_cases e : f' = f
              · subst e; exact hcm.2 ⟨by omega, by omega⟩
              · exact hcf f' (by omega)⟩ (by omega) (Wk.of ⟨rfl, rfl, rfl, rfl, rfl, trivial⟩ ⟨rfl, rfl, trivial⟩ trivial)
        · apply goes_drawG 50 [] [[], [0], [], [0, 1, 2], [0, 1, 2, 3], [], [5], [], [5, 6, 7], [5, 6, 7, 8], [], [5, 6, 7, 8, 9, 10], [5, 6, 7, 8, 9, 10, 11], [0, 1, 2, 3, 4, 5, 6, 7, 8, 9, 10, 11, 12], [0, 1, 2, 3, 4, 5, 6, 7, 8, 9, 10, 11, 12, 13], [], [15], [], [15, 16, 17], [15, 16, 17, 18], [], [20], [], [20, 21, 22], [20, 21, 22, 23], [], [20, 21, 22, 23, 24, 25], [20, 21, 22, 23, 24, 25, 26], [15, 16, 17, 18, 19, 20, 21, 22, 23, 24, 25, 26, 27], [15, 16, 17, 18, 19, 20, 21, 22, 23, 24, 25, 26, 27, 28], [0, 1, 2, 3, 4, 5, 6, 7, 8, 9, 10, 11, 12, 13, 14, 15, 16, 17, 18, 19, 20, 21, 22, 23, 24, 25, 26, 27, 28, 29], [0, 1, 2, 3, 4, 5, 6, 7, 8, 9, 10, 11, 12, 13, 14, 15, 16, 17, 18, 19, 20, 21, 22, 23, 24, 25, 26, 27, 28, 29, 30], [0, 1, 2, 3, 4, 5, 6, 7, 8, 9, 10, 11, 12, 13, 14, 15, 16, 17, 18, 19, 20, 21, 22, 23, 24, 25, 26, 27, 28, 29, 30, 31], [0, 1, 2, 3, 4, 5, 6, 7, 8, 9, 10, 11, 12, 13, 14, 15, 16, 17, 18, 19, 20, 21, 22, 23, 24, 25, 26, 27, 28, 29, 30, 31, 32], [0, 1, 2, 3, 4, 5, 6, 7, 8, 9, 10, 11, 12, 13, 14, 15, 16, 17, 18, 19, 20, 21, 22, 23, 24, 25, 26, 27, 28, 29, 30, 31], [0, 1, 2, 3, 4, 5, 6, 7, 8, 9, 10, 11, 12, 13, 14, 15, 16, 17, 18, 19, 20, 21, 22, 23, 24, 25, 26, 27, 28, 29, 30, 31, 32, 33, 34], [0, 1, 2, 3, 4, 5, 6, 7, 8, 9, 10, 11, 12, 13, 14, 15, 16, 17, 18, 19, 20, 21, 22, 23, 24, 25, 26, 27, 28, 29, 30, 31, 32, 33, 34, 35], [0, 1, 2, 3, 4, 5, 6, 7, 8, 9, 10, 11, 12, 13, 14, 15, 16, 17, 18, 19, 20, 21, 22, 23, 24, 25, 26, 27, 28, 29, 30, 31], [0, 1, 2, 3, 4, 5, 6, 7, 8, 9, 10, 11, 12, 13, 14, 15, 16, 17, 18, 19, 20, 21, 22, 23, 24, 25, 26, 27, 28, 29, 30, 31, 32, 33, 34, 35, 36, 37], [0, 1, 2, 3, 4, 5, 6, 7, 8, 9, 10, 11, 12, 13, 14, 15, 16, 17, 18, 19, 20, 21, 22, 23, 24, 25, 26, 27, 28, 29, 30, 31, 32, 33, 34, 35, 36, 37, 38], [0, 1, 2, 3, 4, 5, 6, 7, 8, 9, 10, 11, 12, 13, 14, 15, 16, 17, 18, 19, 20, 21, 22, 23, 24, 25, 26, 27, 28, 29, 30, 31], [0, 1, 2, 3, 4, 5, 6, 7, 8, 9, 10, 11, 12, 13, 14, 15, 16, 17, 18, 19, 20, 21, 22, 23, 24, 25, 26, 27, 28, 29, 30, 31, 40], [0, 1, 2, 3, 4, 5, 6, 7, 8, 9, 10, 11, 12, 13, 14, 15, 16, 17, 18, 19, 20, 21, 22, 23, 24, 25, 26, 27, 28, 29, 30, 31], [0, 1, 2, 3, 4, 5, 6, 7, 8, 9, 10, 11, 12, 13, 14, 15, 16, 17, 18, 19, 20, 21, 22, 23, 24, 25, 26, 27, 28, 29, 30, 31, 40, 41, 42], [0, 1, 2, 3, 4, 5, 6, 7, 8, 9, 10, 11, 12, 13, 14, 15, 16, 17, 18, 19, 20, 21, 22, 23, 24, 25, 26, 27, 28, 29, 30, 31, 40, 41, 42, 43], [0, 1, 2, 3, 4, 5, 6, 7, 8, 9, 10, 11, 12, 13, 14, 15, 16, 17, 18, 19, 20, 21, 22, 23, 24, 25, 26, 27, 28, 29, 30, 31], [0, 1, 2, 3, 4, 5, 6, 7, 8, 9, 10, 11, 12, 13, 14, 15, 16, 17, 18, 19, 20, 21, 22, 23, 24, 25, 26, 27, 28, 29, 30, 31, 40, 41, 42, 43, 44, 45], [0, 1, 2, 3, 4, 5, 6, 7, 8, 9, 10, 11, 12, 13, 14, 15, 16, 17, 18, 19, 20, 21, 22, 23, 24, 25, 26, 27, 28, 29, 30, 31, 40, 41, 42, 43, 44, 45, 46], [0, 1, 2, 3, 4, 5, 6, 7, 8, 9, 10, 11, 12, 13, 14, 15, 16, 17, 18, 19, 20, 21, 22, 23, 24, 25, 26, 27, 28, 29, 30, 31, 32, 33, 34, 35, 36, 37, 38, 39, 40, 41, 42, 43, 44, 45, 46, 47], [0, 1, 2, 3, 4, 5, 6, 7, 8, 9, 10, 11, 12, 13, 14, 15, 16, 17, 18, 19, 20, 21, 22, 23, 24, 25, 26, 27, 28, 29, 30, 31, 32, 33, 34, 35, 36, 37, 38, 39, 40, 41, 42, 43, 44, 45, 46, 47, 48]] [89, 90, 91, 92, 93, 94, 95, 96, 97, 98, 99, 100, 101, 102, 103, 104, 105, 106, 107, 108, 109, 110, 111, 112, 113, 114, 115, 116, 117, 118, 119, 120, 121, 122, 123, 124, 125, 126, 127, 128, 129, 130, 131, 132, 133, 134, 135, 136, 137, 138] [] (by kernel_rfl) (by kernel_rfl)
          · (apply drawG_put rfl; (intro S1 hS; exact stp_fieldAddr (d := 0) rfl (hS.op rfl) (hS.ch _ _ rfl) (by as_aux_lemma => kernel_rfl)))
            (apply drawG_put rfl; (intro S1 hS; exact stp_loadF rfl (by as_aux_lemma => kernel_rfl) (hS.op rfl) (hS.ch _ _ rfl) rfl rfl))
            (apply drawG_put rfl; (intro S1 hS; exact stp_move rfl (hS.op rfl)))
            (apply drawG_put rfl; (intro S1 hS; exact stp_ix (j := k) rfl (hS.op rfl) (hS.op rfl) (hS.ch _ _ rfl) rfl (by as_aux_lemma => kernel_rfl) rfl hkz (Nat.le_of_eq hlen.symm)))
            (apply drawG_put rfl; (intro S1 hS; exact stp_loadR rfl (by as_aux_lemma => kernel_rfl) (hS.op rfl) (hS.ch _ _ rfl) rfl hrowk hilk))
            (apply drawG_put rfl; (intro S1 hS; exact stp_fieldAddr (d := 0) rfl (hS.op rfl) (hS.ch _ _ rfl) (by as_aux_lemma => kernel_rfl)))
            (apply drawG_put rfl; (intro S1 hS; exact stp_loadF rfl (by as_aux_lemma => kernel_rfl) (hS.op rfl) (hS.ch _ _ rfl) rfl rfl))
            (apply drawG_put rfl; (intro S1 hS; exact stp_move rfl (hS.op rfl)))
            (apply drawG_put rfl; (intro S1 hS; exact stp_ix (j := i) rfl (hS.op rfl) (hS.op rfl) (hS.ch _ _ rfl) rfl (by as_aux_lemma => kernel_rfl) rfl hiz (Nat.le_of_eq hlen.symm)))
            (apply drawG_put rfl; (intro S1 hS; exact stp_loadR rfl (by as_aux_lemma => kernel_rfl) (hS.op rfl) (hS.ch _ _ rfl) rfl hrowi hilm))
            (apply drawG_put rfl; (intro S1 hS; exact stp_move rfl (hS.op rfl)))
            (apply drawG_put rfl; (intro S1 hS; exact stp_ixE (j := f) rfl (hS.op rfl) (hS.op rfl) (hS.ch _ _ rfl) rfl (by as_aux_lemma => kernel_rfl) hrowi rfl hfn hni))
            (apply drawG_put rfl; (intro S1 hS; exact stp_loadE' rfl (by as_aux_lemma => kernel_rfl) (hS.op rfl) (hS.ch _ _ rfl) rfl hrowi g1))
            (apply drawG_put rfl; (intro S1 hS; exact stp_ixE (j := d1) rfl (hS.op rfl) (hS.op rfl) (hS.ch _ _ rfl) rfl (by as_aux_lemma => kernel_rfl) hrowk rfl hd1.1 hnk))
            (apply drawG_put rfl; (intro S1 hS; exact stp_loadE' rfl (by as_aux_lemma => kernel_rfl) (hS.op rfl) (hS.ch _ _ rfl) rfl hrowk g3))
            (apply drawG_put rfl; (intro S1 hS; exact stp_fieldAddr (d := 0) rfl (hS.op rfl) (hS.ch _ _ rfl) (by as_aux_lemma => kernel_rfl)))
            (apply drawG_put rfl; (intro S1 hS; exact stp_loadF rfl (by as_aux_lemma => kernel_rfl) (hS.op rfl) (hS.ch _ _ rfl) rfl rfl))
            (apply drawG_put rfl; (intro S1 hS; exact stp_move rfl (hS.op rfl)))
            (apply drawG_put rfl; (intro S1 hS; exact stp_ix (j := i) rfl (hS.op rfl) (hS.op rfl) (hS.ch _ _ rfl) rfl (by as_aux_lemma => kernel_rfl) rfl hiz (Nat.le_of_eq hlen.symm)))
            (apply drawG_put rfl; (intro S1 hS; exact stp_loadR rfl (by as_aux_lemma => kernel_rfl) (hS.op rfl) (hS.ch _ _ rfl) rfl hrowi hilm))
            (apply drawG_put rfl; (intro S1 hS; exact stp_fieldAddr (d := 0) rfl (hS.op rfl) (hS.ch _ _ rfl) (by as_aux_lemma => kernel_rfl)))
            (apply drawG_put rfl; (intro S1 hS; exact stp_loadF rfl (by as_aux_lemma => kernel_rfl) (hS.op rfl) (hS.ch _ _ rfl) rfl rfl))
            (apply drawG_put rfl; (intro S1 hS; exact stp_move rfl (hS.op rfl)))
            (apply drawG_put rfl; (intro S1 hS; exact stp_ix (j := k) rfl (hS.op rfl) (hS.op rfl) (hS.ch _ _ rfl) rfl (by as_aux_lemma => kernel_rfl) rfl hkz (Nat.le_of_eq hlen.symm)))
            (apply drawG_put rfl; (intro S1 hS; exact stp_loadR rfl (by as_aux_lemma => kernel_rfl) (hS.op rfl) (hS.ch _ _ rfl) rfl hrowk hilk))
            (apply drawG_put rfl; (intro S1 hS; exact stp_move rfl (hS.op rfl)))
            (apply drawG_put rfl; (intro S1 hS; exact stp_ixE (j := f) rfl (hS.op rfl) (hS.op rfl) (hS.ch _ _ rfl) rfl (by as_aux_lemma => kernel_rfl) hrowk rfl hfn hnk))
            (apply drawG_put rfl; (intro S1 hS; exact stp_loadE' rfl (by as_aux_lemma => kernel_rfl) (hS.op rfl) (hS.ch _ _ rfl) rfl hrowk g2))
            (apply drawG_put rfl; (intro S1 hS; exact stp_ixE (j := d2) rfl (hS.op rfl) (hS.op rfl) (hS.ch _ _ rfl) rfl (by as_aux_lemma => kernel_rfl) hrowi rfl hd2.1 hni))
            (apply drawG_put rfl; (intro S1 hS; exact stp_loadE' rfl (by as_aux_lemma => kernel_rfl) (hS.op rfl) (hS.ch _ _ rfl) rfl hrowi g4))
            (apply drawG_put rfl; (intro S1 hS; exact stp_bin rfl (hS.op rfl) (hS.op rfl) (binNeq e1)))
            (apply drawG_put rfl; (intro S1 hS; exact stp_move rfl (hS.op rfl)))
            apply drawG_no rfl rfl rfl rfl rfl
            apply drawG_no rfl rfl rfl rfl rfl
            apply drawG_no rfl rfl rfl rfl rfl
            apply drawG_no rfl rfl rfl rfl rfl
            apply drawG_no rfl rfl rfl rfl rfl
            apply drawG_no rfl rfl rfl rfl rfl
            apply drawG_no rfl rfl rfl rfl rfl
            apply drawG_no rfl rfl rfl rfl rfl
            apply drawG_no rfl rfl rfl rfl rfl
            apply drawG_no rfl rfl rfl rfl rfl
            apply drawG_no rfl rfl rfl rfl rfl
            apply drawG_no rfl rfl rfl rfl rfl
            apply drawG_no rfl rfl rfl rfl rfl
            apply drawG_no rfl rfl rfl rfl rfl
            apply drawG_no rfl rfl rfl rfl rfl
            apply drawG_no rfl rfl rfl rfl rfl
            apply drawG_no rfl rfl rfl rfl rfl
            (apply drawG_put rfl; (intro S1 hS; exact stp_pickT rfl (hS.op rfl) (hS.op rfl)))
            exact DrawG.nil
          · rfl
          ((refine rest_done (by as_aux_lemma => kernel_rfl) ?_; skip))
          (refine fin_seq ?_)
          refine goes_cond rfl (fun _ => ?_) (fun e => by cases e)
          rw [manB_no (fun h => by have := (hcm.1 (h.comm i k hk hkz f (by omega))).1; omega)]
          (refine goes_seq ?_; refine goes_region ?_; apply run_step rfl; (exact stp_assign rfl rfl); refine run_nil ?_; refine fin_seq ?_; refine goes_ret ?_; refine fin_ret_block ?_; refine fin_ret_then ?_; refine fin_ret_then ?_; refine fin_ret_block ?_; refine fin_ret_block ?_; refine fin_ret_then ?_; refine fin_ret_then ?_; refine fin_ret_block ?_; refine fin_ret_block ?_; refine fin_ret_then ?_; refine fin_ret_then ?_; refine fin_ret_block ?_; refine fin_ret_then ?_)
          exact fin_ret1 (.inl rfl) rfl (.tmp rfl) trivial trivial
      · (refine goes_exit ?_; refine fin_exit_then ?_; refine fin_exit_then ?_; refine fin_exit_eq ?_; refine fin_block ?_; refine fin_seq ?_; refine goes_region ?_; apply run_step rfl; (exact stp_move rfl rfl); apply run_step rfl; (exact stp_add rfl rfl rfl (by first | exact IntWalk.i64_in _ (by omega) | rfl)); apply run_step rfl; (exact stp_assign rfl rfl); refine run_nil ?_)
        exact fin_round (k + 1) ⟨by omega, fun k' h1 h2 h3 f' hf' => by
          by_cases e : k' = k
          · subst e; exact hcf f' (by omega)
          · exact hck k' h1 (by omega) h3 f' hf'⟩ (by omega) (Wk.of ⟨rfl, rfl, rfl, rfl, trivial⟩ ⟨rfl, rfl, trivial⟩ trivial)
    · (refine goes_exit ?_; refine fin_exit_then ?_; refine fin_exit_then ?_; refine fin_exit_eq ?_; refine fin_block ?_; refine fin_seq ?_; refine goes_region ?_; apply run_step rfl; (exact stp_move rfl rfl); apply run_step rfl; (exact stp_add rfl rfl rfl (by first | exact IntWalk.i64_in _ (by omega) | rfl)); apply run_step rfl; (exact stp_assign rfl rfl); refine run_nil ?_)
      exact fin_round (i + 1) ⟨hiz, fun i' k' h1 h2 h3 => by
        by_cases e : i' = i
        · subst e; exact hck k' h2 (by omega) h3
        · exact hci i' k' (by omega) h2 h3⟩ (by omega) (Wk.of ⟨rfl, rfl, rfl, trivial⟩ ⟨rfl, rfl, trivial⟩ trivial)
  obtain rfl : i = zss.length := by omega
  have hM : Man0 zss := ⟨by omega, by omega, by omega, by omega, by rw [hn]; exact hrn, fun i k h1 h2 f hf => hci i k (by omega) h1 h2 f (by omega)⟩
  have hO := (orbS_fc zss n 0 hT hpos (by omega) (by omega) (by omega)).nm [(1003, 1003), (12, 141)] (by kernel_rfl)
  have hO : FC Try.prog 177 [(1003, rowsRo zss)] [o1 (.sl 1003 0 zss.length), vv (I6 0)] [(141, leOw (orb zss n 0).2)] (o1 (.sl 141 0 (orb zss n 0).2.length)) [] := hO
  rw [hM.man, hn]
  (refine goes_exit ?_; refine fin_exit_then ?_; refine fin_exit_then ?_; refine fin_exit_eq ?_; refine fin_seq ?_; refine goes_seq ?_)
  apply goes_draw 11 [] [[], [0], [0, 1], [0, 1, 2], [], [4], [4, 5], [4, 5, 6], [4, 5, 6, 7], [0, 1, 2, 3, 4, 5, 6, 7, 8], [0, 1, 2, 3, 4, 5, 6, 7, 8, 9]] [139, 140, 141, 142, 143, 144, 145, 146, 147, 148, 2] [141] (by kernel_rfl) (by kernel_rfl)
  · (apply draw_put rfl; (intro S1 hS; exact stp_fieldAddr (d := 0) rfl (hS.op rfl) (hS.ch _ _ rfl) (by as_aux_lemma => kernel_rfl)))
    (apply draw_put rfl; (intro S1 hS; exact stp_loadF rfl (by as_aux_lemma => kernel_rfl) (hS.op rfl) (hS.ch _ _ rfl) rfl rfl))
    (apply draw_new rfl; (intro S1 hS; apply call_gate 177; exact stp_callN hO (by as_aux_lemma => kernel_rfl) rfl (opL_le hS rfl) ⟨rfl, rfl, trivial⟩ (allIn_le hS ⟨⟨_, rfl, .inl rfl⟩, trivial⟩) rfl rfl rfl))
    (apply draw_put rfl; (intro S1 hS; exact stp_len rfl (hS.op rfl) rfl (by as_aux_lemma => kernel_rfl)))
    (apply draw_put rfl; (intro S1 hS; exact stp_fieldAddr (d := 0) rfl (hS.op rfl) (hS.ch _ _ rfl) (by as_aux_lemma => kernel_rfl)))
    (apply draw_put rfl; (intro S1 hS; exact stp_loadF rfl (by as_aux_lemma => kernel_rfl) (hS.op rfl) (hS.ch _ _ rfl) rfl rfl))
    (apply draw_put rfl; (intro S1 hS; exact stp_ix (j := 0) rfl (hS.op rfl) (hS.op rfl) (hS.ch _ _ rfl) rfl (by as_aux_lemma => kernel_rfl) rfl hpos (Nat.le_of_eq hlen.symm)))
    (apply draw_put rfl; (intro S1 hS; exact stp_loadR rfl (by as_aux_lemma => kernel_rfl) (hS.op rfl) (hS.ch _ _ rfl) rfl hrow0 hil))
    (apply draw_put rfl; (intro S1 hS; exact stp_len rfl (hS.op rfl) rfl (by as_aux_lemma => kernel_rfl)))
    (apply draw_put rfl; (intro S1 hS; exact stp_bin rfl (hS.op rfl) (hS.op rfl) rfl))
    (apply draw_put rfl; (intro S1 hS; exact stp_assign rfl (hS.op rfl)))
    exact Draw.nil
  · rfl
  ((refine rest_done (by as_aux_lemma => kernel_rfl) ?_; skip))
  (refine fin_seq ?_; refine goes_ret ?_)
  exact fin_ret1 (.inl rfl) rfl (.tmp rfl) trivial trivial
end Go.Proofs.Ytpognnifgcacnaa

/- The program's within, in names. -/
namespace Go.Proofs.Ytpognnifgcacnaa
open Go.RowKit

theorem us_three {us : List Value} {u0 u1 u2 : Value} (hl : us.length = 3) (g0 : us[0]? = some u0) (g1 : us[1]? = some u1) (g2 : us[2]? = some u2) : us = [u0, u1, u2] := by
  match us, hl with
  | [p, q, r], _ => simp at g0 g1 g2; rw [g0, g1, g2]
theorem within_fc (a b c : Int) : FC Try.prog 97 [] [vv (I6 a), vv (I6 b), vv (I6 c)] [] (vv (.bool (inB a b c))) [] :=
  fc_of_calls fun w η ω us hm ⟨hl, ha⟩ => by
    obtain ⟨u0, g0, d0⟩ := ha 0 _ rfl
    obtain ⟨u1, g1, d1⟩ := ha 1 _ rfl
    obtain ⟨u2, g2, d2⟩ := ha 2 _ rfl
    have d0 : u0 = I6 a := d0
    have d1 : u1 = I6 b := d1
    have d2 : u2 = I6 c := d2
    subst d0 d1 d2
    rw [us_three hl g0 g1 g2]
    refine (within_any a b c w).mono ?_
    rintro e w' ⟨rfl, rfl⟩
    exact ⟨rfl, Below.refl _ _⟩
end Go.Proofs.Ytpognnifgcacnaa

/- What a maniplex is, the program's: isManiplex. guards: -/
namespace Go.Proofs.Ytpognnifgcacnaa
open Go.RowKit

abbrev mxV (R : Nat) : Ch := ⟨false, 41, 1, .flat [.sl 1003 0 R]⟩
theorem rank_fc (R : Nat) : FC Try.prog 185 [(1, mxV R)] [o1 (.ptr 1 0)] [] (vv (I6 R)) [] := by
  have hS := sizeR_fc 1003 R
  refine fc_enter (nt := 8) Try.func185 rfl rfl (by simp) fun w0 ω0 => ?_
  (refine goes_seq ?_; refine goes_region ?_; apply run_step rfl; (exact stp_assign rfl rfl); refine run_nil ?_; refine fin_seq ?_; refine goes_seq ?_; refine goes_region ?_; apply run_step rfl; (exact stp_move rfl rfl); apply run_step rfl; (exact stp_nilCheck rfl rfl rfl); apply run_step rfl; (exact stp_fieldAddr (d := 0) rfl rfl rfl (by as_aux_lemma => kernel_rfl)); apply run_step rfl; (exact stp_loadF rfl (by as_aux_lemma => kernel_rfl) rfl rfl rfl rfl); apply run_step rfl; (apply call_gate 145; exact stp_callR hS (by as_aux_lemma => kernel_rfl) rfl rfl ⟨rfl, trivial⟩ trivial rfl rfl); apply run_step rfl; (exact stp_assign rfl rfl); refine run_nil ?_; refine fin_seq ?_; refine goes_ret ?_)
  exact fin_ret1 (.inl rfl) rfl (.tmp rfl) trivial trivial
set_option maxRecDepth 100000 in
theorem flags_fc1 (zss : List (List Int)) (n : Nat) (hpos : 0 < zss.length) (hn : (lget zss 0).length = n) : FC Try.prog 172 [(1, mxV zss.length), (1003, rowsRo zss)] [o1 (.ptr 1 0)] [] (vv (I6 n)) [] := by
  have hlen : (irows zss).length = zss.length := irows_len _
  have hrow0 : (irows zss)[0]? = some (ivals (lget zss 0)) := irows_get hpos
  have hil : (ivals (lget zss 0)).length = n := by rw [ivals_len]; exact hn
  have hSz := sizeE_fc 1003 0 n
  refine fc_enter (nt := 10) Try.func172 rfl rfl (by simp) fun w0 ω0 => ?_
  (refine goes_seq ?_; refine goes_region ?_; apply run_step rfl; (exact stp_assign rfl rfl); refine run_nil ?_; refine fin_seq ?_; refine goes_seq ?_; refine goes_region ?_; apply run_step rfl; (exact stp_move rfl rfl); apply run_step rfl; (exact stp_nilCheck rfl rfl rfl); apply run_step rfl; (exact stp_fieldAddr (d := 0) rfl rfl rfl (by as_aux_lemma => kernel_rfl)); apply run_step rfl; (exact stp_loadF rfl (by as_aux_lemma => kernel_rfl) rfl rfl rfl rfl); apply run_step rfl; (first | exact stp_ix (j := 0) rfl rfl rfl rfl rfl (by as_aux_lemma => kernel_rfl) rfl hpos (Nat.le_of_eq hlen.symm) | exact stp_loadR rfl (by as_aux_lemma => kernel_rfl) rfl rfl rfl hrow0 hil | (apply call_gate 139; exact stp_callR hSz (by as_aux_lemma => kernel_rfl) rfl rfl ⟨rfl, trivial⟩ trivial rfl rfl)); apply run_step rfl; (first | exact stp_ix (j := 0) rfl rfl rfl rfl rfl (by as_aux_lemma => kernel_rfl) rfl hpos (Nat.le_of_eq hlen.symm) | exact stp_loadR rfl (by as_aux_lemma => kernel_rfl) rfl rfl rfl hrow0 hil | (apply call_gate 139; exact stp_callR hSz (by as_aux_lemma => kernel_rfl) rfl rfl ⟨rfl, trivial⟩ trivial rfl rfl)); apply run_step rfl; (first | exact stp_ix (j := 0) rfl rfl rfl rfl rfl (by as_aux_lemma => kernel_rfl) rfl hpos (Nat.le_of_eq hlen.symm) | exact stp_loadR rfl (by as_aux_lemma => kernel_rfl) rfl rfl rfl hrow0 hil | (apply call_gate 139; exact stp_callR hSz (by as_aux_lemma => kernel_rfl) rfl rfl ⟨rfl, trivial⟩ trivial rfl rfl)); apply run_step rfl; (exact stp_assign rfl rfl); refine run_nil ?_; refine fin_seq ?_; refine goes_ret ?_)
  exact fin_ret1 (.inl rfl) rfl (.tmp rfl) trivial trivial

set_option maxRecDepth 100000 in
set_option maxHeartbeats 4000000 in
theorem manI_fc (zss : List (List Int)) (hR : zss.length ≤ 1048576) (hl : ∀ i, i < zss.length → (lget zss i).length ≤ 1048576) :
    FC Try.prog 114 [(1003, rowsRo zss)] [mA zss.length] [] (vv (.bool (manB zss))) [] := by
  have hRk := rank_fc zss.length
  have hW1 := within_fc (zss.length : Int) 1 5
  refine fc_enter (nt := 101) Try.func114 rfl rfl (by simp) fun w0 ω0 => ?_
  have hlen : (irows zss).length = zss.length := irows_len _
  cases c1 : inB (zss.length : Int) 1 5 with
  | false =>
    rw [manB_no (fun h => by have h1 := h.n1; have h2 := h.n5; rw [inB_true.2 ⟨by omega, by omega⟩] at c1; cases c1)]
    rw [c1] at hW1
    (refine goes_seq ?_; refine goes_region ?_; apply run_step rfl; (exact stp_box rfl rfl rfl rfl); apply run_step rfl; (exact stp_assign rfl rfl); refine run_nil ?_; refine fin_seq ?_; refine goes_seq ?_; refine goes_seq ?_; refine goes_region ?_; apply run_step rfl; (first | (apply call_gate 185; exact stp_callR hRk (by as_aux_lemma => kernel_rfl) rfl rfl ⟨rfl, trivial⟩ ⟨⟨_, rfl, .inr rfl⟩, trivial⟩ rfl rfl) | (apply call_gate 97; exact stp_callR hW1 (by as_aux_lemma => kernel_rfl) rfl rfl ⟨rfl, rfl, rfl, trivial⟩ trivial rfl rfl)); apply run_step rfl; (first | (apply call_gate 185; exact stp_callR hRk (by as_aux_lemma => kernel_rfl) rfl rfl ⟨rfl, trivial⟩ ⟨⟨_, rfl, .inr rfl⟩, trivial⟩ rfl rfl) | (apply call_gate 97; exact stp_callR hW1 (by as_aux_lemma => kernel_rfl) rfl rfl ⟨rfl, rfl, rfl, trivial⟩ trivial rfl rfl)); apply run_step rfl; (exact stp_not rfl rfl); apply run_step rfl; (exact stp_move rfl rfl); apply run_gNo rfl rfl rfl rfl rfl; apply run_gNo rfl rfl rfl rfl rfl; apply run_gNo rfl rfl rfl rfl rfl; apply run_step rfl; (exact stp_pickT rfl rfl rfl); refine run_nil ?_; refine fin_seq ?_)
    refine goes_cond rfl (fun _ => ?_) (fun e => by cases e)
    (refine goes_seq ?_; refine goes_region ?_; apply run_step rfl; (exact stp_assign rfl rfl); refine run_nil ?_; refine fin_seq ?_; refine goes_ret ?_; refine fin_ret_then ?_)
    exact fin_ret1 (.inl rfl) rfl (.tmp rfl) trivial trivial
  | true =>
  rw [c1] at hW1
  have c1 := inB_true.1 c1
  have hpos : 0 < zss.length := by omega
  have hrow0 : (irows zss)[0]? = some (ivals (lget zss 0)) := irows_get hpos
  obtain ⟨n, hn⟩ : ∃ n, (lget zss 0).length = n := ⟨_, rfl⟩
  have hil : (ivals (lget zss 0)).length = n := by rw [ivals_len]; exact hn
  have hG := flags_fc1 zss n hpos hn
  have hW2 := within_fc (n : Int) 2 400
  cases c2 : inB (n : Int) 2 400 with
  | false =>
    rw [manB_no (fun h => by have h1 := h.f2; have h2 := h.f4; rw [inB_true.2 ⟨by omega, by omega⟩] at c2; cases c2)]
    rw [c2] at hW2
    (refine goes_seq ?_; refine goes_region ?_; apply run_step rfl; (exact stp_box rfl rfl rfl rfl); apply run_step rfl; (exact stp_assign rfl rfl); refine run_nil ?_; refine fin_seq ?_; refine goes_seq ?_; refine goes_seq ?_; refine goes_region ?_; apply run_step rfl; (first | (apply call_gate 185; exact stp_callR hRk (by as_aux_lemma => kernel_rfl) rfl rfl ⟨rfl, trivial⟩ ⟨⟨_, rfl, .inr rfl⟩, trivial⟩ rfl rfl) | (apply call_gate 97; exact stp_callR hW1 (by as_aux_lemma => kernel_rfl) rfl rfl ⟨rfl, rfl, rfl, trivial⟩ trivial rfl rfl) | (apply call_gate 97; exact stp_callR hW2 (by as_aux_lemma => kernel_rfl) rfl rfl ⟨rfl, rfl, rfl, trivial⟩ trivial rfl rfl) | (apply call_gate 172; exact stp_callR hG (by as_aux_lemma => kernel_rfl) rfl rfl ⟨rfl, trivial⟩ ⟨⟨_, rfl, .inr rfl⟩, ⟨_, rfl, .inl rfl⟩, trivial⟩ rfl rfl)); apply run_step rfl; (first | (apply call_gate 185; exact stp_callR hRk (by as_aux_lemma => kernel_rfl) rfl rfl ⟨rfl, trivial⟩ ⟨⟨_, rfl, .inr rfl⟩, trivial⟩ rfl rfl) | (apply call_gate 97; exact stp_callR hW1 (by as_aux_lemma => kernel_rfl) rfl rfl ⟨rfl, rfl, rfl, trivial⟩ trivial rfl rfl) | (apply call_gate 97; exact stp_callR hW2 (by as_aux_lemma => kernel_rfl) rfl rfl ⟨rfl, rfl, rfl, trivial⟩ trivial rfl rfl) | (apply call_gate 172; exact stp_callR hG (by as_aux_lemma => kernel_rfl) rfl rfl ⟨rfl, trivial⟩ ⟨⟨_, rfl, .inr rfl⟩, ⟨_, rfl, .inl rfl⟩, trivial⟩ rfl rfl)); apply run_step rfl; (exact stp_not rfl rfl); apply run_step rfl; (exact stp_move rfl rfl); apply run_gYes rfl rfl rfl; (first | (apply call_gate 185; exact stp_callR hRk (by as_aux_lemma => kernel_rfl) rfl rfl ⟨rfl, trivial⟩ ⟨⟨_, rfl, .inr rfl⟩, trivial⟩ rfl rfl) | (apply call_gate 97; exact stp_callR hW1 (by as_aux_lemma => kernel_rfl) rfl rfl ⟨rfl, rfl, rfl, trivial⟩ trivial rfl rfl) | (apply call_gate 97; exact stp_callR hW2 (by as_aux_lemma => kernel_rfl) rfl rfl ⟨rfl, rfl, rfl, trivial⟩ trivial rfl rfl) | (apply call_gate 172; exact stp_callR hG (by as_aux_lemma => kernel_rfl) rfl rfl ⟨rfl, trivial⟩ ⟨⟨_, rfl, .inr rfl⟩, ⟨_, rfl, .inl rfl⟩, trivial⟩ rfl rfl)); apply run_gYes rfl rfl rfl; (first | (apply call_gate 185; exact stp_callR hRk (by as_aux_lemma => kernel_rfl) rfl rfl ⟨rfl, trivial⟩ ⟨⟨_, rfl, .inr rfl⟩, trivial⟩ rfl rfl) | (apply call_gate 97; exact stp_callR hW1 (by as_aux_lemma => kernel_rfl) rfl rfl ⟨rfl, rfl, rfl, trivial⟩ trivial rfl rfl) | (apply call_gate 97; exact stp_callR hW2 (by as_aux_lemma => kernel_rfl) rfl rfl ⟨rfl, rfl, rfl, trivial⟩ trivial rfl rfl) | (apply call_gate 172; exact stp_callR hG (by as_aux_lemma => kernel_rfl) rfl rfl ⟨rfl, trivial⟩ ⟨⟨_, rfl, .inr rfl⟩, ⟨_, rfl, .inl rfl⟩, trivial⟩ rfl rfl)); apply run_gYes rfl rfl rfl; (exact stp_not rfl rfl); apply run_step rfl; (exact stp_pickF rfl rfl rfl); refine run_nil ?_; refine fin_seq ?_)
    refine goes_cond rfl (fun _ => ?_) (fun e => by cases e)
    (refine goes_seq ?_; refine goes_region ?_; apply run_step rfl; (exact stp_assign rfl rfl); refine run_nil ?_; refine fin_seq ?_; refine goes_ret ?_; refine fin_ret_then ?_)
    exact fin_ret1 (.inl rfl) rfl (.tmp rfl) trivial trivial
  | true =>
  rw [c2] at hW2
  have c2 := inB_true.1 c2
  (refine goes_seq ?_; refine goes_region ?_; apply run_step rfl; (exact stp_box rfl rfl rfl rfl); apply run_step rfl; (exact stp_assign rfl rfl); refine run_nil ?_; refine fin_seq ?_; refine goes_seq ?_; refine goes_seq ?_; refine goes_region ?_; apply run_step rfl; (first | (apply call_gate 185; exact stp_callR hRk (by as_aux_lemma => kernel_rfl) rfl rfl ⟨rfl, trivial⟩ ⟨⟨_, rfl, .inr rfl⟩, trivial⟩ rfl rfl) | (apply call_gate 97; exact stp_callR hW1 (by as_aux_lemma => kernel_rfl) rfl rfl ⟨rfl, rfl, rfl, trivial⟩ trivial rfl rfl) | (apply call_gate 97; exact stp_callR hW2 (by as_aux_lemma => kernel_rfl) rfl rfl ⟨rfl, rfl, rfl, trivial⟩ trivial rfl rfl) | (apply call_gate 172; exact stp_callR hG (by as_aux_lemma => kernel_rfl) rfl rfl ⟨rfl, trivial⟩ ⟨⟨_, rfl, .inr rfl⟩, ⟨_, rfl, .inl rfl⟩, trivial⟩ rfl rfl)); apply run_step rfl; (first | (apply call_gate 185; exact stp_callR hRk (by as_aux_lemma => kernel_rfl) rfl rfl ⟨rfl, trivial⟩ ⟨⟨_, rfl, .inr rfl⟩, trivial⟩ rfl rfl) | (apply call_gate 97; exact stp_callR hW1 (by as_aux_lemma => kernel_rfl) rfl rfl ⟨rfl, rfl, rfl, trivial⟩ trivial rfl rfl) | (apply call_gate 97; exact stp_callR hW2 (by as_aux_lemma => kernel_rfl) rfl rfl ⟨rfl, rfl, rfl, trivial⟩ trivial rfl rfl) | (apply call_gate 172; exact stp_callR hG (by as_aux_lemma => kernel_rfl) rfl rfl ⟨rfl, trivial⟩ ⟨⟨_, rfl, .inr rfl⟩, ⟨_, rfl, .inl rfl⟩, trivial⟩ rfl rfl)); apply run_step rfl; (exact stp_not rfl rfl); apply run_step rfl; (exact stp_move rfl rfl); apply run_gYes rfl rfl rfl; (first | (apply call_gate 185; exact stp_callR hRk (by as_aux_lemma => kernel_rfl) rfl rfl ⟨rfl, trivial⟩ ⟨⟨_, rfl, .inr rfl⟩, trivial⟩ rfl rfl) | (apply call_gate 97; exact stp_callR hW1 (by as_aux_lemma => kernel_rfl) rfl rfl ⟨rfl, rfl, rfl, trivial⟩ trivial rfl rfl) | (apply call_gate 97; exact stp_callR hW2 (by as_aux_lemma => kernel_rfl) rfl rfl ⟨rfl, rfl, rfl, trivial⟩ trivial rfl rfl) | (apply call_gate 172; exact stp_callR hG (by as_aux_lemma => kernel_rfl) rfl rfl ⟨rfl, trivial⟩ ⟨⟨_, rfl, .inr rfl⟩, ⟨_, rfl, .inl rfl⟩, trivial⟩ rfl rfl)); apply run_gYes rfl rfl rfl; (first | (apply call_gate 185; exact stp_callR hRk (by as_aux_lemma => kernel_rfl) rfl rfl ⟨rfl, trivial⟩ ⟨⟨_, rfl, .inr rfl⟩, trivial⟩ rfl rfl) | (apply call_gate 97; exact stp_callR hW1 (by as_aux_lemma => kernel_rfl) rfl rfl ⟨rfl, rfl, rfl, trivial⟩ trivial rfl rfl) | (apply call_gate 97; exact stp_callR hW2 (by as_aux_lemma => kernel_rfl) rfl rfl ⟨rfl, rfl, rfl, trivial⟩ trivial rfl rfl) | (apply call_gate 172; exact stp_callR hG (by as_aux_lemma => kernel_rfl) rfl rfl ⟨rfl, trivial⟩ ⟨⟨_, rfl, .inr rfl⟩, ⟨_, rfl, .inl rfl⟩, trivial⟩ rfl rfl)); apply run_gYes rfl rfl rfl; (exact stp_not rfl rfl); apply run_step rfl; (exact stp_pickF rfl rfl rfl); refine run_nil ?_; refine fin_seq ?_)
  refine goes_cond rfl (fun e => by cases e) (fun _ => ?_)
  (refine goes_skip ?_; refine fin_seq ?_; refine goes_seq ?_; refine goes_seq ?_; refine goes_region ?_; apply run_step rfl; (exact stp_fieldAddr (d := 0) rfl rfl rfl (by as_aux_lemma => kernel_rfl)); apply run_step rfl; (exact stp_loadF rfl (by as_aux_lemma => kernel_rfl) rfl rfl rfl rfl); apply run_step rfl; (exact stp_len rfl rfl rfl (by as_aux_lemma => kernel_rfl)); apply run_step rfl; (exact stp_move rfl rfl); refine run_nil ?_; refine fin_seq ?_; refine goes_block ?_)
  refine goes_loop (fun i : Nat => St.of [(1, o1 (.ptr 1 0)), (21, o1 (.sl 1003 0 zss.length)), (22, vv (I6 zss.length)), (23, vv (I6 i))] [(1003, rowsRo zss), (1, mxB zss.length)]) (fun i => i ≤ zss.length ∧ Rows zss n i) (fun i => zss.length - i) 0 ⟨Nat.zero_le _, fun j hj => absurd hj (by omega)⟩ (Wk.of ⟨rfl, rfl, rfl, rfl, trivial⟩ ⟨rfl, rfl, trivial⟩ trivial) ?_
  rintro i ⟨hi, hrows⟩
  (refine goes_seq ?_; refine goes_region ?_; apply run_step rfl; (exact stp_bin rfl rfl rfl rfl); refine run_nil ?_; refine fin_seq ?_; refine goes_seq ?_)
  refine goes_if rfl (fun hlt => ?_) (fun hlt => ?_)
  · have hiz : i < zss.length := by omega
    have hrowi : (irows zss)[i]? = some (ivals (lget zss i)) := irows_get hiz
    have hP := freeI_fc zss i hiz (hl i hiz)
    obtain ⟨m, hm⟩ : ∃ m, (lget zss i).length = m := ⟨_, rfl⟩
    have hilm : (ivals (lget zss i)).length = m := by rw [ivals_len]; exact hm
    rw [hm] at hP
    have hSz := sizeE_fc 1003 i m
    cases hf : freeInv (lget zss i) with
    | false =>
      rw [hf] at hP
      (refine goes_skip ?_; refine fin_seq ?_; refine goes_seq ?_; refine goes_block ?_; refine goes_seq ?_; refine goes_region ?_; apply run_step rfl; (first | exact stp_ix (j := i) rfl rfl rfl rfl rfl (by as_aux_lemma => kernel_rfl) rfl hiz (Nat.le_of_eq hlen.symm) | exact stp_loadR rfl (by as_aux_lemma => kernel_rfl) rfl rfl rfl hrowi hilm | (apply call_gate 186; exact stp_callR hP (by as_aux_lemma => kernel_rfl) rfl rfl ⟨rfl, trivial⟩ ⟨⟨_, rfl, .inl rfl⟩, trivial⟩ rfl rfl)); apply run_step rfl; (first | exact stp_ix (j := i) rfl rfl rfl rfl rfl (by as_aux_lemma => kernel_rfl) rfl hiz (Nat.le_of_eq hlen.symm) | exact stp_loadR rfl (by as_aux_lemma => kernel_rfl) rfl rfl rfl hrowi hilm | (apply call_gate 186; exact stp_callR hP (by as_aux_lemma => kernel_rfl) rfl rfl ⟨rfl, trivial⟩ ⟨⟨_, rfl, .inl rfl⟩, trivial⟩ rfl rfl)); apply run_step rfl; (exact stp_assign rfl rfl); refine run_nil ?_; refine fin_seq ?_; refine goes_seq ?_; refine goes_region ?_; apply run_step rfl; (exact stp_move rfl rfl); apply run_step rfl; (first | exact stp_ix (j := i) rfl rfl rfl rfl rfl (by as_aux_lemma => kernel_rfl) rfl hiz (Nat.le_of_eq hlen.symm) | exact stp_loadR rfl (by as_aux_lemma => kernel_rfl) rfl rfl rfl hrowi hilm | (apply call_gate 186; exact stp_callR hP (by as_aux_lemma => kernel_rfl) rfl rfl ⟨rfl, trivial⟩ ⟨⟨_, rfl, .inl rfl⟩, trivial⟩ rfl rfl)); apply run_step rfl; (exact stp_not rfl rfl); apply run_step rfl; (exact stp_move rfl rfl); apply run_gNo rfl rfl rfl rfl rfl; apply run_gNo rfl rfl rfl rfl rfl; apply run_gNo rfl rfl rfl rfl rfl; apply run_gNo rfl rfl rfl rfl rfl; apply run_step rfl; (exact stp_pickT rfl rfl rfl); refine run_nil ?_; refine fin_seq ?_)
      refine goes_cond rfl (fun _ => ?_) (fun e => by cases e)
      rw [manB_no (fun h => by have h1 := h.perm i hiz; have h2 := h.free i hiz; unfold freeInv at hf; rw [h1, h2] at hf; cases hf)]
      (refine goes_seq ?_; refine goes_region ?_; apply run_step rfl; (exact stp_assign rfl rfl); refine run_nil ?_; refine fin_seq ?_; refine goes_ret ?_; refine fin_ret_block ?_; refine fin_ret_then ?_; refine fin_ret_then ?_; refine fin_ret_block ?_; refine fin_ret_then ?_)
      exact fin_ret1 (.inl rfl) rfl (.tmp rfl) trivial trivial
    | true =>
      rw [hf] at hP
      unfold freeInv at hf
      rw [Bool.and_eq_true] at hf
      (refine goes_skip ?_; refine fin_seq ?_; refine goes_seq ?_; refine goes_block ?_; refine goes_seq ?_; refine goes_region ?_; apply run_step rfl; (first | exact stp_ix (j := i) rfl rfl rfl rfl rfl (by as_aux_lemma => kernel_rfl) rfl hiz (Nat.le_of_eq hlen.symm) | exact stp_loadR rfl (by as_aux_lemma => kernel_rfl) rfl rfl rfl hrowi hilm | (apply call_gate 186; exact stp_callR hP (by as_aux_lemma => kernel_rfl) rfl rfl ⟨rfl, trivial⟩ ⟨⟨_, rfl, .inl rfl⟩, trivial⟩ rfl rfl) | (apply call_gate 139; exact stp_callR hSz (by as_aux_lemma => kernel_rfl) rfl rfl ⟨rfl, trivial⟩ trivial rfl rfl) | (apply call_gate 172; exact stp_callR hG (by as_aux_lemma => kernel_rfl) rfl rfl ⟨rfl, trivial⟩ ⟨⟨_, rfl, .inr rfl⟩, ⟨_, rfl, .inl rfl⟩, trivial⟩ rfl rfl)); apply run_step rfl; (first | exact stp_ix (j := i) rfl rfl rfl rfl rfl (by as_aux_lemma => kernel_rfl) rfl hiz (Nat.le_of_eq hlen.symm) | exact stp_loadR rfl (by as_aux_lemma => kernel_rfl) rfl rfl rfl hrowi hilm | (apply call_gate 186; exact stp_callR hP (by as_aux_lemma => kernel_rfl) rfl rfl ⟨rfl, trivial⟩ ⟨⟨_, rfl, .inl rfl⟩, trivial⟩ rfl rfl) | (apply call_gate 139; exact stp_callR hSz (by as_aux_lemma => kernel_rfl) rfl rfl ⟨rfl, trivial⟩ trivial rfl rfl) | (apply call_gate 172; exact stp_callR hG (by as_aux_lemma => kernel_rfl) rfl rfl ⟨rfl, trivial⟩ ⟨⟨_, rfl, .inr rfl⟩, ⟨_, rfl, .inl rfl⟩, trivial⟩ rfl rfl)); apply run_step rfl; (exact stp_assign rfl rfl); refine run_nil ?_; refine fin_seq ?_; refine goes_seq ?_; refine goes_region ?_; apply run_step rfl; (exact stp_move rfl rfl); apply run_step rfl; (first | exact stp_ix (j := i) rfl rfl rfl rfl rfl (by as_aux_lemma => kernel_rfl) rfl hiz (Nat.le_of_eq hlen.symm) | exact stp_loadR rfl (by as_aux_lemma => kernel_rfl) rfl rfl rfl hrowi hilm | (apply call_gate 186; exact stp_callR hP (by as_aux_lemma => kernel_rfl) rfl rfl ⟨rfl, trivial⟩ ⟨⟨_, rfl, .inl rfl⟩, trivial⟩ rfl rfl) | (apply call_gate 139; exact stp_callR hSz (by as_aux_lemma => kernel_rfl) rfl rfl ⟨rfl, trivial⟩ trivial rfl rfl) | (apply call_gate 172; exact stp_callR hG (by as_aux_lemma => kernel_rfl) rfl rfl ⟨rfl, trivial⟩ ⟨⟨_, rfl, .inr rfl⟩, ⟨_, rfl, .inl rfl⟩, trivial⟩ rfl rfl)); apply run_step rfl; (exact stp_not rfl rfl); apply run_step rfl; (exact stp_move rfl rfl); apply run_gYes rfl rfl rfl; (exact stp_move rfl rfl); apply run_gYes rfl rfl rfl; (first | exact stp_ix (j := i) rfl rfl rfl rfl rfl (by as_aux_lemma => kernel_rfl) rfl hiz (Nat.le_of_eq hlen.symm) | exact stp_loadR rfl (by as_aux_lemma => kernel_rfl) rfl rfl rfl hrowi hilm | (apply call_gate 186; exact stp_callR hP (by as_aux_lemma => kernel_rfl) rfl rfl ⟨rfl, trivial⟩ ⟨⟨_, rfl, .inl rfl⟩, trivial⟩ rfl rfl) | (apply call_gate 139; exact stp_callR hSz (by as_aux_lemma => kernel_rfl) rfl rfl ⟨rfl, trivial⟩ trivial rfl rfl) | (apply call_gate 172; exact stp_callR hG (by as_aux_lemma => kernel_rfl) rfl rfl ⟨rfl, trivial⟩ ⟨⟨_, rfl, .inr rfl⟩, ⟨_, rfl, .inl rfl⟩, trivial⟩ rfl rfl)); apply run_gYes rfl rfl rfl; (first | exact stp_ix (j := i) rfl rfl rfl rfl rfl (by as_aux_lemma => kernel_rfl) rfl hiz (Nat.le_of_eq hlen.symm) | exact stp_loadR rfl (by as_aux_lemma => kernel_rfl) rfl rfl rfl hrowi hilm | (apply call_gate 186; exact stp_callR hP (by as_aux_lemma => kernel_rfl) rfl rfl ⟨rfl, trivial⟩ ⟨⟨_, rfl, .inl rfl⟩, trivial⟩ rfl rfl) | (apply call_gate 139; exact stp_callR hSz (by as_aux_lemma => kernel_rfl) rfl rfl ⟨rfl, trivial⟩ trivial rfl rfl) | (apply call_gate 172; exact stp_callR hG (by as_aux_lemma => kernel_rfl) rfl rfl ⟨rfl, trivial⟩ ⟨⟨_, rfl, .inr rfl⟩, ⟨_, rfl, .inl rfl⟩, trivial⟩ rfl rfl)); apply run_gYes rfl rfl rfl; (exact stp_bin rfl rfl rfl rfl); apply run_step rfl; (exact stp_pickF rfl rfl rfl); refine run_nil ?_; refine fin_seq ?_)
      refine goes_cond rfl (fun e1 => ?_) (fun e1 => ?_)
      · have e1 : (m : Int) ≠ n := by simpa using e1
        rw [manB_no (fun h => by have := h.len i hiz; omega)]
        (refine goes_seq ?_; refine goes_region ?_; apply run_step rfl; (exact stp_assign rfl rfl); refine run_nil ?_; refine fin_seq ?_; refine goes_ret ?_; refine fin_ret_block ?_; refine fin_ret_then ?_; refine fin_ret_then ?_; refine fin_ret_block ?_; refine fin_ret_then ?_)
        exact fin_ret1 (.inl rfl) rfl (.tmp rfl) trivial trivial
      · have e1 : (m : Int) = n := by simpa using e1
        (refine goes_skip ?_; refine fin_block ?_; refine fin_seq ?_; refine goes_region ?_; apply run_step rfl; (exact stp_add rfl rfl rfl (by first | exact IntWalk.i64_in _ (by omega) | rfl)); apply run_step rfl; (exact stp_move rfl rfl); refine run_nil ?_)
        exact fin_round (i + 1) ⟨hiz, fun j hj => by
          by_cases e : j = i
          · subst e; exact ⟨by omega, hf.1, hf.2⟩
          · exact hrows j (by omega)⟩ (by omega) (Wk.of ⟨rfl, rfl, rfl, rfl, trivial⟩ ⟨rfl, rfl, trivial⟩ trivial)
  obtain rfl : i = zss.length := by omega
  have hrn : Rows zss n zss.length := hrows
  have hT := rows_leads hrn
  have hB := rows_back hrn
  (refine goes_exit ?_; refine fin_exit_then ?_; refine fin_exit_then ?_; refine fin_exit_eq ?_; refine fin_seq ?_; refine goes_seq ?_; refine goes_seq ?_; refine goes_region ?_; apply run_step rfl; (exact stp_fieldAddr (d := 0) rfl rfl rfl (by as_aux_lemma => kernel_rfl)); apply run_step rfl; (exact stp_loadF rfl (by as_aux_lemma => kernel_rfl) rfl rfl rfl rfl); apply run_step rfl; (exact stp_len rfl rfl rfl (by as_aux_lemma => kernel_rfl)); apply run_step rfl; (exact stp_move rfl rfl); refine run_nil ?_; refine fin_seq ?_; refine goes_block ?_)
  refine goes_loop (fun i : Nat => St.of [(1, o1 (.ptr 1 0)), (38, o1 (.sl 1003 0 zss.length)), (39, vv (I6 zss.length)), (40, vv (I6 i))] [(1003, rowsRo zss), (1, mxB zss.length)]) (fun i => i ≤ zss.length ∧ ∀ i' k, i' < i → i' + 2 ≤ k → k < zss.length → ∀ f, f < n → commAt zss i' k f) (fun i => zss.length - i) 0 ⟨Nat.zero_le _, fun j k hj => absurd hj (by omega)⟩ (Wk.of ⟨rfl, rfl, rfl, rfl, trivial⟩ ⟨rfl, rfl, trivial⟩ trivial) ?_
  clear hi hrows hlt
  rintro i ⟨hi, hci⟩
  (refine goes_seq ?_; refine goes_region ?_; apply run_step rfl; (exact stp_bin rfl rfl rfl rfl); refine run_nil ?_; refine fin_seq ?_; refine goes_seq ?_)
  refine goes_if rfl (fun hlt => ?_) (fun hlt => ?_)
  · have hiz : i < zss.length := by omega
    have hrowi : (irows zss)[i]? = some (ivals (lget zss i)) := irows_get hiz
    have hilm : (ivals (lget zss i)).length = n := by rw [ivals_len]; exact (hrn i hiz).1
    obtain ⟨mm, hmm⟩ : ∃ mm, min (i + 2) zss.length = mm := ⟨_, rfl⟩
    have hmR : mm ≤ zss.length := by omega
    have hi2 : IntKind.i64.wrap ((i : Int) + 2) = ((i + 2 : Nat) : Int) := IntWalk.i64_in _ (by omega)
    (refine goes_skip ?_; refine fin_seq ?_; refine goes_seq ?_; refine goes_block ?_; refine goes_seq ?_; refine goes_region ?_; apply run_step rfl; (exact stp_move rfl rfl); apply run_step rfl; (first | exact stp_ix (j := i) rfl rfl rfl rfl rfl (by as_aux_lemma => kernel_rfl) rfl hiz (Nat.le_of_eq hlen.symm) | exact stp_loadR rfl (by as_aux_lemma => kernel_rfl) rfl rfl rfl hrowi hilm | exact stp_add rfl rfl rfl hi2 | exact stp_minN rfl rfl rfl | exact stp_slice (k := 1) (l := min (i + 2) zss.length) (h := zss.length) rfl rfl rfl rfl (by as_aux_lemma => kernel_rfl) (by omega) (bnd_some rfl rfl) bnd_none (by omega) (Nat.le_refl _) (by rw [Nat.mul_one, Nat.zero_add]; exact Nat.le_of_eq hlen.symm)); apply run_step rfl; (first | exact stp_ix (j := i) rfl rfl rfl rfl rfl (by as_aux_lemma => kernel_rfl) rfl hiz (Nat.le_of_eq hlen.symm) | exact stp_loadR rfl (by as_aux_lemma => kernel_rfl) rfl rfl rfl hrowi hilm | exact stp_add rfl rfl rfl hi2 | exact stp_minN rfl rfl rfl | exact stp_slice (k := 1) (l := min (i + 2) zss.length) (h := zss.length) rfl rfl rfl rfl (by as_aux_lemma => kernel_rfl) (by omega) (bnd_some rfl rfl) bnd_none (by omega) (Nat.le_refl _) (by rw [Nat.mul_one, Nat.zero_add]; exact Nat.le_of_eq hlen.symm)); apply run_step rfl; (exact stp_assign rfl rfl); apply run_step rfl; (exact stp_assign rfl rfl); refine run_nil ?_; refine fin_seq ?_; refine goes_seq ?_; refine goes_region ?_; apply run_step rfl; (exact stp_fieldAddr (d := 0) rfl rfl rfl (by as_aux_lemma => kernel_rfl)); apply run_step rfl; (exact stp_loadF rfl (by as_aux_lemma => kernel_rfl) rfl rfl rfl rfl); apply run_step rfl; (exact stp_move rfl rfl); apply run_step rfl; (first | exact stp_ix (j := i) rfl rfl rfl rfl rfl (by as_aux_lemma => kernel_rfl) rfl hiz (Nat.le_of_eq hlen.symm) | exact stp_loadR rfl (by as_aux_lemma => kernel_rfl) rfl rfl rfl hrowi hilm | exact stp_add rfl rfl rfl hi2 | exact stp_minN rfl rfl rfl | exact stp_slice (k := 1) (l := min (i + 2) zss.length) (h := zss.length) rfl rfl rfl rfl (by as_aux_lemma => kernel_rfl) (by omega) (bnd_some rfl rfl) bnd_none (by omega) (Nat.le_refl _) (by rw [Nat.mul_one, Nat.zero_add]; exact Nat.le_of_eq hlen.symm)); apply run_step rfl; (exact stp_fieldAddr (d := 0) rfl rfl rfl (by as_aux_lemma => kernel_rfl)); apply run_step rfl; (exact stp_loadF rfl (by as_aux_lemma => kernel_rfl) rfl rfl rfl rfl); apply run_step rfl; (exact stp_len rfl rfl rfl (by as_aux_lemma => kernel_rfl)); apply run_step rfl; (first | exact stp_ix (j := i) rfl rfl rfl rfl rfl (by as_aux_lemma => kernel_rfl) rfl hiz (Nat.le_of_eq hlen.symm) | exact stp_loadR rfl (by as_aux_lemma => kernel_rfl) rfl rfl rfl hrowi hilm | exact stp_add rfl rfl rfl hi2 | exact stp_minN rfl rfl rfl | exact stp_slice (k := 1) (l := min (i + 2) zss.length) (h := zss.length) rfl rfl rfl rfl (by as_aux_lemma => kernel_rfl) (by omega) (bnd_some rfl rfl) bnd_none (by omega) (Nat.le_refl _) (by rw [Nat.mul_one, Nat.zero_add]; exact Nat.le_of_eq hlen.symm)); apply run_step rfl; (first | exact stp_ix (j := i) rfl rfl rfl rfl rfl (by as_aux_lemma => kernel_rfl) rfl hiz (Nat.le_of_eq hlen.symm) | exact stp_loadR rfl (by as_aux_lemma => kernel_rfl) rfl rfl rfl hrowi hilm | exact stp_add rfl rfl rfl hi2 | exact stp_minN rfl rfl rfl | exact stp_slice (k := 1) (l := min (i + 2) zss.length) (h := zss.length) rfl rfl rfl rfl (by as_aux_lemma => kernel_rfl) (by omega) (bnd_some rfl rfl) bnd_none (by omega) (Nat.le_refl _) (by rw [Nat.mul_one, Nat.zero_add]; exact Nat.le_of_eq hlen.symm)); apply run_step rfl; (exact stp_len rfl rfl rfl (by as_aux_lemma => kernel_rfl)); apply run_step rfl; (exact stp_move rfl rfl); refine run_nil ?_; refine fin_seq ?_; refine goes_block ?_)
    rw [hmm]
    refine goes_loop (fun j : Nat => St.of [(1, o1 (.ptr 1 0)), (6, o1 (.esl 1003 i 0 n)), (38, o1 (.sl 1003 0 zss.length)), (39, vv (I6 zss.length)), (40, vv (I6 i)), (53, o1 (.sl 1003 mm (zss.length - mm))), (54, vv (I6 (zss.length - mm : Nat))), (55, vv (I6 j))] [(1003, rowsRo zss), (1, mxB zss.length)]) (fun j => j ≤ zss.length - mm ∧ ∀ k', i + 2 ≤ k' → k' < mm + j → ∀ f, f < n → commAt zss i k' f) (fun j => zss.length - mm - j) 0 ⟨Nat.zero_le _, fun k' h1 h2 => absurd h1 (by omega)⟩ (Wk.of ⟨rfl, rfl, rfl, rfl, rfl, congrArg (fun z => some (o1 (.sl 1003 z (zss.length - mm)))) (Nat.zero_add mm), rfl, rfl, trivial⟩ ⟨rfl, rfl, trivial⟩ trivial) ?_
    rintro j ⟨hj, hck⟩
    (refine goes_seq ?_; refine goes_region ?_; apply run_step rfl; (exact stp_bin rfl rfl rfl rfl); refine run_nil ?_; refine fin_seq ?_; refine goes_seq ?_)
    refine goes_if rfl (fun hlj => ?_) (fun hlj => ?_)
    · obtain ⟨k, hk⟩ : ∃ k, mm + j = k := ⟨_, rfl⟩
      have hkz : k < zss.length := by omega
      have hki : i + 2 ≤ k := by omega
      have hjl : j < zss.length - mm := by omega
      have hml : mm + (zss.length - mm) ≤ (irows zss).length := by rw [hlen]; omega
      have hrowk : (irows zss)[k]? = some (ivals (lget zss k)) := irows_get hkz
      have hilk : (ivals (lget zss k)).length = n := by rw [ivals_len]; exact (hrn k hkz).1
      (refine goes_skip ?_; refine fin_seq ?_; refine goes_seq ?_; refine goes_block ?_; refine goes_seq ?_; refine goes_region ?_; apply run_step rfl; (first | exact stp_ixK (j := j) rfl rfl rfl rfl rfl (by as_aux_lemma => kernel_rfl) rfl hjl hml hk | exact stp_loadR rfl (by as_aux_lemma => kernel_rfl) rfl rfl rfl hrowk hilk | (apply call_gate 172; exact stp_callR hG (by as_aux_lemma => kernel_rfl) rfl rfl ⟨rfl, trivial⟩ ⟨⟨_, rfl, .inr rfl⟩, ⟨_, rfl, .inl rfl⟩, trivial⟩ rfl rfl)); apply run_step rfl; (first | exact stp_ixK (j := j) rfl rfl rfl rfl rfl (by as_aux_lemma => kernel_rfl) rfl hjl hml hk | exact stp_loadR rfl (by as_aux_lemma => kernel_rfl) rfl rfl rfl hrowk hilk | (apply call_gate 172; exact stp_callR hG (by as_aux_lemma => kernel_rfl) rfl rfl ⟨rfl, trivial⟩ ⟨⟨_, rfl, .inr rfl⟩, ⟨_, rfl, .inl rfl⟩, trivial⟩ rfl rfl)); apply run_step rfl; (exact stp_assign rfl rfl); refine run_nil ?_; refine fin_seq ?_; refine goes_seq ?_; refine goes_region ?_; apply run_step rfl; (first | exact stp_ixK (j := j) rfl rfl rfl rfl rfl (by as_aux_lemma => kernel_rfl) rfl hjl hml hk | exact stp_loadR rfl (by as_aux_lemma => kernel_rfl) rfl rfl rfl hrowk hilk | (apply call_gate 172; exact stp_callR hG (by as_aux_lemma => kernel_rfl) rfl rfl ⟨rfl, trivial⟩ ⟨⟨_, rfl, .inr rfl⟩, ⟨_, rfl, .inl rfl⟩, trivial⟩ rfl rfl)); apply run_step rfl; (exact stp_move rfl rfl); refine run_nil ?_; refine fin_seq ?_; refine goes_block ?_)
      refine goes_loop (fun f : Nat => St.of [(1, o1 (.ptr 1 0)), (6, o1 (.esl 1003 i 0 n)), (8, o1 (.esl 1003 k 0 n)), (38, o1 (.sl 1003 0 zss.length)), (39, vv (I6 zss.length)), (40, vv (I6 i)), (53, o1 (.sl 1003 mm (zss.length - mm))), (54, vv (I6 (zss.length - mm : Nat))), (55, vv (I6 j)), (59, vv (I6 n)), (60, vv (I6 f))] [(1003, rowsRo zss), (1, mxB zss.length)]) (fun f => f ≤ n ∧ ∀ f', f' < f → commAt zss i k f') (fun f => n - f) 0 ⟨Nat.zero_le _, fun f' h1 => absurd h1 (by omega)⟩ (Wk.of ⟨rfl, rfl, rfl, rfl, rfl, rfl, rfl, rfl, rfl, rfl, rfl, trivial⟩ ⟨rfl, rfl, trivial⟩ trivial) ?_
      rintro f ⟨hf, hcf⟩
      (refine goes_seq ?_; refine goes_region ?_; apply run_step rfl; (exact stp_bin rfl rfl rfl rfl); refine run_nil ?_; refine fin_seq ?_; refine goes_seq ?_)
      refine goes_if rfl (fun hlf => ?_) (fun hlf => ?_)
      · have hfn : f < n := by omega
        have hd1 := bTo_lt hT hfn (g := i) hiz
        have hd2 := bTo_lt hT hfn (g := k) hkz
        have hx1 := bTo_lt hT hd1.1 (g := k) hkz
        have hx2 := bTo_lt hT hd2.1 (g := i) hiz
        have hcm : commAt zss i k f ↔ bTo zss (bTo zss f i) k = bTo zss (bTo zss f k) i ∧ bTo zss f i ≠ bTo zss f k := Iff.rfl
        generalize bTo zss (bTo zss f i) k = x1 at *
        generalize bTo zss (bTo zss f k) i = x2 at *
        generalize bTo zss f i = d1 at *
        generalize bTo zss f k = d2 at *
        have g1 : (ivals (lget zss i))[f]? = some (I6 (d1 : Int)) := by rw [ivals_get (by rw [(hrn i hiz).1]; exact hfn), hd1.2]
        have g2 : (ivals (lget zss k))[f]? = some (I6 (d2 : Int)) := by rw [ivals_get (by rw [(hrn k hkz).1]; exact hfn), hd2.2]
        have g3 : (ivals (lget zss k))[d1]? = some (I6 (x1 : Int)) := by rw [ivals_get (by rw [(hrn k hkz).1]; exact hd1.1), hx1.2]
        have g4 : (ivals (lget zss i))[d2]? = some (I6 (x2 : Int)) := by rw [ivals_get (by rw [(hrn i hiz).1]; exact hd2.1), hx2.2]
        have hni : n ≤ (ivals (lget zss i)).length := Nat.le_of_eq hilm.symm
        have hnk : n ≤ (ivals (lget zss k)).length := Nat.le_of_eq hilk.symm
        (refine goes_skip ?_; refine fin_seq ?_; refine goes_seq ?_; refine goes_block ?_; refine goes_seq ?_; refine goes_region ?_; apply run_step rfl; (exact stp_move rfl rfl); apply run_step rfl; (exact stp_assign rfl rfl); refine run_nil ?_; refine fin_seq ?_; refine goes_seq ?_)
        by_cases e1 : (d1 : Int) = d2
        · apply goes_drawG 26 [] [[], [], [0, 1], [0, 1, 2], [], [], [4, 5], [4, 5, 6], [0, 1, 2, 3, 4, 5, 6, 7], [0, 1, 2, 3, 4, 5, 6, 7, 8], [0, 1, 2, 3, 4, 5, 6, 7, 8, 9], [0, 1, 2, 3, 4, 5, 6, 7, 8, 9], [0, 1, 2, 3, 4, 5, 6, 7, 8, 9], [0, 1, 2, 3, 4, 5, 6, 7, 8, 9, 11, 12], [0, 1, 2, 3, 4, 5, 6, 7, 8, 9, 11, 12, 13], [0, 1, 2, 3, 4, 5, 6, 7, 8, 9, 10, 11, 12, 13, 14], [0, 1, 2, 3, 4, 5, 6, 7, 8, 9, 10, 11, 12, 13, 14, 15], [0, 1, 2, 3, 4, 5, 6, 7, 8, 9], [0, 1, 2, 3, 4, 5, 6, 7, 8, 9], [0, 1, 2, 3, 4, 5, 6, 7, 8, 9], [0, 1, 2, 3, 4, 5, 6, 7, 8, 9, 18, 19], [0, 1, 2, 3, 4, 5, 6, 7, 8, 9, 18, 19, 20], [0, 1, 2, 3, 4, 5, 6, 7, 8, 9, 17, 18, 19, 20, 21], [0, 1, 2, 3, 4, 5, 6, 7, 8, 9, 17, 18, 19, 20, 21, 22], [0, 1, 2, 3, 4, 5, 6, 7, 8, 9, 10, 11, 12, 13, 14, 15, 16, 17, 18, 19, 20, 21, 22, 23], [0, 1, 2, 3, 4, 5, 6, 7, 8, 9, 10, 11, 12, 13, 14, 15, 16, 17, 18, 19, 20, 21, 22, 23, 24]] [63, 64, 65, 66, 67, 68, 69, 70, 71, 72, 73, 74, 75, 76, 77, 78, 79, 80, 81, 82, 83, 84, 85, 86, 87, 88] [] (by kernel_rfl) (by kernel_rfl)
          · (apply drawG_put rfl; (intro S1 hS; exact stp_move rfl (hS.op rfl)))
            (apply drawG_put rfl; (intro S1 hS; exact stp_move rfl (hS.op rfl)))
            (apply drawG_put rfl; (intro S1 hS; exact stp_ixE (j := f) rfl (hS.op rfl) (hS.op rfl) (hS.ch _ _ rfl) rfl (by as_aux_lemma => kernel_rfl) hrowi rfl hfn hni))
            (apply drawG_put rfl; (intro S1 hS; exact stp_loadE' rfl (by as_aux_lemma => kernel_rfl) (hS.op rfl) (hS.ch _ _ rfl) rfl hrowi g1))
            (apply drawG_put rfl; (intro S1 hS; exact stp_move rfl (hS.op rfl)))
            (apply drawG_put rfl; (intro S1 hS; exact stp_move rfl (hS.op rfl)))
            (apply drawG_put rfl; (intro S1 hS; exact stp_ixE (j := f) rfl (hS.op rfl) (hS.op rfl) (hS.ch _ _ rfl) rfl (by as_aux_lemma => kernel_rfl) hrowk rfl hfn hnk))
            (apply drawG_put rfl; (intro S1 hS; exact stp_loadE' rfl (by as_aux_lemma => kernel_rfl) (hS.op rfl) (hS.ch _ _ rfl) rfl hrowk g2))
            (apply drawG_put rfl; (intro S1 hS; exact stp_bin rfl (hS.op rfl) (hS.op rfl) (binEql e1)))
            (apply drawG_put rfl; (intro S1 hS; exact stp_move rfl (hS.op rfl)))
            apply drawG_no rfl rfl rfl rfl rfl
            apply drawG_no rfl rfl rfl rfl rfl
            apply drawG_no rfl rfl rfl rfl rfl
            apply drawG_no rfl rfl rfl rfl rfl
            apply drawG_no rfl rfl rfl rfl rfl
            apply drawG_no rfl rfl rfl rfl rfl
            apply drawG_no rfl rfl rfl rfl rfl
            apply drawG_no rfl rfl rfl rfl rfl
            apply drawG_no rfl rfl rfl rfl rfl
            apply drawG_no rfl rfl rfl rfl rfl
            apply drawG_no rfl rfl rfl rfl rfl
            apply drawG_no rfl rfl rfl rfl rfl
            apply drawG_no rfl rfl rfl rfl rfl
            apply drawG_no rfl rfl rfl rfl rfl
            apply drawG_no rfl rfl rfl rfl rfl
            (apply drawG_put rfl; (intro S1 hS; exact stp_pickT rfl (hS.op rfl) (hS.op rfl)))
            exact DrawG.nil
          · rfl
          ((refine rest_done (by as_aux_lemma => kernel_rfl) ?_; skip))
          (refine fin_seq ?_)
          refine goes_cond rfl (fun _ => ?_) (fun e => by cases e)
          rw [manB_no (fun h => by have := (hcm.1 (h.comm i k hki hkz f (by omega))).2; omega)]
          (refine goes_seq ?_; refine goes_region ?_; apply run_step rfl; (exact stp_assign rfl rfl); refine run_nil ?_; refine fin_seq ?_; refine goes_ret ?_; refine fin_ret_block ?_; refine fin_ret_then ?_; refine fin_ret_then ?_; refine fin_ret_block ?_; refine fin_ret_block ?_; refine fin_ret_then ?_; refine fin_ret_then ?_; refine fin_ret_block ?_; refine fin_ret_block ?_; refine fin_ret_then ?_; refine fin_ret_then ?_; refine fin_ret_block ?_; refine fin_ret_then ?_)
          exact fin_ret1 (.inl rfl) rfl (.tmp rfl) trivial trivial
        · apply goes_drawG 26 [] [[], [], [0, 1], [0, 1, 2], [], [], [4, 5], [4, 5, 6], [0, 1, 2, 3, 4, 5, 6, 7], [0, 1, 2, 3, 4, 5, 6, 7, 8], [0, 1, 2, 3, 4, 5, 6, 7, 8, 9], [0, 1, 2, 3, 4, 5, 6, 7, 8, 9], [0, 1, 2, 3, 4, 5, 6, 7, 8, 9], [0, 1, 2, 3, 4, 5, 6, 7, 8, 9, 11, 12], [0, 1, 2, 3, 4, 5, 6, 7, 8, 9, 11, 12, 13], [0, 1, 2, 3, 4, 5, 6, 7, 8, 9, 10, 11, 12, 13, 14], [0, 1, 2, 3, 4, 5, 6, 7, 8, 9, 10, 11, 12, 13, 14, 15], [0, 1, 2, 3, 4, 5, 6, 7, 8, 9], [0, 1, 2, 3, 4, 5, 6, 7, 8, 9], [0, 1, 2, 3, 4, 5, 6, 7, 8, 9], [0, 1, 2, 3, 4, 5, 6, 7, 8, 9, 18, 19], [0, 1, 2, 3, 4, 5, 6, 7, 8, 9, 18, 19, 20], [0, 1, 2, 3, 4, 5, 6, 7, 8, 9, 17, 18, 19, 20, 21], [0, 1, 2, 3, 4, 5, 6, 7, 8, 9, 17, 18, 19, 20, 21, 22], [0, 1, 2, 3, 4, 5, 6, 7, 8, 9, 10, 11, 12, 13, 14, 15, 16, 17, 18, 19, 20, 21, 22, 23], [0, 1, 2, 3, 4, 5, 6, 7, 8, 9, 10, 11, 12, 13, 14, 15, 16, 17, 18, 19, 20, 21, 22, 23, 24]] [63, 64, 65, 66, 67, 68, 69, 70, 71, 72, 73, 74, 75, 76, 77, 78, 79, 80, 81, 82, 83, 84, 85, 86, 87, 88] [] (by kernel_rfl) (by kernel_rfl)
          · (apply drawG_put rfl; (intro S1 hS; exact stp_move rfl (hS.op rfl)))
            (apply drawG_put rfl; (intro S1 hS; exact stp_move rfl (hS.op rfl)))
            (apply drawG_put rfl; (intro S1 hS; exact stp_ixE (j := f) rfl (hS.op rfl) (hS.op rfl) (hS.ch _ _ rfl) rfl (by as_aux_lemma => kernel_rfl) hrowi rfl hfn hni))
            (apply drawG_put rfl; (intro S1 hS; exact stp_loadE' rfl (by as_aux_lemma => kernel_rfl) (hS.op rfl) (hS.ch _ _ rfl) rfl hrowi g1))
            (apply drawG_put rfl; (intro S1 hS; exact stp_move rfl (hS.op rfl)))
            (apply drawG_put rfl; (intro S1 hS; exact stp_move rfl (hS.op rfl)))
            (apply drawG_put rfl; (intro S1 hS; exact stp_ixE (j := f) rfl (hS.op rfl) (hS.op rfl) (hS.ch _ _ rfl) rfl (by as_aux_lemma => kernel_rfl) hrowk rfl hfn hnk))
            (apply drawG_put rfl; (intro S1 hS; exact stp_loadE' rfl (by as_aux_lemma => kernel_rfl) (hS.op rfl) (hS.ch _ _ rfl) rfl hrowk g2))
            (apply drawG_put rfl; (intro S1 hS; exact stp_bin rfl (hS.op rfl) (hS.op rfl) (binEql' e1)))
            (apply drawG_put rfl; (intro S1 hS; exact stp_move rfl (hS.op rfl)))
            (apply drawG_yes rfl rfl rfl; (intro S1 hS; exact stp_move rfl (hS.op rfl)))
            (apply drawG_yes rfl rfl rfl; (intro S1 hS; exact stp_move rfl (hS.op rfl)))
            (apply drawG_yes rfl rfl rfl; (intro S1 hS; exact stp_move rfl (hS.op rfl)))
            (apply drawG_yes rfl rfl rfl; (intro S1 hS; exact stp_ixE (j := f) rfl (hS.op rfl) (hS.op rfl) (hS.ch _ _ rfl) rfl (by as_aux_lemma => kernel_rfl) hrowi rfl hfn hni))
            (apply drawG_yes rfl rfl rfl; (intro S1 hS; exact stp_loadE' rfl (by as_aux_lemma => kernel_rfl) (hS.op rfl) (hS.ch _ _ rfl) rfl hrowi g1))
            (apply drawG_yes rfl rfl rfl; (intro S1 hS; exact stp_ixE (j := d1) rfl (hS.op rfl) (hS.op rfl) (hS.ch _ _ rfl) rfl (by as_aux_lemma => kernel_rfl) hrowk rfl hd1.1 hnk))
            (apply drawG_yes rfl rfl rfl; (intro S1 hS; exact stp_loadE' rfl (by as_aux_lemma => kernel_rfl) (hS.op rfl) (hS.ch _ _ rfl) rfl hrowk g3))
            (apply drawG_yes rfl rfl rfl; (intro S1 hS; exact stp_move rfl (hS.op rfl)))
            (apply drawG_yes rfl rfl rfl; (intro S1 hS; exact stp_move rfl (hS.op rfl)))
            (apply drawG_yes rfl rfl rfl; (intro S1 hS; exact stp_move rfl (hS.op rfl)))
            (apply drawG_yes rfl rfl rfl; (intro S1 hS; exact stp_ixE (j := f) rfl (hS.op rfl) (hS.op rfl) (hS.ch _ _ rfl) rfl (by as_aux_lemma => kernel_rfl) hrowk rfl hfn hnk))
            (apply drawG_yes rfl rfl rfl; (intro S1 hS; exact stp_loadE' rfl (by as_aux_lemma => kernel_rfl) (hS.op rfl) (hS.ch _ _ rfl) rfl hrowk g2))
            (apply drawG_yes rfl rfl rfl; (intro S1 hS; exact stp_ixE (j := d2) rfl (hS.op rfl) (hS.op rfl) (hS.ch _ _ rfl) rfl (by as_aux_lemma => kernel_rfl) hrowi rfl hd2.1 hni))
            (apply drawG_yes rfl rfl rfl; (intro S1 hS; exact stp_loadE' rfl (by as_aux_lemma => kernel_rfl) (hS.op rfl) (hS.ch _ _ rfl) rfl hrowi g4))
            (apply drawG_yes rfl rfl rfl; (intro S1 hS; exact stp_bin rfl (hS.op rfl) (hS.op rfl) rfl))
            (apply drawG_put rfl; (intro S1 hS; exact stp_pickF rfl (hS.op rfl) (hS.op rfl)))
            exact DrawG.nil
          · rfl
          ((refine rest_done (by as_aux_lemma => kernel_rfl) ?_; skip))
          (refine fin_seq ?_)
          refine goes_cond rfl (fun e2 => ?_) (fun e2 => ?_)
          · have e2 : (x1 : Int) ≠ x2 := by simpa using e2
            rw [manB_no (fun h => by have := (hcm.1 (h.comm i k hki hkz f (by omega))).1; omega)]
            (refine goes_seq ?_; refine goes_region ?_; apply run_step rfl; (exact stp_assign rfl rfl); refine run_nil ?_; refine fin_seq ?_; refine goes_ret ?_; refine fin_ret_block ?_; refine fin_ret_then ?_; refine fin_ret_then ?_; refine fin_ret_block ?_; refine fin_ret_block ?_; refine fin_ret_then ?_; refine fin_ret_then ?_; refine fin_ret_block ?_; refine fin_ret_block ?_; refine fin_ret_then ?_; refine fin_ret_then ?_; refine fin_ret_block ?_; refine fin_ret_then ?_)
            exact fin_ret1 (.inl rfl) rfl (.tmp rfl) trivial trivial
          · have e2 : (x1 : Int) = x2 := by simpa using e2
            (refine goes_skip ?_; refine fin_block ?_; refine fin_seq ?_; refine goes_region ?_; apply run_step rfl; (exact stp_add rfl rfl rfl (by first | exact IntWalk.i64_in _ (by omega) | rfl)); apply run_step rfl; (exact stp_move rfl rfl); refine run_nil ?_)
            exact fin_round (f + 1) ⟨hfn, fun f' hf' => by
              by_cases e : f' = f
              · subst e; exact hcm.2 ⟨by omega, by omega⟩
              · exact hcf f' (by omega)⟩ (by omega) (Wk.of ⟨rfl, rfl, rfl, rfl, rfl, rfl, rfl, rfl, rfl, rfl, rfl, trivial⟩ ⟨rfl, rfl, trivial⟩ trivial)
      · (refine goes_exit ?_; refine fin_exit_then ?_; refine fin_exit_then ?_; refine fin_exit_eq ?_; refine fin_block ?_; refine fin_seq ?_; refine goes_region ?_; apply run_step rfl; (exact stp_add rfl rfl rfl (by first | exact IntWalk.i64_in _ (by omega) | rfl)); apply run_step rfl; (exact stp_move rfl rfl); refine run_nil ?_)
        exact fin_round (j + 1) ⟨by omega, fun k' h1 h2 f' hf' => by
          by_cases e : k' = k
          · subst e; exact hcf f' (by omega)
          · exact hck k' h1 (by omega) f' hf'⟩ (by omega) (Wk.of ⟨rfl, rfl, rfl, rfl, rfl, rfl, rfl, rfl, trivial⟩ ⟨rfl, rfl, trivial⟩ trivial)
    · (refine goes_exit ?_; refine fin_exit_then ?_; refine fin_exit_then ?_; refine fin_exit_eq ?_; refine fin_block ?_; refine fin_seq ?_; refine goes_region ?_; apply run_step rfl; (exact stp_add rfl rfl rfl (by first | exact IntWalk.i64_in _ (by omega) | rfl)); apply run_step rfl; (exact stp_move rfl rfl); refine run_nil ?_)
      exact fin_round (i + 1) ⟨hiz, fun i' k' h1 h2 h3 => by
        by_cases e : i' = i
        · subst e; exact hck k' h2 (by omega)
        · exact hci i' k' (by omega) h2 h3⟩ (by omega) (Wk.of ⟨rfl, rfl, rfl, rfl, trivial⟩ ⟨rfl, rfl, trivial⟩ trivial)
  obtain rfl : i = zss.length := by omega
  have hM : Man0 zss := ⟨by omega, by omega, by omega, by omega, by rw [hn]; exact hrn, fun i k h1 h2 f hf => hci i k (by omega) h1 h2 f (by omega)⟩
  have hO := (orbI_fc zss n zss.length rfl hT hB (by omega) (by omega) (by omega)).nm [(1003, 1003), (16, 96)] (by kernel_rfl)
  have hO : FC Try.prog 187 [(1003, rowsRo zss)] [vv (I6 n), o1 (.sl 1003 0 zss.length)] [(96, leOw (labs zss n).1)] (.tup [.one (.sl 96 0 n), .one (.val (I6 (labs zss n).2))]) [] := hO
  have hv : manB zss = (((labs zss n).2 : Int) == 1) := by
    rw [hM.man, hn]
    have := labs_one hT hB (n := n) (by omega)
    by_cases hc : (orb zss n 0).2.length = n
    · rw [hc, this.2 hc]; simp
    · have h1 : (labs zss n).2 ≠ 1 := fun h => hc (this.1 h)
      have h2 : ((labs zss n).2 : Int) ≠ 1 := by omega
      have h3 : ((orb zss n 0).2.length : Int) ≠ n := by omega
      rw [beq_eq_false_iff_ne.2 h2, beq_eq_false_iff_ne.2 h3]
  rw [hv]
  (refine goes_exit ?_; refine fin_exit_then ?_; refine fin_exit_then ?_; refine fin_exit_eq ?_; refine fin_seq ?_; refine goes_seq ?_)
  apply goes_draw 5 [] [[], [], [1], [0, 1, 2], [0, 1, 2, 3], [0, 1, 2, 3, 4], [0, 1, 2, 3, 4], [0, 1, 2, 3, 4, 5], [0, 1, 2, 3, 4, 5, 6, 7]] [93, 94, 95, 96, 92] [96] (by kernel_rfl) (by kernel_rfl)
  · (apply draw_put rfl; (intro S1 hS; apply call_gate 172; exact stp_callR hG (by as_aux_lemma => kernel_rfl) rfl (opL_le hS rfl) ⟨rfl, trivial⟩ (allIn_le hS ⟨⟨_, rfl, .inr rfl⟩, ⟨_, rfl, .inl rfl⟩, trivial⟩) rfl rfl))
    (apply draw_put rfl; (intro S1 hS; exact stp_fieldAddr (d := 0) rfl (hS.op rfl) (hS.ch _ _ rfl) (by as_aux_lemma => kernel_rfl)))
    (apply draw_put rfl; (intro S1 hS; exact stp_loadF rfl (by as_aux_lemma => kernel_rfl) (hS.op rfl) (hS.ch _ _ rfl) rfl rfl))
    (apply draw_new rfl; (intro S1 hS; apply call_gate 187; exact stp_callN hO (by as_aux_lemma => kernel_rfl) rfl (opL_le hS rfl) ⟨rfl, rfl, trivial⟩ (allIn_le hS ⟨⟨_, rfl, .inl rfl⟩, trivial⟩) rfl rfl rfl))
    (apply draw_put rfl; (intro S1 hS; exact stp_move rfl (hS.op rfl)))
    exact Draw.nil
  · rfl
  refine rest_join (St.of [(11, vv (I6 (labs zss n).2))] []) ?_ ?_
  · ((apply rest_two 5 6 rfl (by as_aux_lemma => kernel_rfl) rfl rfl rfl rfl; (exact stp_extract rfl rfl rfl); (exact stp_extract rfl rfl rfl); (focus ((apply rest_two 6 7 rfl (by as_aux_lemma => kernel_rfl) rfl rfl rfl rfl; (exact stp_extract rfl rfl rfl); (exact stp_assign rfl rfl); (focus ((apply rest_one 7 rfl (by as_aux_lemma => kernel_rfl) rfl rfl; (exact stp_assign rfl rfl)); (apply rest_one 8 rfl (by as_aux_lemma => kernel_rfl) rfl rfl; (exact stp_assign rfl rfl)); (refine rest_done (by as_aux_lemma => kernel_rfl) ?_; exact fin_join (Wk.of ⟨rfl, trivial⟩ trivial trivial)))); (focus ((apply rest_one 6 rfl (by as_aux_lemma => kernel_rfl) rfl rfl; (exact stp_extract rfl rfl rfl)); (apply rest_one 8 rfl (by as_aux_lemma => kernel_rfl) rfl rfl; (exact stp_assign rfl rfl)); (refine rest_done (by as_aux_lemma => kernel_rfl) ?_; exact fin_join (Wk.of ⟨rfl, trivial⟩ trivial trivial))))))); (focus ((apply rest_one 5 rfl (by as_aux_lemma => kernel_rfl) rfl rfl; (exact stp_extract rfl rfl rfl)); (apply rest_one 7 rfl (by as_aux_lemma => kernel_rfl) rfl rfl; (exact stp_assign rfl rfl)); (apply rest_one 8 rfl (by as_aux_lemma => kernel_rfl) rfl rfl; (exact stp_assign rfl rfl)); (refine rest_done (by as_aux_lemma => kernel_rfl) ?_; exact fin_join (Wk.of ⟨rfl, trivial⟩ trivial trivial))))))
  (refine fin_seq ?_; refine goes_seq ?_; refine goes_region ?_; apply run_step rfl; (exact stp_move rfl rfl); apply run_step rfl; (exact stp_bin rfl rfl rfl rfl); apply run_step rfl; (exact stp_assign rfl rfl); refine run_nil ?_; refine fin_seq ?_; refine goes_ret ?_)
  exact fin_ret1 (.inl rfl) rfl (.tmp rfl) trivial trivial
end Go.Proofs.Ytpognnifgcacnaa

/- IsMap. guards: -/
namespace Go.Proofs.Ytpognnifgcacnaa
open Go.RowKit

noncomputable def mapB (zss : List (List Int)) : Bool := manB zss && decide (zss.length = 3)
theorem mapB_no {zss : List (List Int)} (h : zss.length ≠ 3) : mapB zss = false := by unfold mapB; rw [decide_eq_false h, Bool.and_false]
theorem mapB_on {zss : List (List Int)} (h : zss.length = 3) : mapB zss = manB zss := by unfold mapB; rw [decide_eq_true h, Bool.and_true]
def FitM (zss : List (List Int)) : Prop := zss.length ≤ 1048576 ∧ ∀ i, i < zss.length → (lget zss i).length ≤ 1048576
set_option maxRecDepth 100000 in
theorem l14_fc (zss : List (List Int)) (h : FitM zss) : FC Try.prog 100 [(1003, rowsRo zss)] [mA zss.length] [] (vv (.bool (mapB zss))) [] := by
  have hM := manS_fc zss h.1 h.2
  refine fc_enter (nt := 11) Try.func100 rfl rfl (by simp) fun w0 ω0 => ?_
  cases c : manB zss with
  | false =>
    rw [c] at hM
    have hv : mapB zss = false := by unfold mapB; rw [c]; rfl
    rw [hv]
    (refine goes_seq ?_; refine goes_region ?_; apply run_step rfl; (exact stp_box rfl rfl rfl rfl); apply run_step rfl; (exact stp_assign rfl rfl); refine run_nil ?_; refine fin_seq ?_; refine goes_seq ?_; refine goes_region ?_; apply run_step rfl; (exact stp_loadAgg rfl rfl rfl rfl rfl rfl (by as_aux_lemma => kernel_rfl)); apply run_step rfl; (apply call_gate 108; exact stp_callR hM (by as_aux_lemma => kernel_rfl) rfl rfl ⟨⟨.inl rfl, trivial⟩, trivial⟩ ⟨⟨_, rfl, .inl rfl⟩, trivial⟩ rfl rfl); apply run_step rfl; (exact stp_move rfl rfl); apply run_gNo rfl rfl rfl rfl rfl; apply run_gNo rfl rfl rfl rfl rfl; apply run_gNo rfl rfl rfl rfl rfl; apply run_gNo rfl rfl rfl rfl rfl; apply run_step rfl; (exact stp_pickF rfl rfl rfl); apply run_step rfl; (exact stp_assign rfl rfl); refine run_nil ?_; refine fin_seq ?_; refine goes_ret ?_)
    exact fin_ret1 (.inl rfl) rfl (.tmp rfl) trivial trivial
  | true =>
    rw [c] at hM
    have hv : mapB zss = ((zss.length : Int) == 3) := by
      unfold mapB
      rw [c, Bool.true_and]
      by_cases e : zss.length = 3
      · rw [e]; rfl
      · rw [decide_eq_false e]; symm; rw [beq_eq_false_iff_ne]; omega
    rw [hv]
    (refine goes_seq ?_; refine goes_region ?_; apply run_step rfl; (exact stp_box rfl rfl rfl rfl); apply run_step rfl; (exact stp_assign rfl rfl); refine run_nil ?_; refine fin_seq ?_; refine goes_seq ?_; refine goes_region ?_; apply run_step rfl; (exact stp_loadAgg rfl rfl rfl rfl rfl rfl (by as_aux_lemma => kernel_rfl)); apply run_step rfl; (apply call_gate 108; exact stp_callR hM (by as_aux_lemma => kernel_rfl) rfl rfl ⟨⟨.inl rfl, trivial⟩, trivial⟩ ⟨⟨_, rfl, .inl rfl⟩, trivial⟩ rfl rfl); apply run_step rfl; (exact stp_move rfl rfl); apply run_gYes rfl rfl rfl; (exact stp_fieldAddr (d := 0) rfl rfl rfl (by as_aux_lemma => kernel_rfl)); apply run_gYes rfl rfl rfl; (exact stp_loadF rfl (by as_aux_lemma => kernel_rfl) rfl rfl rfl rfl); apply run_gYes rfl rfl rfl; (exact stp_len rfl rfl rfl (by as_aux_lemma => kernel_rfl)); apply run_gYes rfl rfl rfl; (exact stp_bin rfl rfl rfl rfl); apply run_step rfl; (exact stp_pickT rfl rfl rfl); apply run_step rfl; (exact stp_assign rfl rfl); refine run_nil ?_; refine fin_seq ?_; refine goes_ret ?_)
    exact fin_ret1 (.inl rfl) rfl (.tmp rfl) trivial trivial
set_option maxRecDepth 100000 in
theorem isMap_fc (zss : List (List Int)) (h : FitM zss) : FC Try.prog 102 [(1003, rowsRo zss)] [mA zss.length] [] (vv (.bool (mapB zss))) [] := by
  have hM := manI_fc zss h.1 h.2
  refine fc_enter (nt := 11) Try.func102 rfl rfl (by simp) fun w0 ω0 => ?_
  by_cases e : zss.length = 3
  · rw [mapB_on e]
    (refine goes_seq ?_; refine goes_region ?_; apply run_step rfl; (exact stp_box rfl rfl rfl rfl); apply run_step rfl; (exact stp_assign rfl rfl); refine run_nil ?_; refine fin_seq ?_; refine goes_seq ?_; refine goes_region ?_; apply run_step rfl; (exact stp_fieldAddr (d := 0) rfl rfl rfl (by as_aux_lemma => kernel_rfl)); apply run_step rfl; (exact stp_loadF rfl (by as_aux_lemma => kernel_rfl) rfl rfl rfl rfl); apply run_step rfl; (exact stp_len rfl rfl rfl (by as_aux_lemma => kernel_rfl)); apply run_step rfl; (exact stp_bin rfl rfl rfl (binEql (show (zss.length : Int) = 3 by omega))); apply run_step rfl; (exact stp_move rfl rfl); apply run_gYes rfl rfl rfl; (exact stp_loadAgg rfl rfl rfl rfl rfl rfl (by as_aux_lemma => kernel_rfl)))
    (apply run_gYes rfl rfl rfl; (apply call_gate 114; exact stp_callR hM (by as_aux_lemma => kernel_rfl) rfl rfl ⟨⟨.inl rfl, trivial⟩, trivial⟩ ⟨⟨_, rfl, .inl rfl⟩, trivial⟩ rfl rfl); apply run_step rfl; (exact stp_pickT rfl rfl rfl); apply run_step rfl; (exact stp_assign rfl rfl); refine run_nil ?_; refine fin_seq ?_; refine goes_ret ?_)
    exact fin_ret1 (.inl rfl) rfl (.tmp rfl) trivial trivial
  · rw [mapB_no e]
    (refine goes_seq ?_; refine goes_region ?_; apply run_step rfl; (exact stp_box rfl rfl rfl rfl); apply run_step rfl; (exact stp_assign rfl rfl); refine run_nil ?_; refine fin_seq ?_; refine goes_seq ?_; refine goes_region ?_; apply run_step rfl; (exact stp_fieldAddr (d := 0) rfl rfl rfl (by as_aux_lemma => kernel_rfl)); apply run_step rfl; (exact stp_loadF rfl (by as_aux_lemma => kernel_rfl) rfl rfl rfl rfl); apply run_step rfl; (exact stp_len rfl rfl rfl (by as_aux_lemma => kernel_rfl)); apply run_step rfl; (exact stp_bin rfl rfl rfl (binEql' (show (zss.length : Int) ≠ 3 by omega))); apply run_step rfl; (exact stp_move rfl rfl); apply run_gNo rfl rfl rfl rfl rfl; apply run_gNo rfl rfl rfl rfl rfl; apply run_step rfl; (exact stp_pickF rfl rfl rfl); apply run_step rfl; (exact stp_assign rfl rfl); refine run_nil ?_; refine fin_seq ?_; refine goes_ret ?_)
    exact fin_ret1 (.inl rfl) rfl (.tmp rfl) trivial trivial
theorem fitM_of {zss : List (List Int)} (h : zss.length + lenSS zss ≤ 1048576) : FitM zss := ⟨by omega, fun i hi => by have := len_le_lenSS hi; omega⟩
end Go.Proofs.Ytpognnifgcacnaa

/- Sizes of faces of a map: sizesOf, l14Sizes, FaceSizes. -/
namespace Go.Proofs.Ytpognnifgcacnaa
open Go.RowKit

section
variable {T : List (List Int)} {n : Nat}
/-- all points have labels below the number of labels; the last one stands somewhere -/
theorem labs_all (hT : Leads T n) (hB : Back2 T n) : (labs T n).1.length = n ∧ (labs T n).2 ≤ n ∧ (∀ p, p < n → ∃ d : Nat, iget (labs T n).1 p = (d : Int) ∧ d < (labs T n).2) := by
  have h := labTo_ok hT hB n (Nat.le_refl _)
  have hk : ∀ j, (labTo T n j).2 ≤ j := fun j => by
    induction j with
    | zero => exact Nat.le_refl _
    | succ j ih => rw [labTo_succ]; unfold labStep; split; omega; show (labTo T n j).2 + 1 ≤ j + 1; omega
  refine ⟨h.len, hk n, fun p hp => ?_⟩
  have h0 := (h.met p hp).2 ⟨p, hp, rch_refl hT hp⟩
  have h1 := h.low p hp
  exact ⟨(iget (labTo T n n).1 p).toNat, by unfold labs; omega, by unfold labs; omega⟩
theorem labTo_last (hT : Leads T n) (hB : Back2 T n) : ∀ i, i ≤ n → 0 < (labTo T n i).2 → ∃ p, p < n ∧ iget (labTo T n i).1 p + 1 = ((labTo T n i).2 : Nat)
  | 0, _, h => by simp [labTo, labStart] at h
  | i + 1, hi, h => by
    rw [labTo_succ] at h ⊢
    have ih := labTo_last hT hB i (by omega)
    generalize labTo T n i = s at *
    unfold labStep at h ⊢
    split
    · rename_i hl
      rw [if_pos hl] at h
      exact ih h
    · rename_i hl
      refine ⟨i, hi, ?_⟩
      rw [labSet_get hi, if_pos (rch_refl hT hi)]
      show (s.2 : Int) + 1 = ((s.2 + 1 : Nat) : Int)
      omega
theorem grt_labs (hT : Leads T n) (hB : Back2 T n) (hn : 0 < n) (hn4 : n ≤ 1000) : grt (labs T n).1 = ((labs T n).2 : Int) := by
  obtain ⟨h1, h2, h3⟩ := labs_all hT hB
  have hz : ∀ z ∈ (labs T n).1, -1 ≤ z ∧ z ≤ 1000000 := fun z hz => by
    obtain ⟨j, hj, rfl⟩ := List.getElem_of_mem hz
    obtain ⟨d, hd1, hd2⟩ := h3 j (by omega)
    rw [← iget_lt hj, hd1]; omega
  have hb := grt_bound hz n (by omega)
  rw [List.take_of_length_le (by omega)] at hb
  obtain ⟨b1, _, b3, b4⟩ := hb
  obtain ⟨d0, e0, e1⟩ := h3 0 hn
  obtain ⟨p, hp1, hp2⟩ := labTo_last hT hB n (Nat.le_refl _) (by show 0 < (labs T n).2; omega)
  have hp2 : iget (labs T n).1 p + 1 = ((labs T n).2 : Nat) := hp2
  have k1 := b3 p hp1
  rcases b4 with b4 | ⟨j, a, b⟩
  · omega
  · obtain ⟨d, hd1, hd2⟩ := h3 j a
    omega
end
/-- halves -/
def halfL (zs : List Int) : List Int := zs.map fun z => z / 2
/-- the sizes of the faces of rank r of a map -/
def fszL (d : List (List Int)) (r : Nat) : List Int := halfL (szL (labs (d.eraseIdx r) (lget d 0).length).1 (labs (d.eraseIdx r) (lget d 0).length).2 (lget d 0).length)
theorem erase_ok {d : List (List Int)} (h : Man d) {r : Nat} (hr : r < d.length) : Leads (d.eraseIdx r) (lget d 0).length ∧ Back2 (d.eraseIdx r) (lget d 0).length := by
  have hl : (d.eraseIdx r).length = d.length - 1 := by rw [List.length_eraseIdx, if_pos hr]
  have hT := rows_leads h.rows
  have hB := rows_back h.rows
  have key : ∀ k, k < (d.eraseIdx r).length → ∃ k', k' < d.length ∧ lget (d.eraseIdx r) k = lget d k' := fun k hk => by
    rw [lget_erase]
    split
    · exact ⟨k, by omega, rfl⟩
    · exact ⟨k + 1, by omega, rfl⟩
  refine ⟨⟨fun k hk => ?_, fun k hk x hx => ?_⟩, fun g hg c hc => ?_⟩
  · obtain ⟨k', h1, h2⟩ := key k hk
    rw [h2]; exact hT.len k' h1
  · obtain ⟨k', h1, h2⟩ := key k hk
    rw [h2]; exact hT.within k' h1 x hx
  · obtain ⟨k', h1, h2⟩ := key g hg
    have := hB k' h1 c hc
    unfold bTo at this ⊢
    rw [h2]; exact this
theorem toS_call {f : FuncId} {args : Array Value} {w : World} {x m : Nat} {zs : List Int} (hm : zs.length = m) (hm4 : m ≤ 1000000)
    (h : Calls Try.prog f args w fun e w' => ∃ v η ω, e = .returned v ∧ Den η (o1 (.sl x 0 m)) v ∧ Mem η ω w' (fun y => lk y [(x, leOw zs)]) ∧ Below w.heap.size w w' ∧ ∀ b, b < w.heap.size → ω b = none) :
    Calls Try.prog f args w fun e w' => ∃ v, e = .returned v ∧ OwnS 2 w' w.heap.size w'.heap.size v zs ∧ Below w.heap.size w w' := by
  refine h.mono ?_
  rintro e w' ⟨v, η, ω, rfl, hd, hmem, hb, hlo⟩
  subst hm
  exact ⟨v, rfl, toS hmem hlo (by simp [lk]) hd (by omega), hb⟩
theorem orbitSizes_any {d : List (List Int)} {n : Nat} {v : Value} (w : World) (h : RdSSc w v d) (hT : Leads d n) (hB : Back2 d n) (hn0 : 0 < n) (hn : n ≤ 1000) (hd : d.length ≤ 1000) :
    Calls Try.prog 171 #[.int .i64 n, v] w fun e w' => ∃ v', e = .returned v' ∧ OwnS 2 w' w.heap.size w'.heap.size v' (szL (labs d n).1 (labs d n).2 n) ∧ Below w.heap.size w w' := by
  obtain ⟨h1, h2, h3⟩ := labs_all hT hB
  exact toS_call (szL_len _ _ _) (by omega) (callNR (orbitSizes_fc d n d.length rfl hT hB hn0 (by omega) (by omega) h1 h2 h3) h)
theorem orbsS_any {d : List (List Int)} {n : Nat} {v : Value} (w : World) (h : RdSSc w v d) (hT : Leads d n) (hB : Back2 d n) (hn : n ≤ 1000) (hd : d.length ≤ 1000) (hd0 : 0 < d.length) :
    Calls Try.prog 208 #[.int .i64 n, v] w fun e w' => ∃ v', e = .returned v' ∧ OwnS 2 w' w.heap.size w'.heap.size v' (labs d n).1 ∧ Below w.heap.size w w' :=
  toS_call (labs_all hT hB).1 (by omega) (callNR (orbsS_fc d n d.length rfl hT hd0 (by omega) (by omega)) h)
end Go.Proofs.Ytpognnifgcacnaa

/- Sizes of faces of a map: the walks of sizesOf and l14Sizes, FaceSizes. -/
namespace Go.Proofs.Ytpognnifgcacnaa
open Go.RowKit

theorem OwnS.mono4 {E : Nat} {w : World} {lo hi lo' : Nat} {v : Value} {zs : List Int} (h : OwnS E w lo hi v zs) (h1 : lo' ≤ lo) : OwnS E w lo' hi v zs := ⟨h.1, h.2.mono h1 (Nat.le_refl _)⟩
theorem OwnS.form1 {E : Nat} {w : World} {lo hi : Nat} {v : Value} {zs : List Int} (h : OwnS E w lo hi v zs) : ∃ ao n c, v = .slice ao n c ∧ zs.length = n := by
  obtain ⟨⟨ao, n, c, rfl, ho⟩, _⟩ := h
  exact ⟨ao, n, c, rfl, by have := ho.len; rwa [List.length_map] at this⟩
theorem OwnS.ints1 {E : Nat} {w : World} {lo hi : Nat} {ao : Option Addr} {n c : Nat} {zs : List Int} (h : OwnS E w lo hi (.slice ao n c) zs) : Ints w ao n zs := by
  obtain ⟨ao', n', c', e, hi⟩ := h.rd
  injection e with e1 e2 e3
  subst e1 e2 e3
  exact hi
/-- the first k halved -/
def hvL (zs : List Int) (k : Nat) : List Int := (halfL zs).take k ++ zs.drop k
theorem halfL_len (zs : List Int) : (halfL zs).length = zs.length := by simp [halfL]
theorem hvL_len (zs : List Int) (k : Nat) : (hvL zs k).length = zs.length := by unfold hvL; rw [List.length_append, List.length_take, List.length_drop, halfL_len]; omega
theorem hvL_zero (zs : List Int) : hvL zs 0 = zs := by simp [hvL]
theorem hvL_all (zs : List Int) : hvL zs zs.length = halfL zs := by unfold hvL; rw [List.take_of_length_le (by rw [halfL_len]; omega), List.drop_length, List.append_nil]
theorem hvL_get {zs : List Int} {k : Nat} (h : k < zs.length) : iget (hvL zs k) k = iget zs k := by
  unfold hvL iget
  have hl : ((halfL zs).take k).length = k := by rw [List.length_take, halfL_len]; omega
  rw [List.getD_eq_getElem?_getD, List.getElem?_append_right (by omega), hl, Nat.sub_self, List.getElem?_drop, Nat.add_zero, List.getD_eq_getElem?_getD]
theorem hvL_set {zs : List Int} {k : Nat} (h : k < zs.length) : hvL zs (k + 1) = (hvL zs k).set k (iget zs k / 2) := by
  have hl : ((halfL zs).take k).length = k := by rw [List.length_take, halfL_len]; omega
  unfold hvL
  have hh : k < (halfL zs).length := by rw [halfL_len]; exact h
  rw [List.take_succ_eq_append_getElem hh, List.set_append_right _ _ (by omega), hl, Nat.sub_self, List.drop_eq_getElem_cons h, List.set_cons_zero, List.append_assoc]
  have e : (halfL zs)[k] = iget zs k / 2 := by simp [halfL, iget, h]
  rw [e]; rfl
set_option maxRecDepth 100000 in
set_option maxHeartbeats 3200000 in
theorem sizesOf_any (mb c r : Nat) (ao : Option Addr) (d : List (List Int)) (w : World) (hm : Blk w mb 41 #[.slice ao d.length c]) (h : RdSSc w (.slice ao d.length c) d) (hM : Man d) (hr : r < d.length) :
    Calls Try.prog 103 #[.pointer (some ⟨mb, 0, none⟩), .int .i64 r] w fun e w' => ∃ v, e = .returned v ∧ OwnS 2 w' w.heap.size w'.heap.size v (fszL d r) ∧ Below w.heap.size w w' := by
  obtain ⟨hT, hB⟩ := erase_ok hM hr
  have hn2 := hM.f2
  have hn4 := hM.f4
  have h5 := hM.n5
  obtain ⟨l1, l2, l3⟩ := labs_all hT hB
  have hlen : (d.eraseIdx r).length ≤ 1000 := by have := List.length_eraseIdx_le d r; omega
  unfold fszL
  obtain ⟨n, hn⟩ : ∃ n, (lget d 0).length = n := ⟨_, rfl⟩
  have hN := Lib.hid hn
  rw [hn] at hT hB hn2 hn4 l1 l2 l3
  rw [hn]
  have HT := Lib.hid hT
  have HB := Lib.hid hB
  have HM := Lib.hid hm
  have HR := Lib.hid h
  have HZ := Lib.hid (show ∀ j, j < (labs (d.eraseIdx r) n).2 → 0 ≤ iget (szL (labs (d.eraseIdx r) n).1 (labs (d.eraseIdx r) n).2 n) j ∧ iget (szL (labs (d.eraseIdx r) n).1 (labs (d.eraseIdx r) n).2 n) j ≤ n from fun j hj => szL_le hj)
  have HS := Lib.hid (szL_len (labs (d.eraseIdx r) n).1 (labs (d.eraseIdx r) n).2 n)
  have HO := Lib.hid (fun (w : World) (v : Value) (h : RdSSc w v (d.eraseIdx r)) => orbitSizes_any w h hT hB (by omega) (by omega) hlen)
  generalize szL (labs (d.eraseIdx r) n).1 (labs (d.eraseIdx r) n).2 n = zs at *
  generalize (labs (d.eraseIdx r) n).2 = m at *
  clear hT hB hm h l1 l3 hn
  go_enter Try.func103, Try.ntmps103
  go_wp2_with fail
  refine (flagsI_any mb ao d.length c n d w HM.out HR.out.rd (by omega) hN.out (by omega)).mono ?_
  rintro e w' ⟨rfl, hw⟩
  subst hw
  go_wp2_with fail
  refine (without_any mb c r ao d w HM.out HR.out hr (by omega)).mono ?_
  rintro e w2 ⟨v2, rfl, r2, b2⟩
  have R2 := Lib.hid r2
  have z2 := b2.size
  clear r2
  go_wp2_with fail
  refine (HO.out w2 v2 R2.out).mono ?_
  rintro e w3 ⟨v3, rfl, ⟨⟨a3, n3, c3, rfl, o3⟩, hin⟩, b3⟩
  have z3 := b3.size
  have hl3 := o3.len
  rw [List.length_map] at hl3
  obtain rfl : m = n3 := by rw [← hl3, HS.out]
  have B3 := b2.trans (b3.mono z2)
  have hlo : ∀ g, bk a3 = some g → w.heap.size ≤ g := fun g hg => by have := hin g (by rw [ownBlock_slice]; exact hg); omega
  have O3 : Own w3 0 2 a3 m c3 ((hvL zs 0).map (Value.int .i64)) := by rw [hvL_zero]; exact o3
  have HL := Lib.hid hlo
  clear b2 b3 hl3 o3 hin hlo
  go_wp2_with fail
  go_loopw [15] (fun iv wr => ∃ k : Nat, iv = .int .i64 k ∧ k ≤ m ∧ Own wr 0 2 a3 m c3 ((hvL zs k).map (Value.int .i64)) ∧ Below w.heap.size w wr) (fun iv _ => m - (intOf iv).toNat)
  case atStart => exact ⟨0, rfl, Nat.zero_le _, O3, B3⟩
  case round =>
    obtain ⟨k, rfl, hk, ho, hbw⟩ := hrel
    clear O3 B3
    by_cases hlt : k < m
    · obtain ⟨g, rfl, _, hg2, _, hcell, hfz⟩ := ho.form (by omega)
      have hkz : k < zs.length := by rw [HS.out]; exact hlt
      have hz := HZ.out k hlt
      have hc := hcell k hlt
      rw [List.getElem?_map, List.getElem?_eq_getElem (by rw [hvL_len]; exact hkz), ← iget_lt (by rw [hvL_len]; exact hkz), hvL_get hkz] at hc
      have hc : wr.cell? ⟨g, k, none⟩ = some (.int .i64 (iget zs k)) := hc
      have hf := hfz k
      have hst := (ho.stored k (.int .i64 (iget zs k / 2))).1
      have hmap : ((hvL zs k).map (Value.int .i64)).set k (.int .i64 (iget zs k / 2)) = (hvL zs (k + 1)).map (Value.int .i64) := by rw [hvL_set hkz, List.map_set]
      rw [hmap] at hst
      have hbs := hbw.setCell (p := ⟨g, k, none⟩) (HL.out g rfl) (.int .i64 (iget zs k / 2))
      have HST := Lib.hid hst
      have HBS := Lib.hid hbs
      generalize iget zs k = z at *
      clear hcell hfz hst hbs hmap ho hbw hkz
      go_wp2
      go_roundw
      case rel => exact ⟨k + 1, by go_num, by omega, HST.out, HBS.out⟩
      case measure => first | (simp [intOf]; done) | (simp [intOf]; omega)
    · obtain rfl : k = m := by omega
      have hfin : hvL zs k = halfL zs := by rw [← HS.out]; exact hvL_all zs
      rw [hfin] at ho
      have hlt' := ho.lt
      have hin2 : In w.heap.size wr.heap.size (.slice a3 k c3) := fun g hg => by rw [ownBlock_slice] at hg; exact ⟨HL.out g hg, (hlt' g hg).2⟩
      have hres : OwnS 2 wr w.heap.size wr.heap.size (.slice a3 k c3) (halfL zs) := ⟨⟨a3, k, c3, rfl, ho⟩, hin2⟩
      have HRES := Lib.hid hres
      clear hin2 hres hlt' ho hfin
      go_wp2
      go_ret
      exact ⟨_, rfl, HRES.out, hbw⟩
set_option maxRecDepth 100000 in
set_option maxHeartbeats 3200000 in
theorem faces_any (c r : Nat) (ao : Option Addr) (d : List (List Int)) (w : World) (h : RdSSc w (.slice ao d.length c) d) (hM : Man d) (hr : r < d.length) (h2 : 2 ≤ d.length) :
    Calls Try.prog 169 #[.agg #[.slice ao d.length c], .int .i64 r] w fun e w' => ∃ v, e = .returned v ∧ OwnS 2 w' w.heap.size w'.heap.size v (labs (d.eraseIdx r) (lget d 0).length).1 ∧ Below w.heap.size w w' := by
  obtain ⟨hT, hB⟩ := erase_ok hM hr
  have hn2 := hM.f2
  have hn4 := hM.f4
  have h5 := hM.n5
  have hlen : (d.eraseIdx r).length = d.length - 1 := by rw [List.length_eraseIdx, if_pos hr]
  obtain ⟨n, hn⟩ : ∃ n, (lget d 0).length = n := ⟨_, rfl⟩
  have hN := Lib.hid hn
  rw [hn] at hT hB hn2 hn4
  rw [hn]
  have HO := Lib.hid (fun (w : World) (v : Value) (h : RdSSc w v (d.eraseIdx r)) => orbsS_any w h hT hB (by omega) (by omega) (by omega))
  generalize (labs (d.eraseIdx r) n).1 = L at *
  have b1 := below_alloc1 w (.cells #[.slice ao d.length c] 41)
  have kb : Blk (w.alloc (.cells #[.slice ao d.length c] 41)) w.heap.size 41 #[.slice ao d.length c] := blk_at rfl
  have h1 := h.below b1
  have HR := Lib.hid h1
  have z1 : w.heap.size < (w.alloc (.cells #[.slice ao d.length c] 41)).heap.size := by simp
  clear hT hB h hn h1 hlen
  go_enter Try.func169, Try.ntmps169
  go_upto_region 1 with (fail)
  generalize w.alloc (.cells #[.slice ao d.length c] 41) = w1 at *
  have x0 := kb.cell 0
  simp at x0
  have hRd : RdSSc w1.drew (.slice ao d.length c) d := HR.out.drewN 1
  have ba : Below w1.heap.size w1 (w1.drew.alloc (.cells #[.int .i64 r] 2)) := (below_drew1 w1).alloc (Nat.le_refl _) _
  have hRa : RdSSc (w1.drew.alloc (.cells #[.int .i64 r] 2)) (.slice ao d.length c) d := HR.out.below ba
  have hIa : Ints (w1.drew.alloc (.cells #[.int .i64 r] 2)) (some ⟨w1.heap.size, 0, none⟩) 1 [(r : Int)] := Own.ints (zs := [(r : Int)]) (own_lit (w := w1.drew) (us := [.int .i64 r]) rfl (Nat.le_refl _) (by simp))
  have xa0 : (w1.drew.alloc (.cells #[.int .i64 r] 2)).cell? ⟨w.heap.size, 0, none⟩ = some (.slice ao d.length c) := (kb.belowS ba).cell 0
  have HRd := Lib.hid hRd
  have HRa := Lib.hid hRa
  have HIa := Lib.hid hIa
  have BA := Lib.hid ba
  clear hRd hRa hIa ba
  go_region_law (first
    | (go_simp; go_at_call 209; refine (flagsS_any ao d.length c n d w1.drew HRd.out.rd (by omega) hN.out (by omega)).mono ?_; rintro e w2 ⟨rfl, b2d⟩; have b2 := below_tr b2d (below_drew1 w1); have HR2 := Lib.hid (HR.out.below b2); have x2 : w2.cell? ⟨w.heap.size, 0, none⟩ = some (.slice ao d.length c) := (kb.belowS b2).cell 0; have B2 := Lib.hid (b1.trans (b2.mono (show w.heap.size ≤ w1.heap.size by omega))); have bb := below_alloc1 w2 (.cells #[.int .i64 r] 2); have xb : (w2.alloc (.cells #[.int .i64 r] 2)).cell? ⟨w.heap.size, 0, none⟩ = some (.slice ao d.length c) := ((kb.belowS b2).belowS bb).cell 0; have HRb := Lib.hid (HR2.out.below bb); have BB := Lib.hid (B2.out.trans (bb.mono B2.out.size)); have HIb := Lib.hid (show Ints (w2.alloc (.cells #[.int .i64 r] 2)) (some ⟨w2.heap.size, 0, none⟩) 1 [(r : Int)] from Own.ints (zs := [(r : Int)]) (own_lit (us := [.int .i64 r]) rfl (Nat.le_refl _) (by simp))); clear b2d b2 bb)
    | (go_simp; go_at_call 209; refine (flagsS_any ao d.length c n d (w1.drew.alloc (.cells #[.int .i64 r] 2)) HRa.out.rd (by omega) hN.out (by omega)).mono ?_; rintro e w2 ⟨rfl, b2d⟩; have b2 := BA.out.trans (b2d.mono BA.out.size); have HR2 := Lib.hid (HR.out.below b2); have x2 : w2.cell? ⟨w.heap.size, 0, none⟩ = some (.slice ao d.length c) := (kb.belowS b2).cell 0; have B2 := Lib.hid (b1.trans (b2.mono (show w.heap.size ≤ w1.heap.size by omega))); have HI2 := Lib.hid (HIa.out.below b2d); clear b2d b2)
    | (go_simp; go_at_call 210; refine (others_any r d.length ao (some ⟨w2.heap.size, 0, none⟩) c 1 d (w2.alloc (.cells #[.int .i64 r] 2)) rfl HRb.out HIb.out hr (by omega)).mono ?_; rintro e w3 ⟨v3, rfl, r3, b3⟩; have HR3 := Lib.hid r3; have B3 := Lib.hid (BB.out.trans (b3.mono BB.out.size)); clear r3 b3)
    | (go_simp; go_at_call 210; refine (others_any r d.length ao (some ⟨w1.heap.size, 0, none⟩) c 1 d w2 rfl HR2.out HI2.out hr (by omega)).mono ?_; rintro e w3 ⟨v3, rfl, r3, b3⟩; have HR3 := Lib.hid r3; have B3 := Lib.hid (B2.out.trans (b3.mono B2.out.size)); clear r3 b3)
    | (go_simp; go_at_call 208; refine (HO.out w3 v3 HR3.out).mono ?_; rintro e w4 ⟨v4, rfl, o4, b4⟩; have O4 := Lib.hid (OwnS.mono4 o4 B3.out.size); have B4 := Lib.hid (B3.out.trans (b4.mono B3.out.size)); clear o4 b4))
  all_goals
    go_wp2
    go_ret
    exact ⟨_, rfl, O4.out, B4.out⟩
set_option maxRecDepth 100000 in
set_option maxHeartbeats 3200000 in
theorem sizesS_any (c r : Nat) (ao : Option Addr) (d : List (List Int)) (w : World) (h : RdSSc w (.slice ao d.length c) d) (hM : Man d) (hr : r < d.length) (h2 : 2 ≤ d.length) :
    Calls Try.prog 101 #[.agg #[.slice ao d.length c], .int .i64 r] w fun e w' => ∃ v, e = .returned v ∧ OwnS 2 w' w.heap.size w'.heap.size v (fszL d r) ∧ Below w.heap.size w w' := by
  obtain ⟨hT, hB⟩ := erase_ok hM hr
  have hn2 := hM.f2
  have hn4 := hM.f4
  obtain ⟨l1, l2, l3⟩ := labs_all hT hB
  have hg := grt_labs hT hB (by omega) (by omega)
  have b1 := below_alloc1 w (.cells #[.slice ao d.length c] 41)
  have kb : Blk (w.alloc (.cells #[.slice ao d.length c] 41)) w.heap.size 41 #[.slice ao d.length c] := blk_at rfl
  have HR := Lib.hid (h.below b1)
  have z1 : w.heap.size < (w.alloc (.cells #[.slice ao d.length c] 41)).heap.size := by simp
  have HF := Lib.hid (fun (w : World) (h : RdSSc w (.slice ao d.length c) d) => faces_any c r ao d w h hM hr h2)
  unfold fszL
  generalize (lget d 0).length = n at *
  have HZ := Lib.hid (fun p j (hj : j < (labs (d.eraseIdx r) n).2) => szL_le (L := (labs (d.eraseIdx r) n).1) (p := p) hj)
  generalize (labs (d.eraseIdx r) n).1 = L at *
  generalize (labs (d.eraseIdx r) n).2 = m at *
  have HG := Lib.hid hg
  have HL1 := Lib.hid l1
  have HL3 := Lib.hid l3
  have hz : ∀ z ∈ L, -1 ≤ z ∧ z ≤ 1000000 := fun z hz => by
    obtain ⟨j, hj, rfl⟩ := List.getElem_of_mem hz
    obtain ⟨x, hx1, hx2⟩ := l3 j (by omega)
    rw [← iget_lt hj, hx1]; omega
  have HGF := Lib.hid (greatest_fc L (by omega) hz)
  clear hT hB h hg l1 l3 hz hM
  go_enter Try.func101, Try.ntmps101
  go_upto_region 1 with (fail)
  generalize w.alloc (.cells #[.slice ao d.length c] 41) = w1 at *
  have x0 := kb.cell 0
  simp at x0
  go_wp2_with fail
  refine (HF.out w1 HR.out).mono ?_
  rintro e w2 ⟨v2, rfl, o2, b2⟩
  have B2 := b1.trans (b2.mono b1.size)
  have z2 := b2.size
  have O2 := Lib.hid o2
  clear b1 b2 x0 kb o2
  go_wp2_with fail
  refine (one_val (callS (fun _ => HGF.out) O2.out)).mono ?_
  rintro e w3 ⟨rfl, b3⟩
  rw [HG.out]
  have B3 := B2.trans (b3.mono (by omega))
  have z3 := b3.size
  have O3 := Lib.hid (O2.out.below b3)
  obtain ⟨a2, n2, c2, rfl, hl2⟩ := O2.out.form1
  have hn2' : n2 = n := by rw [← hl2, HL1.out]
  subst hn2'
  clear B2 O2 b3 hl2
  go_wp2_with (refine wpList_mk etI _ rfl _ _ rfl w3.heap.size .i64 .i64 _ _ m rfl rfl rfl rfl (by omega) (Nat.le_refl _) ?_; intro w4 o4 g4 hs4)
  have b4 : Below w3.heap.size w3 w4 := ⟨g4.os, g4.tape, g4.output, g4.size, fun k hk => g4.block k hk (by simp)⟩
  have B4 := B3.trans (b4.mono (by omega))
  have O4 := Lib.hid (O3.out.below b4)
  have S4 : Own w4 w3.heap.size 2 (some ⟨w3.heap.size, 0, none⟩) m m ((szL L m 0).map (Value.int .i64)) := by
    rw [szL_zero, List.map_replicate]; exact o4
  clear B3 O3 b4 g4 o4 hs4
  have S5 : Own w4 0 2 (some ⟨w3.heap.size, 0, none⟩) m m ((szL L m 0).map (Value.int .i64)) := S4.mono (Nat.zero_le _)
  clear S4
  have hgb : w2.heap.size ≤ w3.heap.size ∧ w.heap.size ≤ w3.heap.size := ⟨z3, by omega⟩
  generalize w3.heap.size = g at *
  go_loopw [7] (fun iv wr => ∃ f : Nat, iv = .int .i64 f ∧ f ≤ n2 ∧ Own wr 0 2 (some ⟨g, 0, none⟩) m m ((szL L m f).map (Value.int .i64)) ∧ OwnS 2 wr w1.heap.size w2.heap.size (.slice a2 n2 c2) L ∧ Below w.heap.size w wr) (fun iv _ => n2 - (intOf iv).toNat)
  case atStart => exact ⟨0, rfl, Nat.zero_le _, S5, O4.out, B4⟩
  case round =>
    obtain ⟨f, rfl, hf, ho, hL, hbw⟩ := hrel
    clear S5 O4 B4
    by_cases hlt : f < n2
    · obtain ⟨d0, hd1, hd2⟩ := HL3.out f hlt
      have hz := HZ.out f d0 hd2
      have hsl := szL_len L m f
      obtain ⟨g', hg', _, hg2, _, hcell, hfz⟩ := ho.form (by omega)
      injection hg' with hg'
      injection hg' with hg'
      subst hg'
      have hc := hcell d0 hd2
      rw [List.getElem?_map, List.getElem?_eq_getElem (by omega), ← iget_lt (by omega)] at hc
      have hc : wr.cell? ⟨g, d0, none⟩ = some (.int .i64 (iget (szL L m f) d0)) := hc
      have hff := hfz d0
      have hst := (ho.stored d0 (.int .i64 (iget (szL L m f) d0 + 1))).1
      have hmap : ((szL L m f).map (Value.int .i64)).set d0 (.int .i64 (iget (szL L m f) d0 + 1)) = (szL L m (f + 1)).map (Value.int .i64) := by rw [szL_succ (by rw [HL1.out]; exact hlt) hd1 hd2, List.map_set]
      rw [hmap] at hst
      have hbs := hbw.setCell (p := ⟨g, d0, none⟩) hgb.2 (.int .i64 (iget (szL L m f) d0 + 1))
      have hq : Only g (g + 1) wr (wr.setCell ⟨g, d0, none⟩ (.int .i64 (iget (szL L m f) d0 + 1))) := ⟨rfl, rfl, rfl, by simp [World.setCell], fun k hk hd => Below.heap_setCell _ _ _ _ (by show k ≠ g; omega)⟩
      have HLS := Lib.hid (hL.only hq (.inl hgb.1))
      have HST := Lib.hid hst
      have HBS := Lib.hid hbs
      have hI := hL.ints1
      obtain ⟨bL, oL, rfl, hcL⟩ := hI.at_ hlt
      rw [hd1] at hcL
      generalize iget (szL L m f) d0 = z at *
      clear hcell hfz hst hbs hmap ho hbw hq hL hI hd1 hsl
      go_wp2
      go_roundw
      case rel => exact ⟨f + 1, by go_num, by omega, HST.out, HLS.out, HBS.out⟩
      case measure => first | (simp [intOf]; done) | (simp [intOf]; omega)
    · obtain rfl : f = n2 := by omega
      obtain ⟨zs, hzs⟩ : ∃ zs, szL L m f = zs := ⟨_, rfl⟩
      have HZS := Lib.hid hzs
      have hll := szL_len L m f
      have hzf := HZ.out f
      rw [hzs] at ho hll
      simp only [hzs] at hzf
      have HLL := Lib.hid hll
      have HZF := Lib.hid hzf
      clear hL hlt HZ HL3 HGF HF HG hzs hll hzf
      have O3 : Own wr 0 2 (some ⟨g, 0, none⟩) m m ((hvL zs 0).map (Value.int .i64)) := by rw [hvL_zero]; exact ho
      clear ho
      go_wp2_with fail
      go_loopw [8] (fun iv wx => ∃ k : Nat, iv = .int .i64 k ∧ k ≤ m ∧ Own wx 0 2 (some ⟨g, 0, none⟩) m m ((hvL zs k).map (Value.int .i64)) ∧ Below w.heap.size w wx) (fun iv _ => m - (intOf iv).toNat)
      case atStart => exact ⟨0, rfl, Nat.zero_le _, O3, hbw⟩
      case round =>
        obtain ⟨k, rfl, hk, ho, hbw2⟩ := hrel
        clear O3 hbw
        by_cases hlt : k < m
        · obtain ⟨g', hg', _, hg2, _, hcell, hfz⟩ := ho.form (by omega)
          injection hg' with hg'
          injection hg' with hg'
          subst hg'
          have hkz : k < zs.length := by rw [HLL.out]; exact hlt
          have hz := HZF.out k hlt
          have hc := hcell k hlt
          rw [List.getElem?_map, List.getElem?_eq_getElem (by rw [hvL_len]; exact hkz), ← iget_lt (by rw [hvL_len]; exact hkz), hvL_get hkz] at hc
          have hc : wr.cell? ⟨g, k, none⟩ = some (.int .i64 (iget zs k)) := hc
          have hff := hfz k
          have hst := (ho.stored k (.int .i64 (iget zs k / 2))).1
          have hmap : ((hvL zs k).map (Value.int .i64)).set k (.int .i64 (iget zs k / 2)) = (hvL zs (k + 1)).map (Value.int .i64) := by rw [hvL_set hkz, List.map_set]
          rw [hmap] at hst
          have hbs := hbw2.setCell (p := ⟨g, k, none⟩) hgb.2 (.int .i64 (iget zs k / 2))
          have HST := Lib.hid hst
          have HBS := Lib.hid hbs
          generalize iget zs k = z at *
          clear hcell hfz hst hbs hmap ho hbw2 hkz
          go_wp2
          go_roundw
          case rel => exact ⟨k + 1, by go_num, by omega, HST.out, HBS.out⟩
          case measure => first | (simp [intOf]; done) | (simp [intOf]; omega)
        · obtain rfl : k = m := by omega
          have hfin : hvL zs k = halfL zs := by rw [← HLL.out]; exact hvL_all zs
          rw [hfin] at ho
          have hlt' := ho.lt
          have hin2 : In w.heap.size wr.heap.size (.slice (some ⟨g, 0, none⟩) k k) := fun x hx => by rw [ownBlock_slice] at hx; simp [bk] at hx; subst hx; exact ⟨hgb.2, (hlt' g (by simp [bk])).2⟩
          have hres : OwnS 2 wr w.heap.size wr.heap.size (.slice (some ⟨g, 0, none⟩) k k) (halfL zs) := ⟨⟨_, k, k, rfl, ho⟩, hin2⟩
          have HRES := Lib.hid hres
          clear hin2 hres hlt' ho hfin
          go_wp2
          go_ret
          exact ⟨_, rfl, by rw [HZS.out]; exact HRES.out, hbw2⟩
end Go.Proofs.Ytpognnifgcacnaa

/- FaceSizes: the contracts of both sides. -/
namespace Go.Proofs.Ytpognnifgcacnaa
open Go.RowKit

noncomputable def fsR (d : List (List Int)) : List Int := if mapB d then fszL d 2 else []
noncomputable def fsC (d : List (List Int)) : Int := if mapB d then 0 else 1
theorem mapB_iff {d : List (List Int)} : mapB d = true ↔ Man d ∧ d.length = 3 := by unfold mapB; rw [Bool.and_eq_true, manB_iff, decide_eq_true_iff]
theorem fsR_small (d : List (List Int)) : (fsR d).length ≤ 1048576 := by
  unfold fsR
  split
  case isFalse => simp
  case isTrue h =>
    obtain ⟨hM, h3⟩ := mapB_iff.mp h
    have hr : 2 < d.length := by omega
    obtain ⟨hT, hB⟩ := erase_ok hM hr
    obtain ⟨l1, l2, l3⟩ := labs_all hT hB
    have := hM.f4
    unfold fszL
    rw [halfL_len, szL_len]
    omega
theorem api_specFs {E1 E : Nat} {lo hi : Nat} {v : Value} {d : List (List Int)} (w : World) (h : OwM E1 E w lo hi v d) (hs : d.length + lenSS d ≤ 1048576) :
    Calls Try.prog 32 #[v] w fun e w' => ∃ r, e = .returned (.tuple #[r, .int .i64 (fsC d)]) ∧ OwnS 2 w' w.heap.size w'.heap.size r (fsR d) ∧ Below w.heap.size w w' := by
  have HI := Lib.hid (fun (w : World) (h : OwM E1 E w lo hi v d) => one_val (callM (fun _ => l14_fc d (fitM_of hs)) h))
  have HO := Lib.hid h
  obtain ⟨u, rfl, hu⟩ := ofM h
  have hc := hu.rdc
  obtain ⟨ao, c, rfl, _, _⟩ := id hc
  have HC := Lib.hid hc
  clear h hu hc
  have b0 := below_alloc1 w (.cells #[.slice ao d.length c] 41)
  have kb : Blk (w.alloc (.cells #[.slice ao d.length c] 41)) w.heap.size 41 #[.slice ao d.length c] := blk_at rfl
  have HO1 := Lib.hid (HO.out.below b0)
  have HC0 := Lib.hid (HC.out.below b0)
  have x0 := kb.cell 0
  simp at x0
  by_cases hb : mapB d = true
  · obtain ⟨hM, h3⟩ := mapB_iff.mp hb
    unfold fsC fsR
    simp only [hb, if_true] at HI ⊢
    have HF := Lib.hid (fun w h => sizesS_any c 2 ao d w h hM (by omega) (by omega))
    clear hM h3 hb
    generalize d.length = n at *
    go_enter Try.func32, Try.ntmps32
    go_wp2_with fail
    refine (HI.out _ HO1.out).mono ?_
    have z0 := b0.size
    rintro e w1 ⟨rfl, b1⟩
    have z1 := b1.size
    have HC1 := Lib.hid (HC0.out.below b1)
    have kb1 := kb.belowS b1
    have x1 := kb1.cell 0
    simp at x1
    have B1 := b0.trans (b1.mono z0)
    have zz := B1.size
    clear x0 b1 kb kb1 HO1 HC0 b0 z0
    go_wp2_with fail
    refine (HF.out w1 HC1.out).mono ?_
    rintro e w2 ⟨v2, rfl, o2, b2⟩
    have O2 := Lib.hid (OwnS.mono4 o2 zz)
    have B2 := Lib.hid (B1.trans (b2.mono zz))
    clear b2 o2
    go_wp2
    exact bodyPost_ret (v := .tuple #[v2, .int .i64 0]) (by simp [results, Try.f32, go_sem]) rfl ⟨_, rfl, O2.out, B2.out⟩
  · have hb : mapB d = false := by simpa using hb
    unfold fsC fsR
    simp only [hb] at HI ⊢
    clear hb
    generalize d.length = n at *
    go_enter Try.func32, Try.ntmps32
    go_wp2_with fail
    refine (HI.out _ HO1.out).mono ?_
    have z0 := b0.size
    rintro e w1 ⟨rfl, b1⟩
    have B1 := b0.trans (b1.mono z0)
    clear x0 b1 kb HO1 HC0 b0 z0
    go_wp2
    exact bodyPost_ret (v := .tuple #[.slice none 0 0, .int .i64 1]) (by simp [results, Try.f32, go_sem]) rfl ⟨_, rfl, ownS_nil, B1⟩
theorem api_implFs {E1 E : Nat} {lo hi : Nat} {v : Value} {d : List (List Int)} (w : World) (h : OwM E1 E w lo hi v d) (hs : d.length + lenSS d ≤ 1048576) :
    Calls Try.prog 34 #[v] w fun e w' => ∃ r, e = .returned (.tuple #[r, .int .i64 (fsC d)]) ∧ OwnS 2 w' w.heap.size w'.heap.size r (fsR d) ∧ Below w.heap.size w w' := by
  have HI := Lib.hid (fun (w : World) (h : OwM E1 E w lo hi v d) => one_val (callM (fun _ => isMap_fc d (fitM_of hs)) h))
  have HO := Lib.hid h
  obtain ⟨u, rfl, hu⟩ := ofM h
  have hc := hu.rdc
  obtain ⟨ao, c, rfl, _, _⟩ := id hc
  have HC := Lib.hid hc
  clear h hu hc
  have b0 := below_alloc1 w (.cells #[.slice ao d.length c] 41)
  have kb : Blk (w.alloc (.cells #[.slice ao d.length c] 41)) w.heap.size 41 #[.slice ao d.length c] := blk_at rfl
  have HO1 := Lib.hid (HO.out.below b0)
  have HC0 := Lib.hid (HC.out.below b0)
  have x0 := kb.cell 0
  simp at x0
  by_cases hb : mapB d = true
  · obtain ⟨hM, h3⟩ := mapB_iff.mp hb
    unfold fsC fsR
    simp only [hb, if_true] at HI ⊢
    have HF := Lib.hid (fun w mb hm h => sizesOf_any mb c 2 ao d w hm h hM (by omega))
    clear hM h3 hb
    generalize d.length = n at *
    go_enter Try.func34, Try.ntmps34
    go_wp2_with fail
    refine (HI.out _ HO1.out).mono ?_
    have z0 := b0.size
    rintro e w1 ⟨rfl, b1⟩
    have z1 := b1.size
    have HC1 := Lib.hid (HC0.out.below b1)
    have kb1 := kb.belowS b1
    have KB1 := Lib.hid kb1
    have B1 := b0.trans (b1.mono z0)
    have zz := B1.size
    clear x0 b1 kb kb1 HO1 HC0 b0 z0
    go_wp2_with fail
    refine (HF.out w1 w.heap.size KB1.out HC1.out).mono ?_
    rintro e w2 ⟨v2, rfl, o2, b2⟩
    have O2 := Lib.hid (OwnS.mono4 o2 zz)
    have B2 := Lib.hid (B1.trans (b2.mono zz))
    clear b2 o2
    go_wp2
    exact bodyPost_ret (v := .tuple #[v2, .int .i64 0]) (by simp [results, Try.f34, go_sem]) rfl ⟨_, rfl, O2.out, B2.out⟩
  · have hb : mapB d = false := by simpa using hb
    unfold fsC fsR
    simp only [hb] at HI ⊢
    clear hb
    generalize d.length = n at *
    go_enter Try.func34, Try.ntmps34
    go_wp2_with fail
    refine (HI.out _ HO1.out).mono ?_
    have z0 := b0.size
    rintro e w1 ⟨rfl, b1⟩
    have B1 := b0.trans (b1.mono z0)
    clear x0 b1 kb HO1 HC0 b0 z0
    go_wp2
    exact bodyPost_ret (v := .tuple #[.slice none 0 0, .int .i64 1]) (by simp [results, Try.f34, go_sem]) rfl ⟨_, rfl, ownS_nil, B1⟩
end Go.Proofs.Ytpognnifgcacnaa
