/- Words in a table: l11Elements, elementTable, l11Lead, applied; IsIdentityWord. guards: -/
import Derived.Test.YtpjglifijdcgnaaPart6
import Derived.Test.YtpjglifijdcgnaaPart1
import Derived.Deep.RegionHeld3
namespace Go.Proofs.Ytpjglifijdcgnaa
open Go.RowKit

abbrev wRo (W : List Int) : Ch := ⟨false, 2, 1, .vals (ivals W)⟩
theorem cosTab_leads {ng : Nat} {rels ws : List (List Int)} (h : Good ng rels ws) (hf : (runC ng rels ws).2.2 = false) : Leads (cosTab ((ng : Int), rels) ws) (cosN ((ng : Int), rels) ws) := by
  refine ⟨fun k hk => cosTab_row (by rw [cosTab_len] at hk; exact hk), fun k hk x hx => ?_⟩
  rw [cosTab_len] at hk
  have hF := full_run h.rl h.wl hf
  rw [cosTab_nat]
  rw [cosN_nat] at hx ⊢
  have := tableC_entry hF hx hk
  have he : iget (lget (tableC ng (runC ng rels ws).1 (runC ng rels ws).2.1) k) x = tabC (runC ng rels ws).1 (runC ng rels ws).2.1 (numbered ng (runC ng rels ws).1 (runC ng rels ws).2.1) k x := by
    simp [tableC, lget, iget, hk, hx, tabC]
  rw [he]
  exact this
theorem smallOk_run {ng : Nat} {rels ws : List (List Int)} (hs : smallOk ((ng : Int), rels) ws = true) : (runC ng rels ws).2.2 = false ∧ cosN ((ng : Int), rels) ws ≤ 400 := by
  unfold smallOk at hs; rw [cosX_nat] at hs; simpa using hs
theorem tabLoop_grow {ng : Nat} {im : List (List Int)} {less : List Int} (hF : Full ng im less) : ∀ (f i : Nat) (s : NSt), TOK less.length less s → NGrow s (tabLoop ng im less f i s)
  | 0, _, s, _ => NGrow.refl s
  | f + 1, i, s, h => by
    unfold tabLoop
    split
    · rename_i hlt
      obtain ⟨h1, h2, _⟩ := tabRow_ok hF h hlt ng (Nat.le_refl _)
      exact NGrow.trans h2 (tabLoop_grow hF f (i + 1) _ h1)
    · exact NGrow.refl s
theorem numbered_grow {ng : Nat} {im : List (List Int)} {less : List Int} (hF : Full ng im less) : NGrow (tabStart less.length) (numbered ng im less) := tabLoop_grow hF _ _ _ (tabStart_ok hF)
theorem cosN_pos {ng : Nat} {rels ws : List (List Int)} (h : Good ng rels ws) (hf : (runC ng rels ws).2.2 = false) : 0 < cosN ((ng : Int), rels) ws := by
  rw [cosN_nat]
  have hF := full_run h.rl h.wl hf
  obtain ⟨hk, _⟩ := numbered_ok hF
  have hF0 := hF.pos
  rcases Nat.eq_zero_or_pos (numbered ng (runC ng rels ws).1 (runC ng rels ws).2.1).1.length with h0 | h0
  · exfalso
    have g1 : NGrow (tabStart (runC ng rels ws).2.1.length) (numbered ng (runC ng rels ws).1 (runC ng rels ws).2.1) := numbered_grow hF
    have := g1.len
    simp [tabStart] at this
    omega
  · exact h0

section
variable {η : Env} {ω : Own?} {w : World} {ins : List (Nm × Ch)}
theorem rdE {x i : Nat} {own : Bool} {E F : Nat} {zss : List (List Int)} {v : Value} (hm : Mem η ω w (fun x => lk x ins)) (hx : lk x ins = some ⟨own, E, 1, .rows F (irows zss) []⟩) (hi : i < zss.length) (hv : Den1 η (.esl x i 0 (lget zss i).length) v) (hn : (lget zss i).length ≤ 17592186044416) : ∃ ao c, v = .slice ao (lget zss i).length c ∧ Ints w ao (lget zss i).length (lget zss i) := by
  obtain ⟨h, h1, h2, h3⟩ := hm.1 x _ hx
  obtain ⟨ao, rfl, h4, _⟩ := hv.2 h h1
  have h3 : Vec own ω w (x, none) h E (irows zss).length (cellsOK η ω w own x (.rows F (irows zss) [])) := h3
  obtain ⟨b', o', u', g1, g2, g3, g4⟩ := h3.get (j := i) (by rw [irows_len]; exact hi)
  obtain ⟨k1, k2, k3⟩ := g4 (by simp) (ivals (lget zss i)) (irows_get hi)
  rw [h4 rfl]
  refine ⟨_, _, rfl, rfl, hn, fun h0 => ?_⟩
  obtain ⟨b2, o2, u2, m1, _, _⟩ := k3.get (j := 0) (by rw [ivals_len]; exact h0)
  refine ⟨b2, o2, m1, fun j hj => ?_⟩
  obtain ⟨b3, o3, u3, n1, n2, n3⟩ := k3.get (j := j) (by rw [ivals_len]; exact hj)
  rw [m1] at n1; injection n1 with n1; injection n1 with n1 n1'; subst n1 n1'
  rw [ivals_get hj] at n3
  rw [n2, ← n3]
end
theorem three_of {us : List Value} {u0 u1 u2 : Value} (hl : us.length = 3) (g0 : us[0]? = some u0) (g1 : us[1]? = some u1) (g2 : us[2]? = some u2) : us = [u0, u1, u2] := by
  match us, hl with
  | [p, q, r], _ => simp at g0 g1 g2; rw [g0, g1, g2]
theorem specLead_fc (T : List (List Int)) (W : List Int) (x m n : Nat) (hn : T.length = n) (hT : Leads T m) (hx : x < m) (hm4 : m ≤ 1000000) (hn4 : n ≤ 1000000) (hW : ∀ z ∈ W, 0 ≤ z ∧ z < T.length) (hWl : W.length ≤ 1000000000) :
    FC Try.prog 54 [(1005, imRo T), (1004, wRo W)] [o1 (.sl 1005 0 n), vv (I6 x), o1 (.sl 1004 0 W.length)] [] (vv (I6 (leadL T x W))) [] :=
  fc_of_calls fun w η ω us hm ⟨hl, ha⟩ => by
    subst hn
    obtain ⟨u0, g0, d0⟩ := ha 0 _ rfl
    obtain ⟨u1, g1, d1⟩ := ha 1 _ rfl
    obtain ⟨u2, g2, d2⟩ := ha 2 _ rfl
    have d1 : u1 = I6 x := d1
    subst d1
    obtain ⟨ao, c, rfl, hi⟩ := rdSS (x := 1005) (zss := T) hm rfl d0 (by omega) fun zs hz => by
      obtain ⟨j, hj, rfl⟩ := List.getElem_of_mem hz
      rw [← lget_lt hj, hT.len j hj]; omega
    obtain ⟨ao', c', rfl, hi'⟩ := rdS (x := 1004) (zs := W) hm rfl d2 (by omega)
    rw [three_of hl g0 g1 g2]
    refine (specLead_any ao _ c T ao' _ c' W x m w hi hi' hx hT hW).mono ?_
    rintro e w' ⟨rfl, rfl⟩
    exact ⟨rfl, Below.refl _ _⟩
theorem specLeadE_fc (T ws : List (List Int)) (i : Nat) (x m n : Nat) (hn : T.length = n) (hT : Leads T m) (hx : x < m) (hm4 : m ≤ 1000000) (hn4 : n ≤ 1000000) (hi0 : i < ws.length) (hW : ∀ z ∈ lget ws i, 0 ≤ z ∧ z < T.length) (hWl : (lget ws i).length ≤ 1000000000) :
    FC Try.prog 54 [(1005, imRo T), (1002, rowsRo ws)] [o1 (.sl 1005 0 n), vv (I6 x), o1 (.esl 1002 i 0 (lget ws i).length)] [] (vv (I6 (leadL T x (lget ws i)))) [] :=
  fc_of_calls fun w η ω us hm ⟨hl, ha⟩ => by
    subst hn
    obtain ⟨u0, g0, d0⟩ := ha 0 _ rfl
    obtain ⟨u1, g1, d1⟩ := ha 1 _ rfl
    obtain ⟨u2, g2, d2⟩ := ha 2 _ rfl
    have d1 : u1 = I6 x := d1
    subst d1
    obtain ⟨ao, c, rfl, hi⟩ := rdSS (x := 1005) (zss := T) hm rfl d0 (by omega) fun zs hz => by
      obtain ⟨j, hj, rfl⟩ := List.getElem_of_mem hz
      rw [← lget_lt hj, hT.len j hj]; omega
    obtain ⟨ao', c', rfl, hi'⟩ := rdE (x := 1002) (zss := ws) hm rfl hi0 d2 (by omega)
    rw [three_of hl g0 g1 g2]
    refine (specLead_any ao _ c T ao' _ c' _ x m w hi hi' hx hT hW).mono ?_
    rintro e w' ⟨rfl, rfl⟩
    exact ⟨rfl, Below.refl _ _⟩
theorem implLead_fc (T : List (List Int)) (W : List Int) (x m n : Nat) (hn : T.length = n) (hT : Leads T m) (hx : x < m) (hm4 : m ≤ 1000000) (hn4 : n ≤ 1000000) (hW : ∀ z ∈ W, 0 ≤ z ∧ z < T.length) (hWl : W.length ≤ 1000000000) :
    FC Try.prog 56 [(1005, imRo T), (1004, wRo W)] [o1 (.sl 1005 0 n), o1 (.sl 1004 0 W.length), vv (I6 x)] [] (vv (I6 (leadL T x W))) [] :=
  fc_of_calls fun w η ω us hm ⟨hl, ha⟩ => by
    subst hn
    obtain ⟨u0, g0, d0⟩ := ha 0 _ rfl
    obtain ⟨u1, g1, d1⟩ := ha 1 _ rfl
    obtain ⟨u2, g2, d2⟩ := ha 2 _ rfl
    have d2 : u2 = I6 x := d2
    subst d2
    obtain ⟨ao, c, rfl, hi⟩ := rdSS (x := 1005) (zss := T) hm rfl d0 (by omega) fun zs hz => by
      obtain ⟨j, hj, rfl⟩ := List.getElem_of_mem hz
      rw [← lget_lt hj, hT.len j hj]; omega
    obtain ⟨ao', c', rfl, hi'⟩ := rdS (x := 1004) (zs := W) hm rfl d1 (by omega)
    rw [three_of hl g0 g1 g2]
    refine (applied_any ao _ c T ao' _ c' W x m w hi hi' hx hT hW).mono ?_
    rintro e w' ⟨rfl, rfl⟩
    exact ⟨rfl, Below.refl _ _⟩
theorem implLeadE_fc (T ws : List (List Int)) (i : Nat) (x m n : Nat) (hn : T.length = n) (hT : Leads T m) (hx : x < m) (hm4 : m ≤ 1000000) (hn4 : n ≤ 1000000) (hi0 : i < ws.length) (hW : ∀ z ∈ lget ws i, 0 ≤ z ∧ z < T.length) (hWl : (lget ws i).length ≤ 1000000000) :
    FC Try.prog 56 [(1005, imRo T), (1002, rowsRo ws)] [o1 (.sl 1005 0 n), o1 (.esl 1002 i 0 (lget ws i).length), vv (I6 x)] [] (vv (I6 (leadL T x (lget ws i)))) [] :=
  fc_of_calls fun w η ω us hm ⟨hl, ha⟩ => by
    subst hn
    obtain ⟨u0, g0, d0⟩ := ha 0 _ rfl
    obtain ⟨u1, g1, d1⟩ := ha 1 _ rfl
    obtain ⟨u2, g2, d2⟩ := ha 2 _ rfl
    have d2 : u2 = I6 x := d2
    subst d2
    obtain ⟨ao, c, rfl, hi⟩ := rdSS (x := 1005) (zss := T) hm rfl d0 (by omega) fun zs hz => by
      obtain ⟨j, hj, rfl⟩ := List.getElem_of_mem hz
      rw [← lget_lt hj, hT.len j hj]; omega
    obtain ⟨ao', c', rfl, hi'⟩ := rdE (x := 1002) (zss := ws) hm rfl hi0 d1 (by omega)
    rw [three_of hl g0 g1 g2]
    refine (applied_any ao _ c T ao' _ c' _ x m w hi hi' hx hT hW).mono ?_
    rintro e w' ⟨rfl, rfl⟩
    exact ⟨rfl, Below.refl _ _⟩
theorem specIs_fc (g : Int) (rels : List (List Int)) (h1 : Fit rels) : FC Try.prog 76 [(1003, rowsRo rels)] [pA g rels.length] [] (vv (.bool (isPres (g, rels)))) [] :=
  fc_of_calls fun w η ω us hm ⟨hl, ha⟩ => by
    obtain ⟨u0, g0, d0⟩ := ha 0 _ rfl
    have hp := rdP (x := 1003) (zss := rels) hm rfl d0 (by have := h1.1; omega) fun zs hz => by have := h1.2 zs hz; omega
    rw [one_of hl g0]
    exact spec11Is_any w hp
theorem specWord_fc (g : Int) (W : List Int) (hg0 : 0 ≤ g) (hg1 : g ≤ 1000) (hW : W.length ≤ 4398046511104) : FC Try.prog 81 [(1004, wRo W)] [vv (I6 g), o1 (.sl 1004 0 W.length)] [] (vv (.bool (isWordTo (g - 1) W))) [] :=
  fc_of_calls fun w η ω us hm ⟨hl, ha⟩ => by
    obtain ⟨u0, g0, d0⟩ := ha 0 _ rfl
    obtain ⟨u1, g1, d1⟩ := ha 1 _ rfl
    have d0 : u0 = I6 g := d0
    subst d0
    obtain ⟨ao', c', rfl, hi'⟩ := rdS (x := 1004) (zs := W) hm rfl d1 (by omega)
    rw [two_of hl g0 g1]
    refine (spec11Word_any g ao' _ c' W w hi' hg0 hg1).mono ?_
    first | (rintro e w' ⟨rfl, rfl⟩; exact ⟨rfl, Below.refl _ _⟩) | (rintro e w' ⟨rfl, hb⟩; exact ⟨rfl, hb⟩)
theorem implWord_fc (g : Int) (W : List Int) (hg0 : 0 ≤ g) (hg1 : g ≤ 1000) (hW : W.length ≤ 4398046511104) : FC Try.prog 70 [(1004, wRo W)] [o1 (.sl 1004 0 W.length), vv (I6 g)] [] (vv (.bool (isWordTo (g - 1) W))) [] :=
  fc_of_calls fun w η ω us hm ⟨hl, ha⟩ => by
    obtain ⟨u0, g0, d0⟩ := ha 0 _ rfl
    obtain ⟨u1, g1, d1⟩ := ha 1 _ rfl
    have d1 : u1 = I6 g := d1
    subst d1
    obtain ⟨ao', c', rfl, hi'⟩ := rdS (x := 1004) (zs := W) hm rfl d0 (by omega)
    rw [two_of hl g0 g1]
    refine (isLetters_any g ao' _ c' W w hi' hg0 hg1).mono ?_
    first | (rintro e w' ⟨rfl, rfl⟩; exact ⟨rfl, Below.refl _ _⟩) | (rintro e w' ⟨rfl, hb⟩; exact ⟨rfl, hb⟩)

def elOk (d : PresD) (W : List Int) : Prop := isPres d = true ∧ isWordTo (d.1 - 1) W = true ∧ smallOk d [] = true
def elC (d : PresD) (W : List Int) : Int := if isPres d = true then (if isWordTo (d.1 - 1) W = true then (if smallOk d [] = true then 0 else 3) else 2) else 1
theorem good_nil {g : Int} {rels : List (List Int)} (h : isPres (g, rels) = true) : ∃ ng : Nat, g = (ng : Int) ∧ Good ng rels [] := good_of (by rw [withOk_nil]; exact h)

set_option maxRecDepth 100000 in
set_option maxHeartbeats 1000000 in
theorem specEl_yes {ng : Nat} {rels : List (List Int)} {W : List Int} (h1 : Fit rels) (h2 : W.length ≤ 4398046511104) (hG : Good ng rels []) (hk : elOk ((ng : Int), rels) W) :
    FC Try.prog 53 [(1004, wRo W), (1003, rowsRo rels)] [pA ng rels.length, o1 (.sl 1004 0 W.length)] [(1005, imOw (cosTab ((ng : Int), rels) []))] (.tup [.one (.sl 1005 0 ng), .one (.val (I6 0))]) [] := by
  obtain ⟨k1, k2, k3⟩ := hk
  have hI := specIs_fc ng rels h1
  rw [k1] at hI
  have hW := specWord_fc ng W (by omega) (by have := hG.hi; omega) h2
  rw [k2] at hW
  have hS := (specSmall_yes hG k3).nilW
  refine fc_enter (nt := 20) Try.func53 rfl rfl (by simp) fun w0 ω0 => ?_
  (refine goes_seq ?_; refine goes_region ?_; apply run_step rfl; (exact stp_box rfl rfl rfl rfl); apply run_step rfl; (exact stp_assign rfl rfl); apply run_step rfl; (exact stp_assign rfl rfl); refine run_nil ?_; refine fin_seq ?_; refine goes_seq ?_; refine goes_block ?_; refine goes_seq ?_; refine goes_region ?_; apply run_step rfl; (exact stp_loadAgg rfl rfl rfl rfl rfl rfl (by as_aux_lemma => kernel_rfl)); apply run_step rfl; (apply call_gate 76; exact stp_callR hI (by as_aux_lemma => kernel_rfl) rfl rfl ⟨⟨.inl rfl, .inl rfl, trivial⟩, trivial⟩ ⟨⟨_, rfl, .inl rfl⟩, trivial⟩ rfl rfl); apply run_step rfl; (exact stp_not rfl rfl); apply run_step rfl; (exact stp_assign rfl rfl); refine run_nil ?_; refine fin_seq ?_)
  refine goes_cond rfl (fun e => by cases e) (fun _ => ?_)
  (refine goes_seq ?_; refine goes_region ?_; apply run_step rfl; (exact stp_fieldAddr (d := 0) rfl rfl rfl (by as_aux_lemma => kernel_rfl)); apply run_step rfl; (exact stp_loadF rfl (by as_aux_lemma => kernel_rfl) rfl rfl rfl rfl); apply run_step rfl; (exact stp_move rfl rfl); apply run_step rfl; (apply call_gate 81; exact stp_callR hW (by as_aux_lemma => kernel_rfl) rfl rfl ⟨rfl, rfl, trivial⟩ ⟨⟨_, rfl, .inl rfl⟩, trivial⟩ rfl rfl); apply run_step rfl; (exact stp_not rfl rfl); apply run_step rfl; (exact stp_assign rfl rfl); refine run_nil ?_; refine fin_seq ?_)
  refine goes_cond rfl (fun e => by cases e) (fun _ => ?_)
  (refine goes_skip ?_; refine fin_block ?_; refine fin_seq ?_; refine goes_seq ?_; refine goes_region ?_; apply run_step rfl; (exact stp_loadAgg rfl rfl rfl rfl rfl rfl (by as_aux_lemma => kernel_rfl)); apply run_step rfl; (apply call_gate 59; exact stp_callN hS (by as_aux_lemma => kernel_rfl) rfl rfl ⟨⟨.inl rfl, .inl rfl, trivial⟩, rfl, trivial⟩ ⟨⟨_, rfl, .inl rfl⟩, trivial⟩ rfl rfl rfl); apply run_step rfl; (exact stp_extract rfl rfl rfl); apply run_step rfl; (exact stp_extract rfl rfl rfl); apply run_step rfl; (exact stp_assign rfl rfl); apply run_step rfl; (exact stp_assign rfl rfl); refine run_nil ?_; refine fin_seq ?_; refine goes_ret ?_)
  exact fin_ret2 (.inl rfl) rfl (.tmp rfl) (.tmp rfl) ⟨rfl, trivial⟩ trivial
set_option maxRecDepth 100000 in
set_option maxHeartbeats 1000000 in
theorem specEl_no {g : Int} {rels : List (List Int)} {W : List Int} (h1 : Fit rels) (h2 : W.length ≤ 4398046511104) (hk : ¬ elOk (g, rels) W) :
    FC Try.prog 53 [(1004, wRo W), (1003, rowsRo rels)] [pA g rels.length, o1 (.sl 1004 0 W.length)] [] (.tup [.one (.val (.slice none 0 0)), .one (.val (I6 (elC (g, rels) W)))]) [] := by
  have hI := specIs_fc g rels h1
  refine fc_enter (nt := 20) Try.func53 rfl rfl (by simp) fun w0 ω0 => ?_
  unfold elC
  by_cases k1 : isPres (g, rels) = true
  · obtain ⟨ng, rfl, hG⟩ := good_nil k1
    rw [k1] at hI
    rw [if_pos k1]
    have hW := specWord_fc ng W (by omega) (by have := hG.hi; omega) h2
    (refine goes_seq ?_; refine goes_region ?_; apply run_step rfl; (exact stp_box rfl rfl rfl rfl); apply run_step rfl; (exact stp_assign rfl rfl); apply run_step rfl; (exact stp_assign rfl rfl); refine run_nil ?_; refine fin_seq ?_; refine goes_seq ?_; refine goes_block ?_; refine goes_seq ?_; refine goes_region ?_; apply run_step rfl; (exact stp_loadAgg rfl rfl rfl rfl rfl rfl (by as_aux_lemma => kernel_rfl)); apply run_step rfl; (apply call_gate 76; exact stp_callR hI (by as_aux_lemma => kernel_rfl) rfl rfl ⟨⟨.inl rfl, .inl rfl, trivial⟩, trivial⟩ ⟨⟨_, rfl, .inl rfl⟩, trivial⟩ rfl rfl); apply run_step rfl; (exact stp_not rfl rfl); apply run_step rfl; (exact stp_assign rfl rfl); refine run_nil ?_; refine fin_seq ?_)
    refine goes_cond rfl (fun e => by cases e) (fun _ => ?_)
    by_cases k2 : isWordTo ((ng : Int) - 1) W = true
    · rw [k2] at hW
      have k3 : ¬ smallOk ((ng : Int), rels) [] = true := fun h => hk ⟨k1, k2, h⟩
      rw [if_pos k2, if_neg k3]
      have hS := (specSmall_no hG k3).nilW
      (refine goes_seq ?_; refine goes_region ?_; apply run_step rfl; (exact stp_fieldAddr (d := 0) rfl rfl rfl (by as_aux_lemma => kernel_rfl)); apply run_step rfl; (exact stp_loadF rfl (by as_aux_lemma => kernel_rfl) rfl rfl rfl rfl); apply run_step rfl; (exact stp_move rfl rfl); apply run_step rfl; (apply call_gate 81; exact stp_callR hW (by as_aux_lemma => kernel_rfl) rfl rfl ⟨rfl, rfl, trivial⟩ ⟨⟨_, rfl, .inl rfl⟩, trivial⟩ rfl rfl); apply run_step rfl; (exact stp_not rfl rfl); apply run_step rfl; (exact stp_assign rfl rfl); refine run_nil ?_; refine fin_seq ?_)
      refine goes_cond rfl (fun e => by cases e) (fun _ => ?_)
      (refine goes_skip ?_; refine fin_block ?_; refine fin_seq ?_; refine goes_seq ?_; refine goes_region ?_; apply run_step rfl; (exact stp_loadAgg rfl rfl rfl rfl rfl rfl (by as_aux_lemma => kernel_rfl)); apply run_step rfl; (apply call_gate 59; exact stp_callR hS (by as_aux_lemma => kernel_rfl) rfl rfl ⟨⟨.inl rfl, .inl rfl, trivial⟩, rfl, trivial⟩ ⟨⟨_, rfl, .inl rfl⟩, trivial⟩ rfl rfl); apply run_step rfl; (exact stp_extract rfl rfl rfl); apply run_step rfl; (exact stp_extract rfl rfl rfl); apply run_step rfl; (exact stp_assign rfl rfl); apply run_step rfl; (exact stp_assign rfl rfl); refine run_nil ?_; refine fin_seq ?_; refine goes_ret ?_)
      exact fin_ret2 (.inl rfl) rfl (.tmp rfl) (.tmp rfl) trivial trivial
    · rw [if_neg k2]
      have k2' : isWordTo ((ng : Int) - 1) W = false := by simpa using k2
      rw [k2'] at hW
      (refine goes_seq ?_; refine goes_region ?_; apply run_step rfl; (exact stp_fieldAddr (d := 0) rfl rfl rfl (by as_aux_lemma => kernel_rfl)); apply run_step rfl; (exact stp_loadF rfl (by as_aux_lemma => kernel_rfl) rfl rfl rfl rfl); apply run_step rfl; (exact stp_move rfl rfl); apply run_step rfl; (apply call_gate 81; exact stp_callR hW (by as_aux_lemma => kernel_rfl) rfl rfl ⟨rfl, rfl, trivial⟩ ⟨⟨_, rfl, .inl rfl⟩, trivial⟩ rfl rfl); apply run_step rfl; (exact stp_not rfl rfl); apply run_step rfl; (exact stp_assign rfl rfl); refine run_nil ?_; refine fin_seq ?_)
      refine goes_cond rfl (fun _ => ?_) (fun e => by cases e)
      (refine goes_seq ?_; refine goes_region ?_; apply run_step rfl; (exact stp_assign rfl rfl); apply run_step rfl; (exact stp_assign rfl rfl); refine run_nil ?_; refine fin_seq ?_; refine goes_ret ?_; refine fin_ret_block ?_; refine fin_ret_then ?_)
      exact fin_ret2 (.inl rfl) rfl (.tmp rfl) (.tmp rfl) trivial trivial
  · have k1' : isPres (g, rels) = false := by simpa using k1
    rw [k1'] at hI
    rw [if_neg k1]
    (refine goes_seq ?_; refine goes_region ?_; apply run_step rfl; (exact stp_box rfl rfl rfl rfl); apply run_step rfl; (exact stp_assign rfl rfl); apply run_step rfl; (exact stp_assign rfl rfl); refine run_nil ?_; refine fin_seq ?_; refine goes_seq ?_; refine goes_block ?_; refine goes_seq ?_; refine goes_region ?_; apply run_step rfl; (exact stp_loadAgg rfl rfl rfl rfl rfl rfl (by as_aux_lemma => kernel_rfl)); apply run_step rfl; (apply call_gate 76; exact stp_callR hI (by as_aux_lemma => kernel_rfl) rfl rfl ⟨⟨.inl rfl, .inl rfl, trivial⟩, trivial⟩ ⟨⟨_, rfl, .inl rfl⟩, trivial⟩ rfl rfl); apply run_step rfl; (exact stp_not rfl rfl); apply run_step rfl; (exact stp_assign rfl rfl); refine run_nil ?_; refine fin_seq ?_)
    refine goes_cond rfl (fun _ => ?_) (fun e => by cases e)
    (refine goes_seq ?_; refine goes_region ?_; apply run_step rfl; (exact stp_assign rfl rfl); apply run_step rfl; (exact stp_assign rfl rfl); refine run_nil ?_; refine fin_seq ?_; refine goes_ret ?_; refine fin_ret_block ?_; refine fin_ret_then ?_)
    exact fin_ret2 (.inl rfl) rfl (.tmp rfl) (.tmp rfl) trivial trivial

set_option maxRecDepth 100000 in
set_option maxHeartbeats 1000000 in
theorem implEl_yes {ng : Nat} {rels : List (List Int)} {W : List Int} (h1 : Fit rels) (h2 : W.length ≤ 4398046511104) (hG : Good ng rels []) (hk : elOk ((ng : Int), rels) W) :
    FC Try.prog 55 [(1004, wRo W), (1003, rowsRo rels)] [pA ng rels.length, o1 (.sl 1004 0 W.length)] [(1005, imOw (cosTab ((ng : Int), rels) []))] (.tup [.one (.sl 1005 0 ng), .one (.val (I6 0))]) [] := by
  obtain ⟨k1, k2, k3⟩ := hk
  have hI := isPres_fc ng rels h1
  rw [k1] at hI
  have hW := implWord_fc ng W (by omega) (by have := hG.hi; omega) h2
  rw [k2] at hW
  have hS := (implSmall_yes hG k3).nilW
  refine fc_enter (nt := 20) Try.func55 rfl rfl (by simp) fun w0 ω0 => ?_
  (refine goes_seq ?_; refine goes_region ?_; apply run_step rfl; (exact stp_box rfl rfl rfl rfl); apply run_step rfl; (exact stp_assign rfl rfl); apply run_step rfl; (exact stp_assign rfl rfl); refine run_nil ?_; refine fin_seq ?_; refine goes_seq ?_; refine goes_block ?_; refine goes_seq ?_; refine goes_region ?_; apply run_step rfl; (exact stp_loadAgg rfl rfl rfl rfl rfl rfl (by as_aux_lemma => kernel_rfl)); apply run_step rfl; (apply call_gate 46; exact stp_callR hI (by as_aux_lemma => kernel_rfl) rfl rfl ⟨⟨.inl rfl, .inl rfl, trivial⟩, trivial⟩ ⟨⟨_, rfl, .inl rfl⟩, trivial⟩ rfl rfl); apply run_step rfl; (exact stp_not rfl rfl); apply run_step rfl; (exact stp_assign rfl rfl); refine run_nil ?_; refine fin_seq ?_)
  refine goes_cond rfl (fun e => by cases e) (fun _ => ?_)
  (refine goes_seq ?_; refine goes_region ?_; apply run_step rfl; (exact stp_move rfl rfl); apply run_step rfl; (exact stp_fieldAddr (d := 0) rfl rfl rfl (by as_aux_lemma => kernel_rfl)); apply run_step rfl; (exact stp_loadF rfl (by as_aux_lemma => kernel_rfl) rfl rfl rfl rfl); apply run_step rfl; (apply call_gate 70; exact stp_callR hW (by as_aux_lemma => kernel_rfl) rfl rfl ⟨rfl, rfl, trivial⟩ ⟨⟨_, rfl, .inl rfl⟩, trivial⟩ rfl rfl); apply run_step rfl; (exact stp_not rfl rfl); apply run_step rfl; (exact stp_assign rfl rfl); refine run_nil ?_; refine fin_seq ?_)
  refine goes_cond rfl (fun e => by cases e) (fun _ => ?_)
  (refine goes_skip ?_; refine fin_block ?_; refine fin_seq ?_; refine goes_seq ?_; refine goes_region ?_; apply run_step rfl; (exact stp_loadAgg rfl rfl rfl rfl rfl rfl (by as_aux_lemma => kernel_rfl)); apply run_step rfl; (apply call_gate 60; exact stp_callN hS (by as_aux_lemma => kernel_rfl) rfl rfl ⟨⟨.inl rfl, .inl rfl, trivial⟩, rfl, trivial⟩ ⟨⟨_, rfl, .inl rfl⟩, trivial⟩ rfl rfl rfl); apply run_step rfl; (exact stp_extract rfl rfl rfl); apply run_step rfl; (exact stp_extract rfl rfl rfl); apply run_step rfl; (exact stp_assign rfl rfl); apply run_step rfl; (exact stp_assign rfl rfl); refine run_nil ?_; refine fin_seq ?_; refine goes_ret ?_)
  exact fin_ret2 (.inl rfl) rfl (.tmp rfl) (.tmp rfl) ⟨rfl, trivial⟩ trivial
set_option maxRecDepth 100000 in
set_option maxHeartbeats 1000000 in
theorem implEl_no {g : Int} {rels : List (List Int)} {W : List Int} (h1 : Fit rels) (h2 : W.length ≤ 4398046511104) (hk : ¬ elOk (g, rels) W) :
    FC Try.prog 55 [(1004, wRo W), (1003, rowsRo rels)] [pA g rels.length, o1 (.sl 1004 0 W.length)] [] (.tup [.one (.val (.slice none 0 0)), .one (.val (I6 (elC (g, rels) W)))]) [] := by
  have hI := isPres_fc g rels h1
  refine fc_enter (nt := 20) Try.func55 rfl rfl (by simp) fun w0 ω0 => ?_
  unfold elC
  by_cases k1 : isPres (g, rels) = true
  · obtain ⟨ng, rfl, hG⟩ := good_nil k1
    rw [k1] at hI
    rw [if_pos k1]
    have hW := implWord_fc ng W (by omega) (by have := hG.hi; omega) h2
    (refine goes_seq ?_; refine goes_region ?_; apply run_step rfl; (exact stp_box rfl rfl rfl rfl); apply run_step rfl; (exact stp_assign rfl rfl); apply run_step rfl; (exact stp_assign rfl rfl); refine run_nil ?_; refine fin_seq ?_; refine goes_seq ?_; refine goes_block ?_; refine goes_seq ?_; refine goes_region ?_; apply run_step rfl; (exact stp_loadAgg rfl rfl rfl rfl rfl rfl (by as_aux_lemma => kernel_rfl)); apply run_step rfl; (apply call_gate 46; exact stp_callR hI (by as_aux_lemma => kernel_rfl) rfl rfl ⟨⟨.inl rfl, .inl rfl, trivial⟩, trivial⟩ ⟨⟨_, rfl, .inl rfl⟩, trivial⟩ rfl rfl); apply run_step rfl; (exact stp_not rfl rfl); apply run_step rfl; (exact stp_assign rfl rfl); refine run_nil ?_; refine fin_seq ?_)
    refine goes_cond rfl (fun e => by cases e) (fun _ => ?_)
    by_cases k2 : isWordTo ((ng : Int) - 1) W = true
    · rw [k2] at hW
      have k3 : ¬ smallOk ((ng : Int), rels) [] = true := fun h => hk ⟨k1, k2, h⟩
      rw [if_pos k2, if_neg k3]
      have hS := (implSmall_no hG k3).nilW
      (refine goes_seq ?_; refine goes_region ?_; apply run_step rfl; (exact stp_move rfl rfl); apply run_step rfl; (exact stp_fieldAddr (d := 0) rfl rfl rfl (by as_aux_lemma => kernel_rfl)); apply run_step rfl; (exact stp_loadF rfl (by as_aux_lemma => kernel_rfl) rfl rfl rfl rfl); apply run_step rfl; (apply call_gate 70; exact stp_callR hW (by as_aux_lemma => kernel_rfl) rfl rfl ⟨rfl, rfl, trivial⟩ ⟨⟨_, rfl, .inl rfl⟩, trivial⟩ rfl rfl); apply run_step rfl; (exact stp_not rfl rfl); apply run_step rfl; (exact stp_assign rfl rfl); refine run_nil ?_; refine fin_seq ?_)
      refine goes_cond rfl (fun e => by cases e) (fun _ => ?_)
      (refine goes_skip ?_; refine fin_block ?_; refine fin_seq ?_; refine goes_seq ?_; refine goes_region ?_; apply run_step rfl; (exact stp_loadAgg rfl rfl rfl rfl rfl rfl (by as_aux_lemma => kernel_rfl)); apply run_step rfl; (apply call_gate 60; exact stp_callR hS (by as_aux_lemma => kernel_rfl) rfl rfl ⟨⟨.inl rfl, .inl rfl, trivial⟩, rfl, trivial⟩ ⟨⟨_, rfl, .inl rfl⟩, trivial⟩ rfl rfl); apply run_step rfl; (exact stp_extract rfl rfl rfl); apply run_step rfl; (exact stp_extract rfl rfl rfl); apply run_step rfl; (exact stp_assign rfl rfl); apply run_step rfl; (exact stp_assign rfl rfl); refine run_nil ?_; refine fin_seq ?_; refine goes_ret ?_)
      exact fin_ret2 (.inl rfl) rfl (.tmp rfl) (.tmp rfl) trivial trivial
    · rw [if_neg k2]
      have k2' : isWordTo ((ng : Int) - 1) W = false := by simpa using k2
      rw [k2'] at hW
      (refine goes_seq ?_; refine goes_region ?_; apply run_step rfl; (exact stp_move rfl rfl); apply run_step rfl; (exact stp_fieldAddr (d := 0) rfl rfl rfl (by as_aux_lemma => kernel_rfl)); apply run_step rfl; (exact stp_loadF rfl (by as_aux_lemma => kernel_rfl) rfl rfl rfl rfl); apply run_step rfl; (apply call_gate 70; exact stp_callR hW (by as_aux_lemma => kernel_rfl) rfl rfl ⟨rfl, rfl, trivial⟩ ⟨⟨_, rfl, .inl rfl⟩, trivial⟩ rfl rfl); apply run_step rfl; (exact stp_not rfl rfl); apply run_step rfl; (exact stp_assign rfl rfl); refine run_nil ?_; refine fin_seq ?_)
      refine goes_cond rfl (fun _ => ?_) (fun e => by cases e)
      (refine goes_seq ?_; refine goes_region ?_; apply run_step rfl; (exact stp_assign rfl rfl); apply run_step rfl; (exact stp_assign rfl rfl); refine run_nil ?_; refine fin_seq ?_; refine goes_ret ?_; refine fin_ret_block ?_; refine fin_ret_then ?_)
      exact fin_ret2 (.inl rfl) rfl (.tmp rfl) (.tmp rfl) trivial trivial
  · have k1' : isPres (g, rels) = false := by simpa using k1
    rw [k1'] at hI
    rw [if_neg k1]
    (refine goes_seq ?_; refine goes_region ?_; apply run_step rfl; (exact stp_box rfl rfl rfl rfl); apply run_step rfl; (exact stp_assign rfl rfl); apply run_step rfl; (exact stp_assign rfl rfl); refine run_nil ?_; refine fin_seq ?_; refine goes_seq ?_; refine goes_block ?_; refine goes_seq ?_; refine goes_region ?_; apply run_step rfl; (exact stp_loadAgg rfl rfl rfl rfl rfl rfl (by as_aux_lemma => kernel_rfl)); apply run_step rfl; (apply call_gate 46; exact stp_callR hI (by as_aux_lemma => kernel_rfl) rfl rfl ⟨⟨.inl rfl, .inl rfl, trivial⟩, trivial⟩ ⟨⟨_, rfl, .inl rfl⟩, trivial⟩ rfl rfl); apply run_step rfl; (exact stp_not rfl rfl); apply run_step rfl; (exact stp_assign rfl rfl); refine run_nil ?_; refine fin_seq ?_)
    refine goes_cond rfl (fun _ => ?_) (fun e => by cases e)
    (refine goes_seq ?_; refine goes_region ?_; apply run_step rfl; (exact stp_assign rfl rfl); apply run_step rfl; (exact stp_assign rfl rfl); refine run_nil ?_; refine fin_seq ?_; refine goes_ret ?_; refine fin_ret_block ?_; refine fin_ret_then ?_)
    exact fin_ret2 (.inl rfl) rfl (.tmp rfl) (.tmp rfl) trivial trivial

def idR (d : PresD) (W : List Int) : Bool := if elC d W = 0 then leadL (cosTab d []) 0 W == 0 else false
theorem elC_ok {d : PresD} {W : List Int} (h : elOk d W) : elC d W = 0 := by unfold elC; rw [if_pos h.1, if_pos h.2.1, if_pos h.2.2]
theorem elC_no {d : PresD} {W : List Int} (h : ¬ elOk d W) : elC d W ≠ 0 := by
  unfold elC
  split
  · split
    · split
      · exact fun _ => h ⟨by assumption, by assumption, by assumption⟩
      · decide
    · decide
  · decide
theorem word_of {ng : Nat} {rels : List (List Int)} {W : List Int} (hk : elOk ((ng : Int), rels) W) : (∀ z ∈ W, 0 ≤ z ∧ z < (cosTab ((ng : Int), rels) []).length) ∧ W.length ≤ 1000000000 := by
  have := isWordTo_spec (ng := ng) rfl hk.2.1
  refine ⟨fun z hz => ?_, by omega⟩
  rw [cosTab_len]; exact this.1 z hz
set_option maxRecDepth 100000 in
set_option maxHeartbeats 1000000 in
theorem specId_fc (g : Int) (rels : List (List Int)) (W : List Int) (h1 : Fit rels) (h2 : W.length ≤ 4398046511104) :
    FC Try.prog 23 [(1004, wRo W), (1003, rowsRo rels)] [pA g rels.length, o1 (.sl 1004 0 W.length)] [] (.tup [.one (.val (.bool (idR (g, rels) W))), .one (.val (I6 (elC (g, rels) W)))]) [] := by
  refine fc_enter (nt := 21) Try.func23 rfl rfl (by simp) fun w0 ω0 => ?_
  by_cases hk : elOk (g, rels) W
  · obtain ⟨ng, rfl, hG⟩ := good_nil hk.1
    have hE := specEl_yes h1 h2 hG hk
    have hs := smallOk_run hk.2.2
    have hw := word_of hk
    have hL : FC Try.prog 54 [(1005, imRo (cosTab ((ng : Int), rels) [])), (1004, wRo W)] [o1 (.sl 1005 0 ng), vv (I6 (0 : Nat)), o1 (.sl 1004 0 W.length)] [] (vv (I6 (leadL (cosTab ((ng : Int), rels) []) (0 : Nat) W))) [] :=
      specLead_fc _ W 0 _ ng (cosTab_len _ _ _) (cosTab_leads hG hs.1) (cosN_pos hG hs.1) (by omega) (by have := hG.hi; omega) hw.1 hw.2
    have hc := elC_ok hk
    unfold idR
    rw [hc, if_pos rfl]
    generalize cosTab ((ng : Int), rels) [] = T at *
    (refine goes_seq ?_; refine goes_region ?_; apply run_step rfl; (exact stp_box rfl rfl rfl rfl); apply run_step rfl; (exact stp_assign rfl rfl); apply run_step rfl; (exact stp_assign rfl rfl); refine run_nil ?_; refine fin_seq ?_; refine goes_seq ?_; refine goes_region ?_; apply run_step rfl; (exact stp_loadAgg rfl rfl rfl rfl rfl rfl (by as_aux_lemma => kernel_rfl)); apply run_step rfl; (exact stp_move rfl rfl); apply run_step rfl; (apply call_gate 53; exact stp_callN hE (by as_aux_lemma => kernel_rfl) rfl rfl ⟨⟨.inl rfl, .inl rfl, trivial⟩, rfl, trivial⟩ ⟨⟨_, rfl, .inl rfl⟩, ⟨_, rfl, .inl rfl⟩, trivial⟩ rfl rfl rfl); apply run_step rfl; (exact stp_move rfl rfl); apply run_step rfl; (exact stp_extract rfl rfl rfl); apply run_step rfl; (exact stp_extract rfl rfl rfl); apply run_step rfl; (exact stp_assign rfl rfl); apply run_step rfl; (exact stp_assign rfl rfl); refine run_nil ?_; refine fin_seq ?_; refine goes_seq ?_; refine goes_seq ?_; refine goes_region ?_; apply run_step rfl; (exact stp_move rfl rfl); apply run_step rfl; (exact stp_bin rfl rfl rfl rfl); refine run_nil ?_; refine fin_seq ?_)
    refine goes_cond rfl (fun e => by cases e) (fun _ => ?_)
    (refine goes_skip ?_; refine fin_seq ?_; refine goes_seq ?_; refine goes_region ?_; apply run_step rfl; (exact stp_move rfl rfl); apply run_step rfl; (exact stp_move rfl rfl); apply run_step rfl; (apply call_gate 54; exact stp_callR hL (by as_aux_lemma => kernel_rfl) rfl rfl ⟨rfl, rfl, rfl, trivial⟩ ⟨⟨_, rfl, .inr rfl⟩, ⟨_, rfl, .inl rfl⟩, trivial⟩ rfl rfl); apply run_step rfl; (exact stp_bin rfl rfl rfl rfl); apply run_step rfl; (exact stp_assign rfl rfl); apply run_step rfl; (exact stp_assign rfl rfl); refine run_nil ?_; refine fin_seq ?_; refine goes_ret ?_)
    exact fin_ret2 (.inl rfl) rfl (.tmp rfl) (.tmp rfl) trivial trivial
  · have hE := specEl_no h1 h2 hk
    have hc := elC_no hk
    unfold idR
    rw [if_neg hc]
    (refine goes_seq ?_; refine goes_region ?_; apply run_step rfl; (exact stp_box rfl rfl rfl rfl); apply run_step rfl; (exact stp_assign rfl rfl); apply run_step rfl; (exact stp_assign rfl rfl); refine run_nil ?_; refine fin_seq ?_; refine goes_seq ?_; refine goes_region ?_; apply run_step rfl; (exact stp_loadAgg rfl rfl rfl rfl rfl rfl (by as_aux_lemma => kernel_rfl)); apply run_step rfl; (exact stp_move rfl rfl); apply run_step rfl; (apply call_gate 53; exact stp_callR hE (by as_aux_lemma => kernel_rfl) rfl rfl ⟨⟨.inl rfl, .inl rfl, trivial⟩, rfl, trivial⟩ ⟨⟨_, rfl, .inl rfl⟩, ⟨_, rfl, .inl rfl⟩, trivial⟩ rfl rfl); apply run_step rfl; (exact stp_move rfl rfl); apply run_step rfl; (exact stp_extract rfl rfl rfl); apply run_step rfl; (exact stp_extract rfl rfl rfl); apply run_step rfl; (exact stp_assign rfl rfl); apply run_step rfl; (exact stp_assign rfl rfl); refine run_nil ?_; refine fin_seq ?_; refine goes_seq ?_; refine goes_seq ?_; refine goes_region ?_; apply run_step rfl; (exact stp_move rfl rfl); apply run_step rfl; (exact stp_bin rfl rfl rfl rfl); refine run_nil ?_; refine fin_seq ?_)
    refine goes_cond rfl (fun _ => ?_) (fun e => ?_)
    · (refine goes_seq ?_; refine goes_region ?_; apply run_step rfl; (exact stp_move rfl rfl); apply run_step rfl; (exact stp_assign rfl rfl); apply run_step rfl; (exact stp_assign rfl rfl); refine run_nil ?_; refine fin_seq ?_; refine goes_ret ?_; refine fin_ret_then ?_)
      exact fin_ret2 (.inl rfl) rfl (.tmp rfl) (.tmp rfl) trivial trivial
    · exfalso; simp at e; exact hc e
set_option maxRecDepth 100000 in
set_option maxHeartbeats 1000000 in
theorem implId_fc (g : Int) (rels : List (List Int)) (W : List Int) (h1 : Fit rels) (h2 : W.length ≤ 4398046511104) :
    FC Try.prog 25 [(1004, wRo W), (1003, rowsRo rels)] [pA g rels.length, o1 (.sl 1004 0 W.length)] [] (.tup [.one (.val (.bool (idR (g, rels) W))), .one (.val (I6 (elC (g, rels) W)))]) [] := by
  refine fc_enter (nt := 23) Try.func25 rfl rfl (by simp) fun w0 ω0 => ?_
  by_cases hk : elOk (g, rels) W
  · obtain ⟨ng, rfl, hG⟩ := good_nil hk.1
    have hE := implEl_yes h1 h2 hG hk
    have hs := smallOk_run hk.2.2
    have hw := word_of hk
    have hL : FC Try.prog 56 [(1005, imRo (cosTab ((ng : Int), rels) [])), (1004, wRo W)] [o1 (.sl 1005 0 ng), o1 (.sl 1004 0 W.length), vv (I6 (0 : Nat))] [] (vv (I6 (leadL (cosTab ((ng : Int), rels) []) (0 : Nat) W))) [] :=
      implLead_fc _ W 0 _ ng (cosTab_len _ _ _) (cosTab_leads hG hs.1) (cosN_pos hG hs.1) (by omega) (by have := hG.hi; omega) hw.1 hw.2
    have hc := elC_ok hk
    unfold idR
    rw [hc, if_pos rfl]
    generalize cosTab ((ng : Int), rels) [] = T at *
    (refine goes_seq ?_; refine goes_region ?_; apply run_step rfl; (exact stp_box rfl rfl rfl rfl); apply run_step rfl; (exact stp_assign rfl rfl); apply run_step rfl; (exact stp_assign rfl rfl); refine run_nil ?_; refine fin_seq ?_; refine goes_seq ?_; refine goes_region ?_; apply run_step rfl; (exact stp_loadAgg rfl rfl rfl rfl rfl rfl (by as_aux_lemma => kernel_rfl)); apply run_step rfl; (exact stp_move rfl rfl); apply run_step rfl; (first | (apply call_gate 55; exact stp_callN hE (by as_aux_lemma => kernel_rfl) rfl rfl ⟨⟨.inl rfl, .inl rfl, trivial⟩, rfl, trivial⟩ ⟨⟨_, rfl, .inl rfl⟩, ⟨_, rfl, .inl rfl⟩, trivial⟩ rfl rfl rfl) | (apply call_gate 56; exact stp_callR hL (by as_aux_lemma => kernel_rfl) rfl rfl ⟨rfl, rfl, rfl, trivial⟩ ⟨⟨_, rfl, .inr rfl⟩, ⟨_, rfl, .inl rfl⟩, trivial⟩ rfl rfl)); apply run_step rfl; (exact stp_move rfl rfl); apply run_step rfl; (exact stp_extract rfl rfl rfl); apply run_step rfl; (exact stp_extract rfl rfl rfl); apply run_step rfl; (exact stp_assign rfl rfl); apply run_step rfl; (exact stp_assign rfl rfl); refine run_nil ?_; refine fin_seq ?_; refine goes_seq ?_; refine goes_region ?_; apply run_step rfl; (exact stp_move rfl rfl); apply run_step rfl; (exact stp_bin rfl rfl rfl rfl); apply run_step rfl; (exact stp_move rfl rfl); apply run_gYes rfl rfl rfl; (exact stp_move rfl rfl); apply run_gYes rfl rfl rfl; (exact stp_move rfl rfl); apply run_gYes rfl rfl rfl; (first | (apply call_gate 55; exact stp_callN hE (by as_aux_lemma => kernel_rfl) rfl rfl ⟨⟨.inl rfl, .inl rfl, trivial⟩, rfl, trivial⟩ ⟨⟨_, rfl, .inl rfl⟩, ⟨_, rfl, .inl rfl⟩, trivial⟩ rfl rfl rfl) | (apply call_gate 56; exact stp_callR hL (by as_aux_lemma => kernel_rfl) rfl rfl ⟨rfl, rfl, rfl, trivial⟩ ⟨⟨_, rfl, .inr rfl⟩, ⟨_, rfl, .inl rfl⟩, trivial⟩ rfl rfl)); apply run_gYes rfl rfl rfl; (exact stp_bin rfl rfl rfl rfl); apply run_step rfl; (exact stp_pickT rfl rfl rfl); apply run_step rfl; (exact stp_move rfl rfl); apply run_step rfl; (exact stp_assign rfl rfl); apply run_step rfl; (exact stp_assign rfl rfl); refine run_nil ?_; refine fin_seq ?_; refine goes_ret ?_)
    exact fin_ret2 (.inl rfl) rfl (.tmp rfl) (.tmp rfl) trivial trivial
  · have hE := implEl_no h1 h2 hk
    have hc := elC_no hk
    unfold idR
    rw [if_neg hc]
    (refine goes_seq ?_; refine goes_region ?_; apply run_step rfl; (exact stp_box rfl rfl rfl rfl); apply run_step rfl; (exact stp_assign rfl rfl); apply run_step rfl; (exact stp_assign rfl rfl); refine run_nil ?_; refine fin_seq ?_; refine goes_seq ?_; refine goes_region ?_; apply run_step rfl; (exact stp_loadAgg rfl rfl rfl rfl rfl rfl (by as_aux_lemma => kernel_rfl)); apply run_step rfl; (exact stp_move rfl rfl); apply run_step rfl; (apply call_gate 55; exact stp_callR hE (by as_aux_lemma => kernel_rfl) rfl rfl ⟨⟨.inl rfl, .inl rfl, trivial⟩, rfl, trivial⟩ ⟨⟨_, rfl, .inl rfl⟩, ⟨_, rfl, .inl rfl⟩, trivial⟩ rfl rfl); apply run_step rfl; (exact stp_move rfl rfl); apply run_step rfl; (exact stp_extract rfl rfl rfl); apply run_step rfl; (exact stp_extract rfl rfl rfl); apply run_step rfl; (exact stp_assign rfl rfl); apply run_step rfl; (exact stp_assign rfl rfl); refine run_nil ?_; refine fin_seq ?_; refine goes_seq ?_; refine goes_region ?_; apply run_step rfl; (exact stp_move rfl rfl); apply run_step rfl; (exact stp_bin rfl rfl rfl rfl); apply run_step rfl; (exact stp_move rfl rfl))
    refine run_bool 16 rfl (fun e => ?_) (fun e => ?_)
    · exfalso; simp at e; exact hc e
    · (apply run_gNo rfl rfl rfl rfl rfl; apply run_gNo rfl rfl rfl rfl rfl; apply run_gNo rfl rfl rfl rfl rfl; apply run_gNo rfl rfl rfl rfl rfl; apply run_step rfl; (exact stp_pickF rfl rfl rfl); apply run_step rfl; (exact stp_move rfl rfl); apply run_step rfl; (exact stp_assign rfl rfl); apply run_step rfl; (exact stp_assign rfl rfl); refine run_nil ?_; refine fin_seq ?_; refine goes_ret ?_)
      exact fin_ret2 (.inl rfl) rfl (.tmp rfl) (.tmp rfl) trivial trivial

/-! in words -/
theorem len_of {E : Nat} {w : World} {lo hi : Nat} {v : Value} {zs : List Int} (h : OwnS E w lo hi v zs) : zs.length ≤ 4398046511104 := by
  obtain ⟨⟨ao, n, c, rfl, ho⟩, _⟩ := h
  have h1 := ho.len
  rw [List.length_map] at h1
  have h2 := ho.2
  omega
theorem callPS {f : FuncId} {outs : List (Nm × Ch)} {res : AV} {d : PresD} {W : List Int} (hf : Fit d.2 → W.length ≤ 4398046511104 → FC Try.prog f [(1004, wRo W), (1003, rowsRo d.2)] [pA d.1 d.2.length, o1 (.sl 1004 0 W.length)] outs res []) {E1 E E' : Nat} {w : World} {lo hi lo' hi' : Nat} {v v' : Value} (h : OwP E1 E w lo hi v d) (h' : OwnS E' w lo' hi' v' W) :
    Calls Try.prog f #[v, v'] w fun e w' => ∃ v η ω, e = .returned v ∧ Den η res v ∧ Mem η ω w' (fun x => lk x outs) ∧ Below w.heap.size w w' ∧ ∀ b, b < w.heap.size → ω b = none := by
  obtain ⟨u, rfl, hs⟩ := ofP h
  obtain ⟨hd, r, rfl, hv⟩ := ofSS 1003 37 2 hs
  obtain ⟨hd', r', rfl, hv'⟩ := ofS 1004 2 h'.1
  exact (hf (fit_of hs) (len_of h')).call (l := [(1004, (wRo W, hd', r')), (1003, (rowsRo d.2, hd, r))]) (us := [_, _]) (fun p hp => by simp at hp; rcases hp with rfl | rfl; exact hv'; exact hv) rfl
    (denL2 (denP (den_sl (q := (rowsRo d.2, hd, r)) rfl)) (den_sl (q := (wRo W, hd', r')) rfl))
theorem api_specId {E1 E E' : Nat} {lo hi lo' hi' : Nat} {v v' : Value} {d : PresD} {W : List Int} (w : World) (h : OwP E1 E w lo hi v d) (h' : OwnS E' w lo' hi' v' W) :
    Calls Try.prog 23 #[v, v'] w fun e w' => e = .returned (.tuple #[.bool (idR d W), .int .i64 (elC d W)]) ∧ Below w.heap.size w w' := two_vals (callPS (fun k1 k2 => specId_fc d.1 d.2 W k1 k2) h h')
theorem api_implId {E1 E E' : Nat} {lo hi lo' hi' : Nat} {v v' : Value} {d : PresD} {W : List Int} (w : World) (h : OwP E1 E w lo hi v d) (h' : OwnS E' w lo' hi' v' W) :
    Calls Try.prog 25 #[v, v'] w fun e w' => e = .returned (.tuple #[.bool (idR d W), .int .i64 (elC d W)]) ∧ Below w.heap.size w w' := two_vals (callPS (fun k1 k2 => implId_fc d.1 d.2 W k1 k2) h h')
end Go.Proofs.Ytpjglifijdcgnaa

/- IsNormalSubgroup. -/
namespace Go.Proofs.Ytpjglifijdcgnaa
open Go.RowKit

def fixAllB (T ws : List (List Int)) (n : Nat) : Bool := (List.range ws.length).all fun i => (List.range n).all fun c => leadL T ((c : Nat) : Int) (lget ws i) == (c : Int)
theorem fixAllB_iff {T ws : List (List Int)} {n : Nat} : fixAllB T ws n = true ↔ ∀ i, i < ws.length → ∀ c, c < n → leadL T ((c : Nat) : Int) (lget ws i) = (c : Int) := by
  unfold fixAllB
  simp only [List.all_eq_true, List.mem_range, beq_iff_eq]
def nrR (d : PresD) (ws : List (List Int)) : Bool := if ctC d ws = 0 then fixAllB (cosTab d ws) ws (cosN d ws) else false
theorem ctC_ok {d : PresD} {ws : List (List Int)} (h : withOk d ws = true ∧ smallOk d ws = true) : ctC d ws = 0 := by unfold ctC; rw [if_pos h.1, if_pos h.2]
theorem ctC_no {d : PresD} {ws : List (List Int)} (h : ¬ (withOk d ws = true ∧ smallOk d ws = true)) : ctC d ws ≠ 0 := by
  unfold ctC
  split
  · split
    · exact fun _ => h ⟨by assumption, by assumption⟩
    · decide
  · decide

set_option maxRecDepth 100000 in
set_option maxHeartbeats 2000000 in
theorem specNr_fc (g : Int) (rels ws : List (List Int)) (h1 : Fit rels) (h2 : Fit ws) :
    FC Try.prog 34 [(1002, rowsRo ws), (1003, rowsRo rels)] [pA g rels.length, o1 (.sl 1002 0 ws.length)] [] (.tup [.one (.val (.bool (nrR (g, rels) ws))), .one (.val (I6 (ctC (g, rels) ws)))]) [] := by
  refine fc_enter (nt := 42) Try.func34 rfl rfl (by simp) fun w0 ω0 => ?_
  by_cases hk : withOk (g, rels) ws = true ∧ smallOk (g, rels) ws = true
  · obtain ⟨ng, rfl, hG⟩ := good_of hk.1
    have hE := specCT_yes ng rels ws h1 h2 hk.1 hG hk.2
    have hs := smallOk_run hk.2
    have hL : ∀ i x, i < ws.length → x < cosN ((ng : Int), rels) ws → FC Try.prog 54 [(1005, imRo (cosTab ((ng : Int), rels) ws)), (1002, rowsRo ws)] [o1 (.sl 1005 0 ng), vv (I6 x), o1 (.esl 1002 i 0 (lget ws i).length)] [] (vv (I6 (leadL (cosTab ((ng : Int), rels) ws) x (lget ws i)))) [] := fun i x hi hx =>
      specLeadE_fc _ ws i x _ ng (cosTab_len _ _ _) (cosTab_leads hG hs.1) hx (by omega) (by have := hG.hi; omega) hi (by rw [cosTab_len]; exact hG.wl _ (lget_mem hi)) (hG.wn _ (lget_mem hi))
    have hc := ctC_ok hk
    unfold nrR
    rw [hc, if_pos rfl]
    have hlen : (irows (cosTab ((ng : Int), rels) ws)).length = ng := by rw [irows_len, cosTab_len]
    have hpos := hG.pos
    have hr0 : (lget (cosTab ((ng : Int), rels) ws) 0).length = cosN ((ng : Int), rels) ws := cosTab_row hpos
    have hrow : (irows (cosTab ((ng : Int), rels) ws))[0]? = some (ivals (lget (cosTab ((ng : Int), rels) ws) 0)) := irows_get (by rw [← irows_len, hlen]; exact hpos)
    have hN := hs.2
    have hwl := hG.w
    generalize cosN ((ng : Int), rels) ws = N at *
    generalize cosTab ((ng : Int), rels) ws = T at *
    (refine goes_seq ?_; refine goes_region ?_; apply run_step rfl; (exact stp_box rfl rfl rfl rfl); apply run_step rfl; (exact stp_assign rfl rfl); apply run_step rfl; (exact stp_assign rfl rfl); refine run_nil ?_; refine fin_seq ?_; refine goes_seq ?_; refine goes_region ?_; apply run_step rfl; (exact stp_loadAgg rfl rfl rfl rfl rfl rfl (by as_aux_lemma => kernel_rfl)); apply run_step rfl; (exact stp_move rfl rfl); apply run_step rfl; (apply call_gate 29; exact stp_callN hE (by as_aux_lemma => kernel_rfl) rfl rfl ⟨⟨.inl rfl, .inl rfl, trivial⟩, rfl, trivial⟩ ⟨⟨_, rfl, .inl rfl⟩, ⟨_, rfl, .inl rfl⟩, trivial⟩ rfl rfl rfl); apply run_step rfl; (exact stp_move rfl rfl); apply run_step rfl; (exact stp_extract rfl rfl rfl); apply run_step rfl; (exact stp_extract rfl rfl rfl); apply run_step rfl; (exact stp_assign rfl rfl); apply run_step rfl; (exact stp_assign rfl rfl); refine run_nil ?_; refine fin_seq ?_; refine goes_seq ?_; refine goes_seq ?_; refine goes_region ?_; apply run_step rfl; (exact stp_move rfl rfl); apply run_step rfl; (exact stp_bin rfl rfl rfl rfl); refine run_nil ?_; refine fin_seq ?_)
    refine goes_cond rfl (fun e => by cases e) (fun _ => ?_)
    (refine goes_skip ?_; refine fin_seq ?_; refine goes_seq ?_; refine goes_seq ?_; refine goes_region ?_; apply run_step rfl; (exact stp_assign rfl rfl); refine run_nil ?_; refine fin_seq ?_; refine goes_block ?_)
    refine goes_loop (fun i : Nat => St.of [(1, o1 (.sl 1002 0 ws.length)), (6, o1 (.sl 1005 0 ng)), (8, vv (I6 i))] [(1005, imOw T), (1002, rowsRo ws)]) (fun i => i ≤ ws.length ∧ ∀ j, j < i → ∀ c, c < N → leadL T ((c : Nat) : Int) (lget ws j) = (c : Int)) (fun i => ws.length - i) 0 ⟨Nat.zero_le _, fun j hj => by omega⟩ (Wk.of ⟨rfl, rfl, rfl, trivial⟩ ⟨rfl, rfl, trivial⟩ trivial) ?_
    rintro i ⟨hi, hfix⟩
    (refine goes_seq ?_; refine goes_seq ?_; refine goes_region ?_; apply run_step rfl; (exact stp_move rfl rfl); apply run_step rfl; (exact stp_move rfl rfl); apply run_step rfl; (exact stp_len rfl rfl rfl (by as_aux_lemma => kernel_rfl)); apply run_step rfl; (exact stp_bin rfl rfl rfl rfl); refine run_nil ?_; refine fin_seq ?_)
    refine goes_if rfl (fun hlt => ?_) (fun hlt => ?_)
    · have hlt' : i < ws.length := by omega
      have hroww : (irows ws)[i]? = some (ivals (lget ws i)) := irows_get hlt'
      (refine goes_skip ?_; refine fin_seq ?_; refine goes_seq ?_; refine goes_block ?_; refine goes_seq ?_; refine goes_region ?_; apply run_step rfl; (exact stp_assign rfl rfl); refine run_nil ?_; refine fin_seq ?_; refine goes_block ?_)
      refine goes_loop (fun c : Nat => St.of [(1, o1 (.sl 1002 0 ws.length)), (6, o1 (.sl 1005 0 ng)), (8, vv (I6 i)), (9, vv (I6 c))] [(1005, imOw T), (1002, rowsRo ws)]) (fun c => c ≤ N ∧ ∀ x, x < c → leadL T ((x : Nat) : Int) (lget ws i) = (x : Int)) (fun c => N - c) 0 ⟨Nat.zero_le _, fun x hx => by omega⟩ (Wk.of ⟨rfl, rfl, rfl, rfl, trivial⟩ ⟨rfl, rfl, trivial⟩ trivial) ?_
      rintro c ⟨hcN, hfx⟩
      (refine goes_seq ?_; refine goes_seq ?_; refine goes_region ?_; apply run_step rfl; (exact stp_move rfl rfl); apply run_step rfl; (exact stp_move rfl rfl); apply run_step rfl; (exact stp_ix (j := 0) rfl rfl rfl rfl rfl (by as_aux_lemma => kernel_rfl) rfl hpos (Nat.le_of_eq hlen.symm)); apply run_step rfl; (exact stp_loadR rfl (by as_aux_lemma => kernel_rfl) rfl rfl rfl (by first | assumption | exact ivals_get (by assumption) | exact irows_get (by assumption) | exact ivals_get (by omega) | exact irows_get (by omega) | rfl) (by first | exact ivals_len _ | assumption | rfl)); apply run_step rfl; (exact stp_len rfl rfl rfl (by as_aux_lemma => kernel_rfl)); apply run_step rfl; (exact stp_bin rfl rfl rfl rfl); refine run_nil ?_; refine fin_seq ?_)
      refine goes_if rfl (fun hcl => ?_) (fun hcl => ?_)
      · have hcl' : c < N := by omega
        have hLc := hL i c hlt' hcl'
        (refine goes_skip ?_; refine fin_seq ?_; refine goes_seq ?_; refine goes_block ?_; refine goes_seq ?_; refine goes_region ?_; apply run_step rfl; (exact stp_move rfl rfl); apply run_step rfl; (exact stp_move rfl rfl); apply run_step rfl; (exact stp_move rfl rfl); apply run_step rfl; (exact stp_move rfl rfl); apply run_step rfl; (exact stp_ix rfl rfl rfl rfl rfl (by as_aux_lemma => kernel_rfl) (by first | rfl | exact (Int.toNat_of_nonneg (by omega)).symm) (by first | assumption | omega | (simp; omega)) (by first | exact Nat.le_refl _ | exact Nat.le_of_eq (ivals_len _).symm | exact Nat.le_of_eq (irows_len _).symm | (refine Nat.le_trans ?_ (Nat.le_of_eq (ivals_len _).symm); (first | omega | (simp; done) | (simp; omega))) | (refine Nat.le_trans ?_ (Nat.le_of_eq (irows_len _).symm); (first | omega | (simp; done) | (simp; omega))))); apply run_step rfl; (exact stp_loadR rfl (by as_aux_lemma => kernel_rfl) rfl rfl rfl (by first | assumption | exact ivals_get (by assumption) | exact irows_get (by assumption) | exact ivals_get (by omega) | exact irows_get (by omega) | rfl) (by first | exact ivals_len _ | assumption | rfl)); apply run_step rfl; (apply call_gate 54; exact stp_callR hLc (by as_aux_lemma => kernel_rfl) rfl rfl ⟨rfl, rfl, rfl, trivial⟩ ⟨⟨_, rfl, .inr rfl⟩, ⟨_, rfl, .inl rfl⟩, trivial⟩ rfl rfl); apply run_step rfl; (exact stp_move rfl rfl); apply run_step rfl; (exact stp_bin rfl rfl rfl rfl); refine run_nil ?_; refine fin_seq ?_)
        refine goes_cond rfl (fun hne => ?_) (fun hne => ?_)
        · have hne' : leadL T (c : Int) (lget ws i) ≠ (c : Int) := by simpa using hne
          have hno : fixAllB T ws N = false := by rw [← Bool.not_eq_true]; exact fun h => hne' (fixAllB_iff.1 h i hlt' c hcl')
          rw [hno]
          (refine goes_seq ?_; refine goes_region ?_; apply run_step rfl; (exact stp_assign rfl rfl); apply run_step rfl; (exact stp_assign rfl rfl); refine run_nil ?_; refine fin_seq ?_; refine goes_ret ?_; refine fin_ret_block ?_; refine fin_ret_then ?_; refine fin_ret_then ?_; refine fin_ret_block ?_; refine fin_ret_block ?_; refine fin_ret_then ?_; refine fin_ret_then ?_; refine fin_ret_block ?_; refine fin_ret_then ?_)
          exact fin_ret2 (.inl rfl) rfl (.tmp rfl) (.tmp rfl) trivial trivial
        · have heq : leadL T (c : Int) (lget ws i) = (c : Int) := by simpa using hne
          (refine goes_skip ?_; refine fin_block ?_; refine fin_seq ?_; refine goes_region ?_; apply run_step rfl; (exact stp_move rfl rfl); apply run_step rfl; (exact stp_add rfl rfl rfl (by first | exact IntWalk.i64_in _ (by omega) | rfl)); apply run_step rfl; (exact stp_assign rfl rfl); refine run_nil ?_)
          exact fin_round (c + 1) ⟨hcl', fun x hx => by
            by_cases e : x = c
            · subst e; exact heq
            · exact hfx x (by omega)⟩ (by omega) (Wk.of ⟨rfl, rfl, rfl, rfl, trivial⟩ ⟨rfl, rfl, trivial⟩ trivial)
      · obtain rfl : c = N := by omega
        (refine goes_exit ?_; refine fin_exit_then ?_; refine fin_exit_then ?_; refine fin_exit_eq ?_; refine fin_block ?_; refine fin_seq ?_; refine goes_region ?_; apply run_step rfl; (exact stp_move rfl rfl); apply run_step rfl; (exact stp_add rfl rfl rfl (by first | exact IntWalk.i64_in _ (by omega) | rfl)); apply run_step rfl; (exact stp_assign rfl rfl); refine run_nil ?_)
        exact fin_round (i + 1) ⟨hlt', fun j hj => by
          by_cases e : j = i
          · subst e; exact hfx
          · exact hfix j (by omega)⟩ (by omega) (Wk.of ⟨rfl, rfl, rfl, trivial⟩ ⟨rfl, rfl, trivial⟩ trivial)
    · obtain rfl : i = ws.length := by omega
      have hyes : fixAllB T ws N = true := fixAllB_iff.2 hfix
      rw [hyes]
      (refine goes_exit ?_; refine fin_exit_then ?_; refine fin_exit_then ?_; refine fin_exit_eq ?_; refine fin_seq ?_; refine goes_seq ?_; refine goes_region ?_; apply run_step rfl; (exact stp_assign rfl rfl); apply run_step rfl; (exact stp_assign rfl rfl); refine run_nil ?_; refine fin_seq ?_; refine goes_ret ?_)
      exact fin_ret2 (.inl rfl) rfl (.tmp rfl) (.tmp rfl) trivial trivial
  · have hE := specCT_no g rels ws h1 h2 hk
    have hc := ctC_no hk
    unfold nrR
    rw [if_neg hc]
    (refine goes_seq ?_; refine goes_region ?_; apply run_step rfl; (exact stp_box rfl rfl rfl rfl); apply run_step rfl; (exact stp_assign rfl rfl); apply run_step rfl; (exact stp_assign rfl rfl); refine run_nil ?_; refine fin_seq ?_; refine goes_seq ?_; refine goes_region ?_; apply run_step rfl; (exact stp_loadAgg rfl rfl rfl rfl rfl rfl (by as_aux_lemma => kernel_rfl)); apply run_step rfl; (exact stp_move rfl rfl); apply run_step rfl; (apply call_gate 29; exact stp_callR hE (by as_aux_lemma => kernel_rfl) rfl rfl ⟨⟨.inl rfl, .inl rfl, trivial⟩, rfl, trivial⟩ ⟨⟨_, rfl, .inl rfl⟩, ⟨_, rfl, .inl rfl⟩, trivial⟩ rfl rfl); apply run_step rfl; (exact stp_move rfl rfl); apply run_step rfl; (exact stp_extract rfl rfl rfl); apply run_step rfl; (exact stp_extract rfl rfl rfl); apply run_step rfl; (exact stp_assign rfl rfl); apply run_step rfl; (exact stp_assign rfl rfl); refine run_nil ?_; refine fin_seq ?_; refine goes_seq ?_; refine goes_seq ?_; refine goes_region ?_; apply run_step rfl; (exact stp_move rfl rfl); apply run_step rfl; (exact stp_bin rfl rfl rfl rfl); refine run_nil ?_; refine fin_seq ?_)
    refine goes_cond rfl (fun _ => ?_) (fun e => ?_)
    · (refine goes_seq ?_; refine goes_region ?_; apply run_step rfl; (exact stp_move rfl rfl); apply run_step rfl; (exact stp_assign rfl rfl); apply run_step rfl; (exact stp_assign rfl rfl); refine run_nil ?_; refine fin_seq ?_; refine goes_ret ?_; refine fin_ret_then ?_)
      exact fin_ret2 (.inl rfl) rfl (.tmp rfl) (.tmp rfl) trivial trivial
    · exfalso; simp at e; exact hc e

set_option maxRecDepth 100000 in
set_option maxHeartbeats 2000000 in
theorem implNr_fc (g : Int) (rels ws : List (List Int)) (h1 : Fit rels) (h2 : Fit ws) :
    FC Try.prog 35 [(1002, rowsRo ws), (1003, rowsRo rels)] [pA g rels.length, o1 (.sl 1002 0 ws.length)] [] (.tup [.one (.val (.bool (nrR (g, rels) ws))), .one (.val (I6 (ctC (g, rels) ws)))]) [] := by
  have hC := implCode_fc g rels ws h1 h2
  refine fc_enter (nt := 48) Try.func35 rfl rfl (by simp) fun w0 ω0 => ?_
  by_cases hok : withOk (g, rels) ws = true
  · obtain ⟨ng, rfl, hG⟩ := good_of hok
    rw [withC_ok hok] at hC
    (refine goes_seq ?_; refine goes_region ?_; apply run_step rfl; (exact stp_box rfl rfl rfl rfl); apply run_step rfl; (exact stp_assign rfl rfl); apply run_step rfl; (exact stp_assign rfl rfl); refine run_nil ?_; refine fin_seq ?_; refine goes_seq ?_; refine goes_seq ?_; refine goes_region ?_; apply run_step rfl; (exact stp_loadAgg rfl rfl rfl rfl rfl rfl (by as_aux_lemma => kernel_rfl)); apply run_step rfl; (exact stp_move rfl rfl); apply run_step rfl; (apply call_gate 52; exact stp_callR hC (by as_aux_lemma => kernel_rfl) rfl rfl ⟨⟨.inl rfl, .inl rfl, trivial⟩, rfl, trivial⟩ ⟨⟨_, rfl, .inl rfl⟩, ⟨_, rfl, .inl rfl⟩, trivial⟩ rfl rfl); apply run_step rfl; (exact stp_assign rfl rfl); refine run_nil ?_; refine fin_seq ?_; refine goes_seq ?_; refine goes_region ?_; apply run_step rfl; (exact stp_move rfl rfl); apply run_step rfl; (exact stp_bin rfl rfl rfl rfl); refine run_nil ?_; refine fin_seq ?_)
    refine goes_cond rfl (fun e => by cases e) (fun _ => ?_)
    by_cases hsm : smallOk ((ng : Int), rels) ws = true
    · have hE := implSmall_yes hG hsm
      have hs := smallOk_run hsm
      have hL : ∀ i x, i < ws.length → x < cosN ((ng : Int), rels) ws → FC Try.prog 56 [(1005, imRo (cosTab ((ng : Int), rels) ws)), (1002, rowsRo ws)] [o1 (.sl 1005 0 ng), o1 (.esl 1002 i 0 (lget ws i).length), vv (I6 x)] [] (vv (I6 (leadL (cosTab ((ng : Int), rels) ws) x (lget ws i)))) [] := fun i x hi hx =>
        implLeadE_fc _ ws i x _ ng (cosTab_len _ _ _) (cosTab_leads hG hs.1) hx (by omega) (by have := hG.hi; omega) hi (by rw [cosTab_len]; exact hG.wl _ (lget_mem hi)) (hG.wn _ (lget_mem hi))
      have hc := ctC_ok ⟨hok, hsm⟩
      unfold nrR
      rw [hc, if_pos rfl]
      have hlen : (irows (cosTab ((ng : Int), rels) ws)).length = ng := by rw [irows_len, cosTab_len]
      have hpos := hG.pos
      have hr0 : (lget (cosTab ((ng : Int), rels) ws) 0).length = cosN ((ng : Int), rels) ws := cosTab_row hpos
      have hrow : (irows (cosTab ((ng : Int), rels) ws))[0]? = some (ivals (lget (cosTab ((ng : Int), rels) ws) 0)) := irows_get (by rw [← irows_len, hlen]; exact hpos)
      have hN := hs.2
      have hwl := hG.w
      have hSz : FC Try.prog 48 [] [o1 (.esl 1005 0 0 (lget (cosTab ((ng : Int), rels) ws) 0).length)] [] (vv (I6 (cosN ((ng : Int), rels) ws))) [] := by
        have := sizeE_fc 1005 0 (lget (cosTab ((ng : Int), rels) ws) 0).length
        rwa [hr0] at this ⊢
      generalize cosN ((ng : Int), rels) ws = N at *
      generalize cosTab ((ng : Int), rels) ws = T at *
      (refine goes_skip ?_; refine fin_seq ?_; refine goes_seq ?_; refine goes_region ?_; apply run_step rfl; (exact stp_loadAgg rfl rfl rfl rfl rfl rfl (by as_aux_lemma => kernel_rfl)); apply run_step rfl; (exact stp_move rfl rfl); apply run_step rfl; (apply call_gate 60; exact stp_callN hE (by as_aux_lemma => kernel_rfl) rfl rfl ⟨⟨.inl rfl, .inl rfl, trivial⟩, rfl, trivial⟩ ⟨⟨_, rfl, .inl rfl⟩, ⟨_, rfl, .inl rfl⟩, trivial⟩ rfl rfl rfl); apply run_step rfl; (exact stp_move rfl rfl); apply run_step rfl; (exact stp_extract rfl rfl rfl); apply run_step rfl; (exact stp_extract rfl rfl rfl); apply run_step rfl; (exact stp_assign rfl rfl); apply run_step rfl; (exact stp_assign rfl rfl); refine run_nil ?_; refine fin_seq ?_; refine goes_seq ?_; refine goes_seq ?_; refine goes_region ?_; apply run_step rfl; (exact stp_move rfl rfl); apply run_step rfl; (exact stp_bin rfl rfl rfl rfl); refine run_nil ?_; refine fin_seq ?_)
      refine goes_cond rfl (fun e => by cases e) (fun _ => ?_)
      (refine goes_skip ?_; refine fin_seq ?_; refine goes_seq ?_; refine goes_seq ?_; refine goes_region ?_; apply run_step rfl; (exact stp_move rfl rfl); apply run_step rfl; (exact stp_len rfl rfl rfl (by as_aux_lemma => kernel_rfl)); apply run_step rfl; (exact stp_move rfl rfl); refine run_nil ?_; refine fin_seq ?_; refine goes_block ?_)
      refine goes_loop (fun i : Nat => St.of [(7, o1 (.sl 1005 0 ng)), (27, o1 (.sl 1002 0 ws.length)), (28, vv (I6 ws.length)), (29, vv (I6 i))] [(1005, imOw T), (1002, rowsRo ws)]) (fun i => i ≤ ws.length ∧ ∀ j, j < i → ∀ c, c < N → leadL T ((c : Nat) : Int) (lget ws j) = (c : Int)) (fun i => ws.length - i) 0 ⟨Nat.zero_le _, fun j hj => by omega⟩ (Wk.of ⟨rfl, rfl, rfl, rfl, trivial⟩ ⟨rfl, rfl, trivial⟩ trivial) ?_
      rintro i ⟨hi, hfix⟩
      (refine goes_seq ?_; refine goes_region ?_; apply run_step rfl; (exact stp_bin rfl rfl rfl rfl); refine run_nil ?_; refine fin_seq ?_; refine goes_seq ?_)
      refine goes_if rfl (fun hlt => ?_) (fun hlt => ?_)
      · have hlt' : i < ws.length := by omega
        have hroww : (irows ws)[i]? = some (ivals (lget ws i)) := irows_get hlt'
        (refine goes_skip ?_; refine fin_seq ?_; refine goes_seq ?_; refine goes_block ?_; refine goes_seq ?_; refine goes_region ?_; apply run_step rfl; (exact stp_ix rfl rfl rfl rfl rfl (by as_aux_lemma => kernel_rfl) (by first | rfl | exact (Int.toNat_of_nonneg (by omega)).symm) (by first | assumption | omega | (simp; omega)) (by first | exact Nat.le_refl _ | exact Nat.le_of_eq (ivals_len _).symm | exact Nat.le_of_eq (irows_len _).symm | (refine Nat.le_trans ?_ (Nat.le_of_eq (ivals_len _).symm); (first | omega | (simp; done) | (simp; omega))) | (refine Nat.le_trans ?_ (Nat.le_of_eq (irows_len _).symm); (first | omega | (simp; done) | (simp; omega))))); apply run_step rfl; (exact stp_loadR rfl (by as_aux_lemma => kernel_rfl) rfl rfl rfl (by first | assumption | exact ivals_get (by assumption) | exact irows_get (by assumption) | exact ivals_get (by omega) | exact irows_get (by omega) | rfl) (by first | exact ivals_len _ | assumption | rfl)); apply run_step rfl; (exact stp_assign rfl rfl); refine run_nil ?_; refine fin_seq ?_; refine goes_seq ?_; refine goes_region ?_; apply run_step rfl; (exact stp_move rfl rfl); apply run_step rfl; (first | exact stp_ix (j := 0) rfl rfl rfl rfl rfl (by as_aux_lemma => kernel_rfl) rfl hpos (Nat.le_of_eq hlen.symm) | (apply call_gate 48; exact stp_callR hSz (by as_aux_lemma => kernel_rfl) rfl rfl ⟨rfl, trivial⟩ trivial rfl rfl)); apply run_step rfl; (exact stp_loadR rfl (by as_aux_lemma => kernel_rfl) rfl rfl rfl (by first | assumption | exact ivals_get (by assumption) | exact irows_get (by assumption) | exact ivals_get (by omega) | exact irows_get (by omega) | rfl) (by first | exact ivals_len _ | assumption | rfl)); apply run_step rfl; (first | exact stp_ix (j := 0) rfl rfl rfl rfl rfl (by as_aux_lemma => kernel_rfl) rfl hpos (Nat.le_of_eq hlen.symm) | (apply call_gate 48; exact stp_callR hSz (by as_aux_lemma => kernel_rfl) rfl rfl ⟨rfl, trivial⟩ trivial rfl rfl)); apply run_step rfl; (exact stp_move rfl rfl); refine run_nil ?_; refine fin_seq ?_; refine goes_block ?_)
        refine goes_loop (fun c : Nat => St.of [(7, o1 (.sl 1005 0 ng)), (27, o1 (.sl 1002 0 ws.length)), (28, vv (I6 ws.length)), (29, vv (I6 i)), (10, o1 (.esl 1002 i 0 (lget ws i).length)), (36, vv (I6 N)), (37, vv (I6 c))] [(1005, imOw T), (1002, rowsRo ws)]) (fun c => c ≤ N ∧ ∀ x, x < c → leadL T ((x : Nat) : Int) (lget ws i) = (x : Int)) (fun c => N - c) 0 ⟨Nat.zero_le _, fun x hx => by omega⟩ (Wk.of ⟨rfl, rfl, rfl, rfl, rfl, rfl, rfl, trivial⟩ ⟨rfl, rfl, trivial⟩ trivial) ?_
        rintro c ⟨hcN, hfx⟩
        (refine goes_seq ?_; refine goes_region ?_; apply run_step rfl; (exact stp_bin rfl rfl rfl rfl); refine run_nil ?_; refine fin_seq ?_; refine goes_seq ?_)
        refine goes_if rfl (fun hcl => ?_) (fun hcl => ?_)
        · have hcl' : c < N := by omega
          have hLc := hL i c hlt' hcl'
          (refine goes_skip ?_; refine fin_seq ?_; refine goes_seq ?_; refine goes_block ?_; refine goes_seq ?_; refine goes_region ?_; apply run_step rfl; (exact stp_move rfl rfl); apply run_step rfl; (exact stp_assign rfl rfl); refine run_nil ?_; refine fin_seq ?_; refine goes_seq ?_; refine goes_region ?_; apply run_step rfl; (exact stp_move rfl rfl); apply run_step rfl; (exact stp_move rfl rfl); apply run_step rfl; (exact stp_move rfl rfl); apply run_step rfl; (apply call_gate 56; exact stp_callR hLc (by as_aux_lemma => kernel_rfl) rfl rfl ⟨rfl, rfl, rfl, trivial⟩ ⟨⟨_, rfl, .inr rfl⟩, ⟨_, rfl, .inl rfl⟩, trivial⟩ rfl rfl); apply run_step rfl; (exact stp_move rfl rfl); apply run_step rfl; (exact stp_bin rfl rfl rfl rfl); refine run_nil ?_; refine fin_seq ?_)
          refine goes_cond rfl (fun hne => ?_) (fun hne => ?_)
          · have hne' : leadL T (c : Int) (lget ws i) ≠ (c : Int) := by simpa using hne
            have hno : fixAllB T ws N = false := by rw [← Bool.not_eq_true]; exact fun h => hne' (fixAllB_iff.1 h i hlt' c hcl')
            rw [hno]
            (refine goes_seq ?_; refine goes_region ?_; apply run_step rfl; (exact stp_assign rfl rfl); apply run_step rfl; (exact stp_assign rfl rfl); refine run_nil ?_; refine fin_seq ?_; refine goes_ret ?_; refine fin_ret_block ?_; refine fin_ret_then ?_; refine fin_ret_then ?_; refine fin_ret_block ?_; refine fin_ret_block ?_; refine fin_ret_then ?_; refine fin_ret_then ?_; refine fin_ret_block ?_; refine fin_ret_then ?_)
            exact fin_ret2 (.inl rfl) rfl (.tmp rfl) (.tmp rfl) trivial trivial
          · have heq : leadL T (c : Int) (lget ws i) = (c : Int) := by simpa using hne
            (refine goes_skip ?_; refine fin_block ?_; refine fin_seq ?_; refine goes_region ?_; apply run_step rfl; (exact stp_add rfl rfl rfl (by first | exact IntWalk.i64_in _ (by omega) | rfl)); apply run_step rfl; (exact stp_move rfl rfl); refine run_nil ?_)
            exact fin_round (c + 1) ⟨hcl', fun x hx => by
              by_cases e : x = c
              · subst e; exact heq
              · exact hfx x (by omega)⟩ (by omega) (Wk.of ⟨rfl, rfl, rfl, rfl, rfl, rfl, rfl, trivial⟩ ⟨rfl, rfl, trivial⟩ trivial)
        · obtain rfl : c = N := by omega
          (refine goes_exit ?_; refine fin_exit_then ?_; refine fin_exit_then ?_; refine fin_exit_eq ?_; refine fin_block ?_; refine fin_seq ?_; refine goes_region ?_; apply run_step rfl; (exact stp_add rfl rfl rfl (by first | exact IntWalk.i64_in _ (by omega) | rfl)); apply run_step rfl; (exact stp_move rfl rfl); refine run_nil ?_)
          exact fin_round (i + 1) ⟨hlt', fun j hj => by
            by_cases e : j = i
            · subst e; exact hfx
            · exact hfix j (by omega)⟩ (by omega) (Wk.of ⟨rfl, rfl, rfl, rfl, trivial⟩ ⟨rfl, rfl, trivial⟩ trivial)
      · obtain rfl : i = ws.length := by omega
        have hyes : fixAllB T ws N = true := fixAllB_iff.2 hfix
        rw [hyes]
        (refine goes_exit ?_; refine fin_exit_then ?_; refine fin_exit_then ?_; refine fin_exit_eq ?_; refine fin_seq ?_; refine goes_seq ?_; refine goes_region ?_; apply run_step rfl; (exact stp_assign rfl rfl); apply run_step rfl; (exact stp_assign rfl rfl); refine run_nil ?_; refine fin_seq ?_; refine goes_ret ?_)
        exact fin_ret2 (.inl rfl) rfl (.tmp rfl) (.tmp rfl) trivial trivial
    · have hE := implSmall_no hG hsm
      have hc : ctC ((ng : Int), rels) ws = 3 := by unfold ctC; rw [if_pos hok, if_neg hsm]
      unfold nrR
      rw [hc, if_neg (by decide)]
      (refine goes_skip ?_; refine fin_seq ?_; refine goes_seq ?_; refine goes_region ?_; apply run_step rfl; (exact stp_loadAgg rfl rfl rfl rfl rfl rfl (by as_aux_lemma => kernel_rfl)); apply run_step rfl; (exact stp_move rfl rfl); apply run_step rfl; (apply call_gate 60; exact stp_callR hE (by as_aux_lemma => kernel_rfl) rfl rfl ⟨⟨.inl rfl, .inl rfl, trivial⟩, rfl, trivial⟩ ⟨⟨_, rfl, .inl rfl⟩, ⟨_, rfl, .inl rfl⟩, trivial⟩ rfl rfl); apply run_step rfl; (exact stp_move rfl rfl); apply run_step rfl; (exact stp_extract rfl rfl rfl); apply run_step rfl; (exact stp_extract rfl rfl rfl); apply run_step rfl; (exact stp_assign rfl rfl); apply run_step rfl; (exact stp_assign rfl rfl); refine run_nil ?_; refine fin_seq ?_; refine goes_seq ?_; refine goes_seq ?_; refine goes_region ?_; apply run_step rfl; (exact stp_move rfl rfl); apply run_step rfl; (exact stp_bin rfl rfl rfl rfl); refine run_nil ?_; refine fin_seq ?_)
      refine goes_cond rfl (fun _ => ?_) (fun e => by cases e)
      (refine goes_seq ?_; refine goes_region ?_; apply run_step rfl; (exact stp_move rfl rfl); apply run_step rfl; (exact stp_assign rfl rfl); apply run_step rfl; (exact stp_assign rfl rfl); refine run_nil ?_; refine fin_seq ?_; refine goes_ret ?_; refine fin_ret_then ?_)
      exact fin_ret2 (.inl rfl) rfl (.tmp rfl) (.tmp rfl) trivial trivial
  · rw [withC_no hok] at hC
    have hc : ctC (g, rels) ws = 1 := by unfold ctC; rw [if_neg hok]
    unfold nrR
    rw [hc, if_neg (by decide)]
    (refine goes_seq ?_; refine goes_region ?_; apply run_step rfl; (exact stp_box rfl rfl rfl rfl); apply run_step rfl; (exact stp_assign rfl rfl); apply run_step rfl; (exact stp_assign rfl rfl); refine run_nil ?_; refine fin_seq ?_; refine goes_seq ?_; refine goes_seq ?_; refine goes_region ?_; apply run_step rfl; (exact stp_loadAgg rfl rfl rfl rfl rfl rfl (by as_aux_lemma => kernel_rfl)); apply run_step rfl; (exact stp_move rfl rfl); apply run_step rfl; (apply call_gate 52; exact stp_callR hC (by as_aux_lemma => kernel_rfl) rfl rfl ⟨⟨.inl rfl, .inl rfl, trivial⟩, rfl, trivial⟩ ⟨⟨_, rfl, .inl rfl⟩, ⟨_, rfl, .inl rfl⟩, trivial⟩ rfl rfl); apply run_step rfl; (exact stp_assign rfl rfl); refine run_nil ?_; refine fin_seq ?_; refine goes_seq ?_; refine goes_region ?_; apply run_step rfl; (exact stp_move rfl rfl); apply run_step rfl; (exact stp_bin rfl rfl rfl rfl); refine run_nil ?_; refine fin_seq ?_)
    refine goes_cond rfl (fun _ => ?_) (fun e => by cases e)
    (refine goes_seq ?_; refine goes_region ?_; apply run_step rfl; (exact stp_move rfl rfl); apply run_step rfl; (exact stp_assign rfl rfl); apply run_step rfl; (exact stp_assign rfl rfl); refine run_nil ?_; refine fin_seq ?_; refine goes_ret ?_; refine fin_ret_then ?_)
    exact fin_ret2 (.inl rfl) rfl (.tmp rfl) (.tmp rfl) trivial trivial
theorem api_specNr {E1 E E1' E' : Nat} {lo hi lo' hi' : Nat} {v v' : Value} {d : PresD} {ws : List (List Int)} (w : World) (h : OwP E1 E w lo hi v d) (h' : OwSS E1' E' w lo' hi' v' ws) :
    Calls Try.prog 34 #[v, v'] w fun e w' => e = .returned (.tuple #[.bool (nrR d ws), .int .i64 (ctC d ws)]) ∧ Below w.heap.size w w' := two_vals (callPW (fun k1 k2 => specNr_fc d.1 d.2 ws k1 k2) h h')
theorem api_implNr {E1 E E1' E' : Nat} {lo hi lo' hi' : Nat} {v v' : Value} {d : PresD} {ws : List (List Int)} (w : World) (h : OwP E1 E w lo hi v d) (h' : OwSS E1' E' w lo' hi' v' ws) :
    Calls Try.prog 35 #[v, v'] w fun e w' => e = .returned (.tuple #[.bool (nrR d ws), .int .i64 (ctC d ws)]) ∧ Below w.heap.size w w' := two_vals (callPW (fun k1 k2 => implNr_fc d.1 d.2 ws k1 k2) h h')
end Go.Proofs.Ytpjglifijdcgnaa

/- The walk of FnExactIsNormalSubgroup: true, whatever the arguments. Written by genwalk.py. -/
namespace Go.Proofs.Ytpjglifijdcgnaa
open Go.RowKit

set_option maxHeartbeats 3200000 in
theorem walkIsNormalSubgroup {v0 : Value} {d : PresD} {v1 : Value} {qs : List (List Int)} (w : World) (h0 : RdP w v0 d) (h1 : RdSS w v1 qs) :
    Calls Try.prog 8 #[v0, v1] w fun e w' => e = .returned (.bool true) ∧ Below w.heap.size w w' := by
  obtain ⟨a0, n0, c0, rfl, hi0⟩ := h0
  have h0 : RdP w (.agg #[.int .i64 d.1, .slice a0 n0 c0]) d := ⟨a0, n0, c0, rfl, hi0⟩
  clear hi0
  have B0 : Below w.heap.size w (w.alloc (.cells #[.int .i64 d.1, .slice a0 n0 c0] 24)) := below_alloc1 w _
  have kb0_0 : Blk (w.alloc (.cells #[.int .i64 d.1, .slice a0 n0 c0] 24)) (w.heap.size) 24 #[.int .i64 d.1, .slice a0 n0 c0] := (blk_at rfl)
  by_cases hx0 : budget1 1048576 (d.2.length + lenSS d.2) < 0
  · go_enter Try.func8, Try.ntmps8
    go_wp2_with fail
    refine (law_usP (1048576) _ (h0.below B0) (by omega) (by omega)).mono ?_
    rintro e w1 ⟨rfl, b1⟩
    have s1 := b1.size
    have B1 : Below w.heap.size w w1 := B0.trans (b1.mono B0.size)
    have kb0_1 : Blk w1 (w.heap.size) 24 #[.int .i64 d.1, .slice a0 n0 c0] := (kb0_0.belowS b1)
    have xkb0_1_0 : w1.cell? ⟨w.heap.size, 0, none⟩ = some (.int .i64 d.1) := kb0_1.cell 0
    have xkb0_1_1 : w1.cell? ⟨w.heap.size, 1, none⟩ = some (.slice a0 n0 c0) := kb0_1.cell 1
    have lkb0_1 : w.heap.size < w1.heap.size := kb0_1.lt
    go_wp2
    go_ret
    exact ⟨rfl, B1⟩
  · obtain ⟨ht0, he0⟩ := budget1_at hx0
    have hn0 : 0 ≤ budget1 1048576 (d.2.length + lenSS d.2) := by omega
    have hm0 : budget1 1048576 (d.2.length + lenSS d.2) ≤ 1048576 := by omega
    have HE0 := Lib.hid he0
    clear he0 hx0
    by_cases hx1 : budget1 (budget1 1048576 (d.2.length + lenSS d.2)) (qs.length + lenSS qs) < 0
    · go_enter Try.func8, Try.ntmps8
      go_wp2_with fail
      refine (law_usP (1048576) _ (h0.below B0) (by omega) (by omega)).mono ?_
      rintro e w1 ⟨rfl, b1⟩
      have s1 := b1.size
      have B1 : Below w.heap.size w w1 := B0.trans (b1.mono B0.size)
      have kb0_1 : Blk w1 (w.heap.size) 24 #[.int .i64 d.1, .slice a0 n0 c0] := (kb0_0.belowS b1)
      have xkb0_1_0 : w1.cell? ⟨w.heap.size, 0, none⟩ = some (.int .i64 d.1) := kb0_1.cell 0
      have xkb0_1_1 : w1.cell? ⟨w.heap.size, 1, none⟩ = some (.slice a0 n0 c0) := kb0_1.cell 1
      have lkb0_1 : w.heap.size < w1.heap.size := kb0_1.lt
      go_wp2_with fail
      refine (law_usSS (budget1 1048576 (d.2.length + lenSS d.2)) _ (h1.below B1) (by omega) (by omega)).mono ?_
      rintro e w2 ⟨rfl, b2⟩
      have s2 := b2.size
      have B2 : Below w.heap.size w w2 := B1.trans (b2.mono B1.size)
      have kb0_2 : Blk w2 (w.heap.size) 24 #[.int .i64 d.1, .slice a0 n0 c0] := (kb0_1.belowS b2)
      have xkb0_2_0 : w2.cell? ⟨w.heap.size, 0, none⟩ = some (.int .i64 d.1) := kb0_2.cell 0
      have xkb0_2_1 : w2.cell? ⟨w.heap.size, 1, none⟩ = some (.slice a0 n0 c0) := kb0_2.cell 1
      have lkb0_2 : w.heap.size < w2.heap.size := kb0_2.lt
      clear xkb0_1_0 xkb0_1_1
      go_wp2
      go_ret
      exact ⟨rfl, B2⟩
    · obtain ⟨ht1, he1⟩ := budget1_at hx1
      have hn1 : 0 ≤ budget1 (budget1 1048576 (d.2.length + lenSS d.2)) (qs.length + lenSS qs) := by omega
      have hm1 : budget1 (budget1 1048576 (d.2.length + lenSS d.2)) (qs.length + lenSS qs) ≤ 1048576 := by omega
      have HE1 := Lib.hid he1
      clear he1 hx1
      go_enter Try.func8, Try.ntmps8
      go_wp2_with fail
      refine (law_usP (1048576) _ (h0.below B0) (by omega) (by omega)).mono ?_
      rintro e w1 ⟨rfl, b1⟩
      have s1 := b1.size
      have B1 : Below w.heap.size w w1 := B0.trans (b1.mono B0.size)
      have kb0_1 : Blk w1 (w.heap.size) 24 #[.int .i64 d.1, .slice a0 n0 c0] := (kb0_0.belowS b1)
      have xkb0_1_0 : w1.cell? ⟨w.heap.size, 0, none⟩ = some (.int .i64 d.1) := kb0_1.cell 0
      have xkb0_1_1 : w1.cell? ⟨w.heap.size, 1, none⟩ = some (.slice a0 n0 c0) := kb0_1.cell 1
      have lkb0_1 : w.heap.size < w1.heap.size := kb0_1.lt
      go_wp2_with fail
      refine (law_usSS (budget1 1048576 (d.2.length + lenSS d.2)) _ (h1.below B1) (by omega) (by omega)).mono ?_
      rintro e w2 ⟨rfl, b2⟩
      have s2 := b2.size
      have B2 : Below w.heap.size w w2 := B1.trans (b2.mono B1.size)
      have kb0_2 : Blk w2 (w.heap.size) 24 #[.int .i64 d.1, .slice a0 n0 c0] := (kb0_1.belowS b2)
      have xkb0_2_0 : w2.cell? ⟨w.heap.size, 0, none⟩ = some (.int .i64 d.1) := kb0_2.cell 0
      have xkb0_2_1 : w2.cell? ⟨w.heap.size, 1, none⟩ = some (.slice a0 n0 c0) := kb0_2.cell 1
      have lkb0_2 : w.heap.size < w2.heap.size := kb0_2.lt
      clear xkb0_1_0 xkb0_1_1
      go_wp2_with fail
      refine (law_toP _ (h0.below B2) (by omega)).mono ?_
      rintro e w3 ⟨u3, rfl, o3, b3⟩
      have s3 := b3.size
      have B3 : Below w.heap.size w w3 := B2.trans (b3.mono B2.size)
      have kb0_3 : Blk w3 (w.heap.size) 24 #[.int .i64 d.1, .slice a0 n0 c0] := (kb0_2.belowS b3)
      have xkb0_3_0 : w3.cell? ⟨w.heap.size, 0, none⟩ = some (.int .i64 d.1) := kb0_3.cell 0
      have xkb0_3_1 : w3.cell? ⟨w.heap.size, 1, none⟩ = some (.slice a0 n0 c0) := kb0_3.cell 1
      have lkb0_3 : w.heap.size < w3.heap.size := kb0_3.lt
      clear xkb0_2_0 xkb0_2_1
      go_wp2_with fail
      refine (law_toSS _ (h1.below B3) (by omega)).mono ?_
      rintro e w4 ⟨u4, rfl, o4, b4⟩
      have s4 := b4.size
      have B4 : Below w.heap.size w w4 := B3.trans (b4.mono B3.size)
      have kb0_4 : Blk w4 (w.heap.size) 24 #[.int .i64 d.1, .slice a0 n0 c0] := (kb0_3.belowS b4)
      have xkb0_4_0 : w4.cell? ⟨w.heap.size, 0, none⟩ = some (.int .i64 d.1) := kb0_4.cell 0
      have xkb0_4_1 : w4.cell? ⟨w.heap.size, 1, none⟩ = some (.slice a0 n0 c0) := kb0_4.cell 1
      have lkb0_4 : w.heap.size < w4.heap.size := kb0_4.lt
      clear xkb0_3_0 xkb0_3_1
      go_wp2_with fail
      refine (api_specNr  _ (o3.below b4) o4 ).mono ?_
      rintro e w5 ⟨rfl, b5⟩
      have s5 := b5.size
      have B5 : Below w.heap.size w w5 := B4.trans (b5.mono B4.size)
      have kb0_5 : Blk w5 (w.heap.size) 24 #[.int .i64 d.1, .slice a0 n0 c0] := (kb0_4.belowS b5)
      have xkb0_5_0 : w5.cell? ⟨w.heap.size, 0, none⟩ = some (.int .i64 d.1) := kb0_5.cell 0
      have xkb0_5_1 : w5.cell? ⟨w.heap.size, 1, none⟩ = some (.slice a0 n0 c0) := kb0_5.cell 1
      have lkb0_5 : w.heap.size < w5.heap.size := kb0_5.lt
      clear xkb0_4_0 xkb0_4_1
      go_wp2_with fail
      refine (law_toP _ (h0.below B5) (by omega)).mono ?_
      rintro e w6 ⟨u6, rfl, o6, b6⟩
      obtain ⟨au6, nu6, cu6, rfl⟩ := o6.form
      have s6 := b6.size
      have B6 : Below w.heap.size w w6 := B5.trans (b6.mono B5.size)
      have kb0_6 : Blk w6 (w.heap.size) 24 #[.int .i64 d.1, .slice a0 n0 c0] := (kb0_5.belowS b6)
      have xkb0_6_0 : w6.cell? ⟨w.heap.size, 0, none⟩ = some (.int .i64 d.1) := kb0_6.cell 0
      have xkb0_6_1 : w6.cell? ⟨w.heap.size, 1, none⟩ = some (.slice a0 n0 c0) := kb0_6.cell 1
      have lkb0_6 : w.heap.size < w6.heap.size := kb0_6.lt
      clear xkb0_5_0 xkb0_5_1
      go_wp2_with fail
      have bx7 := below_alloc1 w6 (.cells #[.int .i64 d.1, .slice au6 nu6 cu6] 28)
      have kbx0_7 : Blk (w6.alloc (.cells #[.int .i64 d.1, .slice au6 nu6 cu6] 28)) w6.heap.size 28 #[.int .i64 d.1, .slice au6 nu6 cu6] := blk_at rfl
      generalize w6.alloc (.cells #[.int .i64 d.1, .slice au6 nu6 cu6] 28) = w7 at *
      have s7 := bx7.size
      have B7 : Below w.heap.size w w7 := B6.trans (bx7.mono B6.size)
      have kb0_7 : Blk w7 (w.heap.size) 24 #[.int .i64 d.1, .slice a0 n0 c0] := (kb0_6.belowS bx7)
      have xkb0_7_0 : w7.cell? ⟨w.heap.size, 0, none⟩ = some (.int .i64 d.1) := kb0_7.cell 0
      have xkb0_7_1 : w7.cell? ⟨w.heap.size, 1, none⟩ = some (.slice a0 n0 c0) := kb0_7.cell 1
      have lkb0_7 : w.heap.size < w7.heap.size := kb0_7.lt
      have xkbx0_7_0 : w7.cell? ⟨w6.heap.size, 0, none⟩ = some (.int .i64 d.1) := kbx0_7.cell 0
      have xkbx0_7_1 : w7.cell? ⟨w6.heap.size, 1, none⟩ = some (.slice au6 nu6 cu6) := kbx0_7.cell 1
      have lkbx0_7 : w6.heap.size < w7.heap.size := kbx0_7.lt
      clear xkb0_6_0 xkb0_6_1
      refine (law_toSS _ (h1.below B7) (by omega)).mono ?_
      rintro e w8 ⟨u8, rfl, o8, b8⟩
      have s8 := b8.size
      have B8 : Below w.heap.size w w8 := B7.trans (b8.mono B7.size)
      have kb0_8 : Blk w8 (w.heap.size) 24 #[.int .i64 d.1, .slice a0 n0 c0] := (kb0_7.belowS b8)
      have xkb0_8_0 : w8.cell? ⟨w.heap.size, 0, none⟩ = some (.int .i64 d.1) := kb0_8.cell 0
      have xkb0_8_1 : w8.cell? ⟨w.heap.size, 1, none⟩ = some (.slice a0 n0 c0) := kb0_8.cell 1
      have lkb0_8 : w.heap.size < w8.heap.size := kb0_8.lt
      have kbx0_8 : Blk w8 (w6.heap.size) 28 #[.int .i64 d.1, .slice au6 nu6 cu6] := (kbx0_7.belowS b8)
      have xkbx0_8_0 : w8.cell? ⟨w6.heap.size, 0, none⟩ = some (.int .i64 d.1) := kbx0_8.cell 0
      have xkbx0_8_1 : w8.cell? ⟨w6.heap.size, 1, none⟩ = some (.slice au6 nu6 cu6) := kbx0_8.cell 1
      have lkbx0_8 : w6.heap.size < w8.heap.size := kbx0_8.lt
      clear xkb0_7_0 xkb0_7_1 xkbx0_7_0 xkbx0_7_1
      go_wp2_with fail
      refine (api_implNr  _ ((o6.below bx7).below b8) o8 ).mono ?_
      rintro e w9 ⟨rfl, b9⟩
      have s9 := b9.size
      have B9 : Below w.heap.size w w9 := B8.trans (b9.mono B8.size)
      have kb0_9 : Blk w9 (w.heap.size) 24 #[.int .i64 d.1, .slice a0 n0 c0] := (kb0_8.belowS b9)
      have xkb0_9_0 : w9.cell? ⟨w.heap.size, 0, none⟩ = some (.int .i64 d.1) := kb0_9.cell 0
      have xkb0_9_1 : w9.cell? ⟨w.heap.size, 1, none⟩ = some (.slice a0 n0 c0) := kb0_9.cell 1
      have lkb0_9 : w.heap.size < w9.heap.size := kb0_9.lt
      have kbx0_9 : Blk w9 (w6.heap.size) 28 #[.int .i64 d.1, .slice au6 nu6 cu6] := (kbx0_8.belowS b9)
      have xkbx0_9_0 : w9.cell? ⟨w6.heap.size, 0, none⟩ = some (.int .i64 d.1) := kbx0_9.cell 0
      have xkbx0_9_1 : w9.cell? ⟨w6.heap.size, 1, none⟩ = some (.slice au6 nu6 cu6) := kbx0_9.cell 1
      have lkbx0_9 : w6.heap.size < w9.heap.size := kbx0_9.lt
      clear xkb0_8_0 xkb0_8_1 xkbx0_8_0 xkbx0_8_1
      go_wp2_with fail
      have hS9 : ∀ w', Below w9.heap.size w9 w' → (Below w9.heap.size w9 w' ∧ w'.cell? ⟨w.heap.size, 0, none⟩ = some (.int .i64 d.1) ∧ w'.cell? ⟨w.heap.size, 1, none⟩ = some (.slice a0 n0 c0) ∧ w'.cell? ⟨w6.heap.size, 0, none⟩ = some (.int .i64 d.1) ∧ w'.cell? ⟨w6.heap.size, 1, none⟩ = some (.slice au6 nu6 cu6)) := fun w' hb => ⟨hb, (kb0_9.belowS hb).cell 0, (kb0_9.belowS hb).cell 1, (kbx0_9.belowS hb).cell 0, (kbx0_9.belowS hb).cell 1⟩
      have HS9 := Lib.hid hS9
      clear hS9 xkb0_9_0 xkb0_9_1 xkbx0_9_0 xkbx0_9_1
      go_region_held3 (fun w' => Below w9.heap.size w9 w' ∧ w'.cell? ⟨w.heap.size, 0, none⟩ = some (.int .i64 d.1) ∧ w'.cell? ⟨w.heap.size, 1, none⟩ = some (.slice a0 n0 c0) ∧ w'.cell? ⟨w6.heap.size, 0, none⟩ = some (.int .i64 d.1) ∧ w'.cell? ⟨w6.heap.size, 1, none⟩ = some (.slice au6 nu6 cu6))
        (first | exact HS9.out _ (below_drew1 _) | exact HS9.out _ (below_tr (by assumption) (And.left (by assumption))))
        (first | (go_at_call 15; refine (law_toP _ (h0.below ?_) (by omega)).mono ?_; (exact below_tr (And.left (by assumption)) B9); rintro e w909 ⟨u909, rfl, o909, bt909⟩) | (go_at_call 17; refine (law_eqP _ ((((o6.below bx7).below b8).below b9).below (And.left (by assumption))).rd (OwP.rd (by assumption))).mono ?_; rintro e w10 ⟨rfl, be10⟩))
      have b10 : Below w9.heap.size w9 w10 := And.left (by assumption)
      have s10 := b10.size
      have B10 : Below w.heap.size w w10 := B9.trans (b10.mono B9.size)
      have kb0_10 : Blk w10 (w.heap.size) 24 #[.int .i64 d.1, .slice a0 n0 c0] := (kb0_9.belowS b10)
      have xkb0_10_0 : w10.cell? ⟨w.heap.size, 0, none⟩ = some (.int .i64 d.1) := kb0_10.cell 0
      have xkb0_10_1 : w10.cell? ⟨w.heap.size, 1, none⟩ = some (.slice a0 n0 c0) := kb0_10.cell 1
      have lkb0_10 : w.heap.size < w10.heap.size := kb0_10.lt
      have kbx0_10 : Blk w10 (w6.heap.size) 28 #[.int .i64 d.1, .slice au6 nu6 cu6] := (kbx0_9.belowS b10)
      have xkbx0_10_0 : w10.cell? ⟨w6.heap.size, 0, none⟩ = some (.int .i64 d.1) := kbx0_10.cell 0
      have xkbx0_10_1 : w10.cell? ⟨w6.heap.size, 1, none⟩ = some (.slice au6 nu6 cu6) := kbx0_10.cell 1
      have lkbx0_10 : w6.heap.size < w10.heap.size := kbx0_10.lt
      go_wp2_with fail
      refine (law_toSS _ (h1.below B10) (by omega)).mono ?_
      rintro e w11 ⟨u11, rfl, o11, b11⟩
      have s11 := b11.size
      have B11 : Below w.heap.size w w11 := B10.trans (b11.mono B10.size)
      have kb0_11 : Blk w11 (w.heap.size) 24 #[.int .i64 d.1, .slice a0 n0 c0] := (kb0_10.belowS b11)
      have xkb0_11_0 : w11.cell? ⟨w.heap.size, 0, none⟩ = some (.int .i64 d.1) := kb0_11.cell 0
      have xkb0_11_1 : w11.cell? ⟨w.heap.size, 1, none⟩ = some (.slice a0 n0 c0) := kb0_11.cell 1
      have lkb0_11 : w.heap.size < w11.heap.size := kb0_11.lt
      have kbx0_11 : Blk w11 (w6.heap.size) 28 #[.int .i64 d.1, .slice au6 nu6 cu6] := (kbx0_10.belowS b11)
      have xkbx0_11_0 : w11.cell? ⟨w6.heap.size, 0, none⟩ = some (.int .i64 d.1) := kbx0_11.cell 0
      have xkbx0_11_1 : w11.cell? ⟨w6.heap.size, 1, none⟩ = some (.slice au6 nu6 cu6) := kbx0_11.cell 1
      have lkbx0_11 : w6.heap.size < w11.heap.size := kbx0_11.lt
      clear xkb0_10_0 xkb0_10_1 xkbx0_10_0 xkbx0_10_1
      go_wp2_with fail
      refine (law_eqSS _ (((o8.below b9).below b10).below b11).rd o11.rd).mono ?_
      rintro e w12 ⟨rfl, b12⟩
      have s12 := b12.size
      have B12 : Below w.heap.size w w12 := B11.trans (b12.mono B11.size)
      have kb0_12 : Blk w12 (w.heap.size) 24 #[.int .i64 d.1, .slice a0 n0 c0] := (kb0_11.belowS b12)
      have xkb0_12_0 : w12.cell? ⟨w.heap.size, 0, none⟩ = some (.int .i64 d.1) := kb0_12.cell 0
      have xkb0_12_1 : w12.cell? ⟨w.heap.size, 1, none⟩ = some (.slice a0 n0 c0) := kb0_12.cell 1
      have lkb0_12 : w.heap.size < w12.heap.size := kb0_12.lt
      have kbx0_12 : Blk w12 (w6.heap.size) 28 #[.int .i64 d.1, .slice au6 nu6 cu6] := (kbx0_11.belowS b12)
      have xkbx0_12_0 : w12.cell? ⟨w6.heap.size, 0, none⟩ = some (.int .i64 d.1) := kbx0_12.cell 0
      have xkbx0_12_1 : w12.cell? ⟨w6.heap.size, 1, none⟩ = some (.slice au6 nu6 cu6) := kbx0_12.cell 1
      have lkbx0_12 : w6.heap.size < w12.heap.size := kbx0_12.lt
      clear xkb0_11_0 xkb0_11_1 xkbx0_11_0 xkbx0_11_1
      go_wp2
      go_ret
      exact ⟨rfl, B12⟩
end Go.Proofs.Ytpjglifijdcgnaa
